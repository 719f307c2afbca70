/-
  Plain: the truth lies in all ranges of meters made out of it, with a leak at a node: as mathematics. No conditions.
-/
import Derived.Test.YtgdepcgbjjgnfaaX24
import Derived.Test.YtgdepcgbjjgnfaaPMetL
import Derived.Test.YtgdepcgbjjgnfaaPFlowR
namespace Go.Proofs.Ytgdepcgbjjgnfaa
open Go.RowKit
def gi (l : List Int) (i : Nat) : Int := l.getD i 0
theorem Qkh {l : List Int} {i : Nat} (h : i < l.length) : l[i]? = some (gi l i) := by
 rw [gi, List.getD_eq_getElem?_getD, List.getElem?_eq_getElem h, Option.getD_some]
theorem Qqz {t : List GNode} {f g : Nat → Int} (j : Nat) : ∀ (d a : Nat), (∀ k, a ≤ k → k < a + d → f k ≤ g k) → chF t f j d a ≤ chF t g j d a
 | 0, _, _ => Int.le_refl _
 | d + 1, a, h => by
  have := Qqz (t := t) (f := f) (g := g) j d (a + 1) (fun k hk hk2 => h k (by omega) (by omega))
  have := h a (Nat.le_refl a) (by omega)
  rw [chF, chF]
  split
  ·split <;> omega
  ·omega
theorem Qpo {t : List GNode} (j : Nat) : ∀ (d a : Nat), chF t (fun _ => 0) j d a = 0
 | 0, _ => rfl
 | d + 1, a => by
  rw [chF, Qpo j d (a + 1)]
  split
  ·split <;> rfl
  ·rfl
theorem Qr9 {t : List GNode} (f g : Nat → Int) (j : Nat) : ∀ (d a : Nat), chF t (fun k => f k + g k) j d a = chF t f j d a + chF t g j d a
 | 0, _ => rfl
 | d + 1, a => by
  rw [chF, chF, chF, Qr9 f g j d (a + 1)]
  cases t[a]? with
  | none => show (0 : Int) + (_ + _) = 0 + _ + (0 + _); omega
  | some x =>
   show (if x.Parent = (j : Int) then f a + g a else 0) + (_ + _) = (if x.Parent = (j : Int) then f a else 0) + _ + ((if x.Parent = (j : Int) then g a else 0) + _)
   split <;> omega
theorem Qxa {t : List GNode} {L : List Int} (j : Nat) : ∀ (d a : Nat), chF t (gi L) j d a = chS t L j d a
 | 0, _ => rfl
 | d + 1, a => by rw [chF, chS, Qxa j d (a + 1)]; rfl
theorem Qr8 {t : List GNode} (f : Nat → Int) (u : Nat) (v : Int) (j : Nat) : ∀ (d a : Nat), chF t (setF f u v) j d a = chF t f j d a + if a ≤ u ∧ u < a + d ∧ (∃ x, t[u]? = some x ∧ x.Parent = (j : Int)) then v - f u else 0
 | 0, a => by
  rw [if_neg (by omega)]
  rfl
 | d + 1, a => by
  rw [chF, chF, Qr8 f u v j d (a + 1)]
  by_cases e : a = u
  ·subst e
   rw [if_neg (fun h => by omega)]
   cases hx : t[a]? with
   | none =>
    rw [if_neg (fun h => by obtain ⟨_, _, x, h1, _⟩ := h; cases h1)]
    dsimp only
    omega
   | some x =>
    dsimp only
    by_cases hp : x.Parent = (j : Int)
    ·rw [if_pos hp, if_pos hp, if_pos ⟨Nat.le_refl _, by omega, x, rfl, hp⟩]
     unfold setF
     rw [if_pos rfl]
     omega
    ·rw [if_neg hp, if_neg hp, if_neg (fun h => by
      obtain ⟨_, _, y, h1, h2⟩ := h
      cases h1
      exact hp h2)]
     omega
  ·have hs : setF f u v a = f a := by unfold setF; rw [if_neg e]
   rw [hs]
   by_cases hc : a + 1 ≤ u ∧ u < a + 1 + d ∧ (∃ x, t[u]? = some x ∧ x.Parent = (j : Int))
   ·rw [if_pos hc, if_pos ⟨by omega, by omega, hc.2.2⟩]
    split
    ·split <;> omega
    ·omega
   ·rw [if_neg hc, if_neg (fun h => hc ⟨by omega, by omega, h.2.2⟩)]
    split
    ·split <;> omega
    ·omega
abbrev chA (t : List GNode) (f : Nat → Int) (j : Nat) : Int := chF t f j (t.length - (j + 1)) (j + 1)
structure Leak (t : List GNode) (F D : Nat → Int) (lost i : Nat) (L : Int) : Prop where
 val : ∀ k, D k = 0 ∨ D k = L
 low : ∀ k, k < i → D k = 0
 at_ : D i = L
 out : ∀ k, t.length ≤ k → D k = 0
 sum : ∀ j, j < t.length → chA t D j = if (∃ x, t[i]? = some x ∧ x.Parent = (j : Int)) then L else if j = lost then 0 else D j
 pos : ∀ j, j ≠ lost → D j ≠ 0 → F j ≠ 0
theorem Quk {t : List GNode} (ht : Qg6 t = true) {F : Nat → Int} {lost : Nat} {L : Int} (hl : lost < t.length) : Leak t F (setF (fun _ => 0) lost L) lost lost L := by
 have ne : ∀ k, k ≠ lost → setF (fun _ => (0 : Int)) lost L k = 0 := fun k h => by unfold setF; rw [if_neg h]
 have eq : setF (fun _ => (0 : Int)) lost L lost = L := by unfold setF; rw [if_pos rfl]
 refine ⟨fun k => ?_, fun k hk => ne k (by omega), eq, fun k hk => ne k (by omega), fun j hj => ?_, fun j hj h => absurd (ne j hj) h⟩
 ·by_cases e : k = lost
  ·subst e; exact Or.inr eq
  ·exact Or.inl (ne k e)
 ·unfold chA
  rw [Qr8, Qpo]
  by_cases hp : ∃ x, t[lost]? = some x ∧ x.Parent = (j : Int)
  ·obtain ⟨x, h1, h2⟩ := hp
   have hlt : j < lost := by
    rcases Nat.eq_zero_or_pos lost with e | hp'
    ·have := ((Qft ht h1).top e).1
     omega
    ·have := ((Qft ht h1).par hp').2
     omega
   rw [if_pos ⟨by omega, by omega, x, h1, h2⟩, if_pos ⟨x, h1, h2⟩]
   omega
  ·rw [if_neg (fun h => hp h.2.2), if_neg hp]
   by_cases e : j = lost
   ·rw [if_pos e]; rfl
   ·rw [if_neg e, ne j e]; rfl
theorem Qwk {t : List GNode} (ht : Qg6 t = true) {F D : Nat → Int} {lost i up : Nat} {L : Int} {x : GNode} (h : Leak t F D lost i L) (hi : i ≤ lost) (hl : lost < t.length) (hx : t[i]? = some x) (hup : x.Parent = (up : Int)) (hF : L ≠ 0 → F up ≠ 0) : up < i ∧ Leak t F (setF D up L) lost up L := by
 have hlt : up < i := by
  rcases Nat.eq_zero_or_pos i with e | hp'
  ·have := ((Qft ht hx).top e).1
   omega
  ·have := ((Qft ht hx).par hp').2
   omega
 have ne : ∀ k, k ≠ up → setF D up L k = D k := fun k h => by unfold setF; rw [if_neg h]
 have eq : setF D up L up = L := by unfold setF; rw [if_pos rfl]
 refine ⟨hlt, fun k => ?_, fun k hk => by rw [ne k (by omega)]; exact h.low k (by omega), eq, fun k hk => by rw [ne k (by omega)]; exact h.out k hk, fun j hj => ?_, fun j hj hd => ?_⟩
 ·by_cases e : k = up
  ·subst e; exact Or.inr eq
  ·rw [ne k e]; exact h.val k
 ·unfold chA
  rw [Qr8, h.low up hlt]
  have hsum := h.sum j hj
  unfold chA at hsum
  by_cases hp : ∃ y, t[up]? = some y ∧ y.Parent = (j : Int)
  ·obtain ⟨y, h1, h2⟩ := hp
   have hju : j < up := by
    rcases Nat.eq_zero_or_pos up with e | hp'
    ·have := ((Qft ht h1).top e).1
     omega
    ·have := ((Qft ht h1).par hp').2
     omega
   rw [if_pos ⟨by omega, by omega, y, h1, h2⟩, if_pos ⟨y, h1, h2⟩, hsum, if_neg (fun hq => by
    obtain ⟨z, z1, z2⟩ := hq
    rw [hx] at z1
    cases z1
    omega), if_neg (by omega), h.low j (by omega)]
   omega
  ·rw [if_neg (fun hq => hp hq.2.2), if_neg hp, hsum]
   by_cases e : j = up
   ·subst e
    rw [if_pos ⟨x, hx, hup⟩, if_neg (by omega), eq]
    omega
   ·rw [if_neg (fun hq => by
     obtain ⟨z, z1, z2⟩ := hq
     rw [hx] at z1
     cases z1
     omega), ne j e]
    omega
 ·by_cases e : j = up
  ·subst e
   rw [eq] at hd
   exact hF hd
  ·rw [ne j e] at hd
   exact h.pos j hj hd
structure Whole (t : List GNode) (F D : Nat → Int) (lost : Nat) (L : Int) : Prop where
 val : ∀ k, D k = 0 ∨ D k = L
 at_ : D lost = L
 sum : ∀ j, j < t.length → chA t D j = if j = lost then 0 else D j
 pos : ∀ j, j ≠ lost → D j ≠ 0 → F j ≠ 0
def byI (off : Int) : Int := (off / 2) % 501
def rdM (n off : Int) : GMeter := if off % 2 = 0 then ⟨(n * (1000 - byI off) + 999) / 1000, byI off⟩ else ⟨n * (1000 + byI off) / 1000, byI off⟩
theorem Qyc {N : Nat} {n off : Int} (h0 : 0 ≤ n) (h1 : n ≤ 1000000000) (o0 : 0 ≤ off) (o1 : off ≤ 65535) : Qf1 N n off = some (rdM n off) := by
 unfold Qf1 rdM byI
 rw [Int.tdiv_eq_ediv_of_nonneg o0, Int.tmod_eq_emod_of_nonneg o0]
 have e1 : IntKind.wrap .u16 (off / 2) = off / 2 := by rw [IntKind.wrap_u16]; omega
 rw [e1, Qc4 (x := off / 2) (by omega) (by omega), Int.tmod_eq_emod_of_nonneg (by omega)]
 generalize hb : off / 2 % 501 = b
 have b0 : 0 ≤ b := by omega
 have b1 : b ≤ 500 := by omega
 have m1 : 0 ≤ n * (1000 - b) := Int.mul_nonneg h0 (by omega)
 have m2 : n * (1000 - b) ≤ n * 1000 := Int.mul_le_mul_of_nonneg_left (by omega) h0
 have m3 : 0 ≤ n * (1000 + b) := Int.mul_nonneg h0 (by omega)
 have m4 : n * (1000 + b) ≤ n * 1500 := Int.mul_le_mul_of_nonneg_left (by omega) h0
 simp only [Option.bind_some]
 rw [Qc4 (x := 1000 - b) (by omega) (by omega), Qc4 (x := 1000 + b) (by omega) (by omega), Qc4 (x := n * (1000 - b)) (by omega) (by omega), Qc4 (x := n * (1000 + b)) (by omega) (by omega), Qc4 (x := n * (1000 - b) + 999) (by omega) (by omega), Int.tdiv_eq_ediv_of_nonneg (by omega), Int.tdiv_eq_ediv_of_nonneg m3, Qc4 (by omega) (by omega), Qc4 (by omega) (by omega)]
 by_cases hc : off % 2 = 0
 ·rw [show (off % 2 == 0) = true from beq_iff_eq.2 hc, cond_true, if_pos hc]
 ·rw [show (off % 2 == 0) = false from beq_eq_false_iff_ne.2 hc, cond_false, if_neg hc]
theorem le_ediv {a b c : Int} (hb : 0 < b) (h : c * b ≤ a) : c ≤ a / b := (Int.le_ediv_iff_mul_le hb).2 h
theorem Qw6 {a b c : Int} (hb : 0 < b) (h : a < (c + 1) * b) : a / b ≤ c := by
 have := Int.ediv_lt_of_lt_mul hb h
 omega
theorem rd_in {n off : Int} (h0 : 0 ≤ n) (h1 : n ≤ 100000000) (o0 : 0 ≤ off) (o1 : off ≤ 65535) : Qht (rdM n off) = true ∧ (thr (rdM n off)).Lo ≤ n ∧ n ≤ (thr (rdM n off)).Hi ∧ 0 ≤ (thr (rdM n off)).Lo ∧ (thr (rdM n off)).Hi ≤ 1000000000 := by
 unfold rdM thr byI
 generalize hb : off / 2 % 501 = b
 have b0 : 0 ≤ b := by omega
 have b1 : b ≤ 500 := by omega
 have m1 : 0 ≤ n * (1000 - b) := Int.mul_nonneg h0 (by omega)
 have m2 : n * (1000 - b) ≤ n * 1000 := Int.mul_le_mul_of_nonneg_left (by omega) h0
 have m3 : n * 1000 ≤ n * (1000 + b) := Int.mul_le_mul_of_nonneg_left (by omega) h0
 have m4 : n * (1000 + b) ≤ n * 1500 := Int.mul_le_mul_of_nonneg_left (by omega) h0
 have key : ∀ R : Int, 0 ≤ R → R ≤ 2 * n → n * (1000 - b) ≤ 1000 * R → 1000 * R ≤ n * (1000 + b) → Qht ⟨R, b⟩ = true ∧ (1000 * R + (1000 + b) - 1).tdiv (1000 + b) ≤ n ∧ n ≤ (1000 * R).tdiv (1000 - b) ∧ 0 ≤ (1000 * R + (1000 + b) - 1).tdiv (1000 + b) ∧ (1000 * R).tdiv (1000 - b) ≤ 1000000000 := fun R r0 r1 r2 r3 => by
  rw [Int.tdiv_eq_ediv_of_nonneg (show 0 ≤ 1000 * R + (1000 + b) - 1 by omega), Int.tdiv_eq_ediv_of_nonneg (show 0 ≤ 1000 * R by omega)]
  refine ⟨Qm7.2 ⟨⟨r0, by dsimp only; omega⟩, b0, b1⟩, Qw6 (by omega) (by rw [Int.add_mul]; omega), le_ediv (by omega) r2, Int.ediv_nonneg (by omega) (by omega), Qw6 (by omega) ?_⟩
  have := Int.mul_le_mul_of_nonneg_left (show 500 ≤ 1000 - b by omega) (show (0 : Int) ≤ 1000000001 by omega)
  omega
 by_cases hc : off % 2 = 0
 ·rw [if_pos hc]
  exact key _ (by omega) (by omega) (by omega) (by omega)
 ·rw [if_neg hc]
  exact key _ (by omega) (by omega) (by omega) (by omega)
structure Truth (t : List GNode) (ms : GMeters) (uses : List Int) (D : Nat → Int) : Prop where
 use : ∀ i, i < t.length → (useT ms i).Lo ≤ gi uses i ∧ gi uses i ≤ (useT ms i).Hi ∧ 0 ≤ (useT ms i).Lo ∧ (useT ms i).Hi ≤ 1000000000
 flow : ∀ i, i < t.length → (Qk0 ms i).Lo ≤ gi (Qc0 t uses) i + D i ∧ gi (Qc0 t uses) i + D i ≤ (Qk0 ms i).Hi ∧ 0 ≤ (Qk0 ms i).Lo ∧ (Qk0 ms i).Hi ≤ 1000000000
theorem honest {t : List GNode} {ms : GMeters} {uses : List Int} {D : Nat → Int} {W : Nat → GRange} {lost : Nat} {L : Int} (ht : Qg6 t = true) (hu : Qh1 uses = true) (hl : uses.length = t.length) (hL : 0 ≤ L) (hT : Truth t ms uses D) (hw : Whole t (gi (Qc0 t uses)) D lost L) (hlost : hasT ms lost = true) (hW : ∀ i x, t[i]? = some x → W i = wT t ms W i x) :
  ∀ (d i : Nat), t.length - i ≤ d → i < t.length → (W i).Lo ≤ gi (Qc0 t uses) i + (if i = lost then 0 else D i) ∧ gi (Qc0 t uses) i + (if i = lost then 0 else D i) ≤ (W i).Hi ∧ 0 ≤ (W i).Lo ∧ (W i).Hi ≤ gi (Qc0 t (List.replicate t.length 1000000000)) i := by
 have hu2 : Qh1 (List.replicate t.length 1000000000) = true := by
  unfold Qh1
  rw [List.all_eq_true]
  intro x hx
  rw [(List.mem_replicate.1 hx).2]
  rfl
 have hl2 : (List.replicate t.length (1000000000 : Int)).length = t.length := by simp
 intro d
 induction d with
 | zero => intro i h hi; omega
 | succ d ih =>
  intro i h hi
  have hx : t[i]? = some t[i] := List.getElem?_eq_getElem hi
  generalize t[i] = x at hx
  have hn := (Qft ht hx).loss
  obtain ⟨f1, f2, f3⟩ := Qic ht hu hl hx
  obtain ⟨g1, g2, g3⟩ := Qic ht hu2 hl2 hx
  have hrep : (List.replicate t.length (1000000000 : Int)).getD i 0 = 1000000000 := by
   rw [List.getD_eq_getElem?_getD, List.getElem?_replicate, if_pos hi]
   rfl
  rw [hrep] at g1
  obtain ⟨t1, t2, t3, t4⟩ := hT.use i hi
  have hsum := hw.sum i hi
  have est : ∀ k, i + 1 ≤ k → k < i + 1 + (t.length - (i + 1)) → (estT ms W k).Lo ≤ gi (Qc0 t uses) k + D k ∧ gi (Qc0 t uses) k + D k ≤ (estT ms W k).Hi ∧ 0 ≤ (estT ms W k).Lo ∧ (estT ms W k).Hi ≤ gi (Qc0 t (List.replicate t.length 1000000000)) k := fun k k1 k2 => by
   have hk : k < t.length := by omega
   unfold estT
   cases hh : hasT ms k with
   | true =>
    rw [if_pos rfl]
    obtain ⟨a1, a2, a3, a4⟩ := hT.flow k hk
    refine ⟨a1, a2, a3, ?_⟩
    have hxk : t[k]? = some t[k] := List.getElem?_eq_getElem hk
    obtain ⟨q1, q2, q3⟩ := Qic ht hu2 hl2 hxk
    have hrk : (List.replicate t.length (1000000000 : Int)).getD k 0 = 1000000000 := by
     rw [List.getD_eq_getElem?_getD, List.getElem?_replicate, if_pos hk]
     rfl
    have hc := Qlo (Qhu ht hu2 hl2) (t := t) k (t.length - (k + 1)) (k + 1)
    have hnk := (Qft ht hxk).loss
    rw [hrk] at q1
    show _ ≤ (Qc0 t (List.replicate t.length 1000000000)).getD k 0
    rw [q1]
    unfold Qgi
    split <;> omega
   | false =>
    rw [if_neg (by simp)]
    have := ih k (by omega) hk
    rw [if_neg (fun e => by rw [e, hlost] at hh; cases hh)] at this
    exact this
  have sLo : loT t ms W i (t.length - (i + 1)) (i + 1) ≤ chA t (gi (Qc0 t uses)) i + chA t D i := by
   unfold loT chA
   rw [← Qr9]
   exact Qqz i _ _ fun k k1 k2 => (est k k1 k2).1
  have sHi : chA t (gi (Qc0 t uses)) i + chA t D i ≤ hiT t ms W i (t.length - (i + 1)) (i + 1) := by
   unfold hiT chA
   rw [← Qr9]
   exact Qqz i _ _ fun k k1 k2 => (est k k1 k2).2.1
  have sLo0 : 0 ≤ loT t ms W i (t.length - (i + 1)) (i + 1) := by
   unfold loT
   rw [← Qpo (t := t) i (t.length - (i + 1)) (i + 1)]
   exact Qqz i _ _ fun k k1 k2 => (est k k1 k2).2.2.1
  have sHi2 : hiT t ms W i (t.length - (i + 1)) (i + 1) ≤ chA t (gi (Qc0 t (List.replicate t.length 1000000000))) i := by
   unfold hiT chA
   exact Qqz i _ _ fun k k1 k2 => (est k k1 k2).2.2.2
  unfold chA at sLo sHi sHi2 hsum
  rw [Qxa] at sLo sHi sHi2
  have c0 := Qlo (Qhu ht hu hl) (t := t) i (t.length - (i + 1)) (i + 1)
  have c2 := Qlo (Qhu ht hu2 hl2) (t := t) i (t.length - (i + 1)) (i + 1)
  have hui := Qnz hu (Qkh (l := uses) (i := i) (by omega))
  have eg : (Qc0 t uses).getD i 0 = gi (Qc0 t uses) i := rfl
  have eg2 : (Qc0 t (List.replicate t.length 1000000000)).getD i 0 = gi (Qc0 t (List.replicate t.length 1000000000)) i := rfl
  have egu : uses.getD i 0 = gi uses i := rfl
  rw [eg, egu] at f1
  rw [eg] at f3
  rw [eg2] at g1 g3
  have hbig : 1000000000 + chS t (Qc0 t (List.replicate t.length 1000000000)) i (t.length - (i + 1)) (i + 1) + x.Loss = gi (Qc0 t (List.replicate t.length 1000000000)) i := by
   rw [g1]
   unfold Qgi
   rw [if_pos (by omega)]
  have hval := hw.val i
  have hpos := hw.pos i
  rw [hW i x hx]
  unfold wT lw
  dsimp only
  rw [Qc4 (x := (useT ms i).Lo + loT t ms W i (t.length - (i + 1)) (i + 1)) (by omega) (by split at hsum <;> omega), Qc4 (x := (useT ms i).Hi + hiT t ms W i (t.length - (i + 1)) (i + 1)) (by split at hsum <;> omega) (by omega), Qc4 (x := (useT ms i).Hi + hiT t ms W i (t.length - (i + 1)) (i + 1) + x.Loss) (by split at hsum <;> omega) (by omega)]
  have hlo : (if (useT ms i).Lo + loT t ms W i (t.length - (i + 1)) (i + 1) > 0 then w64 ((useT ms i).Lo + loT t ms W i (t.length - (i + 1)) (i + 1) + x.Loss) else (useT ms i).Lo + loT t ms W i (t.length - (i + 1)) (i + 1)) = if (useT ms i).Lo + loT t ms W i (t.length - (i + 1)) (i + 1) > 0 then (useT ms i).Lo + loT t ms W i (t.length - (i + 1)) (i + 1) + x.Loss else (useT ms i).Lo + loT t ms W i (t.length - (i + 1)) (i + 1) := by
   rw [Qc4 (by omega) (by split at hsum <;> omega)]
  rw [hlo]
  generalize chS t (Qc0 t uses) i (t.length - (i + 1)) (i + 1) = C at *
  generalize chF t D i (t.length - (i + 1)) (i + 1) = E at *
  generalize loT t ms W i (t.length - (i + 1)) (i + 1) = A at *
  generalize hiT t ms W i (t.length - (i + 1)) (i + 1) = B at *
  by_cases e : i = lost
  ·rw [if_pos e] at hsum ⊢
   rw [f1]
   unfold Qgi
   split <;> split <;> split <;> omega
  ·rw [if_neg e] at hsum ⊢
   have hp := hpos e
   rw [f1] at hp ⊢
   unfold Qgi at hp ⊢
   rcases hval with hv | hv
   ·rw [hv] at hsum ⊢
    split <;> split <;> split <;> omega
   ·by_cases hL0 : L = 0
    ·split <;> split <;> split <;> omega
    ·have hp2 := hp (by omega)
     split <;> split <;> split <;> omega
end Go.Proofs.Ytgdepcgbjjgnfaa
