/-
  Plain: meters that are off by no more than they say show no sure leak; a leak at a node with a Flow meter is within what is missing there. No conditions.
-/
import Derived.Test.YtgdepcgbjjgnfaaPHon
namespace Go.Proofs.Ytgdepcgbjjgnfaa
open Go.RowKit
def offA (off : List Int) (i : Nat) : Int := gi off (i % off.length)
theorem Qm2 {off : List Int} (h : off.length ≠ 0) (ho : ∀ y ∈ off, 0 ≤ y ∧ y ≤ 65535) (i : Nat) : getI off (((i : Nat) : Int).tmod (off.length : Int)) = some (offA off i) ∧ 0 ≤ offA off i ∧ offA off i ≤ 65535 := by
 have hlt : i % off.length < off.length := Nat.mod_lt _ (by omega)
 have e : ((i : Nat) : Int).tmod (off.length : Int) = ((i % off.length : Nat) : Int) := by
  rw [Int.tmod_eq_emod_of_nonneg (by omega)]
  omega
 have hg := Qkh hlt
 rw [e, Qfo hg]
 have := ho _ (List.mem_of_getElem? hg)
 exact ⟨rfl, this⟩
theorem Qul {t : List GNode} {uses : List Int} (ht : Qg6 t = true) (hu : Qh1 uses = true) (hl : uses.length = t.length) (h1 : ∀ i, i < t.length → gi uses i ≤ 1000000) (h2 : ∀ (i : Nat) (x : GNode), t[i]? = some x → x.Loss ≤ 1000000) : ∀ i, i < t.length → gi (Qc0 t uses) i ≤ 60000000 := by
 obtain ⟨q1, q2⟩ := Qij ht
 have key : ∀ (m : Nat) (out : List Int), m ≤ t.length → FlowOK t m out → sumT out m ≤ 1000000 * m + 1000000 * (t.length - m) + 1000000 * (t.length - m) → (∀ j, j < m → 0 ≤ gi out j) → (∀ j, m ≤ j → j < t.length → gi out j ≤ 60000000) → ∀ i, i < t.length → gi (run t m out) i ≤ 60000000 := by
  intro m
  induction m with
  | zero => intro out _ _ _ _ hb i hi; exact hb i (Nat.zero_le _) hi
  | succ m ih =>
   intro out hm hok hs hp hb i hi
   have hxm : t[m]? = some (t[m]'(by omega)) := List.getElem?_eq_getElem _
   have hom : out[m]? = some (out[m]'(by rw [hok.len]; omega)) := List.getElem?_eq_getElem _
   generalize t[m]'(by omega) = y at hxm
   generalize out[m]'(by rw [hok.len]; omega) = o at hom
   obtain ⟨hflow, o0, o1, l0, l1, hpar⟩ := stp_ok ht hok hxm hom
   have hloss := h2 m y hxm
   have hn := Qft ht hxm
   have hls := hn.loss
   rw [run, hxm, hom]
   have hsm := Qh8 hom
   have hlo : Qgi o y ≤ o + 1000000 := by unfold Qgi; split <;> omega
   have nn : 0 ≤ sumT out m := by
    rcases Nat.eq_zero_or_pos m with e | hp'
    ·subst e; simp [sumT]
    ·have h0 : out[0]? = some (out[0]'(by rw [hok.len]; omega)) := List.getElem?_eq_getElem _
     have := Qlm hok.pos hp' h0
     omega
   have hle := Qlm hok.pos (Nat.lt_succ_self m) hom
   have hstp : ∀ j, gi (stp y o out m) j = if j = m then Qgi o y else if y.Parent = (j : Int) then gi out j + Qgi o y else gi out j := fun j => by
    unfold stp gi
    by_cases hpp : y.Parent ≥ 0
    ·obtain ⟨p1, p, hq, _⟩ := hpar hpp
     rw [if_pos hpp, List.getD_eq_getElem?_getD, Qe6]
     by_cases ej : j = m
     ·subst ej
      rw [if_neg (by omega), Qe6, if_pos rfl, if_pos (by rw [hok.len]; omega), if_pos rfl]
      rfl
     ·rw [if_neg ej]
      by_cases hpj : y.Parent = (j : Int)
      ·have e2 : y.Parent.toNat = j := by omega
       rw [if_pos e2, List.length_set, if_pos (by rw [hok.len]; omega), if_pos hpj, e2]
       rfl
      ·rw [if_neg (by omega), Qe6, if_neg (by omega), if_neg hpj, List.getD_eq_getElem?_getD]
    ·rw [if_neg hpp, List.getD_eq_getElem?_getD, Qe6]
     by_cases ej : j = m
     ·subst ej
      rw [if_pos rfl, if_pos (by rw [hok.len]; omega), if_pos rfl]
      rfl
     ·rw [if_neg (by omega), if_neg ej, if_neg (by omega), List.getD_eq_getElem?_getD]
   have hsum : sumT (stp y o out m) m ≤ sumT out m + Qgi o y := by
    unfold stp
    split
    ·rename_i hpp
     obtain ⟨p1, p, hq, q0, q1⟩ := hpar hpp
     have hq' : (out.set m (Qgi o y))[y.Parent.toNat]? = some p := by rw [Qe6, if_neg (by omega), hq]
     rw [Qs8 (by omega) hq', Qhq (Nat.le_refl m), List.getD_eq_getElem?_getD, hq, Option.getD_some]
     omega
    ·rw [Qhq (Nat.le_refl m)]
     omega
   refine ih _ (by omega) hflow (by omega) (fun j hj => ?_) (fun j hj hjt => ?_) i hi
   ·rw [hstp j, if_neg (by omega)]
    have := hp j (by omega)
    split <;> omega
   ·rw [hstp j]
    by_cases ej : j = m
    ·rw [if_pos ej]
     omega
    ·rw [if_neg ej, if_neg (fun e => by
      rcases Nat.eq_zero_or_pos m with e0 | hp'
      ·have := (hn.top e0).1; omega
      ·have := (hn.par hp').2; omega)]
     exact hb j (by omega) hjt
 refine key t.length uses (Nat.le_refl _) (Qs9 ht hu hl) ?_ (fun j hj => (Qnz hu (Qkh (by omega))).1) (fun j a b => by omega)
 have : ∀ m, m ≤ t.length → sumT uses m ≤ 1000000 * m := by
  intro m
  induction m with
  | zero => intro _; simp [sumT]
  | succ m ih =>
   intro hm
   have := ih (by omega)
   have h3 := h1 m (by omega)
   rw [Qh8 (Qkh (l := uses) (i := m) (by omega))]
   omega
 have := this t.length (Nat.le_refl _)
 omega
theorem Quf (N : Nat) (t : List GNode) (uses : List Int) (k : Unit → Option Bool) (hl : uses.length = t.length) (hs : t.length ≤ 1000) : ∀ (n d i : Nat), d < n → i + d = t.length →
  Qb5 N t uses k n i = some true ∨ (Qb5 N t uses k n i = k () ∧ (∀ j, i ≤ j → j < t.length → gi uses j ≤ 1000000) ∧ ∀ (j : Nat) (x : GNode), i ≤ j → t[j]? = some x → x.Loss ≤ 1000000) := by
 intro n
 induction n with
 | zero => intro d i h; omega
 | succ n ih =>
  intro d i h hd
  rw [Qb5]
  cases d with
  | zero =>
   rw [show decide ((i : Int) < (t.length : Int)) = false from decide_eq_false (by omega), cond_false]
   exact Or.inr ⟨rfl, fun j a b => by omega, fun j x a hx => by have := (List.getElem?_eq_some_iff.1 hx).1; omega⟩
  | succ d =>
   have e1 : w64 ((i : Int) + 1) = ((i + 1 : Nat) : Int) := Qc4 (by omega) (by omega)
   have hx := Qkh (l := uses) (i := i) (by omega)
   have ht : t[i]? = some (t[i]'(by omega)) := List.getElem?_eq_getElem _
   generalize t[i]'(by omega) = x at ht
   simp only [show decide ((i : Int) < (t.length : Int)) = true from decide_eq_true (by omega), cond_true, Qfo hx, Qfo ht, Option.bind_some, e1, Qo5]
   by_cases h1 : gi uses i > 1000000
   ·exact Or.inl (by rw [show decide (gi uses i > 1000000) = true from decide_eq_true h1, cond_true])
   ·rw [show decide (gi uses i > 1000000) = false from decide_eq_false h1, cond_false]
    by_cases h2 : x.Loss > 1000000
    ·exact Or.inl (by rw [show decide (x.Loss > 1000000) = true from decide_eq_true h2, cond_true])
    ·rw [show decide (x.Loss > 1000000) = false from decide_eq_false h2, cond_false]
     rcases ih d (i + 1) (by omega) (by omega) with a | ⟨a, b, c⟩
     ·exact Or.inl a
     ·refine Or.inr ⟨a, fun j j1 j2 => ?_, fun j y j1 hy => ?_⟩
      ·rcases Nat.eq_or_lt_of_le j1 with rfl | hlt
       ·omega
       ·exact b j hlt j2
      ·rcases Nat.eq_or_lt_of_le j1 with rfl | hlt
       ·rw [ht] at hy; cases hy; omega
       ·exact c j y hlt hy
structure Mets (t : List GNode) (uses off : List Int) (G : Nat → Int) (has : Nat → Bool) (n : Nat) (u f : List GMeter) (b : List Bool) : Prop where
 lu : u.length = n
 lf : f.length = n
 lb : b.length = n
 au : ∀ k, k < n → u[k]? = some (rdM (gi uses k) (offA off k))
 af : ∀ k, k < n → f[k]? = some (rdM (G k) (offA off (k + 1)))
 ab : ∀ k, k < n → b[k]? = some (has k)
theorem Qoj {α : Type} {l : List α} {x : α} {f : Nat → α} {n : Nat} (hl : l.length = n) (h : ∀ k, k < n → l[k]? = some (f k)) (hx : x = f n) : ∀ k, k < n + 1 → (l ++ [x])[k]? = some (f k) := fun k hk => by
 rcases Nat.eq_or_lt_of_le (Nat.le_of_lt_succ hk) with rfl | hlt
 ·rw [List.getElem?_append_right (by omega), hl, Nat.sub_self, hx]
  rfl
 ·rw [List.getElem?_append_left (by omega)]
  exact h k hlt
theorem Qwg {N : Nat} {t : List GNode} {uses off : List Int} {lost : Nat} {L hs : Int} {bit : Nat → Bool} (hN : 2000 ≤ N) (ht : Qg6 t = true) (hu : Qh1 uses = true) (hl : uses.length = t.length) (h0 : off.length ≠ 0) (ho : ∀ y ∈ off, 0 ≤ y ∧ y ≤ 65535) (hL : 0 ≤ L ∧ L ≤ 65535) (hF : ∀ i, i < t.length → gi (Qc0 t uses) i ≤ 60000000)
  (hbit : ∀ i : Nat, i < 30 → ((andI .u32 (hs / 2 ^ min (IntKind.wrap .u64 (i : Int)).toNat 32) 1) == 1) = bit i) (K : List GMeter × List GMeter × List Bool → Option Bool) :
  ∀ (n d i : Nat) (u f : List GMeter) (b : List Bool), d < n → i + d = t.length → Mets t uses off (fun k => gi (Qc0 t uses) k + setF (fun _ => 0) lost L k) (fun k => decide (k = lost) || bit k) i u f b →
  ∃ u' f' b', Qbn N t uses off hs lost L K n i u f b = K (u', f', b') ∧ Mets t uses off (fun k => gi (Qc0 t uses) k + setF (fun _ => 0) lost L k) (fun k => decide (k = lost) || bit k) t.length u' f' b' := by
 obtain ⟨q1, q2⟩ := Qij ht
 intro n
 induction n with
 | zero => intro d i u f b h; omega
 | succ n ih =>
  intro d i u f b h hd hm
  rw [Qbn]
  cases d with
  | zero =>
   rw [show decide ((i : Int) < (t.length : Int)) = false from decide_eq_false (by omega), cond_false]
   obtain rfl : i = t.length := by omega
   exact ⟨u, f, b, rfl, hm⟩
  | succ d =>
   have hi : i < t.length := by omega
   have e1 : w64 ((i : Int) + 1) = ((i + 1 : Nat) : Int) := Qc4 (by omega) (by omega)
   have eL : w64 L = L := Qc4 (by omega) (by omega)
   have hfl := Qlk ht hu hl t.length i N (by omega) hi (by omega)
   have hf0 := Qhu ht hu hl i
   have hf1 := hF i hi
   have hx := Qkh (l := uses) (i := i) (by omega)
   have hux := Qnz hu hx
   obtain ⟨o1, o2, o3⟩ := Qm2 h0 ho i
   obtain ⟨o4, o5, o6⟩ := Qm2 h0 ho (i + 1)
   have efl : (Qc0 t uses).getD i 0 = gi (Qc0 t uses) i := rfl
   rw [efl] at hfl hf0
   have r1 := Qyc (N := N) (n := gi uses i) (off := offA off i) hux.1 hux.2 o2 o3
   have chk1 : decide ((u.length + 1) * 16 ≤ 140737488355328) = true := decide_eq_true (by rw [hm.lu]; omega)
   have chk2 : decide ((f.length + 1) * 16 ≤ 140737488355328) = true := decide_eq_true (by rw [hm.lf]; omega)
   have chk3 : decide ((b.length + 1) * 1 ≤ 140737488355328) = true := decide_eq_true (by rw [hm.lb]; omega)
   have ho' : ((off.length : Int) != 0) = true := by rw [bne_iff_ne]; omega
   have hwr : IntKind.wrap .u64 (i : Int) = (i : Int) := by rw [IntKind.wrap_u64]; omega
   have hbi := hbit i (by omega)
   rw [hwr, Int.toNat_natCast] at hbi
   simp only [show decide ((i : Int) < (t.length : Int)) = true from decide_eq_true (by omega), cond_true, hfl, Option.bind_some, Qcv, Qfo hx, chk, ho', o1, o4, r1, e1, List.length_cons, List.length_nil, Nat.zero_add, chk1, chk2, chk3, eL, Qth, hwr, Int.toNat_natCast, hbi, show decide (0 ≤ (i : Int)) = true from decide_eq_true (by omega)]
   by_cases e : i = lost
   ·subst e
    have r2 := Qyc (N := N) (n := gi (Qc0 t uses) i + L) (off := offA off (i + 1)) (by omega) (by omega) o5 o6
    have eFL : w64 (gi (Qc0 t uses) i + L) = gi (Qc0 t uses) i + L := Qc4 (by omega) (by omega)
    simp only [decide_true, cond_true, eFL, r2, Option.bind_some]
    exact ih d (i + 1) _ _ _ (by omega) (by omega) ⟨by simp [hm.lu], by simp [hm.lf], by simp [hm.lb], Qoj hm.lu hm.au rfl, Qoj hm.lf hm.af (by simp [setF]), Qoj hm.lb hm.ab (by simp)⟩
   ·have r2 := Qyc (N := N) (n := gi (Qc0 t uses) i) (off := offA off (i + 1)) hf0 (by omega) o5 o6
    simp only [e, decide_false, cond_false, r2, Option.bind_some]
    exact ih d (i + 1) _ _ _ (by omega) (by omega) ⟨by simp [hm.lu], by simp [hm.lf], by simp [hm.lb], Qoj hm.lu hm.au rfl, Qoj hm.lf hm.af (by simp [setF, e]), Qoj hm.lb hm.ab (by simp [e])⟩
theorem up_loop {N : Nat} {t : List GNode} {uses off : List Int} {lost : Nat} {L : Int} {has : Nat → Bool} {y7 : List GMeter} (hN : 2000 ≤ N) (ht : Qg6 t = true) (hu : Qh1 uses = true) (hl : uses.length = t.length) (h0 : off.length ≠ 0) (ho : ∀ y ∈ off, 0 ≤ y ∧ y ≤ 65535) (hL : 0 ≤ L ∧ L ≤ 65535) (hF : ∀ i, i < t.length → gi (Qc0 t uses) i ≤ 60000000) (hlost : lost < t.length) (h7 : y7.length = t.length) (K : List GMeter × List GMeter × List Bool → Option Bool) :
  ∀ (n i : Nat) (D : Nat → Int) (u f : List GMeter) (b : List Bool), i < n → i ≤ lost → Leak t (gi (Qc0 t uses)) D lost i L → D lost = L → Mets t uses off (fun k => gi (Qc0 t uses) k + D k) has t.length u f b →
  Qa7 N t uses off L y7 K n i u f b = some true ∨
  ∃ D' f', Qa7 N t uses off L y7 K n i u f b = K (u, f', b) ∧ Whole t (gi (Qc0 t uses)) D' lost L ∧ (∀ k, D' k = 0 ∨ D' k = L) ∧ Mets t uses off (fun k => gi (Qc0 t uses) k + D' k) has t.length u f' b := by
 obtain ⟨q1, q2⟩ := Qij ht
 intro n
 induction n with
 | zero => intro i D u f b h; omega
 | succ n ih =>
  intro i D u f b h hil hlk hDl hm
  rw [Qa7]
  rcases Nat.eq_zero_or_pos i with rfl | hp
  ·rw [show decide (((0 : Nat) : Int) > 0) = false from rfl, cond_false]
   refine Or.inr ⟨D, f, rfl, ⟨hlk.val, hDl, fun j hj => ?_, hlk.pos⟩, hlk.val, hm⟩
   rw [hlk.sum j hj, if_neg (fun hq => by
    obtain ⟨x, h1, h2⟩ := hq
    have := ((Qft ht h1).top rfl).1
    omega)]
  ·have hx : t[i]? = some (t[i]'(by omega)) := List.getElem?_eq_getElem _
   generalize t[i]'(by omega) = x at hx
   obtain ⟨p0, p1⟩ := (Qft ht hx).par hp
   obtain ⟨up, hup⟩ : ∃ up : Nat, x.Parent = (up : Int) := ⟨x.Parent.toNat, by omega⟩
   have hut : up < t.length := by omega
   have hfl := Qlk ht hu hl t.length up N (by omega) hut (by omega)
   have hf0 := Qhu ht hu hl up
   have hf1 := hF up hut
   have efl : (Qc0 t uses).getD up 0 = gi (Qc0 t uses) up := rfl
   rw [efl] at hfl hf0
   obtain ⟨o4, o5, o6⟩ := Qm2 h0 ho (up + 1)
   have e1 : w64 ((up : Int) + 1) = ((up + 1 : Nat) : Int) := Qc4 (by omega) (by omega)
   have eL : w64 L = L := Qc4 (by omega) (by omega)
   have eFL : w64 (gi (Qc0 t uses) up + L) = gi (Qc0 t uses) up + L := Qc4 (by omega) (by omega)
   have r2 := Qyc (N := N) (n := gi (Qc0 t uses) up + L) (off := offA off (up + 1)) (by omega) (by omega) o5 o6
   have ho' : ((off.length : Int) != 0) = true := by rw [bne_iff_ne]; omega
   have hfup := hm.af up hut
   simp only [show decide ((i : Int) > 0) = true from decide_eq_true (by omega), cond_true, Qfo hx, Option.bind_some, hup, hfl, Qcv, chk, ho', e1, o4, eL, eFL, r2, Int.toNat_natCast, show decide (0 ≤ (up : Int)) = true from decide_eq_true (by omega), show decide (up < y7.length) = true from decide_eq_true (by omega), Bool.and_self, hfup, Qo5, show decide (gi (Qc0 t uses) up + L > 1000000000) = false from decide_eq_false (by omega), cond_false]
   have go : (L ≠ 0 → gi (Qc0 t uses) up ≠ 0) → Qa7 N t uses off L y7 K n up u (f.set up (rdM (gi (Qc0 t uses) up + L) (offA off (up + 1)))) b = some true ∨
     ∃ D' f', Qa7 N t uses off L y7 K n up u (f.set up (rdM (gi (Qc0 t uses) up + L) (offA off (up + 1)))) b = K (u, f', b) ∧ Whole t (gi (Qc0 t uses)) D' lost L ∧ (∀ k, D' k = 0 ∨ D' k = L) ∧ Mets t uses off (fun k => gi (Qc0 t uses) k + D' k) has t.length u f' b := fun hne => by
    obtain ⟨k1, k2⟩ := Qwk ht hlk hil hlost hx hup hne
    refine ih up (setF D up L) u _ b (by omega) (by omega) k2 ?_ ⟨hm.lu, by simp [hm.lf], hm.lb, hm.au, fun k hk => ?_, hm.ab⟩
    ·unfold setF
     split
     ·rfl
     ·exact hDl
    ·rw [List.getElem?_set]
     by_cases e : up = k
     ·subst e
      rw [if_pos rfl, if_pos (by rw [hm.lf]; exact hk)]
      simp [setF]
     ·rw [if_neg e, hm.af k hk]
      simp [setF, Ne.symm e]
   by_cases hz : gi (Qc0 t uses) up = 0
   ·rw [show (gi (Qc0 t uses) up == 0) = true from beq_iff_eq.2 hz, cond_true]
    by_cases hLp : L > 0
    ·exact Or.inl (by rw [show decide (L > 0) = true from decide_eq_true hLp, cond_true])
    ·rw [show decide (L > 0) = false from decide_eq_false hLp, cond_false]
     exact go (by omega)
   ·rw [show (gi (Qc0 t uses) up == 0) = false from beq_eq_false_iff_ne.2 hz, cond_false]
    exact go (fun _ => hz)
theorem Qwa (N : Nat) {t : List GNode} {lost : Nat} {b : List Bool} {r : List GRange × Int} {has : Nat → Bool} (k : Unit → Option Bool) (hs : t.length ≤ 1000) (hb : ∀ i, i < t.length → b[i]? = some (has i)) (hr : ∀ i, i < t.length → ∃ q : GRange, r.1[i]? = some q ∧ (has i = false → q.Lo = 0 ∧ q.Hi = 0) ∧ (has i = true → i ≠ lost → q.Lo ≤ 0 ∧ 0 ≤ q.Hi)) : ∀ (n d i : Nat), d < n → i + d = t.length → Qax N t lost b r k n i = k () := by
 intro n
 induction n with
 | zero => intro d i h; omega
 | succ n ih =>
  intro d i h hd
  rw [Qax]
  cases d with
  | zero => rw [show decide ((i : Int) < (t.length : Int)) = false from decide_eq_false (by omega), cond_false]
  | succ d =>
   have e1 : w64 ((i : Int) + 1) = ((i + 1 : Nat) : Int) := Qc4 (by omega) (by omega)
   obtain ⟨q, g1, g2, g3⟩ := hr i (by omega)
   have hne : ((i : Int) != (lost : Int)) = !decide (i = lost) := by rw [bne, Qth]
   simp only [show decide ((i : Int) < (t.length : Int)) = true from decide_eq_true (by omega), cond_true, Qfo (hb i (by omega)), Qfo g1, Option.bind_some, e1, ih d (i + 1) (by omega) (by omega), hne]
   cases hh : has i with
   | false =>
    obtain ⟨z1, z2⟩ := g2 hh
    simp [z1, z2]
   | true =>
    by_cases e : i = lost
    ·simp [e]
    ·obtain ⟨z1, z2⟩ := g3 hh e
     simp [e, show ¬ (0 < q.Lo) from by omega, show ¬ (q.Hi < 0) from by omega]
theorem Qm8 {α : Type} {l : List α} {i : Nat} {x d : α} (h : l[i]? = some x) : l.getD i d = x := by rw [List.getD_eq_getElem?_getD, h, Option.getD_some]
theorem Qwo {N : Nat} (hN : 2000 ≤ N) (t : List GNode) (uses off : List Int) (hs at_ leak : Int) (ho : ∀ y ∈ off, 0 ≤ y ∧ y ≤ 65535) (ha : 0 ≤ at_ ∧ at_ ≤ 255) (hL : 0 ≤ leak ∧ leak ≤ 65535) : Qez N t uses off hs at_ leak = some true := by
 unfold Qez
 simp only [few_eq, Option.bind_some, Qo5, Qcv]
 by_cases h1 : (t.length : Int) ≤ 35
 ·by_cases h2 : (uses.length : Int) ≤ 35
  ·have htl : t.length ≤ 1000 := by omega
   have hul : uses.length ≤ 1000 := by omega
   simp only [h1, h2, decide_true, Bool.and_self, Bool.not_true, cond_false, Qvr htl hN, Qx8 (t := t) hul hN, Option.bind_some]
   cases h3 : Qg6 t with
   | false => rfl
   | true =>
    cases h4 : (Qh1 uses && decide (uses.length = t.length)) with
    | false => rfl
    | true =>
     rw [Bool.and_eq_true, decide_eq_true_eq] at h4
     obtain ⟨q1, q2⟩ := Qij h3
     by_cases h0 : off.length = 0
     ·simp [h0]
     ·simp only [Bool.not_true, cond_false, show ((off.length : Int) == 0) = false from beq_eq_false_iff_ne.2 (by omega)]
      have hlost : at_.toNat % t.length < t.length := Nat.mod_lt _ (by omega)
      generalize hlo : at_.toNat % t.length = lost at hlost
      have ea : (w64 at_).tmod (t.length : Int) = (lost : Int) := by
       rw [Qc4 (by omega) (by omega), Int.tmod_eq_emod_of_nonneg ha.1, ← hlo, Int.natCast_emod, Int.toNat_of_nonneg ha.1]
      have eL : w64 leak = leak := Qc4 (by omega) (by omega)
      have hz : ((0 : Nat) : Int) = 0 := rfl
      rcases Quf N t uses (fun _ => chk ((t.length : Int) != 0) <| (some ((w64 at_).tmod (t.length : Int))).bind fun x4 => Qbn N t uses off hs x4 leak (fun x => match x with
        | (y6, y7, y8) => chk (!y7.isEmpty) <| Qa7 N t uses off leak y7 (fun x => match x with
         | (y11, y12, y13) => chk (decide (y7.length ≤ y12.length)) <| (Qfn N t).bind fun x17 => (Qen N x17 (⟨y11, y12.take y7.length, y13⟩ : GMeters)).bind fun x19 => bif x19.2 != 0 then some false else bif (x19.1.length : Int) != (t.length : Int) then some false else Qax N t x4 y13 x19 (fun _ => (getI x19.1 x4).bind fun x22 => bif decide (x22.Hi ≥ w64 leak) then bif decide (x22.Lo ≤ w64 leak) then some true else some false else some false) N 0) N x4 y6 y7 y8) N 0 [] [] []) h4.2 htl N t.length 0 (by omega) (by omega) with hw | ⟨hw, s1, s2⟩
      ·exact hw
      ·refine hw.trans ?_
       have hF := Qul h3 h4.1 h4.2 (fun i hi => s1 i (Nat.zero_le _) hi) (fun i x hx => s2 i x (Nat.zero_le _) hx)
       simp only [chk, show ((t.length : Int) != 0) = true from by rw [bne_iff_ne]; omega, cond_true, Option.bind_some, ea, eL]
       obtain ⟨u, f, b, m1, m2⟩ := Qwg (N := N) (lost := lost) (bit := fun i => ((andI .u32 (hs / 2 ^ min (IntKind.wrap .u64 (i : Int)).toNat 32) 1) == 1)) hN h3 h4.1 h4.2 h0 ho hL hF (fun i _ => rfl) (fun x => match x with
        | (y6, y7, y8) => bif (!y7.isEmpty) then Qa7 N t uses off leak y7 (fun x => match x with
         | (y11, y12, y13) => bif (decide (y7.length ≤ y12.length)) then (Qfn N t).bind fun x17 => (Qen N x17 (⟨y11, y12.take y7.length, y13⟩ : GMeters)).bind fun x19 => bif x19.2 != 0 then some false else bif (x19.1.length : Int) != (t.length : Int) then some false else Qax N t lost y13 x19 (fun _ => (getI x19.1 lost).bind fun x22 => bif decide (x22.Hi ≥ leak) then bif decide (x22.Lo ≤ leak) then some true else some false else some false) N 0 else none) N lost y6 y7 y8 else none) N t.length 0 [] [] [] (by omega) (by omega) ⟨rfl, rfl, rfl, fun k hk => by omega, fun k hk => by omega, fun k hk => by omega⟩
       rw [hz] at m1
       refine m1.trans ?_
       have hne : (!f.isEmpty) = true := by
        cases hh : f with
        | nil => have := m2.lf; rw [hh] at this; simp at this; omega
        | cons => rfl
       dsimp only
       rw [hne, cond_true]
       rcases up_loop (N := N) (y7 := f) hN h3 h4.1 h4.2 h0 ho hL hF hlost m2.lf (fun x => match x with
         | (y11, y12, y13) => bif (decide (f.length ≤ y12.length)) then (Qfn N t).bind fun x17 => (Qen N x17 (⟨y11, y12.take f.length, y13⟩ : GMeters)).bind fun x19 => bif x19.2 != 0 then some false else bif (x19.1.length : Int) != (t.length : Int) then some false else Qax N t lost y13 x19 (fun _ => (getI x19.1 lost).bind fun x22 => bif decide (x22.Hi ≥ leak) then bif decide (x22.Lo ≤ leak) then some true else some false else some false) N 0 else none) N lost _ u f b (by omega) (Nat.le_refl _) (Quk h3 (F := gi (Qc0 t uses)) (L := leak) hlost) (by simp [setF]) m2 with hup | ⟨D, f', hup, hwh, hD, mm⟩
       ·exact hup
       ·refine hup.trans ?_
        dsimp only
        have htk : f'.take f.length = f' := by rw [m2.lf, ← mm.lf, List.take_length]
        rw [htk, show decide (f.length ≤ f'.length) = true from decide_eq_true (by rw [m2.lf, mm.lf]; omega), cond_true, Qy2 htl hN, Option.bind_some]
        have hsl : SameLen t ⟨u, f', b⟩ := ⟨mm.lu, mm.lf, mm.lb⟩
        have bdG : ∀ k, k < t.length → 0 ≤ gi (Qc0 t uses) k + D k ∧ gi (Qc0 t uses) k + D k ≤ 100000000 := fun k hk => by
         have a1 := Qhu h3 h4.1 h4.2 k
         have a2 := hF k hk
         have efl : (Qc0 t uses).getD k 0 = gi (Qc0 t uses) k := rfl
         rw [efl] at a1
         rcases hD k with e | e <;> omega
        have inU : ∀ k, k < t.length → _ := fun k hk => rd_in (n := gi uses k) (off := offA off k) (Qnz h4.1 (Qkh (by omega))).1 (by have := s1 k (Nat.zero_le _) hk; omega) (Qm2 h0 ho k).2.1 (Qm2 h0 ho k).2.2
        have inF : ∀ k, k < t.length → _ := fun k hk => rd_in (n := gi (Qc0 t uses) k + D k) (off := offA off (k + 1)) (bdG k hk).1 (bdG k hk).2 (Qm2 h0 ho (k + 1)).2.1 (Qm2 h0 ho (k + 1)).2.2
        have eU : ∀ k, k < t.length → useT ⟨u, f', b⟩ k = thr (rdM (gi uses k) (offA off k)) := fun k hk => by unfold useT; rw [Qm8 (mm.au k hk)]
        have eF : ∀ k, k < t.length → Qk0 ⟨u, f', b⟩ k = thr (rdM (gi (Qc0 t uses) k + D k) (offA off (k + 1))) := fun k hk => by unfold Qk0; rw [Qm8 (mm.af k hk)]
        have eH : ∀ k, k < t.length → hasT ⟨u, f', b⟩ k = (decide (k = lost) || ((andI .u32 (hs / 2 ^ min (IntKind.wrap .u64 (k : Int)).toNat 32) 1) == 1)) := fun k hk => by unfold hasT; rw [Qm8 (mm.ab k hk)]
        have hmet : ∀ d i, i + d = t.length → metB ⟨u, f', b⟩ d i = true := by
         intro d
         induction d with
         | zero => intro i _; rfl
         | succ d ih =>
          intro i hd
          rw [metB, ih (i + 1) (by omega), Qm8 (mm.au i (by omega)), Qm8 (mm.af i (by omega)), (inU i (by omega)).1, (inF i (by omega)).1]
          simp
        obtain ⟨W, out, w1, w2, w3, w4⟩ := Qwb hN h3 hsl (hmet t.length 0 (by omega))
        have hT : Truth t ⟨u, f', b⟩ uses D := ⟨fun i hi => by rw [eU i hi]; exact (inU i hi).2, fun i hi => by rw [eF i hi]; exact (inF i hi).2⟩
        have hhl : hasT ⟨u, f', b⟩ lost = true := by rw [eH lost hlost]; simp
        have hon := honest h3 h4.1 h4.2 hL.1 hT hwh hhl w1
        have hu2 : Qh1 (List.replicate t.length 1000000000) = true := by
         unfold Qh1
         rw [List.all_eq_true]
         intro x hx
         rw [(List.mem_replicate.1 hx).2]
         rfl
        have hcap : ∀ i, i < t.length → gi (Qc0 t (List.replicate t.length 1000000000)) i ≤ 100000000000 := fun i hi => (Qic h3 hu2 (by simp) (List.getElem?_eq_getElem hi)).2.2
        have hrange : ∀ i, i < t.length → hasT ⟨u, f', b⟩ i = true → Ql4 ⟨u, f', b⟩ W i = ⟨(Qk0 ⟨u, f', b⟩ i).Lo - (W i).Hi, (Qk0 ⟨u, f', b⟩ i).Hi - (W i).Lo⟩ := fun i hi hh => by
         obtain ⟨a1, a2, a3, a4⟩ := hon t.length i (by omega) hi
         obtain ⟨b1, b2, b3, b4⟩ := hT.flow i hi
         have := hcap i hi
         have := bdG i hi
         unfold Ql4
         rw [hh, if_pos rfl, Qc4 (by omega) (by split at a1 <;> split at a2 <;> omega), Qc4 (by split at a1 <;> split at a2 <;> omega) (by omega)]
        have hml := Qwa N (lost := lost) (b := b) (r := (out, 0)) (has := fun k => decide (k = lost) || ((andI .u32 (hs / 2 ^ min (IntKind.wrap .u64 (k : Int)).toNat 32) 1) == 1)) (fun _ => (getI out lost).bind fun x22 => bif decide (x22.Hi ≥ leak) then bif decide (x22.Lo ≤ leak) then some true else some false else some false) htl mm.ab (fun i hi => ⟨_, w3 i hi, fun hh => by
         unfold Ql4
         rw [eH i hi, hh]
         exact ⟨rfl, rfl⟩, fun hh hne => by
         rw [hrange i hi (by rw [eH i hi]; exact hh)]
         obtain ⟨a1, a2, a3, a4⟩ := hon t.length i (by omega) hi
         obtain ⟨b1, b2, b3, b4⟩ := hT.flow i hi
         rw [if_neg hne] at a1 a2
         dsimp only
         omega⟩) N t.length 0 (by omega) (by omega)
        rw [hz] at hml
        simp only [w4, Option.bind_some, bne_self_eq_false, cond_false, w2]
        refine hml.trans ?_
        rw [Qfo (w3 lost hlost), Option.bind_some, hrange lost hlost hhl]
        obtain ⟨a1, a2, a3, a4⟩ := hon t.length lost (by omega) hlost
        obtain ⟨b1, b2, b3, b4⟩ := hT.flow lost hlost
        have hDl := hwh.at_
        rw [if_pos rfl] at a1 a2
        dsimp only
        rw [show decide ((Qk0 ⟨u, f', b⟩ lost).Hi - (W lost).Lo ≥ leak) = true from decide_eq_true (by omega), cond_true, show decide ((Qk0 ⟨u, f', b⟩ lost).Lo - (W lost).Hi ≤ leak) = true from decide_eq_true (by omega), cond_true]
  ·simp [h2]
 ·simp [h1]
theorem Qr0 (t : List GNode) (uses off : List Int) (hs at_ leak : Int) (_ : Qqs t) (_ : Qws uses) (ho : Qwr off) (_ : gd_u32 hs) (ha : gd_u8 at_) (hL : Qwq leak) : Qez 2000 t uses off hs at_ leak = some true :=
 Qwo (Nat.le_refl _) t uses off hs at_ leak (fun y hy => bounds_u16 (ho.2.1 y hy)) (bounds_u8 ha) (bounds_u16 hL)
end Go.Proofs.Ytgdepcgbjjgnfaa
