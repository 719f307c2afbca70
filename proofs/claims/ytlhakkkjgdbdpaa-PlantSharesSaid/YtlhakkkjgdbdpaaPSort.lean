/-
  Plain laws of Go's stable sort (blocks by insertion, merged by rotations): what comes out is in order, and what is equal stays in order. No conditions.
-/
import Derived.Test.YtlhakkkjgdbdpaaPPlant
namespace Go.Proofs.Ytlhakkkjgdbdpaa
open Go.RowKit
def keyP (x : GPiece) : Int := -x.Part.Gain
def Srt (l : List GPiece) : Prop := l.Pairwise fun a b => keyP a ≤ keyP b
def flt (k : Int) (l : List GPiece) : List GPiece := l.filter fun a => decide (keyP a = k)
def Qg7 (l : List GPiece) : Prop := ∀ x ∈ l, -1000000 ≤ x.Part.Gain ∧ x.Part.Gain ≤ 1000000
theorem Qwi (x : GPiece) : (⟨x.unit, (⟨x.Part.Width, x.Part.Gain⟩ : GPart)⟩ : GPiece) = x := rfl
theorem Qf0 (k : Int) (l r : List GPiece) : flt k (l ++ r) = flt k l ++ flt k r := List.filter_append ..
theorem Qn2 {k : Int} {l : List GPiece} (h : ∀ x ∈ l, keyP x ≠ k) : flt k l = [] := by
 unfold flt
 rw [List.filter_eq_nil_iff]
 intro x hx
 simpa using h x hx
theorem Qst {k : Int} {l : List GPiece} {x : GPiece} (h : x ∈ flt k l) : x ∈ l ∧ keyP x = k := by
 unfold flt at h
 simpa using h
theorem mem_flt {l : List GPiece} {x : GPiece} (h : x ∈ l) : x ∈ flt (keyP x) l := by
 unfold flt
 simp [h]
structure Stb (xs ys : List GPiece) : Prop where
 srt : Srt ys
 eqf : ∀ k, flt k ys = flt k xs
theorem Stb.mem {xs ys : List GPiece} (h : ∀ k, flt k ys = flt k xs) {x : GPiece} : x ∈ ys ↔ x ∈ xs :=
 ⟨fun hx => (Qst (h (keyP x) ▸ mem_flt hx)).1, fun hx => (Qst ((h (keyP x)).symm ▸ mem_flt hx)).1⟩
theorem flt_cnt : ∀ (l : List GPiece) (x : GPiece), l.count x = (flt (keyP x) l).count x := fun l x => by
 unfold flt
 rw [List.count_filter]
 simp
theorem Stb.perm {xs ys : List GPiece} (h : ∀ k, flt k ys = flt k xs) : ys.Perm xs := by
 rw [List.perm_iff_count]
 intro x
 rw [flt_cnt ys, flt_cnt xs, h]
theorem Stb.len {xs ys : List GPiece} (h : ∀ k, flt k ys = flt k xs) : ys.length = xs.length := (Stb.perm h).length_eq
theorem Stb.small {xs ys : List GPiece} (h : ∀ k, flt k ys = flt k xs) (hs : Qg7 xs) : Qg7 ys := fun x hx => hs x ((Stb.mem h).1 hx)
theorem Qr6 {L1 L2 R1 R2 Z1 Z2 : List GPiece} (hL : Srt (L1 ++ L2)) (hR : Srt (R1 ++ R2)) (h1 : ∀ x ∈ L1, ∀ y ∈ R2, keyP x ≤ keyP y) (h2 : ∀ x ∈ R1, ∀ y ∈ L2, keyP x < keyP y) (z1 : Stb (L1 ++ R1) Z1) (z2 : Stb (L2 ++ R2) Z2) :
  Stb ((L1 ++ L2) ++ (R1 ++ R2)) (Z1 ++ Z2) := by
 unfold Srt at hL hR
 rw [List.pairwise_append] at hL hR
 refine ⟨?_, fun k => ?_⟩
 ·unfold Srt
  rw [List.pairwise_append]
  refine ⟨z1.srt, z2.srt, fun x hx y hy => ?_⟩
  have hx' := (Stb.mem z1.eqf).1 hx
  have hy' := (Stb.mem z2.eqf).1 hy
  rcases List.mem_append.1 hx' with a | a <;> rcases List.mem_append.1 hy' with b | b
  ·exact hL.2.2 x a y b
  ·exact h1 x a y b
  ·exact Int.le_of_lt (h2 x a y b)
  ·exact hR.2.2 x a y b
 ·rw [Qf0, z1.eqf, z2.eqf, Qf0, Qf0, Qf0, Qf0, Qf0]
  have key : flt k R1 ++ flt k L2 = flt k L2 ++ flt k R1 := by
   cases h : flt k R1 with
   | nil => simp
   | cons x l =>
    have hx : x ∈ flt k R1 := by rw [h]; exact List.mem_cons_self ..
    have hn : flt k L2 = [] := Qn2 fun y hy e => by
     have := h2 x (Qst hx).1 y hy
     rw [(Qst hx).2, e] at this
     exact absurd this (Int.lt_irrefl _)
    rw [hn]
    simp
  rw [List.append_assoc, List.append_assoc, ← List.append_assoc (flt k R1), key]
  simp
theorem Qie {l : List GPiece} (h : Srt l) : Stb l l := ⟨h, fun _ => rfl⟩
theorem Qr9 : Srt [] := List.Pairwise.nil
theorem at0 {α : Type} (L : List α) (x : α) (M : List α) : (L ++ x :: M)[L.length]? = some x := by
 rw [List.getElem?_append_right (Nat.le_refl _), Nat.sub_self]
 rfl
theorem at1 {α : Type} (L : List α) (x y : α) (M : List α) : (L ++ x :: y :: M)[L.length + 1]? = some y := by
 rw [List.getElem?_append_right (by omega), Nat.add_sub_cancel_left]
 rfl
theorem set0 {α : Type} (L : List α) (x y : α) (M : List α) : (L ++ x :: M).set L.length y = L ++ y :: M := by
 rw [List.set_append_right _ _ (Nat.le_refl _), Nat.sub_self]
 rfl
theorem set1 {α : Type} (L : List α) (x y z : α) (M : List α) : (L ++ x :: y :: M).set (L.length + 1) z = L ++ x :: z :: M := by
 rw [List.set_append_right _ _ (by omega), Nat.add_sub_cancel_left]
 rfl
theorem at_i {α : Type} {D L M : List α} {x : α} {i : Nat} (h : D = L ++ x :: M) (hi : L.length = i) : D[i]? = some x := by subst h hi; exact at0 ..
theorem Qyh {N : Nat} {a b : GPiece} (ha : -1000000 ≤ a.Part.Gain ∧ a.Part.Gain ≤ 1000000) (hb : -1000000 ≤ b.Part.Gain ∧ b.Part.Gain ≤ 1000000) : Qbs N a b = some (keyP a - keyP b) := by
 unfold Qbs Qex keyP
 simp only [Option.bind_some]
 rw [Qa6 (by omega) (by omega)]
 congr 1
 omega
theorem half (x y : Nat) (h : x + y ≤ 1000000) : w64 ((IntKind.wrap .u64 (w64 ((x : Int) + (y : Int)))) / 2) = (((x + y) / 2 : Nat) : Int) := by
 have e1 : w64 ((x : Int) + (y : Int)) = ((x + y : Nat) : Int) := by rw [Qa6 (by omega) (by omega)]; omega
 have e2 : IntKind.wrap .u64 ((x + y : Nat) : Int) = ((x + y : Nat) : Int) := by
  rw [IntKind.wrap_u64]
  omega
 rw [e1, e2, Qa6 (by omega) (by omega)]
 omega
section
variable {N len : Nat}
theorem ins_inner (a : Nat) (K : List GPiece → Option (List GPiece)) (x : GPiece) (A R : List GPiece) (hA : A.length = a) (hlen : len ≤ 1000) (hx : -1000000 ≤ x.Part.Gain ∧ x.Part.Gain ≤ 1000000) : ∀ (n : Nat) (P Q : List GPiece), P.length < n → Qg7 P → (∀ q ∈ Q, keyP x < keyP q) → A.length + P.length + 1 + Q.length + R.length = len →
  ∃ P1 P2, P = P1 ++ P2 ∧ (∀ y, P1.getLast? = some y → keyP y ≤ keyP x) ∧ (∀ q ∈ P2 ++ Q, keyP x < keyP q) ∧
  Qa1 N len a K n ((A.length + P.length : Nat) : Int) (A ++ P ++ x :: (Q ++ R)) = K (A ++ P1 ++ x :: (P2 ++ Q ++ R)) := by
 intro n
 induction n with
 | zero => intro P _ h; exact absurd h (Nat.not_lt_zero _)
 | succ n ih =>
  intro P Q hn hP hQ hl
  rw [Qa1]
  simp only [Qbr]
  rcases List.eq_nil_or_concat P with rfl | ⟨P', y, rfl⟩
  ·refine ⟨[], [], rfl, fun y h => by simp at h, by simpa using hQ, ?_⟩
   rw [show decide (((A.length + [].length : Nat) : Int) > (a : Int)) = false from decide_eq_false (by simp; omega)]
   simp
  ·rw [List.concat_eq_append] at *
   have hl' : (P' ++ [y]).length = P'.length + 1 := by simp
   rw [hl'] at hn hl
   have e0 : ((A.length + (P' ++ [y]).length : Nat) : Int) = (((A ++ P').length + 1 : Nat) : Int) := by simp; omega
   have e1 : w64 ((((A ++ P').length + 1 : Nat) : Int) - 1) = (((A ++ P').length : Nat) : Int) := by
    rw [Qa6 (by simp; omega) (by simp; omega)]; omega
   have eD : A ++ (P' ++ [y]) ++ x :: (Q ++ R) = (A ++ P') ++ y :: x :: (Q ++ R) := by simp
   have hAP : (A ++ P').length = A.length + P'.length := by simp
   rw [e0, eD, show decide ((((A ++ P').length + 1 : Nat) : Int) > (a : Int)) = true from decide_eq_true (by omega), e1]
   have d1 : decide (0 ≤ (((A ++ P').length + 1 : Nat) : Int)) = true := decide_eq_true (by omega)
   have d2 : decide ((A ++ P').length + 1 < len) = true := decide_eq_true (by omega)
   have d3 : decide (0 ≤ (((A ++ P').length : Nat) : Int)) = true := decide_eq_true (by omega)
   have d4 : decide ((A ++ P').length < len) = true := decide_eq_true (by omega)
   have hy := hP y (by simp)
   simp only [cond_true, chk, Int.toNat_natCast, d1, d2, d3, d4, Bool.and_self, at0, at1, Option.bind_some, Qwi, Qyh hx hy, set0, set1]
   by_cases hxy : keyP x < keyP y
   ·rw [show decide (keyP x - keyP y < 0) = true from decide_eq_true (by omega), cond_true]
    obtain ⟨P1, P2, h1, h2, h3, h4⟩ := ih P' (y :: Q) (by omega) (fun z hz => hP z (by simp [hz])) (fun q hq => by
     rcases List.mem_cons.1 hq with rfl | hq
     ·exact hxy
     ·exact hQ q hq) (by simp; omega)
    refine ⟨P1, P2 ++ [y], by rw [h1]; simp, h2, by simpa using h3, ?_⟩
    have := h4
    rw [← hAP] at this
    simp only [List.append_assoc, List.cons_append, List.nil_append] at this ⊢
    exact this
   ·rw [show decide (keyP x - keyP y < 0) = false from decide_eq_false (by omega), cond_false]
    refine ⟨P' ++ [y], [], by simp, fun z hz => ?_, by simpa using hQ, by simp⟩
    rw [List.getLast?_concat] at hz
    cases hz
    omega
theorem srt_ins {P1 P2 : List GPiece} {x : GPiece} (h : Srt (P1 ++ P2)) (h1 : ∀ y, P1.getLast? = some y → keyP y ≤ keyP x) (h2 : ∀ q ∈ P2, keyP x < keyP q) : Stb (P1 ++ P2 ++ [x]) (P1 ++ x :: P2) := by
 have hp := h
 unfold Srt at hp
 rw [List.pairwise_append] at hp
 have hall : ∀ y ∈ P1, keyP y ≤ keyP x := by
  rcases List.eq_nil_or_concat P1 with rfl | ⟨Q, z, rfl⟩
  ·intro y hy; cases hy
  ·rw [List.concat_eq_append] at *
   have hz := h1 z (by simp)
   intro y hy
   rcases List.mem_append.1 hy with a | a
   ·have := hp.1
    rw [List.pairwise_append] at this
    exact Int.le_trans (this.2.2 y a z (by simp)) hz
   ·rw [List.mem_singleton] at a
    subst a
    exact hz
 refine ⟨?_, fun k => ?_⟩
 ·unfold Srt
  rw [List.pairwise_append, List.pairwise_cons]
  refine ⟨hp.1, ⟨fun q hq => Int.le_of_lt (h2 q hq), hp.2.1⟩, fun y hy q hq => ?_⟩
  rcases List.mem_cons.1 hq with rfl | hq
  ·exact hall y hy
  ·exact hp.2.2 y hy q hq
 ·rw [show P1 ++ x :: P2 = P1 ++ ([x] ++ P2) from rfl, Qf0, Qf0, Qf0, Qf0, List.append_assoc]
  congr 1
  by_cases e : keyP x = k
  ·have : flt k P2 = [] := Qn2 fun q hq he => by have := h2 q hq; omega
   rw [this]
   simp
  ·have : flt k [x] = [] := Qn2 fun q hq he => by rw [List.mem_singleton] at hq; subst hq; exact e he
   rw [this]
   simp
theorem ins_outer (a b : Nat) (A B : List GPiece) (hA : A.length = a) (hlen : len ≤ 1000) (hN : len < N) : ∀ (n : Nat) (P S : List GPiece), S.length < n → Srt P → Qg7 P → Qg7 S → 1 ≤ P.length → A.length + P.length + S.length = b → b + B.length = len →
  ∃ Z, Stb (P ++ S) Z ∧ Qas N len a b n ((A.length + P.length : Nat) : Int) (A ++ P ++ (S ++ B)) = some (A ++ Z ++ B) := by
 intro n
 induction n with
 | zero => intro P S h; exact absurd h (Nat.not_lt_zero _)
 | succ n ih =>
  intro P S hn hP sP sS h1 hb hl
  rw [Qas]
  cases S with
  | nil =>
   refine ⟨P, by simpa using Qie hP, ?_⟩
   rw [show decide (((A.length + P.length : Nat) : Int) < (b : Int)) = false from decide_eq_false (by simp at hb; omega)]
   simp
  | cons x S =>
   simp only [List.length_cons] at hn hb
   rw [show decide (((A.length + P.length : Nat) : Int) < (b : Int)) = true from decide_eq_true (by omega), cond_true]
   simp only [Qbr]
   obtain ⟨P1, P2, e1, e2, e3, e4⟩ := ins_inner (N := N) (len := len) a (fun y8 => Qas N len a b n (w64 (((A.length + P.length : Nat) : Int) + 1)) y8) x A (S ++ B) hA hlen (sS x (by simp)) N P [] (by omega) sP (by simp) (by simp; omega)
   simp only [List.append_nil, List.nil_append] at e3 e4
   have hst := srt_ins (x := x) (e1 ▸ hP) e2 e3
   obtain ⟨Z, z1, z2⟩ := ih (P1 ++ x :: P2) S (by omega) hst.srt (Stb.small hst.eqf (fun z hz => by
    rcases List.mem_append.1 hz with h | h
    ·exact sP z (e1 ▸ h)
    ·rw [List.mem_singleton] at h; subst h; exact sS z (by simp))) (fun z hz => sS z (by simp [hz])) (by simp; omega) (by rw [e1] at hb; simp at hb ⊢; omega) hl
   refine ⟨Z, ⟨z1.srt, fun k => ?_⟩, ?_⟩
   ·rw [z1.eqf, Qf0, hst.eqf, ← Qf0, e1]
    simp
   ·have e5 : w64 (((A.length + P.length : Nat) : Int) + 1) = ((A.length + (P1 ++ x :: P2).length : Nat) : Int) := by
     rw [Qa6 (by omega) (by omega), e1]
     simp
     omega
    rw [e5] at e4
    have := z2
    simp only [List.append_assoc, List.cons_append] at this e4 ⊢
    rw [e5, e4, this]
theorem ins_eq (a b : Nat) (A S B : List GPiece) (hA : A.length = a) (hlen : len ≤ 1000) (hN : len < N) (hS : Qg7 S) (hb : a + S.length = b) (hl : b + B.length = len) : ∃ Z, Stb S Z ∧ Qbb N len a b (A ++ S ++ B) = some (A ++ Z ++ B) := by
 unfold Qbb
 have e1 : w64 ((a : Int) + 1) = ((a + 1 : Nat) : Int) := Qa6 (by omega) (by omega)
 rw [e1]
 cases S with
 | nil =>
  refine ⟨[], Qie Qr9, ?_⟩
  cases N with
  | zero => omega
  | succ n =>
   rw [Qas, show decide (((a + 1 : Nat) : Int) < (b : Int)) = false from decide_eq_false (by simp at hb; omega)]
   rfl
 | cons x S =>
  obtain ⟨Z, h1, h2⟩ := ins_outer (N := N) (len := len) a b A B hA hlen hN N [x] S (by simp at hb; omega) (List.pairwise_singleton ..) (fun z hz => hS z (by rw [List.mem_singleton] at hz; subst hz; simp)) (fun z hz => hS z (by simp [hz])) (by simp) (by simp at hb ⊢; omega) hl
  refine ⟨Z, h1, ?_⟩
  rw [hA] at h2
  simpa using h2
theorem swp_loop (a b c : Nat) (hlen : len ≤ 1000) (B : List GPiece) : ∀ (n i : Nat) (X Y A M : List GPiece), X.length < n → X.length = Y.length → A.length = a + i → A.length + X.length + M.length = b + i → i + X.length = c → A.length + X.length + M.length + Y.length + B.length = len →
  Qa8 N len a b c n i (A ++ X ++ M ++ Y ++ B) = some (A ++ Y ++ M ++ X ++ B) := by
 intro n
 induction n with
 | zero => intro i X Y A M h; exact absurd h (Nat.not_lt_zero _)
 | succ n ih =>
  intro i X Y A M hn hxy ha hb hc hl
  rw [Qa8]
  cases X with
  | nil =>
   cases Y with
   | cons _ _ => simp at hxy
   | nil =>
    rw [show decide ((i : Int) < (c : Int)) = false from decide_eq_false (by simp at hc; omega)]
    rfl
  | cons x X =>
   cases Y with
   | nil => simp at hxy
   | cons y Y =>
    simp only [List.length_cons] at hn hxy hb hc hl
    have e1 : w64 ((b : Int) + (i : Int)) = ((b + i : Nat) : Int) := Qa6 (by omega) (by omega)
    have e2 : w64 ((a : Int) + (i : Int)) = ((a + i : Nat) : Int) := Qa6 (by omega) (by omega)
    have e3 : w64 ((i : Int) + 1) = ((i + 1 : Nat) : Int) := Qa6 (by omega) (by omega)
    have d1 : decide (0 ≤ ((b + i : Nat) : Int)) = true := decide_eq_true (by omega)
    have d2 : decide (b + i < len) = true := decide_eq_true (by omega)
    have d3 : decide (0 ≤ ((a + i : Nat) : Int)) = true := decide_eq_true (by omega)
    have d4 : decide (a + i < len) = true := decide_eq_true (by omega)
    have g1 : (A ++ x :: X ++ M ++ y :: Y ++ B)[b + i]? = some y := at_i (L := A ++ x :: X ++ M) (M := Y ++ B) (by simp) (by simp; omega)
    have g2 : (A ++ x :: X ++ M ++ y :: Y ++ B)[a + i]? = some x := at_i (L := A) (M := X ++ M ++ y :: Y ++ B) (by simp) ha
    have g3 : (A ++ x :: X ++ M ++ y :: Y ++ B).set (a + i) y = A ++ y :: X ++ M ++ y :: Y ++ B := by
     rw [← ha]
     simp [set0]
    have g4 : (A ++ y :: X ++ M ++ y :: Y ++ B)[b + i]? = some y := at_i (L := A ++ y :: X ++ M) (M := Y ++ B) (by simp) (by simp; omega)
    have g5 : (A ++ y :: X ++ M ++ y :: Y ++ B).set (b + i) x = (A ++ [y]) ++ X ++ (M ++ [x]) ++ Y ++ B := by
     have hh : b + i = (A ++ y :: X ++ M).length := by simp; omega
     rw [hh]
     have := set0 (A ++ y :: X ++ M) y x (Y ++ B)
     simp only [List.append_assoc, List.cons_append, List.nil_append] at this ⊢
     exact this
    rw [show decide ((i : Int) < (c : Int)) = true from decide_eq_true (by omega)]
    simp only [cond_true, e1, e2, e3, chk, d1, d2, d3, d4, Bool.and_self, Int.toNat_natCast, g1, g2, Option.bind_some, Qwi, g3, g4, g5]
    rw [ih (i + 1) X Y (A ++ [y]) (M ++ [x]) (by omega) (by omega) (by simp; omega) (by simp; omega) (by omega) (by simp; omega)]
    simp
theorem swp_eq (a b c : Nat) (hlen : len ≤ 1000) (hN : len < N) (A X M Y B : List GPiece) (hxy : X.length = Y.length) (ha : A.length = a) (hb : a + X.length + M.length = b) (hc : X.length = c) (hl : A.length + X.length + M.length + Y.length + B.length = len) :
  Qbi N len a b c (A ++ X ++ M ++ Y ++ B) = some (A ++ Y ++ M ++ X ++ B) :=
 swp_loop a b c hlen B N 0 X Y A M (by omega) hxy (by omega) (by omega) (by omega) hl
theorem rot_loop (m : Nat) (hlen : len ≤ 1000) (hN : len < N) : ∀ (n : Nat) (A X Y B : List GPiece), X.length + Y.length < n → 0 < X.length → 0 < Y.length → A.length + X.length = m → A.length + X.length + Y.length + B.length = len →
  Qa7 N len m (fun ⟨y2, y3⟩ => (Qbi N len (w64 ((m : Int) - y2)) m y2 y3).bind fun x6 => some x6) n (X.length : Int) (Y.length : Int) (A ++ X ++ Y ++ B) = some (A ++ Y ++ X ++ B) := by
 intro n
 induction n with
 | zero => intro A X Y B h; exact absurd h (Nat.not_lt_zero _)
 | succ n ih =>
  intro A X Y B hn hx hy hm hl
  rw [Qa7]
  have e1 : w64 ((m : Int) - (X.length : Int)) = (A.length : Int) := by rw [Qa6 (by omega) (by omega)]; omega
  by_cases he : X.length = Y.length
  ·rw [show ((X.length : Int) != (Y.length : Int)) = false from by simp [he]]
   simp only [cond_false, e1]
   have := swp_eq (N := N) (len := len) A.length m X.length hlen hN A X [] Y B he rfl (by simp; omega) rfl (by simp; omega)
   simp only [List.append_nil] at this
   rw [this]
   rfl
  ·rw [show ((X.length : Int) != (Y.length : Int)) = true from by simp; omega]
   simp only [cond_true]
   by_cases hgt : Y.length < X.length
   ·rw [show decide ((X.length : Int) > (Y.length : Int)) = true from decide_eq_true (by omega), cond_true, e1]
    obtain ⟨X1, X2, hX, hX1⟩ : ∃ X1 X2, X = X1 ++ X2 ∧ X1.length = Y.length := ⟨X.take Y.length, X.drop Y.length, (List.take_append_drop ..).symm, by simp; omega⟩
    subst hX
    simp only [List.length_append] at hn hx hm hl hgt he e1 ⊢
    have := swp_eq (N := N) (len := len) A.length m Y.length hlen hN A X1 X2 Y B hX1 rfl (by omega) hX1 (by omega)
    rw [← List.append_assoc A X1 X2, this]
    simp only [Option.bind_some]
    have e2 : w64 (((X1.length + X2.length : Nat) : Int) - (Y.length : Int)) = (X2.length : Int) := by rw [Qa6 (by omega) (by omega)]; omega
    have ih' := ih (A ++ Y) X2 X1 B (by omega) (by omega) (by omega) (by simp; omega) (by simp; omega)
    rw [e2]
    rw [hX1] at ih'
    rw [ih']
    simp
   ·rw [show decide ((X.length : Int) > (Y.length : Int)) = false from decide_eq_false (by omega), cond_false, e1]
    obtain ⟨Y1, Y2, hY, hY2⟩ : ∃ Y1 Y2, Y = Y1 ++ Y2 ∧ Y2.length = X.length := ⟨Y.take (Y.length - X.length), Y.drop (Y.length - X.length), (List.take_append_drop ..).symm, by simp; omega⟩
    subst hY
    simp only [List.length_append] at hn hy hl hgt he ⊢
    have e2 : w64 (w64 ((m : Int) + ((Y1.length + Y2.length : Nat) : Int)) - (X.length : Int)) = ((m + Y1.length : Nat) : Int) := by
     rw [Qa6 (x := (m : Int) + ((Y1.length + Y2.length : Nat) : Int)) (by omega) (by omega), Qa6 (by omega) (by omega)]; omega
    have := swp_eq (N := N) (len := len) A.length (m + Y1.length) X.length hlen hN A X Y1 Y2 B hY2.symm rfl (by omega) rfl (by omega)
    rw [e2, ← List.append_assoc (A ++ X) Y1 Y2, this]
    simp only [Option.bind_some]
    have e3 : w64 (((Y1.length + Y2.length : Nat) : Int) - (X.length : Int)) = (Y1.length : Int) := by rw [Qa6 (by omega) (by omega)]; omega
    have ih' := ih A Y2 Y1 (X ++ B) (by omega) (by omega) (by omega) (by omega) (by simp; omega)
    rw [e3]
    rw [hY2] at ih'
    rw [show A ++ Y2 ++ Y1 ++ X ++ B = A ++ Y2 ++ Y1 ++ (X ++ B) from by simp, ih']
    simp
theorem rot_eq (a m b : Nat) (hlen : len ≤ 1000) (hN : len < N) (A X Y B : List GPiece) (hx : 0 < X.length) (hy : 0 < Y.length) (ha : A.length = a) (hm : a + X.length = m) (hb : m + Y.length = b) (hl : b + B.length = len) :
  Qbx N len a m b (A ++ X ++ Y ++ B) = some (A ++ Y ++ X ++ B) := by
 unfold Qbx
 have e1 : w64 ((m : Int) - (a : Int)) = (X.length : Int) := by rw [Qa6 (by omega) (by omega)]; omega
 have e2 : w64 ((b : Int) - (m : Int)) = (Y.length : Int) := by rw [Qa6 (by omega) (by omega)]; omega
 simp only [Qbr, e1, e2]
 exact rot_loop m hlen hN N A X Y B (by omega) hx hy (by omega) (by omega)
end
end Go.Proofs.Ytlhakkkjgdbdpaa
