/-
  Plain laws of Go's stable sort (blocks by insertion, merged by rotations): what comes out is in order, and what is equal stays in order. No conditions.
-/
import Derived.Test.YtgdepcgbjjgnfaaPTownV
namespace Go.Proofs.Ytgdepcgbjjgnfaa
open Go.RowKit
variable {t : List GNode}
def keyP (t : List GNode) (x : Int) : Int := match t[x.toNat]? with | some n => n.Rank | none => 0
def OkI (t : List GNode) (x : Int) : Prop := 0 ≤ x ∧ ∃ n, t[x.toNat]? = some n ∧ 0 ≤ n.Rank ∧ n.Rank ≤ 100
def Srt (t : List GNode) (l : List Int) : Prop := l.Pairwise fun a b => keyP t a ≤ keyP t b
def flt (t : List GNode) (k : Int) (l : List Int) : List Int := l.filter fun a => decide (keyP t a = k)
def Qfo (t : List GNode) (l : List Int) : Prop := ∀ x ∈ l, OkI t x
theorem Qep (k : Int) (l r : List Int) : flt t k (l ++ r) = flt t k l ++ flt t k r := List.filter_append ..
theorem Qkg {k : Int} {l : List Int} (h : ∀ x ∈ l, keyP t x ≠ k) : flt t k l = [] := by
 unfold flt
 rw [List.filter_eq_nil_iff]
 intro x hx
 simpa using h x hx
theorem Qf4 {k : Int} {l : List Int} {x : Int} (h : x ∈ flt t k l) : x ∈ l ∧ keyP t x = k := by
 unfold flt at h
 simpa using h
theorem Qjr {l : List Int} {x : Int} (h : x ∈ l) : x ∈ flt t (keyP t x) l := by
 unfold flt
 simp [h]
structure Stb (t : List GNode) (xs ys : List Int) : Prop where
 srt : Srt t ys
 eqf : ∀ k, flt t k ys = flt t k xs
theorem Stb.mem {xs ys : List Int} (h : ∀ k, flt t k ys = flt t k xs) {x : Int} : x ∈ ys ↔ x ∈ xs :=
 ⟨fun hx => (Qf4 (h (keyP t x) ▸ Qjr hx)).1, fun hx => (Qf4 ((h (keyP t x)).symm ▸ Qjr hx)).1⟩
theorem Qwe : ∀ (l : List Int) (x : Int), l.count x = (flt t (keyP t x) l).count x := fun l x => by
 unfold flt
 rw [List.count_filter]
 simp
theorem Stb.perm {xs ys : List Int} (h : ∀ k, flt t k ys = flt t k xs) : ys.Perm xs := by
 rw [List.perm_iff_count]
 intro x
 rw [Qwe ys, Qwe xs, h]
theorem Stb.len {xs ys : List Int} (h : ∀ k, flt t k ys = flt t k xs) : ys.length = xs.length := (Stb.perm h).length_eq
theorem Stb.small {xs ys : List Int} (h : ∀ k, flt t k ys = flt t k xs) (hs : Qfo t xs) : Qfo t ys := fun x hx => hs x ((Stb.mem h).1 hx)
theorem Qnv {L1 L2 R1 R2 Z1 Z2 : List Int} (hL : Srt t (L1 ++ L2)) (hR : Srt t (R1 ++ R2)) (h1 : ∀ x ∈ L1, ∀ y ∈ R2, keyP t x ≤ keyP t y) (h2 : ∀ x ∈ R1, ∀ y ∈ L2, keyP t x < keyP t y) (z1 : Stb t (L1 ++ R1) Z1) (z2 : Stb t (L2 ++ R2) Z2) :
  Stb t ((L1 ++ L2) ++ (R1 ++ R2)) (Z1 ++ Z2) := by
 unfold Srt at hL hR
 rw [List.pairwise_append] at hL hR
 refine ⟨?_, fun k => ?_⟩
 ·unfold Srt
  rw [List.pairwise_append]
  refine ⟨z1.srt, z2.srt, fun x hx y hy => ?_⟩
  have hx' := (Stb.mem z1.eqf).1 hx
  have hy' := (Stb.mem z2.eqf).1 hy
  rcases List.mem_append.1 hx' with a | a <;> rcases List.mem_append.1 hy' with b | b
  ·exact hL.2.2 x a y b
  ·exact h1 x a y b
  ·exact Int.le_of_lt (h2 x a y b)
  ·exact hR.2.2 x a y b
 ·rw [Qep, z1.eqf, z2.eqf, Qep, Qep, Qep, Qep, Qep]
  have key : flt t k R1 ++ flt t k L2 = flt t k L2 ++ flt t k R1 := by
   cases h : flt t k R1 with
   | nil => simp
   | cons x l =>
    have hx : x ∈ flt t k R1 := by rw [h]; exact List.mem_cons_self ..
    have hn : flt t k L2 = [] := Qkg fun y hy e => by
     have := h2 x (Qf4 hx).1 y hy
     rw [(Qf4 hx).2, e] at this
     exact absurd this (Int.lt_irrefl _)
    rw [hn]
    simp
  rw [List.append_assoc, List.append_assoc, ← List.append_assoc (flt t k R1), key]
  simp
theorem Qf9 {l : List Int} (h : Srt t l) : Stb t l l := ⟨h, fun _ => rfl⟩
theorem Qvk : Srt t [] := List.Pairwise.nil
theorem at0 {α : Type} (L : List α) (x : α) (M : List α) : (L ++ x :: M)[L.length]? = some x := by
 rw [List.getElem?_append_right (Nat.le_refl _), Nat.sub_self]
 rfl
theorem at1 {α : Type} (L : List α) (x y : α) (M : List α) : (L ++ x :: y :: M)[L.length + 1]? = some y := by
 rw [List.getElem?_append_right (by omega), Nat.add_sub_cancel_left]
 rfl
theorem set0 {α : Type} (L : List α) (x y : α) (M : List α) : (L ++ x :: M).set L.length y = L ++ y :: M := by
 rw [List.set_append_right _ _ (Nat.le_refl _), Nat.sub_self]
 rfl
theorem set1 {α : Type} (L : List α) (x y z : α) (M : List α) : (L ++ x :: y :: M).set (L.length + 1) z = L ++ x :: z :: M := by
 rw [List.set_append_right _ _ (by omega), Nat.add_sub_cancel_left]
 rfl
theorem at_i {α : Type} {D L M : List α} {x : α} {i : Nat} (h : D = L ++ x :: M) (hi : L.length = i) : D[i]? = some x := by subst h hi; exact at0 ..
theorem rank_eq (N : Nat) (x : GNode) : Qfs N x = some x.Rank := rfl
theorem Qs9 {N : Nat} {a b : Int} (ha : OkI t a) (hb : OkI t b) : Qbo N a b t = some (keyP t a - keyP t b) := by
 obtain ⟨a0, n, a1, a2, a3⟩ := ha
 obtain ⟨b0, m, b1, b2, b3⟩ := hb
 unfold Qbo keyP getI
 rw [if_pos a0, if_pos b0, a1, b1]
 simp only [Option.bind_some, rank_eq]
 rw [Qb2 (by omega) (by omega)]
theorem half (x y : Nat) (h : x + y ≤ 1000000) : w64 ((IntKind.wrap .u64 (w64 ((x : Int) + (y : Int)))) / 2) = (((x + y) / 2 : Nat) : Int) := by
 have e1 : w64 ((x : Int) + (y : Int)) = ((x + y : Nat) : Int) := by rw [Qb2 (by omega) (by omega)]; omega
 have e2 : IntKind.wrap .u64 ((x + y : Nat) : Int) = ((x + y : Nat) : Int) := by
  rw [IntKind.wrap_u64]
  omega
 rw [e1, e2, Qb2 (by omega) (by omega)]
 omega
section
variable {N len : Nat}
theorem Qv7 (a : Nat) (K : List Int → Option (List Int)) (x : Int) (A R : List Int) (hA : A.length = a) (hlen : len ≤ 1000) (hx : OkI t x) : ∀ (n : Nat) (P Q : List Int), P.length < n → Qfo t P → (∀ q ∈ Q, keyP t x < keyP t q) → A.length + P.length + 1 + Q.length + R.length = len →
  ∃ P1 P2, P = P1 ++ P2 ∧ (∀ y, P1.getLast? = some y → keyP t y ≤ keyP t x) ∧ (∀ q ∈ P2 ++ Q, keyP t x < keyP t q) ∧
  Qa0 N len a t K n ((A.length + P.length : Nat) : Int) (A ++ P ++ x :: (Q ++ R)) = K (A ++ P1 ++ x :: (P2 ++ Q ++ R)) := by
 intro n
 induction n with
 | zero => intro P _ h; exact absurd h (Nat.not_lt_zero _)
 | succ n ih =>
  intro P Q hn hP hQ hl
  rw [Qa0]
  simp only [Qck]
  rcases List.eq_nil_or_concat P with rfl | ⟨P', y, rfl⟩
  ·refine ⟨[], [], rfl, fun y h => by simp at h, by simpa using hQ, ?_⟩
   rw [show decide (((A.length + [].length : Nat) : Int) > (a : Int)) = false from decide_eq_false (by simp; omega)]
   simp
  ·rw [List.concat_eq_append] at *
   have hl' : (P' ++ [y]).length = P'.length + 1 := by simp
   rw [hl'] at hn hl
   have e0 : ((A.length + (P' ++ [y]).length : Nat) : Int) = (((A ++ P').length + 1 : Nat) : Int) := by simp; omega
   have e1 : w64 ((((A ++ P').length + 1 : Nat) : Int) - 1) = (((A ++ P').length : Nat) : Int) := by
    rw [Qb2 (by simp; omega) (by simp; omega)]; omega
   have eD : A ++ (P' ++ [y]) ++ x :: (Q ++ R) = (A ++ P') ++ y :: x :: (Q ++ R) := by simp
   have hAP : (A ++ P').length = A.length + P'.length := by simp
   rw [e0, eD, show decide ((((A ++ P').length + 1 : Nat) : Int) > (a : Int)) = true from decide_eq_true (by omega), e1]
   have d1 : decide (0 ≤ (((A ++ P').length + 1 : Nat) : Int)) = true := decide_eq_true (by omega)
   have d2 : decide ((A ++ P').length + 1 < len) = true := decide_eq_true (by omega)
   have d3 : decide (0 ≤ (((A ++ P').length : Nat) : Int)) = true := decide_eq_true (by omega)
   have d4 : decide ((A ++ P').length < len) = true := decide_eq_true (by omega)
   have hy := hP y (by simp)
   simp only [cond_true, chk, Int.toNat_natCast, d1, d2, d3, d4, Bool.and_self, at0, at1, Option.bind_some, Qs9 hx hy, set0, set1]
   by_cases hxy : keyP t x < keyP t y
   ·rw [show decide (keyP t x - keyP t y < 0) = true from decide_eq_true (by omega), cond_true]
    obtain ⟨P1, P2, h1, h2, h3, h4⟩ := ih P' (y :: Q) (by omega) (fun z hz => hP z (by simp [hz])) (fun q hq => by
     rcases List.mem_cons.1 hq with rfl | hq
     ·exact hxy
     ·exact hQ q hq) (by simp; omega)
    refine ⟨P1, P2 ++ [y], by rw [h1]; simp, h2, by simpa using h3, ?_⟩
    have := h4
    rw [← hAP] at this
    simp only [List.append_assoc, List.cons_append, List.nil_append] at this ⊢
    exact this
   ·rw [show decide (keyP t x - keyP t y < 0) = false from decide_eq_false (by omega), cond_false]
    refine ⟨P' ++ [y], [], by simp, fun z hz => ?_, by simpa using hQ, by simp⟩
    rw [List.getLast?_concat] at hz
    cases hz
    omega
theorem srt_ins {P1 P2 : List Int} {x : Int} (h : Srt t (P1 ++ P2)) (h1 : ∀ y, P1.getLast? = some y → keyP t y ≤ keyP t x) (h2 : ∀ q ∈ P2, keyP t x < keyP t q) : Stb t (P1 ++ P2 ++ [x]) (P1 ++ x :: P2) := by
 have hp := h
 unfold Srt at hp
 rw [List.pairwise_append] at hp
 have hall : ∀ y ∈ P1, keyP t y ≤ keyP t x := by
  rcases List.eq_nil_or_concat P1 with rfl | ⟨Q, z, rfl⟩
  ·intro y hy; cases hy
  ·rw [List.concat_eq_append] at *
   have hz := h1 z (by simp)
   intro y hy
   rcases List.mem_append.1 hy with a | a
   ·have := hp.1
    rw [List.pairwise_append] at this
    exact Int.le_trans (this.2.2 y a z (by simp)) hz
   ·rw [List.mem_singleton] at a
    subst a
    exact hz
 refine ⟨?_, fun k => ?_⟩
 ·unfold Srt
  rw [List.pairwise_append, List.pairwise_cons]
  refine ⟨hp.1, ⟨fun q hq => Int.le_of_lt (h2 q hq), hp.2.1⟩, fun y hy q hq => ?_⟩
  rcases List.mem_cons.1 hq with rfl | hq
  ·exact hall y hy
  ·exact hp.2.2 y hy q hq
 ·rw [show P1 ++ x :: P2 = P1 ++ ([x] ++ P2) from rfl, Qep, Qep, Qep, Qep, List.append_assoc]
  congr 1
  by_cases e : keyP t x = k
  ·have : flt t k P2 = [] := Qkg fun q hq he => by have := h2 q hq; omega
   rw [this]
   simp
  ·have : flt t k [x] = [] := Qkg fun q hq he => by rw [List.mem_singleton] at hq; subst hq; exact e he
   rw [this]
   simp
theorem Qv6 (a b : Nat) (A B : List Int) (hA : A.length = a) (hlen : len ≤ 1000) (hN : len < N) : ∀ (n : Nat) (P S : List Int), S.length < n → Srt t P → Qfo t P → Qfo t S → 1 ≤ P.length → A.length + P.length + S.length = b → b + B.length = len →
  ∃ Z, Stb t (P ++ S) Z ∧ Qaq N len a b t n ((A.length + P.length : Nat) : Int) (A ++ P ++ (S ++ B)) = some (A ++ Z ++ B) := by
 intro n
 induction n with
 | zero => intro P S h; exact absurd h (Nat.not_lt_zero _)
 | succ n ih =>
  intro P S hn hP sP sS h1 hb hl
  rw [Qaq]
  cases S with
  | nil =>
   refine ⟨P, by simpa using Qf9 hP, ?_⟩
   rw [show decide (((A.length + P.length : Nat) : Int) < (b : Int)) = false from decide_eq_false (by simp at hb; omega)]
   simp
  | cons x S =>
   simp only [List.length_cons] at hn hb
   rw [show decide (((A.length + P.length : Nat) : Int) < (b : Int)) = true from decide_eq_true (by omega), cond_true]
   simp only [Qck]
   obtain ⟨P1, P2, e1, e2, e3, e4⟩ := Qv7 (N := N) (len := len) a (fun y8 => Qaq N len a b t n (w64 (((A.length + P.length : Nat) : Int) + 1)) y8) x A (S ++ B) hA hlen (sS x (by simp)) N P [] (by omega) sP (by simp) (by simp; omega)
   simp only [List.append_nil, List.nil_append] at e3 e4
   have hst := srt_ins (x := x) (e1 ▸ hP) e2 e3
   obtain ⟨Z, z1, z2⟩ := ih (P1 ++ x :: P2) S (by omega) hst.srt (Stb.small hst.eqf (fun z hz => by
    rcases List.mem_append.1 hz with h | h
    ·exact sP z (e1 ▸ h)
    ·rw [List.mem_singleton] at h; subst h; exact sS z (by simp))) (fun z hz => sS z (by simp [hz])) (by simp; omega) (by rw [e1] at hb; simp at hb ⊢; omega) hl
   refine ⟨Z, ⟨z1.srt, fun k => ?_⟩, ?_⟩
   ·rw [z1.eqf, Qep, hst.eqf, ← Qep, e1]
    simp
   ·have e5 : w64 (((A.length + P.length : Nat) : Int) + 1) = ((A.length + (P1 ++ x :: P2).length : Nat) : Int) := by
     rw [Qb2 (by omega) (by omega), e1]
     simp
     omega
    rw [e5] at e4
    have := z2
    simp only [List.append_assoc, List.cons_append] at this e4 ⊢
    rw [e5, e4, this]
theorem ins_eq (a b : Nat) (A S B : List Int) (hA : A.length = a) (hlen : len ≤ 1000) (hN : len < N) (hS : Qfo t S) (hb : a + S.length = b) (hl : b + B.length = len) : ∃ Z, Stb t S Z ∧ Qba N len a b (A ++ S ++ B) t = some (A ++ Z ++ B) := by
 unfold Qba
 have e1 : w64 ((a : Int) + 1) = ((a + 1 : Nat) : Int) := Qb2 (by omega) (by omega)
 rw [e1]
 cases S with
 | nil =>
  refine ⟨[], Qf9 Qvk, ?_⟩
  cases N with
  | zero => omega
  | succ n =>
   rw [Qaq, show decide (((a + 1 : Nat) : Int) < (b : Int)) = false from decide_eq_false (by simp at hb; omega)]
   rfl
 | cons x S =>
  obtain ⟨Z, h1, h2⟩ := Qv6 (N := N) (len := len) a b A B hA hlen hN N [x] S (by simp at hb; omega) (List.pairwise_singleton ..) (fun z hz => hS z (by rw [List.mem_singleton] at hz; subst hz; simp)) (fun z hz => hS z (by simp [hz])) (by simp) (by simp at hb ⊢; omega) hl
  refine ⟨Z, h1, ?_⟩
  rw [hA] at h2
  simpa using h2
theorem Qx2 (a b c : Nat) (hlen : len ≤ 1000) (B : List Int) : ∀ (n i : Nat) (X Y A M : List Int), X.length < n → X.length = Y.length → A.length = a + i → A.length + X.length + M.length = b + i → i + X.length = c → A.length + X.length + M.length + Y.length + B.length = len →
  Qa5 N len a b c n i (A ++ X ++ M ++ Y ++ B) = some (A ++ Y ++ M ++ X ++ B) := by
 intro n
 induction n with
 | zero => intro i X Y A M h; exact absurd h (Nat.not_lt_zero _)
 | succ n ih =>
  intro i X Y A M hn hxy ha hb hc hl
  rw [Qa5]
  cases X with
  | nil =>
   cases Y with
   | cons _ _ => simp at hxy
   | nil =>
    rw [show decide ((i : Int) < (c : Int)) = false from decide_eq_false (by simp at hc; omega)]
    rfl
  | cons x X =>
   cases Y with
   | nil => simp at hxy
   | cons y Y =>
    simp only [List.length_cons] at hn hxy hb hc hl
    have e1 : w64 ((b : Int) + (i : Int)) = ((b + i : Nat) : Int) := Qb2 (by omega) (by omega)
    have e2 : w64 ((a : Int) + (i : Int)) = ((a + i : Nat) : Int) := Qb2 (by omega) (by omega)
    have e3 : w64 ((i : Int) + 1) = ((i + 1 : Nat) : Int) := Qb2 (by omega) (by omega)
    have d1 : decide (0 ≤ ((b + i : Nat) : Int)) = true := decide_eq_true (by omega)
    have d2 : decide (b + i < len) = true := decide_eq_true (by omega)
    have d3 : decide (0 ≤ ((a + i : Nat) : Int)) = true := decide_eq_true (by omega)
    have d4 : decide (a + i < len) = true := decide_eq_true (by omega)
    have g1 : (A ++ x :: X ++ M ++ y :: Y ++ B)[b + i]? = some y := at_i (L := A ++ x :: X ++ M) (M := Y ++ B) (by simp) (by simp; omega)
    have g2 : (A ++ x :: X ++ M ++ y :: Y ++ B)[a + i]? = some x := at_i (L := A) (M := X ++ M ++ y :: Y ++ B) (by simp) ha
    have g3 : (A ++ x :: X ++ M ++ y :: Y ++ B).set (a + i) y = A ++ y :: X ++ M ++ y :: Y ++ B := by
     rw [← ha]
     simp [set0]
    have g4 : (A ++ y :: X ++ M ++ y :: Y ++ B)[b + i]? = some y := at_i (L := A ++ y :: X ++ M) (M := Y ++ B) (by simp) (by simp; omega)
    have g5 : (A ++ y :: X ++ M ++ y :: Y ++ B).set (b + i) x = (A ++ [y]) ++ X ++ (M ++ [x]) ++ Y ++ B := by
     have hh : b + i = (A ++ y :: X ++ M).length := by simp; omega
     rw [hh]
     have := set0 (A ++ y :: X ++ M) y x (Y ++ B)
     simp only [List.append_assoc, List.cons_append, List.nil_append] at this ⊢
     exact this
    rw [show decide ((i : Int) < (c : Int)) = true from decide_eq_true (by omega)]
    simp only [cond_true, e1, e2, e3, chk, d1, d2, d3, d4, Bool.and_self, Int.toNat_natCast, g1, g2, Option.bind_some, g3, g4, g5]
    rw [ih (i + 1) X Y (A ++ [y]) (M ++ [x]) (by omega) (by omega) (by simp; omega) (by simp; omega) (by omega) (by simp; omega)]
    simp
theorem Qvh (a b c : Nat) (hlen : len ≤ 1000) (hN : len < N) (A X M Y B : List Int) (hxy : X.length = Y.length) (ha : A.length = a) (hb : a + X.length + M.length = b) (hc : X.length = c) (hl : A.length + X.length + M.length + Y.length + B.length = len) :
  Qbm N len a b c (A ++ X ++ M ++ Y ++ B) t = some (A ++ Y ++ M ++ X ++ B) :=
 Qx2 a b c hlen B N 0 X Y A M (by omega) hxy (by omega) (by omega) (by omega) hl
theorem Qx5 (m : Nat) (hlen : len ≤ 1000) (hN : len < N) : ∀ (n : Nat) (A X Y B : List Int), X.length + Y.length < n → 0 < X.length → 0 < Y.length → A.length + X.length = m → A.length + X.length + Y.length + B.length = len →
  Qa2 N len m (fun ⟨y2, y3⟩ => (Qbm N len (w64 ((m : Int) - y2)) m y2 y3 t).bind fun x6 => some x6) t n (X.length : Int) (Y.length : Int) (A ++ X ++ Y ++ B) = some (A ++ Y ++ X ++ B) := by
 intro n
 induction n with
 | zero => intro A X Y B h; exact absurd h (Nat.not_lt_zero _)
 | succ n ih =>
  intro A X Y B hn hx hy hm hl
  rw [Qa2]
  have e1 : w64 ((m : Int) - (X.length : Int)) = (A.length : Int) := by rw [Qb2 (by omega) (by omega)]; omega
  by_cases he : X.length = Y.length
  ·rw [show ((X.length : Int) != (Y.length : Int)) = false from by simp [he]]
   simp only [cond_false, e1]
   have := Qvh (t := t) (N := N) (len := len) A.length m X.length hlen hN A X [] Y B he rfl (by simp; omega) rfl (by simp; omega)
   simp only [List.append_nil] at this
   rw [this]
   rfl
  ·rw [show ((X.length : Int) != (Y.length : Int)) = true from by simp; omega]
   simp only [cond_true]
   by_cases hgt : Y.length < X.length
   ·rw [show decide ((X.length : Int) > (Y.length : Int)) = true from decide_eq_true (by omega), cond_true, e1]
    obtain ⟨X1, X2, hX, hX1⟩ : ∃ X1 X2, X = X1 ++ X2 ∧ X1.length = Y.length := ⟨X.take Y.length, X.drop Y.length, (List.take_append_drop ..).symm, by simp; omega⟩
    subst hX
    simp only [List.length_append] at hn hx hm hl hgt he e1 ⊢
    have := Qvh (t := t) (N := N) (len := len) A.length m Y.length hlen hN A X1 X2 Y B hX1 rfl (by omega) hX1 (by omega)
    rw [← List.append_assoc A X1 X2, this]
    simp only [Option.bind_some]
    have e2 : w64 (((X1.length + X2.length : Nat) : Int) - (Y.length : Int)) = (X2.length : Int) := by rw [Qb2 (by omega) (by omega)]; omega
    have ih' := ih (A ++ Y) X2 X1 B (by omega) (by omega) (by omega) (by simp; omega) (by simp; omega)
    rw [e2]
    rw [hX1] at ih'
    rw [ih']
    simp
   ·rw [show decide ((X.length : Int) > (Y.length : Int)) = false from decide_eq_false (by omega), cond_false, e1]
    obtain ⟨Y1, Y2, hY, hY2⟩ : ∃ Y1 Y2, Y = Y1 ++ Y2 ∧ Y2.length = X.length := ⟨Y.take (Y.length - X.length), Y.drop (Y.length - X.length), (List.take_append_drop ..).symm, by simp; omega⟩
    subst hY
    simp only [List.length_append] at hn hy hl hgt he ⊢
    have e2 : w64 (w64 ((m : Int) + ((Y1.length + Y2.length : Nat) : Int)) - (X.length : Int)) = ((m + Y1.length : Nat) : Int) := by
     rw [Qb2 (x := (m : Int) + ((Y1.length + Y2.length : Nat) : Int)) (by omega) (by omega), Qb2 (by omega) (by omega)]; omega
    have := Qvh (t := t) (N := N) (len := len) A.length (m + Y1.length) X.length hlen hN A X Y1 Y2 B hY2.symm rfl (by omega) rfl (by omega)
    rw [e2, ← List.append_assoc (A ++ X) Y1 Y2, this]
    simp only [Option.bind_some]
    have e3 : w64 (((Y1.length + Y2.length : Nat) : Int) - (X.length : Int)) = (Y1.length : Int) := by rw [Qb2 (by omega) (by omega)]; omega
    have ih' := ih A Y2 Y1 (X ++ B) (by omega) (by omega) (by omega) (by omega) (by simp; omega)
    rw [e3]
    rw [hY2] at ih'
    rw [show A ++ Y2 ++ Y1 ++ X ++ B = A ++ Y2 ++ Y1 ++ (X ++ B) from by simp, ih']
    simp
theorem rot_eq (a m b : Nat) (hlen : len ≤ 1000) (hN : len < N) (A X Y B : List Int) (hx : 0 < X.length) (hy : 0 < Y.length) (ha : A.length = a) (hm : a + X.length = m) (hb : m + Y.length = b) (hl : b + B.length = len) :
  Qb9 N len a m b (A ++ X ++ Y ++ B) t = some (A ++ Y ++ X ++ B) := by
 unfold Qb9
 have e1 : w64 ((m : Int) - (a : Int)) = (X.length : Int) := by rw [Qb2 (by omega) (by omega)]; omega
 have e2 : w64 ((b : Int) - (m : Int)) = (Y.length : Int) := by rw [Qb2 (by omega) (by omega)]; omega
 simp only [Qck, e1, e2]
 exact Qx5 m hlen hN N A X Y B (by omega) hx hy (by omega) (by omega)
end
end Go.Proofs.Ytgdepcgbjjgnfaa
