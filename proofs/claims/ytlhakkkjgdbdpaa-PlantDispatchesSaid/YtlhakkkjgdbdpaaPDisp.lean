/-
  Plain laws of dispatching: what Dispatch returns is the best plan with its table. No conditions.
-/
import Derived.Test.YtlhakkkjgdbdpaaPDyn
namespace Go.Proofs.Ytlhakkkjgdbdpaa
open Go.RowKit
def rw' {α : Type} (L : Nat) (f : Nat → α) : List α := (List.range L).map f
def updN {α : Type} (f : Nat → α) (l : Nat) (v : α) : Nat → α := fun m => if m = l then v else f m
theorem Qgx {α : Type} (L : Nat) (f : Nat → α) : (rw' L f).length = L := by simp [rw']
theorem Ql7 {α : Type} {L : Nat} (f : Nat → α) {k : Nat} (h : k < L) : (rw' L f)[k]? = some (f k) := by simp [rw', h]
theorem rw_set {α : Type} (L : Nat) (f : Nat → α) (l : Nat) (v : α) : (rw' L f).set l v = rw' L (updN f l v) := by
 apply List.ext_getElem?
 intro i
 rw [List.getElem?_set]
 by_cases h : i < L
 ·rw [Ql7 _ h, Ql7 _ h, Qgx]
  by_cases h1 : l = i
  ·subst h1; simp [h, updN]
  ·have : ¬ i = l := fun e => h1 e.symm
   simp [h1, updN, this]
 ·have e1 : (rw' L f)[i]? = none := by rw [List.getElem?_eq_none_iff, Qgx]; omega
  have e2 : (rw' L (updN f l v))[i]? = none := by rw [List.getElem?_eq_none_iff, Qgx]; omega
  rw [e1, e2, Qgx]
  split
  ·simp; omega
  ·rfl
theorem Qyu {α : Type} (L : Nat) (v : α) : List.replicate L v = rw' L (fun _ => v) := by
 apply List.ext_getElem?
 intro i
 by_cases h : i < L
 ·rw [Ql7 _ h]; simp [h]
 ·have e2 : (rw' L (fun _ : Nat => v))[i]? = none := by rw [List.getElem?_eq_none_iff, Qgx]; omega
  rw [e2]; simp; omega
theorem Qrp {α : Type} (f : Nat → α) (l : Nat) (a b : α) : updN (updN f l a) l b = updN f l b := by
 funext m; unfold updN; split <;> rfl
theorem Qyr {α : Type} (f : Nat → α) (l : Nat) (a : α) : updN f l a l = a := by simp [updN]
theorem Qpk {α : Type} {L : Nat} {f g : Nat → α} (h : ∀ k, k < L → f k = g k) : rw' L f = rw' L g := by
 unfold rw'
 exact List.map_congr_left (fun k hk => h k (List.mem_range.1 hk))
theorem Qjl {α : Type} (R : List (List α)) {L : Nat} (f : Nat → α) {l : Nat} (h : l < L) : getM (R ++ [rw' L f]) R.length l = some (f l) := by
 unfold getM
 rw [List.getElem?_append_right (Nat.le_refl _), Nat.sub_self]
 simp [Ql7 f h]
theorem Qi5 {α : Type} {R : List (List α)} {L : Nat} {f : Nat → α} {a l : Nat} (X : List (List α)) (ha : R[a]? = some (rw' L f)) (h : l < L) : getM (R ++ X) a l = some (f l) := by
 have hlt : a < R.length := by
  rcases Nat.lt_or_ge a R.length with h' | h'
  ·exact h'
  ·rw [List.getElem?_eq_none h'] at ha; cases ha
 unfold getM
 rw [List.getElem?_append_left hlt, ha]
 simp [Ql7 f h]
theorem Qji {α : Type} (R : List (List α)) {L : Nat} (f : Nat → α) (l : Nat) (v : α) : setM (R ++ [rw' L f]) R.length l v = R ++ [rw' L (updN f l v)] := by
 unfold setM
 rw [List.getD_eq_getElem?_getD, List.getElem?_append_right (Nat.le_refl _), Nat.sub_self]
 simp only [List.getElem?_cons_zero, Option.getD_some, rw_set]
 rw [List.set_append_right _ _ (Nat.le_refl _), Nat.sub_self]
 rfl
theorem Qmz {α : Type} (R : List (List α)) {L : Nat} (f : Nat → α) (h : 0 < L) : ((R ++ [rw' L f]).getD R.length []).isEmpty = false := by
 rw [List.getD_eq_getElem?_getD, List.getElem?_append_right (Nat.le_refl _), Nat.sub_self]
 simp only [List.getElem?_cons_zero, Option.getD_some, List.isEmpty_eq_false_iff]
 intro e
 have := Qgx L f
 rw [e] at this
 simp at this
 omega
theorem Qm8 {α : Type} {R : List (List α)} {L : Nat} {f : Nat → α} {a : Nat} (X : List (List α)) (ha : R[a]? = some (rw' L f)) (h : 0 < L) : ((R ++ X).getD a []).isEmpty = false := by
 have hlt : a < R.length := by
  rcases Nat.lt_or_ge a R.length with h' | h'
  ·exact h'
  ·rw [List.getElem?_eq_none h'] at ha; cases ha
 rw [List.getD_eq_getElem?_getD, List.getElem?_append_left hlt, ha]
 simp only [Option.getD_some, List.isEmpty_eq_false_iff]
 intro e
 have := Qgx L f
 rw [e] at this
 simp at this
 omega
abbrev nL (j : GJob) : Nat := j.Levels.length
abbrev nH (j : GJob) : Nat := j.Hours.length
theorem Qhz {j : GJob} (h : JobOK j) : 2 ≤ nL j ∧ nL j ≤ 12 := ⟨h.l0, h.l1⟩
theorem Qkw {j : GJob} (h : JobOK j) : 1 ≤ nH j ∧ nH j ≤ 100 := ⟨h.h0, h.h1⟩
def tb (j : GJob) (i : Nat) (l : Nat) : Int := tabV (nL j) (folB j) (gnI j) (j.Hours.drop i) l
def my (j : GJob) (i : Nat) (l : Nat) : Bool := mayV (nL j) (folB j) (j.Hours.drop i) l
theorem gn_all {j : GJob} (hj : JobOK j) {hs : List GHour} (h : ∀ x ∈ hs, x ∈ j.Hours) : ∀ x ∈ hs, ∀ l k, -2000000000 ≤ gnI j x l k ∧ gnI j x l k ≤ 1000000000 :=
 fun x hx l k => Qwo hj (h x hx) l k
theorem Qqi {j : GJob} (i : Nat) : ∀ x ∈ j.Hours.drop i, x ∈ j.Hours := fun _ h => List.mem_of_mem_drop h
theorem tb_bd {j : GJob} (hj : JobOK j) (i l : Nat) : -1000000000000 ≤ tb j i l ∧ tb j i l ≤ 100000000000 := by
 have h := tab_bd (L := nL j) (fol := folB j) (j.Hours.drop i) (gn_all hj (Qqi i)) (by have := hj.h1; simp; omega) l
 have h1 := hj.h1
 have h2 : ((j.Hours.drop i).length : Int) ≤ 100 := by simp; omega
 exact ⟨h.1, by have := h.2.1; unfold tb; omega⟩
theorem Qvj {j : GJob} (H : GHour) (b k : Int) (h : folB j H b k = true) : 0 ≤ k ∧ k < nL j := by
 unfold folB at h
 simp only [Bool.and_eq_true, Qk0] at h
 have := h.1.1
 exact ⟨this.1, by unfold nL; omega⟩
theorem Qon {j : GJob} {h : Nat} (hh : h < nH j) : ∃ H, j.Hours[h]? = some H ∧ j.Hours.drop h = H :: j.Hours.drop (h + 1) := by
 refine ⟨j.Hours[h], List.getElem?_eq_getElem hh, ?_⟩
 rw [List.drop_eq_getElem_cons hh]
theorem Qtu (N : Nat) (j : GJob) (k : List Int → Option (List Int)) (hl : nL j ≤ 1000) : ∀ (n i : Nat), nL j - i < n → i ≤ nL j →
  Qdb N j k n (rw' i (fun k => (k : Int))) i = k (rw' (nL j) (fun k => (k : Int))) := by
 intro n
 induction n with
 | zero => intro i h; exact absurd h (Nat.not_lt_zero _)
 | succ n ih =>
  intro i h hi
  rw [Qdb]
  rcases Nat.eq_or_lt_of_le hi with e | hlt
  ·rw [show decide ((i : Int) < (j.Levels.length : Int)) = false from decide_eq_false (by unfold nL at e; omega), cond_false, e]
  ·rw [show decide ((i : Int) < (j.Levels.length : Int)) = true from decide_eq_true (by unfold nL at hlt; omega), cond_true]
   have e1 : w64 ((i : Int) + 1) = ((i + 1 : Nat) : Int) := Qc0 (by omega) (by omega)
   have e2 : rw' i (fun k => (k : Int)) ++ [(i : Int)] = rw' (i + 1) (fun k => (k : Int)) := by simp [rw', List.range_succ]
   have e3 : decide (((rw' i (fun k => (k : Int))).length + [(i : Int)].length) * 8 ≤ 140737488355328) = true := decide_eq_true (by rw [Qgx]; simp; omega)
   simp only [chk, e3, cond_true, e1, e2]
   exact ih (i + 1) (by omega) (by omega)
theorem levels_eq {N : Nat} {j : GJob} (hj : JobOK j) (hN : 300 ≤ N) : Qg1 N j = some (rw' (nL j) (fun k => (k : Int))) := by
 unfold Qg1
 simp only [Qcn]
 have := Qtu N j (fun y => some y) (by have := Qhz hj; omega) N 0 (by have := Qhz hj; omega) (Nat.zero_le _)
 exact this
section Row
variable {N : Nat} {j : GJob} {h : Nat} {H : GHour} {tl ml : List (Nat × Nat)} {R : List (List Int)} {M : List (List Bool)} {a b : Nat}
theorem Qwl (hj : JobOK j) (hh : j.Hours[h]? = some H) (htl : tl.length = nH j + 1) (hml : ml.length = nH j + 1)
  (h1 : tl[h + 1]? = some (a, nL j)) (h2 : R[a]? = some (rw' (nL j) (tb j (h + 1)))) (h3 : ml[h + 1]? = some (b, nL j)) (h4 : M[b]? = some (rw' (nL j) (my j (h + 1))))
  {l : Nat} (hl : l < nL j) (f : Nat → Int) (g : Nat → Bool) (K : List (List Int) × List (List Bool) → Option (List (List Int) × List (List Bool))) : ∀ (n k : Nat) (x : Int) (y : Bool), nL j - k < n → k ≤ nL j → -1000000000000 ≤ x → x ≤ 9000000000000000000 →
  Qbq N h j.Levels j.Ramp j.Start j.First j.Hours (nH j + 1) (nH j + 1) tl ml R M l K n k (R ++ [rw' (nL j) (updN f l x)]) (M ++ [rw' (nL j) (updN g l y)])
   = K (R ++ [rw' (nL j) (updN f l (mx (Qha (folB j) (gnI j) (fun k => tb j (h + 1) k.toNat) H l) (nL j - k) k x))],
     M ++ [rw' (nL j) (updN g l (y || (List.range' k (nL j - k)).any fun k => folB j H l (k : Int) && my j (h + 1) k))]) := by
 have hL := (Qhz hj).2
 have hL0 := (Qhz hj).1
 have hhlt : h < nH j := by
  rcases Nat.lt_or_ge h (nH j) with h' | h'
  ·exact h'
  ·rw [List.getElem?_eq_none h'] at hh; cases hh
 have hH1 := (Qkw hj).2
 intro n
 induction n with
 | zero => intro k x y h; exact absurd h (Nat.not_lt_zero _)
 | succ n ih =>
  intro k x y hn hk hx0 hx1
  rw [Qbq]
  rcases Nat.eq_or_lt_of_le hk with e | hlt
  ·rw [show decide ((k : Int) < (j.Levels.length : Int)) = false from decide_eq_false (by unfold nL at e; omega), cond_false, e, Nat.sub_self, mx]
   simp
  ·rw [show decide ((k : Int) < (j.Levels.length : Int)) = true from decide_eq_true (by unfold nL at hlt; omega), cond_true]
   have e1 : w64 ((k : Int) + 1) = ((k + 1 : Nat) : Int) := Qc0 (by omega) (by omega)
   have e2 : w64 ((h : Int) + 1) = ((h + 1 : Nat) : Int) := Qc0 (by omega) (by omega)
   have hs : nL j - k = (nL j - (k + 1)) + 1 := by omega
   have hg := Qtw (N := N) hj hh (b := (l : Int)) (k := (k : Int)) (by omega) (by omega)
   rw [show (⟨j.Levels, j.Ramp, j.Start, j.First, j.Hours⟩ : GJob) = j from rfl, hg, hs, mx, List.range'_succ]
   simp only [Option.bind_some, e1, e2, List.any_cons, Qha]
   cases hf : folB j H l k with
   | false =>
    simp only [cond_false, Bool.false_and, Bool.false_or]
    exact ih (k + 1) x y (by omega) (by omega) hx0 hx1
   | true =>
    have gb := Qwo hj (List.mem_of_getElem? hh) (l : Int) (k : Int)
    have tbb := tb_bd hj (h + 1) k
    have e3 : w64 (gnI j H l k + tb j (h + 1) k) = gnI j H l k + tb j (h + 1) k := Qc0 (by omega) (by omega)
    have c1 : (tl.set h (R.length, j.Levels.length))[h]? = some (R.length, nL j) := by rw [List.getElem?_set_self (by omega)]
    have c2 : (tl.set h (R.length, j.Levels.length))[h + 1]? = some (a, nL j) := by rw [List.getElem?_set_ne (by omega)]; exact h1
    have c3 : (ml.set h (M.length, j.Levels.length))[h]? = some (M.length, nL j) := by rw [List.getElem?_set_self (by omega)]
    have c4 : (ml.set h (M.length, j.Levels.length))[h + 1]? = some (b, nL j) := by rw [List.getElem?_set_ne (by omega)]; exact h3
    have d1 : decide (0 ≤ (h : Int)) = true := decide_eq_true (by omega)
    have d2 : decide (h < nH j + 1) = true := decide_eq_true (by omega)
    have d3 : decide (0 ≤ ((h + 1 : Nat) : Int)) = true := decide_eq_true (by omega)
    have d4 : decide (h + 1 < nH j + 1) = true := decide_eq_true (by omega)
    have d5 : decide (0 ≤ (l : Int)) = true := decide_eq_true (by omega)
    have d6 : decide (l < nL j) = true := decide_eq_true hl
    have d7 : decide (0 ≤ (k : Int)) = true := decide_eq_true (by omega)
    have d8 : decide (k < nL j) = true := decide_eq_true hlt
    have p0 : 0 < nL j := by omega
    have m1 := fun (f : Nat → Int) => Qjl R f hl
    have m2 := fun (f : Nat → Bool) => Qjl M f hl
    have m3 := fun X => Qi5 X h2 hlt
    have m4 := fun X => Qi5 X h4 hlt
    have n1 := fun (f : Nat → Int) => Qmz R f p0
    have n2 := fun (f : Nat → Bool) => Qmz M f p0
    have n3 := fun X => Qm8 X h2 p0
    have n4 := fun X => Qm8 X h4 p0
    have s1 := fun (f : Nat → Int) v => Qji R (L := nL j) f l v
    have s2 := fun (f : Nat → Bool) v => Qji M (L := nL j) f l v
    have emax : (if gnI j H l k + tb j (h + 1) k > x then gnI j H l k + tb j (h + 1) k else x) = max x (gnI j H l k + tb j (h + 1) k) := by
     rw [Int.max_def]; split <;> split <;> omega
    have hbd : max x (gnI j H l k + tb j (h + 1) k) ≤ 9000000000000000000 := by rw [Int.max_def]; split <;> omega
    have hbd0 : -1000000000000 ≤ max x (gnI j H l k + tb j (h + 1) k) := by rw [Int.max_def]; split <;> omega
    simp only [cond_true, chk, Int.toNat_natCast, d1, d2, d3, d4, d5, d6, d7, d8, Bool.and_self, c1, c2, c3, c4, Option.bind_some, m1, m2, m3, m4, n1, n2, n3, n4, s1, s2, Bool.not_false, Qyr, Qrp, e3, emax]
    cases y with
    | true =>
     simp only [cond_true]
     rw [ih (k + 1) _ true (by omega) (by omega) hbd0 hbd]
     simp only [Bool.true_or]
    | false =>
     simp only [cond_false]
     rw [ih (k + 1) _ _ (by omega) (by omega) hbd0 hbd]
     simp only [Bool.true_and, Bool.false_or]
theorem Qwi (hj : JobOK j) (hN : 300 ≤ N) (hh : j.Hours[h]? = some H) (htl : tl.length = nH j + 1) (hml : ml.length = nH j + 1)
  (h1 : tl[h + 1]? = some (a, nL j)) (h2 : R[a]? = some (rw' (nL j) (tb j (h + 1)))) (h3 : ml[h + 1]? = some (b, nL j)) (h4 : M[b]? = some (rw' (nL j) (my j (h + 1)))) :
  ∀ (n l : Nat) (f : Nat → Int), nL j - l < n → l ≤ nL j →
  Qbg N h j.Levels j.Ramp j.Start j.First j.Hours (nH j + 1) (nH j + 1) tl ml R M n l (R ++ [rw' (nL j) f]) (M ++ [rw' (nL j) (fun m => if m < l then my j h m else false)])
   = some (R ++ [rw' (nL j) (fun m => if m < l then f m else tb j h m)], M ++ [rw' (nL j) (my j h)]) := by
 have hL := (Qhz hj).2
 have hL0 := (Qhz hj).1
 have hhlt : h < nH j := by
  rcases Nat.lt_or_ge h (nH j) with h' | h'
  ·exact h'
  ·rw [List.getElem?_eq_none h'] at hh; cases hh
 have hH1 := (Qkw hj).2
 obtain ⟨H', hH', hdr⟩ := Qon hhlt
 have eHH : H' = H := by rw [hH'] at hh; exact Option.some.inj hh
 subst eHH
 intro n
 induction n with
 | zero => intro l f h; exact absurd h (Nat.not_lt_zero _)
 | succ n ih =>
  intro l f hn hl
  rw [Qbg]
  rcases Nat.eq_or_lt_of_le hl with e | hlt
  ·rw [show decide ((l : Int) < (j.Levels.length : Int)) = false from decide_eq_false (by unfold nL at e; omega), cond_false]
   rw [Qpk (f := f) (g := fun m => if m < l then f m else tb j h m) (fun k hk => by rw [if_pos (by omega)]), Qpk (f := fun m => if m < l then my j h m else false) (g := my j h) (fun k hk => by rw [if_pos (by omega)])]
  ·rw [show decide ((l : Int) < (j.Levels.length : Int)) = true from decide_eq_true (by unfold nL at hlt; omega), cond_true]
   have e1 : w64 ((l : Int) + 1) = ((l + 1 : Nat) : Int) := Qc0 (by omega) (by omega)
   have c1 : (tl.set h (R.length, j.Levels.length))[h]? = some (R.length, nL j) := by rw [List.getElem?_set_self (by omega)]
   have d0 : ((h : Int) == (j.Hours.length : Int)) = false := by
    have : ¬ (h : Int) = (j.Hours.length : Int) := by unfold nH at hhlt; omega
    simpa using this
   have d1 : decide (0 ≤ (h : Int)) = true := decide_eq_true (by omega)
   have d2 : decide (h < nH j + 1) = true := decide_eq_true (by omega)
   have d5 : decide (0 ≤ (l : Int)) = true := decide_eq_true (by omega)
   have d6 : decide (l < nL j) = true := decide_eq_true hlt
   have p0 : 0 < nL j := by omega
   have m1 := fun (f : Nat → Int) => Qjl R f hlt
   have n1 := fun (f : Nat → Int) => Qmz R f p0
   have s1 := fun (f : Nat → Int) v => Qji R (L := nL j) f l v
   simp only [Qcn, d0, cond_false, cond_true, chk, Int.toNat_natCast, d1, d2, d5, d6, Bool.and_self, c1, Option.bind_some, m1, n1, s1, Bool.not_false]
   have eg : (fun m => if m < l then my j h m else false) = updN (fun m => if m < l then my j h m else false) l false := by
    funext m
    unfold updN
    by_cases hm : m = l
    ·subst hm; simp
    ·simp [hm]
   have hin := Qwl (N := N) (R := R) (M := M) hj hh htl hml h1 h2 h3 h4 hlt f (fun m => if m < l then my j h m else false) (fun x => Qbg N h j.Levels j.Ramp j.Start j.First j.Hours (nH j + 1) (nH j + 1) tl ml R M n (w64 ((l : Int) + 1)) x.1 x.2) N 0 (-1000000000000) false (by omega) (by omega) (Int.le_refl _) (by omega)
   rw [← eg] at hin
   refine Eq.trans hin ?_
   rw [e1]
   have etb : mx (Qha (folB j) (gnI j) (fun k => tb j (h + 1) k.toNat) H' l) (nL j - 0) 0 (-1000000000000) = tb j h l := by
    unfold tb
    rw [hdr, tabV, bell, Nat.sub_zero]
    have : Qha (folB j) (gnI j) (fun k => tabV (nL j) (folB j) (gnI j) (List.drop (h + 1) j.Hours) (k.toNat : Int)) H' l = Qha (folB j) (gnI j) (tabV (nL j) (folB j) (gnI j) (List.drop (h + 1) j.Hours)) H' l := by
     funext k
     simp [Qha]
    rw [this]
   have emy : (false || (List.range' 0 (nL j - 0)).any fun k => folB j H' l (k : Int) && my j (h + 1) k) = my j h l := by
    unfold my
    rw [hdr, mayV, Bool.false_or, Nat.sub_zero, ← List.range_eq_range']
   rw [etb, emy]
   have eg2 : updN (fun m => if m < l then my j h m else false) l (my j h l) = fun m => if m < l + 1 then my j h m else false := by
    funext m
    unfold updN
    by_cases hm : m = l
    ·subst hm; simp
    ·simp only [hm, if_false]
     by_cases h' : m < l
     ·rw [if_pos h', if_pos (by omega)]
     ·rw [if_neg h', if_neg (by omega)]
   rw [eg2, ih (l + 1) _ (by omega) (by omega)]
   have ef : (rw' (nL j) fun m => if m < l + 1 then updN f l (tb j h l) m else tb j h m) = rw' (nL j) fun m => if m < l then f m else tb j h m := by
    apply Qpk
    intro m _
    unfold updN
    by_cases hm : m = l
    ·subst hm; simp
    ·simp only [hm, if_false]
     by_cases h' : m < l
     ·rw [if_pos h', if_pos (by omega)]
     ·rw [if_neg h', if_neg (by omega)]
   rw [ef]
theorem last_loop (hj : JobOK j) (htl : tl.length = nH j + 1) (hml : ml.length = nH j + 1) : ∀ (n l : Nat), nL j - l < n → l ≤ nL j →
  Qbg N (nH j : Int) j.Levels j.Ramp j.Start j.First j.Hours (nH j + 1) (nH j + 1) tl ml R M n l (R ++ [rw' (nL j) (fun _ => 0)]) (M ++ [rw' (nL j) (fun m => if m < l then true else false)])
   = some (R ++ [rw' (nL j) (fun _ => 0)], M ++ [rw' (nL j) (fun _ => true)]) := by
 have hL := (Qhz hj).2
 have hL0 := (Qhz hj).1
 have hH1 := (Qkw hj).2
 intro n
 induction n with
 | zero => intro l h; exact absurd h (Nat.not_lt_zero _)
 | succ n ih =>
  intro l hn hl
  rw [Qbg]
  rcases Nat.eq_or_lt_of_le hl with e | hlt
  ·rw [show decide ((l : Int) < (j.Levels.length : Int)) = false from decide_eq_false (by unfold nL at e; omega), cond_false]
   rw [Qpk (f := fun m => if m < l then true else false) (g := fun _ => true) (fun k hk => by rw [if_pos (by omega)])]
  ·rw [show decide ((l : Int) < (j.Levels.length : Int)) = true from decide_eq_true (by unfold nL at hlt; omega), cond_true]
   have e1 : w64 ((l : Int) + 1) = ((l + 1 : Nat) : Int) := Qc0 (by omega) (by omega)
   have c1 : (ml.set (nH j) (M.length, j.Levels.length))[nH j]? = some (M.length, nL j) := by rw [List.getElem?_set_self (by omega)]
   have d0 : ((nH j : Int) == (j.Hours.length : Int)) = true := by simp
   have d1 : decide (0 ≤ (nH j : Int)) = true := decide_eq_true (by omega)
   have d2 : decide (nH j < nH j + 1) = true := decide_eq_true (by omega)
   have d5 : decide (0 ≤ (l : Int)) = true := decide_eq_true (by omega)
   have d6 : decide (l < nL j) = true := decide_eq_true hlt
   have p0 : 0 < nL j := by omega
   have m1 := fun (f : Nat → Bool) => Qjl M f hlt
   have n1 := fun (f : Nat → Bool) => Qmz M f p0
   have s1 := fun (f : Nat → Bool) v => Qji M (L := nL j) f l v
   simp only [Qcn, d0, cond_true, chk, Int.toNat_natCast, d1, d2, d5, d6, Bool.and_self, c1, Option.bind_some, m1, n1, s1, Bool.not_false, e1]
   have eg2 : updN (fun m => if m < l then true else false) l true = fun m => if m < l + 1 then true else false := by
    funext m
    unfold updN
    by_cases hm : m = l
    ·subst hm; simp
    ·simp only [hm, if_false]
     by_cases h' : m < l
     ·rw [if_pos h', if_pos (by omega)]
     ·rw [if_neg h', if_neg (by omega)]
   rw [eg2, ih (l + 1) (by omega) (by omega)]
end Row
theorem chk1 {j : GJob} (hj : JobOK j) {β : Type} (k : Option β) : chk (decide (0 ≤ (j.Levels.length : Int)) && decide (8 * (j.Levels.length : Int) ≤ 281474976710656) && decide ((j.Levels.length : Int) ≤ 9223372036854775807)) k = k := by
 have hL := hj.l1
 rw [chk, show decide (0 ≤ (j.Levels.length : Int)) = true from decide_eq_true (by omega), show decide (8 * (j.Levels.length : Int) ≤ 281474976710656) = true from decide_eq_true (by omega), show decide ((j.Levels.length : Int) ≤ 9223372036854775807) = true from decide_eq_true (by omega)]
 rfl
theorem chk2 {j : GJob} (hj : JobOK j) {β : Type} (k : Option β) : chk (decide (0 ≤ (j.Levels.length : Int)) && decide (1 * (j.Levels.length : Int) ≤ 281474976710656) && decide ((j.Levels.length : Int) ≤ 9223372036854775807)) k = k := by
 have hL := hj.l1
 rw [chk, show decide (0 ≤ (j.Levels.length : Int)) = true from decide_eq_true (by omega), show decide (1 * (j.Levels.length : Int) ≤ 281474976710656) = true from decide_eq_true (by omega), show decide ((j.Levels.length : Int) ≤ 9223372036854775807) = true from decide_eq_true (by omega)]
 rfl
theorem rowX_eq {N : Nat} {j : GJob} (hj : JobOK j) (hN : 300 ≤ N) {h : Nat} (hh : h ≤ nH j) {tl ml : List (Nat × Nat)} {R : List (List Int)} {M : List (List Bool)} (htl : tl.length = nH j + 1) (hml : ml.length = nH j + 1)
  (h1 : h < nH j → ∃ a, tl[h + 1]? = some (a, nL j) ∧ R[a]? = some (rw' (nL j) (tb j (h + 1)))) (h2 : h < nH j → ∃ a, ml[h + 1]? = some (a, nL j) ∧ M[a]? = some (rw' (nL j) (my j (h + 1)))) :
  Qef N h j.Levels j.Ramp j.Start j.First j.Hours (nH j + 1) (nH j + 1) tl ml R M = some (R ++ [rw' (nL j) (tb j h)], M ++ [rw' (nL j) (my j h)]) := by
 have hL := (Qhz hj).2
 have hL0 := (Qhz hj).1
 have hH1 := (Qkw hj).2
 unfold Qef
 rw [chk1 hj, chk2 hj]
 have d1 : decide (0 ≤ (h : Int)) = true := decide_eq_true (by omega)
 have d2 : decide (h < nH j + 1) = true := decide_eq_true (by omega)
 have c1 : tl[h]? = some tl[h] := List.getElem?_eq_getElem (by omega)
 have c2 : ml[h]? = some ml[h] := List.getElem?_eq_getElem (by omega)
 simp only [chk, Int.toNat_natCast, d1, d2, Bool.and_self, cond_true, c1, c2, Option.bind_some, Qyu]
 rcases Nat.eq_or_lt_of_le hh with e | hlt
 ·subst e
  have := last_loop (N := N) (R := R) (M := M) hj htl hml N 0 (by omega) (by omega)
  simp only [Nat.not_lt_zero, if_false] at this
  refine Eq.trans this ?_
  have e1 : tb j (nH j) = fun _ => 0 := by funext l; unfold tb; rw [List.drop_of_length_le (Nat.le_refl _)]; rfl
  have e2 : my j (nH j) = fun _ => true := by funext l; unfold my; rw [List.drop_of_length_le (Nat.le_refl _)]; rfl
  rw [e1, e2]
 ·obtain ⟨a, a1, a2⟩ := h1 hlt
  obtain ⟨b, b1, b2⟩ := h2 hlt
  obtain ⟨H, hH, -⟩ := Qon hlt
  have := Qwi (N := N) (R := R) (M := M) hj hN hH htl hml a1 a2 b1 b2 N 0 (fun _ => 0) (by omega) (by omega)
  simp only [Nat.not_lt_zero, if_false] at this
  exact this
def Qhi {α : Type} (j : GJob) (f : Nat → Nat → α) (c : Nat) : List (List α) := rw' c (fun m => rw' (nL j) (f (nH j - m)))
def PairsAt (j : GJob) (c : Nat) (tl : List (Nat × Nat)) : Prop := tl.length = nH j + 1 ∧ ∀ i, c ≤ i → i ≤ nH j → tl[i]? = some (nH j - i, nL j)
theorem PairsAt.set {j : GJob} {c : Nat} {tl : List (Nat × Nat)} (h : PairsAt j (c + 1) tl) (hc : c ≤ nH j) : PairsAt j c (tl.set c (nH j - c, nL j)) := by
 refine ⟨by rw [List.length_set]; exact h.1, fun i h1 h2 => ?_⟩
 rcases Nat.eq_or_lt_of_le h1 with e | hlt
 ·subst e
  have := h.1
  rw [List.getElem?_set_self (by omega)]
 ·rw [List.getElem?_set_ne (by omega)]
  exact h.2 i hlt h2
theorem PairsAt.all {j : GJob} {tl : List (Nat × Nat)} (h : PairsAt j 0 tl) : tl = rw' (nH j + 1) (fun i => (nH j - i, nL j)) := by
 apply List.ext_getElem?
 intro i
 by_cases hi : i < nH j + 1
 ·rw [h.2 i (Nat.zero_le _) (by omega), Ql7 _ hi]
 ·have e2 : (rw' (nH j + 1) (fun i => (nH j - i, nL j)))[i]? = none := by rw [List.getElem?_eq_none_iff, Qgx]; omega
  have e3 : tl[i]? = none := by rw [List.getElem?_eq_none_iff, h.1]; omega
  rw [e2, e3]
theorem Qrv {α : Type} (j : GJob) (f : Nat → Nat → α) (c : Nat) : (Qhi j f c).length = c := Qgx _ _
theorem Qfi {α : Type} {j : GJob} (f : Nat → Nat → α) {c m : Nat} (h : m < c) : (Qhi j f c)[m]? = some (rw' (nL j) (f (nH j - m))) := Ql7 _ h
theorem Qk3 {α : Type} (j : GJob) (f : Nat → Nat → α) (c : Nat) : Qhi j f c ++ [rw' (nL j) (f (nH j - c))] = Qhi j f (c + 1) := by simp [Qhi, rw', List.range_succ]
abbrev DR : Type := List Int × Int × List (List Int) × Int
theorem disp_loop {N : Nat} {j : GJob} (hj : JobOK j) (hN : 300 ≤ N) (K : List (Nat × Nat) × List (Nat × Nat) × List (List Int) × List (List Bool) → Option DR) : ∀ (n c : Nat) (tl ml : List (Nat × Nat)), c < n → c ≤ nH j + 1 → PairsAt j c tl → PairsAt j c ml →
  ∃ tl' ml', PairsAt j 0 tl' ∧ PairsAt j 0 ml' ∧
  Qck N j K n ((c : Int) - 1) tl ml (Qhi j (tb j) (nH j + 1 - c)) (Qhi j (my j) (nH j + 1 - c)) = K (tl', ml', Qhi j (tb j) (nH j + 1), Qhi j (my j) (nH j + 1)) := by
 have hH1 := (Qkw hj).2
 intro n
 induction n with
 | zero => intro c _ _ h; exact absurd h (Nat.not_lt_zero _)
 | succ n ih =>
  intro c tl ml hn hc htl hml
  rw [Qck]
  cases c with
  | zero =>
   refine ⟨tl, ml, htl, hml, ?_⟩
   rw [show decide (((0 : Nat) : Int) - 1 ≥ 0) = false from rfl, cond_false, Nat.sub_zero]
  | succ c =>
   have e0 : ((c + 1 : Nat) : Int) - 1 = (c : Int) := by omega
   have e1 : w64 ((j.Hours.length : Int) + 1) = ((nH j + 1 : Nat) : Int) := by rw [Qc0 (by unfold nH at hH1; omega) (by unfold nH at hH1; omega)]; rfl
   have e2 : w64 ((c : Int) - 1) = (c : Int) - 1 := Qc0 (by omega) (by omega)
   have hcn : c ≤ nH j := by omega
   rw [e0, show decide ((c : Int) ≥ 0) = true from decide_eq_true (by omega), cond_true, e1, e2]
   simp only [Int.toNat_natCast]
   have hrow := rowX_eq (N := N) hj hN hcn (tl := tl) (ml := ml) (R := Qhi j (tb j) (nH j + 1 - (c + 1))) (M := Qhi j (my j) (nH j + 1 - (c + 1))) htl.1 hml.1
    (fun hlt => ⟨nH j - (c + 1), htl.2 _ (Nat.le_refl _) hlt, by
     rw [Qfi _ (by omega)]
     congr 3
     omega⟩) (fun hlt => ⟨nH j - (c + 1), hml.2 _ (Nat.le_refl _) hlt, by
     rw [Qfi _ (by omega)]
     congr 3
     omega⟩)
   rw [hrow]
   simp only [Option.bind_some, Qrv]
   have e3 : nH j + 1 - (c + 1) = nH j - c := by omega
   have e4 : nH j + 1 - c = nH j - c + 1 := by omega
   have e5 : nH j - (nH j - c) = c := by omega
   have e6 := Qk3 j (tb j) (nH j - c)
   have e7 := Qk3 j (my j) (nH j - c)
   rw [e5] at e6 e7
   rw [e3, e6, e7]
   have := ih c _ _ (by omega) (by omega) (htl.set hcn) (hml.set hcn)
   rw [e4] at this
   exact this
theorem look_eq {N : Nat} {j : GJob} (hj : JobOK j) {h : Nat} {H : GHour} (hh : j.Hours[h]? = some H) {l k : Nat} (hl : l < nL j) (hk : k < nL j) {tl ml : List (Nat × Nat)} (htl : PairsAt j 0 tl) (hml : PairsAt j 0 ml) :
  Qee N k j.Levels j.Ramp j.Start j.First j.Hours h l (nH j + 1) (nH j + 1) ml tl (Qhi j (my j) (nH j + 1)) (Qhi j (tb j) (nH j + 1))
   = some (folB j H l k && my j (h + 1) k && (gnI j H l k + tb j (h + 1) k == tb j h l)) := by
 have hL := (Qhz hj).2
 have hL0 := (Qhz hj).1
 have hH1 := (Qkw hj).2
 have hhlt : h < nH j := by
  rcases Nat.lt_or_ge h (nH j) with h' | h'
  ·exact h'
  ·rw [List.getElem?_eq_none h'] at hh; cases hh
 unfold Qee
 have hg := Qtw (N := N) hj hh (b := (l : Int)) (k := (k : Int)) (by omega) (by omega)
 rw [show (⟨j.Levels, j.Ramp, j.Start, j.First, j.Hours⟩ : GJob) = j from rfl, hg]
 have e2 : w64 ((h : Int) + 1) = ((h + 1 : Nat) : Int) := Qc0 (by omega) (by omega)
 simp only [Option.bind_some, e2]
 cases hf : folB j H l k with
 | false => rfl
 | true =>
  have gb := Qwo hj (List.mem_of_getElem? hh) (l : Int) (k : Int)
  have tbb := tb_bd hj (h + 1) k
  have e3 : w64 (gnI j H l k + tb j (h + 1) k) = gnI j H l k + tb j (h + 1) k := Qc0 (by omega) (by omega)
  have d1 : decide (0 ≤ (h : Int)) = true := decide_eq_true (by omega)
  have d2 : decide (h < nH j + 1) = true := decide_eq_true (by omega)
  have d3 : decide (0 ≤ ((h + 1 : Nat) : Int)) = true := decide_eq_true (by omega)
  have d4 : decide (h + 1 < nH j + 1) = true := decide_eq_true (by omega)
  have d5 : decide (0 ≤ (l : Int)) = true := decide_eq_true (by omega)
  have d6 : decide (l < nL j) = true := decide_eq_true hl
  have d7 : decide (0 ≤ (k : Int)) = true := decide_eq_true (by omega)
  have d8 : decide (k < nL j) = true := decide_eq_true hk
  have p0 : 0 < nL j := by omega
  have t1 := htl.2 h (Nat.zero_le _) (by omega)
  have t2 := htl.2 (h + 1) (Nat.zero_le _) (by omega)
  have t3 := hml.2 (h + 1) (Nat.zero_le _) (by omega)
  have r1 := Qfi (j := j) (tb j) (c := nH j + 1) (m := nH j - h) (by omega)
  have r2 := Qfi (j := j) (tb j) (c := nH j + 1) (m := nH j - (h + 1)) (by omega)
  have r3 := Qfi (j := j) (my j) (c := nH j + 1) (m := nH j - (h + 1)) (by omega)
  rw [show nH j - (nH j - h) = h from by omega] at r1
  rw [show nH j - (nH j - (h + 1)) = h + 1 from by omega] at r2 r3
  have m1 := Qi5 [] r1 hl
  have m2 := Qi5 [] r2 hk
  have m3 := Qi5 [] r3 hk
  have n1 := Qm8 [] r1 p0
  have n2 := Qm8 [] r2 p0
  have n3 := Qm8 [] r3 p0
  simp only [List.append_nil] at m1 m2 m3 n1 n2 n3
  simp only [cond_true, chk, Int.toNat_natCast, d1, d2, d3, d4, d5, d6, d7, d8, Bool.and_self, t1, t2, t3, Option.bind_some, m1, m2, m3, n1, n2, n3, Bool.not_false, e3]
  cases my j (h + 1) k <;> simp
theorem find_loop {N : Nat} {j : GJob} (hj : JobOK j) {h : Nat} {H : GHour} (hh : j.Hours[h]? = some H) {l : Nat} (hl : l < nL j) {tl ml : List (Nat × Nat)} (htl : PairsAt j 0 tl) (hml : PairsAt j 0 ml)
  (K : Unit → Option Int) {x : Nat} (hx : x < nL j) (h1 : (folB j H l x && my j (h + 1) x && (gnI j H l x + tb j (h + 1) x == tb j h l)) = true)
  (h2 : ∀ k < x, (folB j H l k && my j (h + 1) k && (gnI j H l k + tb j (h + 1) k == tb j h l)) = false) : ∀ (n k : Nat), x - k < n → k ≤ x →
  Qbj N (rw' (nL j) (fun k => (k : Int))) j.Levels K j.Ramp j.Start j.First j.Hours h l (nH j + 1) (nH j + 1) ml tl (Qhi j (my j) (nH j + 1)) (Qhi j (tb j) (nH j + 1)) n k = some (x : Int) := by
 have hL := (Qhz hj).2
 intro n
 induction n with
 | zero => intro k h; exact absurd h (Nat.not_lt_zero _)
 | succ n ih =>
  intro k hn hk
  rw [Qbj, Qgx, show decide ((k : Int) < (nL j : Int)) = true from decide_eq_true (by omega), cond_true, Qgo (Ql7 _ (by omega)), Option.bind_some, look_eq hj hh hl (by omega) htl hml, Option.bind_some]
  rcases Nat.eq_or_lt_of_le hk with e | hlt
  ·subst e
   rw [h1, cond_true]
  ·rw [h2 k hlt, cond_false, show w64 ((k : Int) + 1) = ((k + 1 : Nat) : Int) from Qc0 (by omega) (by omega)]
   exact ih (k + 1) (by omega) (by omega)
theorem Qy1 {N : Nat} {j : GJob} (hj : JobOK j) (hN : 300 ≤ N) {tl ml : List (Nat × Nat)} (htl : PairsAt j 0 tl) (hml : PairsAt j 0 ml) (K : List Int → Option DR) : ∀ (n h : Nat) (l : Nat) (acc : List Int), nH j - h < n → h ≤ nH j → l < nL j → acc.length = h → my j h l = true →
  Qcy N j tl ml (Qhi j (tb j) (nH j + 1)) (Qhi j (my j) (nH j + 1)) K n acc h l = K (acc ++ Qlu (nL j) (folB j) (gnI j) (j.Hours.drop h) l) := by
 have hH1 := (Qkw hj).2
 have hL := (Qhz hj).2
 intro n
 induction n with
 | zero => intro h l acc h; exact absurd h (Nat.not_lt_zero _)
 | succ n ih =>
  intro h l acc hn hh hl hacc hm
  rw [Qcy]
  rcases Nat.eq_or_lt_of_le hh with e | hlt
  ·rw [show decide ((h : Int) < (j.Hours.length : Int)) = false from decide_eq_false (by unfold nH at e; omega), cond_false, List.drop_of_length_le (by unfold nH at e; omega), Qlu, List.append_nil]
  ·rw [show decide ((h : Int) < (j.Hours.length : Int)) = true from decide_eq_true (by unfold nH at hlt; omega), cond_true, levels_eq hj hN]
   have e1 : w64 ((j.Hours.length : Int) + 1) = ((nH j + 1 : Nat) : Int) := by rw [Qc0 (by unfold nH at hH1; omega) (by unfold nH at hH1; omega)]; rfl
   have e2 : w64 ((h : Int) + 1) = ((h + 1 : Nat) : Int) := Qc0 (by omega) (by omega)
   obtain ⟨H, hH, hdr⟩ := Qon hlt
   have hall := gn_all hj (hs := H :: j.Hours.drop (h + 1)) (by rw [← hdr]; exact Qqi h)
   have hlen : (j.Hours.drop (h + 1)).length < 100 := by rw [List.length_drop]; unfold nH at hH1 hlt; omega
   have hm' : mayV (nL j) (folB j) (H :: j.Hours.drop (h + 1)) l = true := by rw [← hdr]; exact hm
   obtain ⟨k1, k2, k3, k4⟩ := kF_spec hall hlen hm'
   have k5 := fun k hk => kF_first hall hlen hm' (k := k) hk
   rw [← hdr] at k4 k5
   have hfl := find_loop (N := N) hj hH hl htl hml (fun _ => some (-1)) k1 (by
    have : my j (h + 1) (kF (nL j) (folB j) (gnI j) H (j.Hours.drop (h + 1)) l) = true := k3
    rw [k2, this]
    have : gnI j H l (kF (nL j) (folB j) (gnI j) H (j.Hours.drop (h + 1)) l) + tb j (h + 1) (kF (nL j) (folB j) (gnI j) H (j.Hours.drop (h + 1)) l) = tb j h l := k4
    rw [this]
    simp) (fun k hk => k5 k hk) N 0 (by omega) (Nat.zero_le _)
   rw [e1, e2]
   simp only [Option.bind_some, Int.toNat_natCast]
   unfold Qdo
   simp only [Qcn]
   rw [show (0 : Int) = ((0 : Nat) : Int) from rfl, hfl]
   simp only [Option.bind_some, chk]
   rw [show decide ((acc.length + [((kF (nL j) (folB j) (gnI j) H (j.Hours.drop (h + 1)) l : Nat) : Int)].length) * 8 ≤ 140737488355328) = true from decide_eq_true (by simp; omega), cond_true]
   rw [ih (h + 1) _ _ (by omega) hlt k1 (by simp [hacc]) k3, hdr, Qlu, List.append_assoc]
   rfl
def Qir (j : GJob) : List (List Int) := rw' (nH j + 1) (fun i => rw' (nL j) (tb j i))
def Qsk (j : GJob) : List Int := Qlu (nL j) (folB j) (gnI j) j.Hours j.First
def canB (j : GJob) : Bool := mayV (nL j) (folB j) j.Hours j.First
def Qt8 (j : GJob) : Int := tabV (nL j) (folB j) (gnI j) j.Hours j.First
theorem Qt4 {N : Nat} {j : GJob} (hj : jobB j = true) (hN : 300 ≤ N) : Qdz N j = some (bif canB j then (Qsk j, Qt8 j, Qir j, 0) else ([], 0, [], 7)) := by
 have hk := jobOK hj
 have hH1 := (Qkw hk).2
 have hL := (Qhz hk).2
 have hL0 := (Qhz hk).1
 have f0 := hk.f0
 have f1 : j.First ≤ (nL j : Int) - 1 := hk.f1
 unfold Qdz
 rw [job_eq hN, hj]
 have e1 : w64 ((j.Hours.length : Int) + 1) = ((nH j + 1 : Nat) : Int) := by rw [Qc0 (by unfold nH at hH1; omega) (by unfold nH at hH1; omega)]; rfl
 rw [e1, Int.toNat_natCast, Int.toNat_natCast, Option.bind_some, Bool.not_true, cond_false]
 rw [show decide (0 ≤ ((nH j + 1 : Nat) : Int)) = true from decide_eq_true (by omega), show decide (24 * ((nH j + 1 : Nat) : Int) ≤ 281474976710656) = true from decide_eq_true (by omega), show decide (((nH j + 1 : Nat) : Int) ≤ 9223372036854775807) = true from decide_eq_true (by omega)]
 rw [Bool.and_self, Bool.and_self, chk, chk, cond_true, cond_true]
 have e0 : (j.Hours.length : Int) = ((nH j + 1 : Nat) : Int) - 1 := by unfold nH; omega
 have hr : PairsAt j (nH j + 1) (List.replicate (nH j + 1) (0, 0)) := ⟨List.length_replicate, fun i h1 h2 => by omega⟩
 have key : ∀ K, Qck N j K N (((nH j + 1 : Nat) : Int) - 1) (List.replicate (nH j + 1) (0, 0)) (List.replicate (nH j + 1) (0, 0)) [] [] = K (rw' (nH j + 1) (fun i => (nH j - i, nL j)), rw' (nH j + 1) (fun i => (nH j - i, nL j)), Qhi j (tb j) (nH j + 1), Qhi j (my j) (nH j + 1)) := by
  intro K
  obtain ⟨tl, ml, h1, h2, h3⟩ := disp_loop (N := N) hk hN K N (nH j + 1) _ _ (by omega) (Nat.le_refl _) hr hr
  rw [Nat.sub_self] at h3
  refine Eq.trans h3 ?_
  rw [h1.all, h2.all]
 have hp : PairsAt j 0 (rw' (nH j + 1) (fun i => (nH j - i, nL j))) := ⟨Qgx _ _, fun i _ h => Ql7 _ (by omega)⟩
 rw [e0]
 simp only [Qcn]
 rw [key]
 obtain ⟨fn, hfn⟩ : ∃ fn : Nat, j.First = (fn : Int) := ⟨j.First.toNat, by omega⟩
 have hfl : fn < nL j := by omega
 have t1 := hp.2 0 (Nat.zero_le _) (Nat.zero_le _)
 have r1 := Qfi (j := j) (tb j) (c := nH j + 1) (m := nH j - 0) (by omega)
 have r3 := Qfi (j := j) (my j) (c := nH j + 1) (m := nH j - 0) (by omega)
 rw [show nH j - (nH j - 0) = 0 from by omega] at r1 r3
 have p0 : 0 < nL j := by omega
 have m1 := Qi5 [] r1 hfl
 have m3 := Qi5 [] r3 hfl
 have n1 := Qm8 [] r1 p0
 have n3 := Qm8 [] r3 p0
 simp only [List.append_nil] at m1 m3 n1 n3
 have d1 : decide ((0 : Nat) ≤ 0) = true := rfl
 have d2 : decide (0 < nH j + 1) = true := decide_eq_true (by omega)
 have d3 : decide (0 ≤ j.First) = true := decide_eq_true f0
 have d4 : decide (fn < nL j) = true := decide_eq_true hfl
 have d5 : j.First.toNat = fn := by omega
 have ec : my j 0 fn = canB j := by unfold my canB; rw [hfn]; rfl
 have et : tb j 0 fn = Qt8 j := by unfold tb Qt8; rw [hfn]; rfl
 have ep : Qlu (nL j) (folB j) (gnI j) (j.Hours.drop 0) fn = Qsk j := by unfold Qsk; rw [hfn]; rfl
 rw [show (0 : Int).toNat = 0 from rfl, t1]
 simp only [chk, d1, d2, d3, Bool.and_self, cond_true, Option.bind_some, n1, n3, Bool.not_false, d4, d5]
 rw [m3, m1, ec, et]
 simp only [Option.bind_some]
 cases hc : canB j with
 | false => rfl
 | true =>
  simp only [Bool.not_true, cond_false]
  have hpl := fun K => Qy1 (N := N) hk hN hp hp K N 0 fn [] (by omega) (Nat.zero_le _) hfl rfl (by rw [ec]; exact hc)
  rw [hfn]
  rw [show ((0 : Nat) : Int) = 0 from rfl] at hpl
  rw [hpl, ep, List.nil_append]
  have c1 : ((rw' (nH j + 1) (fun i => (nH j - i, nL j))).all fun x => decide (x.2 ≤ ((Qhi j (tb j) (nH j + 1)).getD x.1 []).length)) = true := by
   rw [List.all_eq_true]
   intro x hx
   simp only [rw', List.mem_map, List.mem_range] at hx
   obtain ⟨i, hi, rfl⟩ := hx
   rw [List.getD_eq_getElem?_getD, Qfi _ (by omega)]
   simp [Qgx]
  have c2 : ((rw' (nH j + 1) (fun i => (nH j - i, nL j))).map fun x => ((Qhi j (tb j) (nH j + 1)).getD x.1 []).take x.2) = Qir j := by
   unfold Qir
   conv => lhs; rw [rw', List.map_map]
   unfold rw'
   apply List.map_congr_left
   intro i hi
   have := List.mem_range.1 hi
   simp only [Function.comp_apply]
   rw [List.getD_eq_getElem?_getD, Qfi _ (by omega), show nH j - (nH j - i) = i from by omega]
   simp only [Option.getD_some]
   rw [List.take_of_length_le (by rw [Qgx]; exact Nat.le_refl _)]
   rfl
  have c3 : (Qir j).length = nH j + 1 := Qgx _ _
  rw [c1, c2, c3, List.take_of_length_le (by rw [c3]; exact Nat.le_refl _)]
  simp
end Go.Proofs.Ytlhakkkjgdbdpaa
