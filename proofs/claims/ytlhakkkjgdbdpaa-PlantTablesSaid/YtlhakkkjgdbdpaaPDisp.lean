/-
  Plain laws of dispatching: what Dispatch returns is the best plan with its table. No conditions.
-/
import Derived.Test.YtlhakkkjgdbdpaaPDyn
import Derived.Test.YtlhakkkjgdbdpaaPRw
namespace Go.Proofs.Ytlhakkkjgdbdpaa
open Go.RowKit
theorem Qt1 {α : Type} (R : List (List α)) {L : Nat} (f : Nat → α) {l : Nat} (h : l < L) : getM (R ++ [rw' L f]) R.length l = some (f l) := by
 unfold getM
 rw [List.getElem?_append_right (Nat.le_refl _), Nat.sub_self]
 simp [Qoq f h]
theorem Qw9 {α : Type} {R : List (List α)} {L : Nat} {f : Nat → α} {a l : Nat} (X : List (List α)) (ha : R[a]? = some (rw' L f)) (h : l < L) : getM (R ++ X) a l = some (f l) := by
 have hlt : a < R.length := by
  rcases Nat.lt_or_ge a R.length with h' | h'
  ·exact h'
  ·rw [List.getElem?_eq_none h'] at ha; cases ha
 unfold getM
 rw [List.getElem?_append_left hlt, ha]
 simp [Qoq f h]
theorem Qtl {α : Type} (R : List (List α)) {L : Nat} (f : Nat → α) (l : Nat) (v : α) : setM (R ++ [rw' L f]) R.length l v = R ++ [rw' L (updN f l v)] := by
 unfold setM
 rw [List.getD_eq_getElem?_getD, List.getElem?_append_right (Nat.le_refl _), Nat.sub_self]
 simp only [List.getElem?_cons_zero, Option.getD_some, rw_set]
 rw [List.set_append_right _ _ (Nat.le_refl _), Nat.sub_self]
 rfl
theorem ne_last {α : Type} (R : List (List α)) {L : Nat} (f : Nat → α) (h : 0 < L) : ((R ++ [rw' L f]).getD R.length []).isEmpty = false := by
 rw [List.getD_eq_getElem?_getD, List.getElem?_append_right (Nat.le_refl _), Nat.sub_self]
 simp only [List.getElem?_cons_zero, Option.getD_some, List.isEmpty_eq_false_iff]
 intro e
 have := Qll L f
 rw [e] at this
 simp at this
 omega
theorem ne_old {α : Type} {R : List (List α)} {L : Nat} {f : Nat → α} {a : Nat} (X : List (List α)) (ha : R[a]? = some (rw' L f)) (h : 0 < L) : ((R ++ X).getD a []).isEmpty = false := by
 have hlt : a < R.length := by
  rcases Nat.lt_or_ge a R.length with h' | h'
  ·exact h'
  ·rw [List.getElem?_eq_none h'] at ha; cases ha
 rw [List.getD_eq_getElem?_getD, List.getElem?_append_left hlt, ha]
 simp only [Option.getD_some, List.isEmpty_eq_false_iff]
 intro e
 have := Qll L f
 rw [e] at this
 simp at this
 omega
abbrev nL (j : GJob) : Nat := j.Levels.length
abbrev nH (j : GJob) : Nat := j.Hours.length
theorem Qj5 {j : GJob} (h : JobOK j) : 2 ≤ nL j ∧ nL j ≤ 12 := ⟨h.l0, h.l1⟩
theorem Qkx {j : GJob} (h : JobOK j) : 1 ≤ nH j ∧ nH j ≤ 100 := ⟨h.h0, h.h1⟩
def tb (j : GJob) (i : Nat) (l : Nat) : Int := tabV (nL j) (folB j) (gnI j) (j.Hours.drop i) l
theorem gn_all {j : GJob} (hj : JobOK j) {hs : List GHour} (h : ∀ x ∈ hs, x ∈ j.Hours) : ∀ x ∈ hs, ∀ l k, -2000000000 ≤ gnI j x l k ∧ gnI j x l k ≤ 1000000000 :=
 fun x hx l k => Qyi hj (h x hx) l k
theorem Qw2 {j : GJob} (i : Nat) : ∀ x ∈ j.Hours.drop i, x ∈ j.Hours := fun _ h => List.mem_of_mem_drop h
theorem tb_bd {j : GJob} (hj : JobOK j) (i l : Nat) : -1000000000000 ≤ tb j i l ∧ tb j i l ≤ 100000000000 := by
 have h := tab_bd (L := nL j) (fol := folB j) (j.Hours.drop i) (gn_all hj (Qw2 i)) (by have := hj.h1; simp; omega) l
 have h1 := hj.h1
 have h2 : ((j.Hours.drop i).length : Int) ≤ 100 := by simp; omega
 exact ⟨h.1, by have := h.2.1; unfold tb; omega⟩
theorem fol_in {j : GJob} (H : GHour) (b k : Int) (h : folB j H b k = true) : 0 ≤ k ∧ k < nL j := by
 unfold folB at h
 simp only [Bool.and_eq_true, Qix] at h
 have := h.1.1
 exact ⟨this.1, by unfold nL; omega⟩
theorem drop_at {j : GJob} {h : Nat} (hh : h < nH j) : ∃ H, j.Hours[h]? = some H ∧ j.Hours.drop h = H :: j.Hours.drop (h + 1) := by
 refine ⟨j.Hours[h], List.getElem?_eq_getElem hh, ?_⟩
 rw [List.drop_eq_getElem_cons hh]
section Row
variable {N : Nat} {j : GJob} {h : Nat} {H : GHour} {tl ml : List (Nat × Nat)} {R : List (List Int)} {M : List (List Bool)} {a b : Nat}
end Row
theorem chk1 {j : GJob} (hj : JobOK j) {β : Type} (k : Option β) : chk (decide (0 ≤ (j.Levels.length : Int)) && decide (8 * (j.Levels.length : Int) ≤ 281474976710656) && decide ((j.Levels.length : Int) ≤ 9223372036854775807)) k = k := by
 have hL := hj.l1
 rw [chk, show decide (0 ≤ (j.Levels.length : Int)) = true from decide_eq_true (by omega), show decide (8 * (j.Levels.length : Int) ≤ 281474976710656) = true from decide_eq_true (by omega), show decide ((j.Levels.length : Int) ≤ 9223372036854775807) = true from decide_eq_true (by omega)]
 rfl
def Qnc {α : Type} (j : GJob) (f : Nat → Nat → α) (c : Nat) : List (List α) := rw' c (fun m => rw' (nL j) (f (nH j - m)))
def PairsAt (j : GJob) (c : Nat) (tl : List (Nat × Nat)) : Prop := tl.length = nH j + 1 ∧ ∀ i, c ≤ i → i ≤ nH j → tl[i]? = some (nH j - i, nL j)
theorem PairsAt.set {j : GJob} {c : Nat} {tl : List (Nat × Nat)} (h : PairsAt j (c + 1) tl) (hc : c ≤ nH j) : PairsAt j c (tl.set c (nH j - c, nL j)) := by
 refine ⟨by rw [List.length_set]; exact h.1, fun i h1 h2 => ?_⟩
 rcases Nat.eq_or_lt_of_le h1 with e | hlt
 ·subst e
  have := h.1
  rw [List.getElem?_set_self (by omega)]
 ·rw [List.getElem?_set_ne (by omega)]
  exact h.2 i hlt h2
theorem PairsAt.all {j : GJob} {tl : List (Nat × Nat)} (h : PairsAt j 0 tl) : tl = rw' (nH j + 1) (fun i => (nH j - i, nL j)) := by
 apply List.ext_getElem?
 intro i
 by_cases hi : i < nH j + 1
 ·rw [h.2 i (Nat.zero_le _) (by omega), Qoq _ hi]
 ·have e2 : (rw' (nH j + 1) (fun i => (nH j - i, nL j)))[i]? = none := by rw [List.getElem?_eq_none_iff, Qll]; omega
  have e3 : tl[i]? = none := by rw [List.getElem?_eq_none_iff, h.1]; omega
  rw [e2, e3]
theorem rowsD_len {α : Type} (j : GJob) (f : Nat → Nat → α) (c : Nat) : (Qnc j f c).length = c := Qll _ _
theorem Qpk {α : Type} {j : GJob} (f : Nat → Nat → α) {c m : Nat} (h : m < c) : (Qnc j f c)[m]? = some (rw' (nL j) (f (nH j - m))) := Qoq _ h
theorem Qq0 {α : Type} (j : GJob) (f : Nat → Nat → α) (c : Nat) : Qnc j f c ++ [rw' (nL j) (f (nH j - c))] = Qnc j f (c + 1) := by simp [Qnc, rw', List.range_succ]
def bestP (j : GJob) : List Int := Qpt (nL j) (folB j) (gnI j) j.Hours j.First
def canB (j : GJob) : Bool := mayV (nL j) (folB j) j.Hours j.First
def bestV (j : GJob) : Int := tabV (nL j) (folB j) (gnI j) j.Hours j.First
end Go.Proofs.Ytlhakkkjgdbdpaa
