/-
  Plain laws of lists that are told by a function of the place. No conditions.
-/
import Derived.Test.YtlhakkkjgdbdpaaPPlant
namespace Go.Proofs.Ytlhakkkjgdbdpaa
open Go.RowKit
def rw' {α : Type} (L : Nat) (f : Nat → α) : List α := (List.range L).map f
def updN {α : Type} (f : Nat → α) (l : Nat) (v : α) : Nat → α := fun m => if m = l then v else f m
theorem Qll {α : Type} (L : Nat) (f : Nat → α) : (rw' L f).length = L := by simp [rw']
theorem Qoq {α : Type} {L : Nat} (f : Nat → α) {k : Nat} (h : k < L) : (rw' L f)[k]? = some (f k) := by simp [rw', h]
theorem rw_set {α : Type} (L : Nat) (f : Nat → α) (l : Nat) (v : α) : (rw' L f).set l v = rw' L (updN f l v) := by
 apply List.ext_getElem?
 intro i
 rw [List.getElem?_set]
 by_cases h : i < L
 ·rw [Qoq _ h, Qoq _ h, Qll]
  by_cases h1 : l = i
  ·subst h1; simp [h, updN]
  ·have : ¬ i = l := fun e => h1 e.symm
   simp [h1, updN, this]
 ·have e1 : (rw' L f)[i]? = none := by rw [List.getElem?_eq_none_iff, Qll]; omega
  have e2 : (rw' L (updN f l v))[i]? = none := by rw [List.getElem?_eq_none_iff, Qll]; omega
  rw [e1, e2, Qll]
  split
  ·simp; omega
  ·rfl
theorem rw_rep {α : Type} (L : Nat) (v : α) : List.replicate L v = rw' L (fun _ => v) := by
 apply List.ext_getElem?
 intro i
 by_cases h : i < L
 ·rw [Qoq _ h]; simp [h]
 ·have e2 : (rw' L (fun _ : Nat => v))[i]? = none := by rw [List.getElem?_eq_none_iff, Qll]; omega
  rw [e2]; simp; omega
theorem updN_updN {α : Type} (f : Nat → α) (l : Nat) (a b : α) : updN (updN f l a) l b = updN f l b := by
 funext m; unfold updN; split <;> rfl
theorem updN_at {α : Type} (f : Nat → α) (l : Nat) (a : α) : updN f l a l = a := by simp [updN]
theorem rw_ext {α : Type} {L : Nat} {f g : Nat → α} (h : ∀ k, k < L → f k = g k) : rw' L f = rw' L g := by
 unfold rw'
 exact List.map_congr_left (fun k hk => h k (List.mem_range.1 hk))
end Go.Proofs.Ytlhakkkjgdbdpaa
