/-
  Plain laws that the laws of layer 7 lean on: numbers, units, their work. No conditions.
-/
import Derived.Test.YtlhakkkjgdbdpaaX6
import Derived.Test.YtlhakkkjgdbdpaaXo
namespace Go.Proofs.Ytlhakkkjgdbdpaa
open Go.RowKit
theorem Qc3 {x : Int} (h : -9223372036854775808 ≤ x) (h' : x ≤ 9223372036854775807) : w64 x = x := by
 unfold w64
 rw [IntKind.wrap_i64]
 omega
theorem Qdt {α : Type} {l : List α} {i : Nat} {x : α} (h : l[i]? = some x) : getI l (i : Int) = some x := by
 simp [getI, h]
def btw (a lo hi : Int) : Bool := decide (lo ≤ a) && decide (a ≤ hi)
theorem Qix {a lo hi : Int} : btw a lo hi = true ↔ lo ≤ a ∧ a ≤ hi := by simp [btw]
theorem Qm9 (N : Nat) (a lo hi : Int) : Qbh N a lo hi = some (btw a lo hi) := by
 unfold Qbh btw
 by_cases h : lo ≤ a <;> simp [h]
theorem in_eq (N : Nat) (a lo hi : Int) : Qez N a lo hi = some (btw a lo hi) := by
 unfold Qez btw
 by_cases h : lo ≤ a <;> simp [h]
theorem Qen {α : Type} {t : List α} {i : Nat} {a : α} {l : List α} (h : t.drop i = a :: l) : t[i]? = some a ∧ t.drop (i + 1) = l ∧ i < t.length := by
 have hlt : i < t.length := by
  rcases Nat.lt_or_ge i t.length with h' | h'
  ·exact h'
  ·rw [List.drop_eq_nil_of_le h'] at h; cases h
 rw [List.drop_eq_getElem_cons hlt] at h
 simp only [List.cons.injEq] at h
 exact ⟨by rw [List.getElem?_eq_getElem hlt, h.1], h.2, hlt⟩
theorem Qf6 {α : Type} {t : List α} {i : Nat} (h : t.drop i = []) : t.length ≤ i := List.drop_eq_nil_iff.1 h
theorem Qsm : Qfz 2000 = some true := by decide +kernel
theorem maxLen_eq : maxLen = 9223372036854775807 := rfl
def Qvl : Int → List GPart → Bool
 | _, [] => true
 | last, p :: l => btw p.Gain 0 last && btw p.Width 1 100000 && Qvl p.Gain l
def unitB (u : GUnit) : Bool := btw u.Inlet 0 5 && btw u.Parts.length 1 8 && Qvl 1000 u.Parts
theorem Qtg {u : GUnit} (h : unitB u = true) : (0 ≤ u.Inlet ∧ u.Inlet ≤ 5) ∧ (1 ≤ u.Parts.length ∧ u.Parts.length ≤ 8) ∧ Qvl 1000 u.Parts = true := by
 unfold unitB at h
 simp only [Bool.and_eq_true, Qix] at h
 exact ⟨h.1.1, by omega, h.2⟩
def capI : List GPart → Int
 | [] => 0
 | p :: l => p.Width + capI l
theorem Qxf : ∀ (l : List GPart) (last : Int), Qvl last l = true → last ≤ 1000 → ∀ p ∈ l, (1 ≤ p.Width ∧ p.Width ≤ 100000) ∧ 0 ≤ p.Gain ∧ p.Gain ≤ last
 | [], _, _, _, p, hp => by cases hp
 | q :: l, last, h, h1, p, hp => by
  simp only [Qvl, Bool.and_eq_true, Qix] at h
  rcases List.mem_cons.1 hp with rfl | hp
  ·exact ⟨h.1.2, h.1.1⟩
  ·have := Qxf l q.Gain h.2 (by omega) p hp
   exact ⟨this.1, by omega⟩
end Go.Proofs.Ytlhakkkjgdbdpaa
