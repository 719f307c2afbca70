/-
  Plain laws that the laws of layer 7 lean on: numbers, units, their work. No conditions.
-/
import Derived.Test.YtlhakkkjgdbdpaaX6
import Derived.Test.YtlhakkkjgdbdpaaXo
namespace Go.Proofs.Ytlhakkkjgdbdpaa
open Go.RowKit
theorem Qc0 {x : Int} (h : -9223372036854775808 ≤ x) (h' : x ≤ 9223372036854775807) : w64 x = x := by
 unfold w64
 rw [IntKind.wrap_i64]
 omega
theorem Qgo {α : Type} {l : List α} {i : Nat} {x : α} (h : l[i]? = some x) : getI l (i : Int) = some x := by
 simp [getI, h]
def btw (a lo hi : Int) : Bool := decide (lo ≤ a) && decide (a ≤ hi)
theorem Qk0 {a lo hi : Int} : btw a lo hi = true ↔ lo ≤ a ∧ a ≤ hi := by simp [btw]
theorem Qnz (N : Nat) (a lo hi : Int) : Qbe N a lo hi = some (btw a lo hi) := by
 unfold Qbe btw
 by_cases h : lo ≤ a <;> simp [h]
theorem in_eq (N : Nat) (a lo hi : Int) : Qe7 N a lo hi = some (btw a lo hi) := by
 unfold Qe7 btw
 by_cases h : lo ≤ a <;> simp [h]
theorem Qg9 {α : Type} {t : List α} {i : Nat} {a : α} {l : List α} (h : t.drop i = a :: l) : t[i]? = some a ∧ t.drop (i + 1) = l ∧ i < t.length := by
 have hlt : i < t.length := by
  rcases Nat.lt_or_ge i t.length with h' | h'
  ·exact h'
  ·rw [List.drop_eq_nil_of_le h'] at h; cases h
 rw [List.drop_eq_getElem_cons hlt] at h
 simp only [List.cons.injEq] at h
 exact ⟨by rw [List.getElem?_eq_getElem hlt, h.1], h.2, hlt⟩
theorem Qi6 {α : Type} {t : List α} {i : Nat} (h : t.drop i = []) : t.length ≤ i := List.drop_eq_nil_iff.1 h
theorem awake_at : Qfc 2000 = some true := by decide +kernel
theorem maxLen_eq : maxLen = 9223372036854775807 := rfl
end Go.Proofs.Ytlhakkkjgdbdpaa
