/-
  Plain laws that the laws of layer 10 lean on. No conditions.
-/
import Derived.Test.YtgdepcgbjjgnfaaX5
import Derived.Test.YtgdepcgbjjgnfaaXo
namespace Go.Proofs.Ytgdepcgbjjgnfaa
open Go.RowKit
theorem Qco {x : Int} (h : -9223372036854775808 ≤ x) (h' : x ≤ 9223372036854775807) : w64 x = x := by
 unfold w64
 rw [IntKind.wrap_i64]
 omega
theorem Qcs {α : Type} {l : List α} {i : Nat} {x : α} (h : l[i]? = some x) : getI l (i : Int) = some x := by
 simp [getI, h]
def btw (a lo hi : Int) : Bool := decide (lo ≤ a) && decide (a ≤ hi)
theorem Qht {a lo hi : Int} : btw a lo hi = true ↔ lo ≤ a ∧ a ≤ hi := by simp [btw]
theorem Qj8 (N : Nat) (a lo hi : Int) : Qcg N a lo hi = some (btw a lo hi) := by
 unfold Qcg btw
 by_cases h : lo ≤ a <;> simp [h]
theorem Qyt (N : Nat) (a lo hi : Int) : Qfs N a lo hi = some (btw a lo hi) := by
 unfold Qfs btw
 by_cases h : lo ≤ a <;> simp [h]
theorem Qft {α : Type} {t : List α} {i : Nat} {a : α} {l : List α} (h : t.drop i = a :: l) : t[i]? = some a ∧ t.drop (i + 1) = l ∧ i < t.length := by
 have hlt : i < t.length := by
  rcases Nat.lt_or_ge i t.length with h' | h'
  ·exact h'
  ·rw [List.drop_eq_nil_of_le h'] at h; cases h
 rw [List.drop_eq_getElem_cons hlt] at h
 simp only [List.cons.injEq] at h
 exact ⟨by rw [List.getElem?_eq_getElem hlt, h.1], h.2, hlt⟩
theorem Qgh {α : Type} {t : List α} {i : Nat} (h : t.drop i = []) : t.length ≤ i := List.drop_eq_nil_iff.1 h
theorem wakes_at : Qe4 2000 = some true := by decide +kernel
end Go.Proofs.Ytgdepcgbjjgnfaa
