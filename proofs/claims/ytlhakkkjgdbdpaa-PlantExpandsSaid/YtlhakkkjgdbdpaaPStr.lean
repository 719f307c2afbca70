/-
  Plain laws on streams. No conditions.
-/
import Derived.Test.YtlhakkkjgdbdpaaX9
import Derived.Test.YtlhakkkjgdbdpaaPPlant
namespace Go.Proofs.Ytlhakkkjgdbdpaa
open Go.RowKit

def strB (s : GStream) : Bool := btw s.Mass 0 1000000 && btw s.Heat 0 (4000 * s.Mass) && btw s.Silica 0 (10000 * s.Mass) && btw s.Gas 0 1000000000
theorem valid_eq (N : Nat) (s : GStream) : Qd0 N s = some (strB s) := by
  unfold Qd0 strB
  simp only [within1_eq, Option.bind_some]
  cases h : btw s.Mass 0 1000000 with
  | false => rfl
  | true =>
    obtain ⟨h1, h2⟩ := Qgr.1 h
    rw [Qfe (show -9223372036854775808 ≤ 4000 * s.Mass by omega) (by omega), Qfe (show -9223372036854775808 ≤ 10000 * s.Mass by omega) (by omega)]
    cases btw s.Heat 0 (4000 * s.Mass) <;> cases btw s.Silica 0 (10000 * s.Mass) <;> simp
theorem rightS_eq (N : Nat) (s : GStream) : Qdv N s = some (strB s) := by
  unfold Qdv strB
  simp only [in_eq, Option.bind_some]
  cases h : btw s.Mass 0 1000000 with
  | false => rfl
  | true =>
    obtain ⟨h1, h2⟩ := Qgr.1 h
    rw [Qfe (show -9223372036854775808 ≤ 4000 * s.Mass by omega) (by omega), Qfe (show -9223372036854775808 ≤ 10000 * s.Mass by omega) (by omega)]
    cases btw s.Heat 0 (4000 * s.Mass) <;> cases btw s.Silica 0 (10000 * s.Mass) <;> simp
theorem strB_iff {s : GStream} : strB s = true ↔ (0 ≤ s.Mass ∧ s.Mass ≤ 1000000) ∧ (0 ≤ s.Heat ∧ s.Heat ≤ 4000 * s.Mass) ∧ (0 ≤ s.Silica ∧ s.Silica ≤ 10000 * s.Mass) ∧ 0 ≤ s.Gas ∧ s.Gas ≤ 1000000000 := by
  simp [strB, Qgr, and_assoc]
theorem check_eq (N : Nat) (s : GStream) : Qeu N s = some (bif strB s then 0 else 1) := by
  unfold Qeu
  rw [valid_eq]
  cases strB s <;> rfl
theorem allS1_eq (N : Nat) (s : GStream) : Qc9 N s = some (!strB s) := by
  unfold Qc9 Qhj
  rw [check_eq]
  cases strB s <;> rfl
theorem rightP_one {N : Nat} (hN : 10 ≤ N) (s : GStream) : Qey N [s] = some (strB s) := by
  obtain ⟨n, rfl⟩ : ∃ n, N = n + 2 := ⟨N - 2, by omega⟩
  unfold Qey Qdg Qbg Qbn
  simp only [Qc5, Qax, allS1_eq, getI, Option.bind_some, show w64 (0 + 1) = 1 from by decide]
  cases h : strB s <;> simp [h]
theorem rightP_two {N : Nat} (hN : 10 ≤ N) (s t : GStream) : Qey N [s, t] = some (strB s && strB t) := by
  obtain ⟨n, rfl⟩ : ∃ n, N = n + 3 := ⟨N - 3, by omega⟩
  unfold Qey Qdg Qbg Qbn
  simp only [Qc5, Qax, allS1_eq, getI, Option.bind_some, show w64 (0 + 1) = 1 from by decide, show w64 (1 + 1) = 2 from by decide]
  cases h : strB s <;> cases h' : strB t <;> simp [h, h']
end Go.Proofs.Ytlhakkkjgdbdpaa
