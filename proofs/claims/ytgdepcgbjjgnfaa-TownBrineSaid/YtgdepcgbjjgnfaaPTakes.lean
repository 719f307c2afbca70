/-
  Plain: what brine gives, and what is left of it. No conditions.
-/
import Derived.Test.YtgdepcgbjjgnfaaX9
import Derived.Test.YtgdepcgbjjgnfaaPTown
namespace Go.Proofs.Ytgdepcgbjjgnfaa
open Go.RowKit

def strB (s : GStream) : Bool := btw s.Mass 0 1000000 && btw s.Heat 0 (4000 * s.Mass) && btw s.Silica 0 (10000 * s.Mass) && btw s.Gas 0 1000000000
theorem within1_eq (N : Nat) (a lo hi : Int) : steam_withinX N a lo hi = some (btw a lo hi) := by
  unfold steam_withinX btw
  by_cases h : lo ≤ a <;> simp [h]
theorem in1_eq (N : Nat) (a lo hi : Int) : ref01_InX N a lo hi = some (btw a lo hi) := by
  unfold ref01_InX btw
  by_cases h : lo ≤ a <;> simp [h]
theorem valid_eq (N : Nat) (s : GStream) : steam_Stream_validX N s = some (strB s) := by
  unfold steam_Stream_validX strB
  simp only [within1_eq, Option.bind_some]
  cases h : btw s.Mass 0 1000000 with
  | false => rfl
  | true =>
    obtain ⟨h1, h2⟩ := btw_iff.1 h
    rw [w64_id (show -9223372036854775808 ≤ 4000 * s.Mass by omega) (by omega), w64_id (show -9223372036854775808 ≤ 10000 * s.Mass by omega) (by omega)]
    cases btw s.Heat 0 (4000 * s.Mass) <;> cases btw s.Silica 0 (10000 * s.Mass) <;> simp
theorem right_eq (N : Nat) (s : GStream) : ref01_RightStreamX N s = some (strB s) := by
  unfold ref01_RightStreamX strB
  simp only [in1_eq, Option.bind_some]
  cases h : btw s.Mass 0 1000000 with
  | false => rfl
  | true =>
    obtain ⟨h1, h2⟩ := btw_iff.1 h
    rw [w64_id (show -9223372036854775808 ≤ 4000 * s.Mass by omega) (by omega), w64_id (show -9223372036854775808 ≤ 10000 * s.Mass by omega) (by omega)]
    cases btw s.Heat 0 (4000 * s.Mass) <;> cases btw s.Silica 0 (10000 * s.Mass) <;> simp
theorem strB_iff {s : GStream} : strB s = true ↔ (0 ≤ s.Mass ∧ s.Mass ≤ 1000000) ∧ (0 ≤ s.Heat ∧ s.Heat ≤ 4000 * s.Mass) ∧ (0 ≤ s.Silica ∧ s.Silica ≤ 10000 * s.Mass) ∧ 0 ≤ s.Gas ∧ s.Gas ≤ 1000000000 := by
  simp [strB, btw_iff, and_assoc]
theorem check_eq (N : Nat) (s : GStream) : steam_CheckStreamX N s = some (bif strB s then 0 else 1) := by
  unfold steam_CheckStreamX
  rw [valid_eq]
  cases strB s <;> rfl
/-- What is given. -/
def givesI (s : GStream) (f : Int) : Int := max 0 (s.Heat - f * s.Mass)
def gotI (s : GStream) (f w : Int) : Int := min w (givesI s f)
theorem prod_bd {f m : Int} (f0 : 0 ≤ f) (f1 : f ≤ 4000) (m0 : 0 ≤ m) (m1 : m ≤ 1000000) : 0 ≤ f * m ∧ f * m ≤ 4000000000 :=
  ⟨Int.mul_nonneg f0 m0, Int.le_trans (Int.mul_le_mul_of_nonneg_right f1 m0) (by omega)⟩
theorem take_eq (N : Nat) (s : GStream) {f w : Int} (hs : strB s = true) (f0 : 0 ≤ f) (f1 : f ≤ 4000) (w0 : 0 ≤ w) (w1 : w ≤ 100000000000) :
    town_TakeX N ⟨s, f⟩ w = some (⟨s.Mass, s.Heat - gotI s f w, s.Silica, s.Gas⟩, gotI s f w, 0) := by
  obtain ⟨⟨m0, m1⟩, ⟨h0, h1⟩, _, _⟩ := strB_iff.1 hs
  obtain ⟨q0, q1⟩ := prod_bd f0 f1 m0 m1
  unfold town_TakeX gotI givesI
  generalize hq : f * s.Mass = q at q0 q1
  have e1 : w64 q = q := w64_id (by omega) (by omega)
  have e2 : w64 (s.Heat - q) = s.Heat - q := w64_id (by omega) (by omega)
  simp only [joinK, check_eq, hs, cond_true, Option.bind_some, within_eq, btw_iff.2 ⟨f0, f1⟩, btw_iff.2 ⟨w0, w1⟩, Bool.not_true, cond_false, e1, e2, steam_HeatedX, valid_eq]
  have e3 : (if s.Heat - q > 0 then s.Heat - q else 0) = max 0 (s.Heat - q) := by split <;> omega
  have e4 : (if max 0 (s.Heat - q) < w then max 0 (s.Heat - q) else w) = min w (max 0 (s.Heat - q)) := by split <;> omega
  rw [e3, e4]
  generalize hg : min w (max 0 (s.Heat - q)) = g
  have hg0 : 0 ≤ g ∧ g ≤ s.Heat := by omega
  have e5 : w64 (0 - g) = -g := by rw [w64_id (by omega) (by omega)]; omega
  have e6 : w64 (0 - s.Heat) = -s.Heat := by rw [w64_id (by omega) (by omega)]; omega
  have e7 : w64 (4000 * s.Mass) = 4000 * s.Mass := w64_id (by omega) (by omega)
  have e8 : w64 (4000 * s.Mass - s.Heat) = 4000 * s.Mass - s.Heat := w64_id (by omega) (by omega)
  have e9 : w64 (s.Heat + -g) = s.Heat - g := by rw [w64_id (by omega) (by omega)]; omega
  rw [e5, e6, e7, e8, e9, show decide (-g < -s.Heat) = false from by simp; omega, show decide (-g > 4000 * s.Mass - s.Heat) = false from by simp; omega]
  rfl
end Go.Proofs.Ytgdepcgbjjgnfaa
