/-
  Plain: whether a unit is valid, and the work of any mass. No conditions.
-/
import Derived.Test.YtlhakkkjgdbdpaaX8
import Derived.Test.YtlhakkkjgdbdpaaPPlant
namespace Go.Proofs.Ytlhakkkjgdbdpaa
open Go.RowKit

theorem powers_law (u : GUnit) (m : Int) (_ : gd_GUnit u) (_ : gd_i64 m) : law07_PlantPowersX 2000 u m = some true := by
  unfold law07_PlantPowersX law07_smallX
  rw [awake_at]
  simp only [Option.bind_some]
  by_cases hs : (u.Parts.length : Int) ≤ 10
  · simp only [hs, decide_true, Bool.not_true, cond_false, copyU_eq (u := u) (N := 2000) (by omega) (by omega), Option.bind_some, power_eq (N := 2000) (by omega), right_eq (u := u) (N := 2000) (by omega) (by omega), checkUnit_eq (N := 2000) (by omega)]
    cases h : unitB u with
    | false => rfl
    | true =>
      have hb := capI_bd _ _ (unitB_out h).2.2
      have hl := (unitB_out h).2.1
      simp only [Bool.not_true, cond_false, cond_true, capR_eq h (show 100 ≤ 2000 by omega), Option.bind_some, in_eq]
      cases hm : btw m 0 (capI u.Parts) with
      | false => rfl
      | true =>
        have := btw_iff.1 hm
        simp [powR_eq h (show 100 ≤ 2000 by omega) this.1 (by omega)]
  · simp [hs]
end Go.Proofs.Ytlhakkkjgdbdpaa
