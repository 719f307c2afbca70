/-
  Plain: what leaves a tower and a cycle, and what is taken. No conditions.
-/
import Derived.Test.YtlhakkkjgdbdpaaX10
import Derived.Test.YtlhakkkjgdbdpaaPStr
namespace Go.Proofs.Ytlhakkkjgdbdpaa
open Go.RowKit

theorem tower_eq (N : Nat) (hN : 10 ≤ N) (s : GStream) (t : Int) : plant_TowerX N s t = some (bif strB s then (bif btw t 0 4000 then (⟨s.Mass, w64 (s.Heat - (if w64 (s.Heat - w64 (t * s.Mass)) > 0 then w64 (s.Heat - w64 (t * s.Mass)) else 0)), s.Silica, s.Gas⟩, (if w64 (s.Heat - w64 (t * s.Mass)) > 0 then w64 (s.Heat - w64 (t * s.Mass)) else 0), 0) else (⟨0, 0, 0, 0⟩, 0, 2)) else (⟨0, 0, 0, 0⟩, 0, 1)) := by
  unfold plant_TowerX
  simp only [rightP_one hN, Option.bind_some, within_eq]
  cases strB s <;> cases btw t 0 4000 <;> rfl
def cycB (c : GCycle) : Bool := btw c.Out 0 4000 && btw c.Yield 0 1000 && btw c.Most 0 4000000000
theorem cycP_eq (N : Nat) (c : GCycle) : plant_Cycle_validX N c = some (cycB c) := by
  unfold plant_Cycle_validX cycB
  simp only [within_eq, Option.bind_some]
  cases btw c.Out 0 4000 <;> cases btw c.Yield 0 1000 <;> simp
theorem cycR_eq (N : Nat) (c : GCycle) : ref07_RightCycleX N c = some (cycB c) := by
  unfold ref07_RightCycleX cycB
  simp only [in_eq, Option.bind_some]
  cases btw c.Out 0 4000 <;> cases btw c.Yield 0 1000 <;> simp
theorem cools_law (s : GStream) (t : Int) (c : GCycle) (_ : gd_GStream s) (_ : gd_i64 t) (_ : gd_GCycle c) : law07_PlantCoolsX 2000 s t c = some true := by
  unfold law07_PlantCoolsX law01_StreamX law07_CycleX plant_RunX ref07_RunX ref07_TowerX
  rw [awake_at]
  simp only [joinK, Option.bind_some, tower_eq 2000 (by omega), rightS_eq, in_eq, cycR_eq, cycP_eq, rightP_one (show 10 ≤ 2000 by omega)]
  cases h1 : strB s <;> cases h2 : btw t 0 4000 <;> cases h3 : cycB c <;> simp
end Go.Proofs.Ytlhakkkjgdbdpaa
