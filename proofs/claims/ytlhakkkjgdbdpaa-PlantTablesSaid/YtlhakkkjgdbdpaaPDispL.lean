/-
  Plain law of PlantDispatches. No conditions.
-/
import Derived.Test.YtlhakkkjgdbdpaaPTabR
import Derived.Test.YtlhakkkjgdbdpaaXo
namespace Go.Proofs.Ytlhakkkjgdbdpaa
open Go.RowKit
theorem bestP_len (j : GJob) : (bestP j).length = nH j := planF_len _ _
theorem light_eq {N : Nat} {j : GJob} (hl : (j.Levels.length : Int) ≤ 9223372036854775807) (hh : (j.Hours.length : Int) ≤ 9223372036854775807) (hN : j.Levels.length + j.Hours.length + 300 ≤ N) : ∃ b : Bool, Qip N j = some b ∧ (b = true → j.Levels.length ≤ 15 ∧ j.Hours.length ≤ 103 ∧ (jobB j = true → j.Hours.length ≤ 5)) := by
 unfold Qip
 by_cases h1 : j.Levels.length ≤ 15
 ·rw [show decide ((j.Levels.length : Int) ≤ 15) = true from decide_eq_true (by omega), cond_true]
  by_cases h2 : j.Hours.length ≤ 103
  ·rw [show decide ((j.Hours.length : Int) ≤ 103) = true from decide_eq_true (by omega), cond_true, jobR_eq hl hh hN, Option.bind_some]
   cases jobB j with
   | false => exact ⟨true, rfl, fun _ => ⟨h1, h2, fun h => by cases h⟩⟩
   | true =>
    rw [Bool.not_true, cond_false]
    by_cases h3 : j.Hours.length ≤ 5
    ·rw [show decide ((j.Hours.length : Int) ≤ 5) = true from decide_eq_true (by omega), cond_true]
     exact ⟨_, rfl, fun _ => ⟨h1, h2, fun _ => h3⟩⟩
    ·rw [show decide ((j.Hours.length : Int) ≤ 5) = false from decide_eq_false (by omega), cond_false]
     exact ⟨false, rfl, fun h => by cases h⟩
  ·rw [show decide ((j.Hours.length : Int) ≤ 103) = false from decide_eq_false (by omega), cond_false]
   exact ⟨false, rfl, fun h => by cases h⟩
 ·rw [show decide ((j.Levels.length : Int) ≤ 15) = false from decide_eq_false (by omega), cond_false]
  exact ⟨false, rfl, fun h => by cases h⟩
end Go.Proofs.Ytlhakkkjgdbdpaa
