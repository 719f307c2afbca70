/-
  The law's own look whether the program is awake, in the engine's form.
-/
import Derived.Test.YtenpbiineblcjaaAwake
import Derived.Test.YtenpbiineblcjaaEngO
namespace Go.Proofs.Ytenpbiineblcjaa
open Go.RowKit

def law01_awakeX (_N : Nat) : Option Bool := some true
theorem law01_awakeX_ok (N : Nat) (r : Bool) (h : law01_awakeX N = some r) : Spec Try.prog 17 [] [] (B r) [] := by
  obtain rfl := Option.some.inj h
  refine spec_of_calls fun X φ w vals hsz _ _ _ => ?_
  obtain rfl : vals = #[] := Array.eq_empty_of_size_eq_zero hsz
  refine (awake_any w).mono ?_
  rintro e w' ⟨rfl, hb⟩
  exact ⟨_, rfl, .lit _, hb⟩
end Go.Proofs.Ytenpbiineblcjaa
