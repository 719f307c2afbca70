/-
  Plain laws of the reference's table. No conditions.
-/
import Derived.Test.YtlhakkkjgdbdpaaPBet
namespace Go.Proofs.Ytlhakkkjgdbdpaa
open Go.RowKit
section Row
variable {N : Nat} {j : GJob} {h : Nat} {H : GHour} {tl : List (Nat × Nat)} {R : List (List Int)} {a : Nat}
theorem Qx4 {j : GJob} (hj : JobOK j) : w64 ((j.Hours.length : Int) + 1) = ((nH j + 1 : Nat) : Int) := by
 have hH1 := (Qkx hj).2
 rw [Qc3 (by unfold nH at hH1; omega) (by unfold nH at hH1; omega)]; rfl
end Row
end Go.Proofs.Ytlhakkkjgdbdpaa
