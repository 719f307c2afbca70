/-
  Plain laws on nets of pipes: the gate. No conditions.
-/
import Derived.Test.YtmbhnllcfmiajaaX5
namespace Go.Proofs.Ytmbhnllcfmiajaa
open Go.RowKit
theorem Q4u : Qhj 2000 = some true := by decide +kernel
end Go.Proofs.Ytmbhnllcfmiajaa
