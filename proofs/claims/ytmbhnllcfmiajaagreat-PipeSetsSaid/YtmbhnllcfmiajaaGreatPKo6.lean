/-
  Plain laws on what lies at the open ends of a net after a tick. No conditions but validity.
-/
import Derived.Test.YtmbhnllcfmiajaaGreatPTc6
namespace Go.Proofs.YtmbhnllcfmiajaaGreat
open Go.RowKit
section
variable {n : GNet} (hv : NetV n) {ws : List GStream} {o : List (List GStream)} {ls : List GLost} (hI : InvT n ws n.Elements.length o ls)
include hI
end
end Go.Proofs.YtmbhnllcfmiajaaGreat
