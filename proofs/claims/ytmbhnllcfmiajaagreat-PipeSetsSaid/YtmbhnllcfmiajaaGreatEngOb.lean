/-
  The engine: a slice literal as a block of one's own. Plain laws; no conditions.
-/
import Derived.Test.YtmbhnllcfmiajaaGreatEngN
namespace Go.Proofs.YtmbhnllcfmiajaaGreat
open Go.RowKit
section
variable {P : Program} {o : Oper}
end
end Go.Proofs.YtmbhnllcfmiajaaGreat
