/-
  Plain laws on the document's flash, for layer 6. No conditions.
-/
import Derived.Test.YtmbhnllcfmiajaaGreatPTc6
import Derived.Test.YtmbhnllcfmiajaaGreatX7
namespace Go.Proofs.YtmbhnllcfmiajaaGreat
open Go.RowKit
end Go.Proofs.YtmbhnllcfmiajaaGreat
