/-
  Plain laws on the document's shares and sums. No conditions but validity.
-/
import Derived.Test.YtmbhnllcfmiajaaGreatPSc6
import Derived.Test.YtmbhnllcfmiajaaGreatX7
namespace Go.Proofs.YtmbhnllcfmiajaaGreat
open Go.RowKit
section
variable {N : Nat} {s : GStream} {ws : List Int} (hs : StrV s) (h : WtsV ws) (hN : 1001 ≤ N)
include h in
include hs h in
include hs h in
include hs h hN in
include hs in
include hs h in
include hs h hN in
end
end Go.Proofs.YtmbhnllcfmiajaaGreat
