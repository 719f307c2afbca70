/-
  Plain laws on the document's tick: it is the program's. No conditions but validity.
-/
import Derived.Test.YtmbhnllcfmiajaaGreatPRf6
import Derived.Test.YtmbhnllcfmiajaaGreatPRs6
import Derived.Test.YtmbhnllcfmiajaaGreatPSt6
namespace Go.Proofs.YtmbhnllcfmiajaaGreat
open Go.RowKit
section
variable {N : Nat} {n : GNet} (hs : Small n) (hN : 1001 ≤ N) (hv : NetV n) {ws : List GStream} (hf : FedV n ws) {i : Nat} {o : List (List GStream)} {ls : List GLost} (hI : InvT n ws i o ls) {x : GElement} (hx : n.Elements[i]? = some x)
include hv hI hx in
end
section
variable {N : Nat} {n : GNet} (hs : Small n) (hN : 1001 ≤ N) (hv : NetV n) {ws : List GStream} (hf : FedV n ws) {st : List Int} (hst : StV n st)
set_option maxHeartbeats 2000000 in
include hs hN hv hf hst in
include hs hN hv hf hst in
end
end Go.Proofs.YtmbhnllcfmiajaaGreat
