/-
  Plain laws on nets of pipes: the gate. No conditions.
-/
import Derived.Test.YtmbhnllcfmiajaaGreatX5
namespace Go.Proofs.YtmbhnllcfmiajaaGreat
open Go.RowKit
theorem Qmp:Qem 2000=some true:=by decide +kernel
end Go.Proofs.YtmbhnllcfmiajaaGreat
