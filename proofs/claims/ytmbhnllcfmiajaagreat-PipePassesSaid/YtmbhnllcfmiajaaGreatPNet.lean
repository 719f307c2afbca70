/-
  Plain laws on nets of pipes: the gate. No conditions.
-/
import Derived.Test.YtmbhnllcfmiajaaGreatX5
namespace Go.Proofs.YtmbhnllcfmiajaaGreat
open Go.RowKit
theorem Qkn:Qea 2000=some true:=by decide +kernel
end Go.Proofs.YtmbhnllcfmiajaaGreat
