/-
  Plain: plans, their levels and costs; when prices show that a plan is the cheapest, in the program's words and in the document's. No conditions.
-/
import Derived.Test.YtgdepcgbjjgnfaaX19
import Derived.Test.YtgdepcgbjjgnfaaX20
import Derived.Test.YtgdepcgbjjgnfaaPChp
namespace Go.Proofs.Ytgdepcgbjjgnfaa
open Go.RowKit
end Go.Proofs.Ytgdepcgbjjgnfaa
