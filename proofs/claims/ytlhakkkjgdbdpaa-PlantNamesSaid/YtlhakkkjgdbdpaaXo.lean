/-
  The arguments of given statements as lists and numbers. No conditions.
-/
import Derived.Test.YtlhakkkjgdbdpaaXt
import Derived.Test.YtlhakkkjgdbdpaaEngZ
namespace Go.Proofs.Ytlhakkkjgdbdpaa
open Go.ChangeShapes Go.WideShapes Go.ChangeAt Go.RowKit Go.Deep Go.Joins
end Go.Proofs.Ytlhakkkjgdbdpaa
