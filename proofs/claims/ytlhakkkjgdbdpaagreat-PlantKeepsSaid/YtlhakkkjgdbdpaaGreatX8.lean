/-
  Functions of the program: what they compute, as plain functions, and that they do. No conditions.
-/
import Derived.Test.YtlhakkkjgdbdpaaGreatX7
namespace Go.Proofs.YtlhakkkjgdbdpaaGreat
open Go.RowKit
end Go.Proofs.YtlhakkkjgdbdpaaGreat
