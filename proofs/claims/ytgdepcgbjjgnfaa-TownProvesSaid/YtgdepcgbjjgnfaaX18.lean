/-
  Functions of the program: what they compute, as plain functions, and that they do. No conditions.
-/
import Derived.Test.YtgdepcgbjjgnfaaX17
namespace Go.Proofs.Ytgdepcgbjjgnfaa
open Go.RowKit
end Go.Proofs.Ytgdepcgbjjgnfaa
