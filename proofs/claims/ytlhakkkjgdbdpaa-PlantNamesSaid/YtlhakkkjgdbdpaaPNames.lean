/-
  The law PlantNames, closed. No conditions.
-/
import Derived.Test.YtlhakkkjgdbdpaaX21
namespace Go.Proofs.Ytlhakkkjgdbdpaa
theorem names_law : Qhx 2000 = some true := by decide +kernel
end Go.Proofs.Ytlhakkkjgdbdpaa
