/-
  Plain laws on heads and units: the work of masses, sharings, prices, bounds, and what ProveShare accepts. No conditions.
-/
import Derived.Test.YtlhakkkjgdbdpaaPShr
namespace Go.Proofs.Ytlhakkkjgdbdpaa
open Go.RowKit
theorem prt_mem {u : GUnit} (h : unitB u = true) : ∀ q ∈ u.Parts, (1 ≤ q.Width ∧ q.Width ≤ 100000) ∧ 0 ≤ q.Gain ∧ q.Gain ≤ 1000 := Qxf u.Parts 1000 (Qtg h).2.2 (Int.le_refl _)
end Go.Proofs.Ytlhakkkjgdbdpaa
