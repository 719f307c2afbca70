/-
  Plain laws that the laws on sharings lean on: copies, and how many there are. No conditions.
-/
import Derived.Test.YtlhakkkjgdbdpaaPShd
namespace Go.Proofs.Ytlhakkkjgdbdpaa
open Go.RowKit
theorem Qkg {τ : Type} {k : τ → Option Bool} {f : (τ → Option Bool) → Option Bool} (P : τ → Prop) (h1 : ∀ x, P x → k x = some true) (h2 : ∀ k', (∀ x, P x → k' x = some true) → f k' = some true) : Qb0 k f = some true := h2 k h1
end Go.Proofs.Ytlhakkkjgdbdpaa
