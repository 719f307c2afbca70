/-
  The beginning of a drawn region, where a row that lay before is turned in it: what the loads stand on (S) is known since an elder world. Plain; no conditions.
-/
import Derived.Test.YtenpbiineblcjaaKnowC
namespace Go.Proofs.Ytenpbiineblcjaa
open Go.RowKit

section
variable {P : Program} {ops : Array Oper} {Q : Exit → Act → World → Prop} {b0 : Nat}
theorem Gen.beginS {id : Nat} {a : Act} {w : World} {S K : World → Prop} [hS : Keeps S] [hK : Keeps K] (X : List NewVar) (n : Nat) (hm : P.follows .mixedOrders = true) (hs : S w) (hk : K w) (hn : n + X.length = ops.size) (ok : Gen.Ok P ops (NoPanic Q) X)
    (g : Gen.Ok P ops (NoPanic Q) X → Gen P .any ops (NoPanic Q) S b0 [] X n (Array.replicate ops.size false) a K) : (Code.region id ops true).wp P Q a w := by
  refine wp_region_noPanic (wp_region_held (S := S) hm ?_)
  have := (g ok).start (w := { w with drawn := w.drawn + 1 }) (kdrew hk) (kdrew hs)
  rw [hn] at this
  exact this
end
end Go.Proofs.Ytenpbiineblcjaa
