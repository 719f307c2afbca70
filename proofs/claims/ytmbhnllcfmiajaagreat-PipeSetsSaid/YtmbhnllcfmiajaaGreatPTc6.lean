/-
  Plain laws on a tick: what pipe.Do answers. No conditions but small sizes.
-/
import Derived.Test.YtmbhnllcfmiajaaGreatPTb6
namespace Go.Proofs.YtmbhnllcfmiajaaGreat
open Go.RowKit
abbrev Ziu:=List (List GStream)×List GLost×List Int×Int
structure StV (n:GNet) (st:List Int):Prop where
 len:st.length=n.Elements.length
 bd:∀ d ∈ st,0≤d∧d≤1000000000000000
section
variable {N : Nat} {n : GNet} (hs : Small n) (hN : 1001 ≤ N) (hv : NetV n) {ws : List GStream} (hf : FedV n ws) {st : List Int} (hst : StV n st)
include hs hN hv hf hst in
include hs hN hv hf hst in
end
structure TickV (n:GNet) (st:List Int) (ws:List GStream) (r:Ziu):Prop where
 inv:InvT n ws n.Elements.length r.1 r.2.1
 ss:r.2.2.1=List.zipWith (fun (d:Int) (l:GLost)=>d+l.Scale) st r.2.1
 y0:0≤r.2.2.2
end Go.Proofs.YtmbhnllcfmiajaaGreat
