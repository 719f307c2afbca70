/-
  Plain laws on a life: ticks upon ticks. No conditions but validity.
-/
import Derived.Test.YtmbhnllcfmiajaaGreatPFt6
namespace Go.Proofs.YtmbhnllcfmiajaaGreat
open Go.RowKit
structure StT (n:GNet) (st:List Int) (t:Nat):Prop where
 len:st.length=n.Elements.length
 bd:∀ d ∈ st,0≤d∧d≤1000000000000+10000000000 * (t:Int)
theorem StT.v {n:GNet} {st:List Int} {t:Nat} (h:StT n st t) (ht:t≤1000):StV n st:=
 ⟨h.len,fun d hd=>by have:=h.bd d hd; omega⟩
section
variable {N : Nat} {n : GNet} (hs : Small n) (hN : 1001 ≤ N) (hv : NetV n) {ws : List GStream} (hf : FedV n ws) {most : Nat} (hm : most ≤ 1000)
include hs hN hv hf hm
end
end Go.Proofs.YtmbhnllcfmiajaaGreat
