/-
  Plain laws on ports: what lies at open ports, and how it changes where ports are taken. No conditions.
-/
import Derived.Test.YtmbhnllcfmiajaaGreatXt
namespace Go.Proofs.YtmbhnllcfmiajaaGreat
open Go.RowKit
def Zhh {α:Type} (i:Nat):Nat→List α→List ((Int×Int)×α)
 | _,[]=>[]
 | j,a::l=>(((i:Int),(j:Int)),a)::Zhh i (j+1) l
def Q50 {α:Type}:Nat→List (List α)→List ((Int×Int)×α)
 | _,[]=>[]
 | i,r::o=>Zhh i 0 r++Q50 (i+1) o
def Q8i {α:Type} (f:α→Int) (U:List (Int×Int)) (l:List ((Int×Int)×α)):Int:=((l.filter fun x=>!U.contains x.1).map fun x=>f x.2).sum
section
variable {α : Type}
end
end Go.Proofs.YtmbhnllcfmiajaaGreat
