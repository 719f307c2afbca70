/-
  Plain laws on shares: masses by largest remainders, and the parts of a stream. No conditions but validity.
-/
import Derived.Test.YtmbhnllcfmiajaaGreatPSa6
import Derived.Test.YtmbhnllcfmiajaaGreatPV6
namespace Go.Proofs.YtmbhnllcfmiajaaGreat
open Go.RowKit
def mark (l:List Bool) (i:Int):List Bool:=l.set i.toNat true
structure WtsV (ws:List Int):Prop where
 l1:1≤ws.length
 l2:ws.length≤20
 w:∀ x ∈ ws,0≤x∧x≤1000
 some:∃ x ∈ ws,x>0
theorem Q01 (ws:List Int) (h:∀ x ∈ ws,0≤x∧x≤1000):0≤ws.sum∧ws.sum≤1000 * ws.length:=by
 induction ws with
 | nil=>simp
 | cons a l ih=>
  have h1:=ih fun x hx=>h x (List.mem_cons_of_mem _ hx)
  have h2:=h a List.mem_cons_self
  simp only [List.sum_cons,List.length_cons]
  omega
theorem WtsV.sum {ws:List Int} (h:WtsV ws):0<ws.sum∧ws.sum≤20000:=by
 have h1:=Q01 ws h.w
 have h2:=(Q4p fun x hx=>(h.w x hx).1).2.2 h.some
 have:=h.l2
 omega
theorem WtsV.ok {ws:List Int} (h:WtsV ws) {M:Int} (h0:0≤M) (h1:M≤1000000):WOk ws M ws.sum:=⟨h.w,h0,h1,h.sum.1,h.sum.2⟩
section
variable {N : Nat} {M : Int} {ws : List Int} (h : WtsV ws) (h0 : 0 ≤ M) (h1 : M ≤ 1000000) (hN : 1001 ≤ N)
include h in
include h h0 h1 in
include h h0 h1 hN in
end
end Go.Proofs.YtmbhnllcfmiajaaGreat
