/-
  Plain laws on the document's errors, and on equal ticks. No conditions but small sizes.
-/
import Derived.Test.YtmbhnllcfmiajaaGreatPRd6
import Derived.Test.YtmbhnllcfmiajaaGreatPKo6
import Derived.Test.YtmbhnllcfmiajaaGreatPNet
namespace Go.Proofs.YtmbhnllcfmiajaaGreat
open Go.RowKit
theorem Qxz {N:Nat} {n:GNet} (hs:Small n) (hN:1001≤N) {ws:List GStream} (hl:ws.length≤1000):Qgl N n ws=some (fedI n ws):=by
 have e0:=hs.e
 unfold Qgl fedI
 simp only [Qbp,Zec 1 (show n.Elements.length≤1000 by omega) hN,Option.bind_some,Q93,Zb1 hl hN,Zij hl hN]
 by_cases h1:ws.length=wcn n n.Elements.length
 ·rw [decide_eq_true h1,show ((ws.length:Int) != (wcn n n.Elements.length:Int))=false by rw [bne_eq_false_iff_eq]; omega]
  cases ha:ws.all strB with
  | false=>rfl
  | true=>
   have hall:∀ s ∈ ws,StrV s:=fun s h=>Ql6.1 (List.all_eq_true.1 ha s h)
   rw [Qq2 hall hl]
   simp only [cond_false,Bool.not_true,Bool.true_and,cond_true]
   by_cases h2:(totS ws).Mass>1000000
   ·rw [decide_eq_true h2,if_pos h2]; rfl
   ·rw [decide_eq_false h2,if_neg h2]
    by_cases h3:(totS ws).Gas>1000000000
    ·rw [decide_eq_true h3,if_pos h3]; rfl
    ·rw [decide_eq_false h3,if_neg h3]; rfl
 ·rw [decide_eq_false h1,show ((ws.length:Int) != (wcn n n.Elements.length:Int))=true by rw [bne_iff_ne]; omega]; rfl
theorem Zct {N:Nat} {n:GNet} (hs:Small n) (hN:1001≤N) {st:List Int} {ws:List GStream} (hl:ws.length≤1000) (hl2:st.length≤1000):Qi3 N n st ws=some (Qiz n st ws):=by
 unfold Qi3 Qiz
 rw [Zi5 hs hN,Option.bind_some]
 cases netB n with
 | false=>rfl
 | true=>
  rw [Q4d (n:=n) hl2 hN,Option.bind_some,Qxz hs hN hl]
  cases stB n st<;>rfl
theorem Q36 {n:GNet} (hs:Small n) {st:List Int} (hst:StV n st) {ws:List GStream} {r:Qv5} (h:TickV n st ws r):r.1.length≤18∧r.2.1.length≤18∧r.2.2.1.length=n.Elements.length∧∀ q ∈ r.1,q.length≤25:=by
 have e0:=hs.e
 have hlo:=h.inv.lo
 have hll:=h.inv.ll
 have hsl:=hst.len
 refine ⟨by omega,by omega,by rw [h.ss,List.length_zipWith]; omega,fun q hq=>?_⟩
 obtain ⟨k,hk⟩:=List.mem_iff_getElem?.1 hq
 have hkl:=(List.getElem?_eq_some_iff.1 hk).1
 have hy:n.Elements[k]? = some (n.Elements[k]'(by omega)):=List.getElem?_eq_getElem _
 have h1:=h.inv.rows k _ q hy hk
 have h2:=Qzr (hs.x _ (List.getElem_mem (show k<n.Elements.length by omega))).2
 omega
end Go.Proofs.YtmbhnllcfmiajaaGreat
