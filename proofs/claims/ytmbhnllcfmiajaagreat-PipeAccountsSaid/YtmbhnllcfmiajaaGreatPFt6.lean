/-
  Plain laws on the document's errors, and on equal ticks. No conditions but small sizes.
-/
import Derived.Test.YtmbhnllcfmiajaaGreatPRd6
import Derived.Test.YtmbhnllcfmiajaaGreatPKo6
import Derived.Test.YtmbhnllcfmiajaaGreatPNet
namespace Go.Proofs.YtmbhnllcfmiajaaGreat
open Go.RowKit
theorem Q09 {N:Nat} {n:GNet} (hs:Small n) (hN:1001≤N) {ws:List GStream} (hl:ws.length≤1000):Qhc N n ws=some (fedI n ws):=by
 have e0:=hs.e
 unfold Qhc fedI
 simp only [Qbb,Zif 1 (show n.Elements.length≤1000 by omega) hN,Option.bind_some,Zed,Zf8 hl hN,Qth hl hN]
 by_cases h1:ws.length=wcn n n.Elements.length
 ·rw [decide_eq_true h1,show ((ws.length:Int) != (wcn n n.Elements.length:Int))=false by rw [bne_eq_false_iff_eq]; omega]
  cases ha:ws.all strB with
  | false=>rfl
  | true=>
   have hall:∀ s ∈ ws,StrV s:=fun s h=>Qn1.1 (List.all_eq_true.1 ha s h)
   rw [Qkz hall hl]
   simp only [cond_false,Bool.not_true,Bool.true_and,cond_true]
   by_cases h2:(totS ws).Mass>1000000
   ·rw [decide_eq_true h2,if_pos h2]; rfl
   ·rw [decide_eq_false h2,if_neg h2]
    by_cases h3:(totS ws).Gas>1000000000
    ·rw [decide_eq_true h3,if_pos h3]; rfl
    ·rw [decide_eq_false h3,if_neg h3]; rfl
 ·rw [decide_eq_false h1,show ((ws.length:Int) != (wcn n n.Elements.length:Int))=true by rw [bne_iff_ne]; omega]; rfl
theorem Zgv {N:Nat} {n:GNet} (hs:Small n) (hN:1001≤N) {st:List Int} {ws:List GStream} (hl:ws.length≤1000) (hl2:st.length≤1000):Qka N n st ws=some (Qh5 n st ws):=by
 unfold Qka Qh5
 rw [Zm1 hs hN,Option.bind_some]
 cases netB n with
 | false=>rfl
 | true=>
  rw [Q7u (n:=n) hl2 hN,Option.bind_some,Q09 hs hN hl]
  cases stB n st<;>rfl
end Go.Proofs.YtmbhnllcfmiajaaGreat
