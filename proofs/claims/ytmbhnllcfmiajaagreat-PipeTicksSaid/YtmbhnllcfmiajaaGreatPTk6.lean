/-
  PipeTicks: the plain law. No conditions.
-/
import Derived.Test.YtmbhnllcfmiajaaGreatPFt6
import Derived.Test.YtmbhnllcfmiajaaGreatX8
namespace Go.Proofs.YtmbhnllcfmiajaaGreat
open Go.RowKit
theorem Q48 (N:Nat):Qgw N ⟨[],[],[]⟩=some true:=by
 unfold Qgw
 simp only [List.length_nil,show w64 (w64 (((0:Nat):Int)+((0:Nat):Int))+((0:Nat):Int))=0 from by decide,Option.bind_some,beq_self_eq_true]
theorem Q9k (n:GNet) (s:List Int) (ws:List GStream) (gn:Zay n) (_:Q2e s) (_:Qt6 ws):Qhu (n.Elements.length+s.length+2000) n s ws=some true:=by
 generalize hNN:n.Elements.length+s.length+2000=N
 have hN:1001≤N:=by omega
 have hl:(n.Elements.length:Int)≤9223372036854775807:=by
  have:=gn.2.1
  rw [Zaj] at this
  omega
 unfold Qhu
 simp only [Q9h,Option.bind_some,Zdz]
 rcases Zmq (N:=N) (n:=n) (ws:=ws) hl (by omega) with e | ⟨e,hs,hw⟩
 ·rw [e,Option.bind_some,Bool.not_false,cond_true]
 rw [e,Option.bind_some,Bool.not_true,cond_false]
 by_cases h25:(s.length:Int)>25
 ·rw [decide_eq_true h25,cond_true]
 rw [decide_eq_false h25,cond_false]
 simp only [Zmm hs hN,Zj2 N (show s.length≤1000 by omega),Q6k (show ws.length≤1000 by omega) hN,Zms hs hN (show ws.length≤1000 by omega) (show s.length≤1000 by omega),Zd2 hs hN (show ws.length≤1000 by omega) (show s.length≤1000 by omega),Option.bind_some]
 unfold doA
 by_cases hr:Qmm n s ws=0
 ·obtain ⟨hv,hst,hf,hb⟩:=Qzl hr
  rw [if_pos hr,hr,bne_self_eq_false,cond_false,Zdm hs hN hv hf hst,Option.bind_some]
  cases ht:Qy8 n s ws with
  | inl a=>
   dsimp only [Qr8]
   show (bif decide ((a:Int)≥0) then _ else _)=_
   rw [decide_eq_true (show (a:Int)≥0 by omega),cond_true,beq_self_eq_true,cond_true,beq_self_eq_true,cond_true]
   show (Qgw N ⟨[],[],[]⟩).bind _=_
   rw [Q48]
   rfl
  | inr r=>
   have hT:=Q4h hv hf hst ht
   obtain ⟨t1,t2,t3,t4⟩:=Q6h hs hst hT
   have e0:=hs.e
   dsimp only [Qr8]
   show (bif decide ((-1:Int)≥0) then _ else _)=_
   rw [show decide ((-1:Int)≥0)=false from rfl,cond_false,beq_self_eq_true,cond_true]
   rw [Zjg (N:=N) (t:=⟨r.1,r.2.1,r.2.2.1⟩) hN (by dsimp only; omega) (by dsimp only; omega) (by dsimp only; omega) (fun q hq=>by have:=t4 q hq; omega)]
   rfl
 ·rw [if_neg hr,show (Qmm n s ws != 0)=true by simpa using hr,cond_true]
  dsimp only
  rw [beq_self_eq_true,cond_true,beq_self_eq_true,cond_true]
  show (Qgw N ⟨[],[],[]⟩).bind _=_
  rw [Q48]
  rfl
end Go.Proofs.YtmbhnllcfmiajaaGreat
