/-
  The texts X4, X5 of the proof, one behind the other. No conditions.
-/
import Derived.Test.YtcoojdacfknboacG3
namespace Go.Proofs.Ytcoojdacfknboac
open _root_.Go.Proofs.Try
open Go.RowKit
set_option maxRecDepth 100000
set_option maxHeartbeats 4000000
set_option synthInstance.maxSize 4000
set_option synthInstance.maxHeartbeats 400000
section
def Qeq (N:Nat) (p0:Qat) (k2:(List Qcc)→Option Qat):Nat→Int→(List Qcc)→Option Qat
  |0,_,_=>none
  |n7+1,y3,y4=>
    bif (decide (y3<(p0.Tests.length:Int))) then
     (getI p0.Tests y3).bind fun x9=>
     chk (decide ((y4.length+([(⟨x9.From,x9.To,(⟨x9.Seen.Lo,x9.Seen.Hi⟩:Qgr)⟩:Qcc)]).length)*32≤140737488355328))<|
     Qeq N p0 k2 n7 (w64 (y3+1)) (y4++([(⟨x9.From,x9.To,(⟨x9.Seen.Lo,x9.Seen.Hi⟩:Qgr)⟩:Qcc)]))
    else
     k2 (y4)
def Qhs (N:Nat) (p0:Qat):Option Qat:=
  Qcy (fun y1=>
    some (⟨p0.Sites,y1⟩:Qat)) fun k2:(List Qcc)→Option Qat=>
  Qeq N p0 k2 N 0 ([])
def Qv1:Slot:=.own 2 [[(I (0)),nilS]]
def Q9k (p0:Qat):AV:=.dat 4 (p0.Tests.map Qbf)
def Q1y (p0:Qat):Slot:=.own 2 [[(I p0.Sites),(Q9k p0)]]
def Q78 (x9:Qcc):AV:=.agg [(I x9.Seen.Lo),(I x9.Seen.Hi)]
def Q3p (x9:Qcc):AV:=.agg [(I x9.From),(I x9.To),(I x9.Seen.Lo),(I x9.Seen.Hi)]
def Q3o (x9:Qcc):AV:=.dat 4 (([(⟨x9.From,x9.To,(⟨x9.Seen.Lo,x9.Seen.Hi⟩:Qgr)⟩:Qcc)]:List Qcc).map Qbf)
def Q3n (y4:List Qcc) (x9:Qcc):AV:=.acc 5 56 4 ((y4++([(⟨x9.From,x9.To,(⟨x9.Seen.Lo,x9.Seen.Hi⟩:Qgr)⟩:Qcc)]):List Qcc).map Qbf)
theorem Qlh (N:Nat) (p0 r:Qat) (h:Qhs N p0=some r):Spec prog 22 [(.agg (Qf9 p0))] [] (.agg (Qf9 r)) []:=by
  refine sA func22 0 fun _ _ _ hq hd0=>?_
  unfold Qhs at h
  refine wxz<|wx tbk [(2,rp _ _)] ⟨Qdz (vs:=[I p0.Sites]) rfl ts59 tz59 rfl (by rfl) rfl,tv⟩ ?_
  obtain⟨k2,hk_k2,h⟩:=jko h
  refine wjn (τ:=(List Qcc)) (fun t=>k2 t=some r) (fun y1=>⟨mk 39 [(2,.ref 0 2 0 0),(3,.ref 1 2 0 0)],[Qv1,(.own 2 [[I p0.Sites,(.acc 2 56 4 (y1.map Qbf))]]),.tok]⟩) (fun y1 h=>?_) ?_
  ·subst hk_k2
   refine wxz<|Qag ?_
   obtain rfl:=osi h
   exact fie [(.agg [I p0.Sites,(.dat 4 (y1.map Qbf))])] ⟨Qjd (v:=(.agg [I p0.Sites,(.acc 2 56 4 (y1.map Qbf))])) (Qda (n:=0) (m:=2) (j:=0) (i:=0) (xs:=[[I p0.Sites,(.acc 2 56 4 (y1.map Qbf))]]) (by kernel_rfl) (by kernel_rfl) ti59 (by decide) rfl (nle rfl) rfl) (Less.agg ⟨lrf,Less.acc,tv⟩),tv⟩
  ·skip
   refine wxz<|Qaf ?_
   refine wmr (Mor.trans (Qmx (n:=3) (ty:=56) (m:=4) (q:=2) (mq:=2) (c:=[I p0.Sites,nilS]) 1 (by kernel_rfl) (by kernel_rfl) (by kernel_rfl) (by decide)) (mto (n:=39) (l':=[(1,.ref 0 2 0 0),(2,.ref 1 2 0 0),(3,.ref 2 2 0 0),(4,I 0)]) (own':=[(Q1y p0),Qv1,(.own 2 [[I p0.Sites,(.acc 3 56 4 ((([]):List Qcc).map Qbf))]]),.tok]) [(1,.ref 0 2 0 0),(2,.ref 1 2 0 0),(3,.ref 2 2 0 0),(4,I 0)] [0,1,2,3] [(Q1y p0),Qv1,(.own 2 [[I p0.Sites,(.acc 3 56 4 (([]:List Qcc).map Qbf))]]),.tok] hq (prr (prr (prr (pw pn)))) (qb (lc rwl (lc (rnd Qad) ln)) (qb (lcc ln) (qb (lc rwl (lc (.rn (Qff rfl (Qeg Qad _))) ln)) (qc .tok qn)))))) ?_
   refine Qbx (τ:=Int×(List Qcc)) (fun n t=>Qeq N p0 k2 n t.1 t.2=some r) (fun ⟨y3,y4⟩=>⟨mk 39 [(1,.ref 0 2 0 0),(2,.ref 1 2 0 0),(3,.ref 2 2 0 0),(4,I y3)],[(Q1y p0),Qv1,(.own 2 [[I p0.Sites,(.acc 3 56 4 (y4.map Qbf))]]),.tok]⟩) (fun t h=>by rw[Qeq] at h;cases h) (fun n7 ih t h=>?_) N (0,[]) h
   obtain⟨y3,y4⟩:=t
   rw[Qeq] at h
   skip
   refine wsq<|wx tbk [(3,rp _ _)] ⟨alq 4 Qbf p0.Tests underlying22,tv⟩ ?_
   refine bfe h (fun hc8 h=>?_) fun hc8 h=>?_
   ·refine wft hc8<|Qai<|thn<|wsq<|Qaf ?_
    obtain⟨x9,hg10,h⟩:=bno h
    obtain⟨hi11,hj12⟩:=gsm hg10
    refine wx tbk [(3,rp _ _)] ⟨aiq underlying22 ti75 Qbf hi11 hj12,tv⟩ ?_
    obtain⟨ha13,h⟩:=cko h
    refine wx1 tbk [(12,rp _ _),(13,rp _ _),(14,rp [(.tmp 34,(Q3p x9))] (Q3o x9)),(15,⟨[(.tmp 22,(.acc 3 56 4 (y4.map Qbf))),(.tmp 35,(Q3o x9))],[(3,.tok),(5,.unused)],(Q3n y4 x9),[(3,.dead),(5,.tok)],false⟩)] ⟨Qdz (vs:=[I x9.Seen.Lo,I x9.Seen.Hi]) rfl ts54 tz54 rfl (by rfl) rfl,Qdz (vs:=[I x9.From,I x9.To,(Q78 x9)]) rfl ts56 tz56 rfl (by rfl) rfl,Qfj (vs:=[(Q3p x9)]) rfl underlying57 ti56 tz56 rfl (by decide) rfl (by decide) (by rfl) (by rfl) (by rfl) rfl,Qie rfl underlying57 te56 (Base.acc _ _) rfl rfl (by rfl) (Qks Qbf ha13) (Qkr Qbf ha13 (by decide)) (Qkq Qbf) rfl rfl,tv⟩<|bln<|thn<|wxz1<|thn ?_
    exact arm (mto (n:=39) [(1,.ref 0 2 0 0),(2,.ref 1 2 0 0),(3,.ref 2 2 0 0),(4,(I (w64 (y3+1))))] [0,1,2,5] [(Q1y p0),Qv1,(.own 2 [[I p0.Sites,(Q3n y4 x9)]]),.tok] hq (prr (prr (prr (pw pn)))) (qb (lc rwl (lc (rnd Qad) ln)) (qb (lcc ln) (qb (lc rwl (lc (.rn (Qff rfl (Qeg Qad _))) ln)) (qc .tok qn))))) (ih (w64 (y3+1),y4++([(⟨x9.From,x9.To,(⟨x9.Seen.Lo,x9.Seen.Hi⟩:Qgr)⟩:Qcc)])) h)
   ·exact wfn hc8<|Qa3<|Qan<|Qan<|Qa2 rfl<|thn<|⟨(y4),h,(mto (n:=39) [(2,.ref 1 2 0 0),(3,.ref 2 2 0 0)] [1,2,3] [Qv1,(.own 2 [[I p0.Sites,(.acc 3 56 4 (y4.map Qbf))]]),.tok] hq (prr (prr pn)) (qb (lcc ln) (qb (lc rwl (lc (.rn (Qff rfl (Qeg Qad _))) ln)) (qc .tok qn))))⟩
def Qer (N:Nat) (x16:Qba) (k23:(List Qba)×(List Int)×(List Qap)→Option Qa7):Nat→Int→(List Qba)→(List Int)→(List Qap)→Option Qa7
  |0,_,_,_,_=>none
  |n33+1,y25,y26,y27,y28=>
    bif (decide (y25<(x16.Stairs.length:Int))) then
     (getI x16.Stairs y25).bind fun x35=>
     chk (decide ((y28.length+([x35]).length)*16≤140737488355328))<|
     Qer N x16 k23 n33 (w64 (y25+1)) y26 y27 (y28++([x35]))
    else
     k23 (y26,y27,y28)
def Qeb (N:Nat) (p0:Qa7) (k4:(List Qba)×(List Int)→Option Qa7):Nat→Int→(List Qba)→(List Int)→Option Qa7
  |0,_,_,_=>none
  |n11+1,y5,y6,y7=>
    bif (decide (y5<(p0.Inlets.length:Int))) then
     Qcy (fun ⟨y13,y14⟩=>
       Qeb N p0 k4 n11 (w64 (y5+1)) y13 y14) fun k15:(List Qba)×(List Int)→Option Qa7=>
     (getI p0.Inlets y5).bind fun x16=>
     Qcy (fun ⟨y20,y21,y22⟩=>
       chk (decide ((y20.length+([(⟨x16.Site,y22⟩:Qba)]).length)*32≤140737488355328))<|
       k15 (y20++([(⟨x16.Site,y22⟩:Qba)]),y21)) fun k23:(List Qba)×(List Int)×(List Qap)→Option Qa7=>
     Qer N x16 k23 N 0 y6 y7 ([])
    else
     k4 (y6,y7)
def Qht (N:Nat) (p0:Qa7):Option Qa7:=
  chk (decide ((([]:List Int).length+p0.Feeds.length)*8≤140737488355328))<|
  Qcy (fun ⟨y2,y3⟩=>
    some (⟨y2,y3,p0.Factor,p0.Horizon⟩:Qa7)) fun k4:(List Qba)×(List Int)→Option Qa7=>
  Qeb N p0 k4 N 0 ([]) (([]:List Int)++p0.Feeds)
def Q77:AV:=.acc 2 3 1 ((([]:List Int):List Int).map Qah)
def Q1x (p0:Qa7):AV:=.acc 3 3 1 ((([]:List Int)++p0.Feeds:List Int).map Qah)
def Qmp:Slot:=.own 4 [[nilS,nilS,(I (0)),(I (0))]]
def Q9j (p0:Qa7):AV:=.dat 2 (p0.Inlets.map Qa1)
def Qn2 (p0:Qa7):Slot:=.own 4 [[(Q9j p0),(.dat 1 (p0.Feeds.map Qah)),(I p0.Factor),(I p0.Horizon)]]
def Qtq (y6:List Qba) (y7:List Int) (p0:Qa7):Slot:=.own 4 [[(.acc 3 90 2 (y6.map Qa1)),(.acc 4 3 1 (y7.map Qah)),(I p0.Factor),(I p0.Horizon)]]
def Qyc (y14:List Int):AV:=.acc 4 3 1 (y14.map Qah)
def Q4u:AV:=.acc 6 91 2 ((([]):List Qap).map Qaz)
def Q4v:AV:=.acc 6 91 2 (([]:List Qap).map Qaz)
def Qtp (y26:List Qba) (y27:List Int) (p0:Qa7):Slot:=.own 4 [[(.acc 4 90 2 (y26.map Qa1)),(.acc 5 3 1 (y27.map Qah)),(I p0.Factor),(I p0.Horizon)]]
def Qyb (x35:Qap):AV:=.agg [(I x35.Amount),(I x35.Price)]
theorem Qli (N:Nat) (p0 r:Qa7) (h:Qht N p0=some r):Spec prog 23 [(.agg (Qhm p0))] [] (.agg (Qhm r)) []:=by
  refine sA func23 0 fun _ _ _ hq hd0=>?_
  unfold Qht at h
  refine wxz ?_
  obtain⟨ha1,h⟩:=cko h
  refine wxd tbk [(0,⟨[],[(2,.unused)],Q77,[(2,.tok)],false⟩),(3,⟨[(.tmp 8,Q77),(.tmp 10,(.dat 1 (p0.Feeds.map Qah)))],[(2,.tok),(3,.unused)],(Q1x p0),[(2,.dead),(3,.tok)],false⟩),(8,rp _ _)] ⟨Qid rfl underlying26 ti3 tz3,Qie rfl underlying26 te3 (Base.acc _ _) rfl rfl (Qmu Qah Qt1 _) (Qks Qah ha1) (Qkr Qah ha1 (by decide)) (Qkq Qah) rfl rfl,Qdz (vs:=[(Q1x p0),I p0.Factor,I p0.Horizon]) rfl ts69 tz69 rfl (by rfl) rfl,tv⟩ ?_
  obtain⟨k4,hk_k4,h⟩:=jko h
  refine wjn (τ:=(List Qba)×(List Int)) (fun t=>k4 t=some r) (fun ⟨y2,y3⟩=>⟨mk 68 [(2,.ref 0 4 0 0),(3,.ref 1 4 0 0)],[Qmp,(.own 4 [[(.acc 2 90 2 (y2.map Qa1)),(.acc 3 3 1 (y3.map Qah)),I p0.Factor,I p0.Horizon]]),.tok,.tok]⟩) (fun t h=>?_) ?_
  ·subst hk_k4
   obtain⟨y2,y3⟩:=t
   refine wxz<|Qag ?_
   obtain rfl:=osi h
   exact fie [(.agg [(.dat 2 (y2.map Qa1)),(.dat 1 (y3.map Qah)),I p0.Factor,I p0.Horizon])] ⟨Qjd (v:=(.agg [(.acc 2 90 2 (y2.map Qa1)),(.acc 3 3 1 (y3.map Qah)),I p0.Factor,I p0.Horizon])) (Qda (n:=0) (m:=4) (j:=0) (i:=0) (xs:=[[(.acc 2 90 2 (y2.map Qa1)),(.acc 3 3 1 (y3.map Qah)),I p0.Factor,I p0.Horizon]]) (by kernel_rfl) (by kernel_rfl) ti69 (by decide) rfl (nle rfl) rfl) (Less.agg ⟨Less.acc,Less.acc,lrf,lrf,tv⟩),tv⟩
  ·skip
   refine wxz<|Qaf ?_
   refine wmr (Mor.trans (Qmx (n:=5) (ty:=90) (m:=2) (q:=4) (mq:=4) (c:=[nilS,(Q1x p0),I p0.Factor,I p0.Horizon]) 0 (by kernel_rfl) (by kernel_rfl) (by kernel_rfl) (by decide)) (mto (n:=68) (l':=[(1,.ref 0 4 0 0),(2,.ref 1 4 0 0),(3,.ref 2 4 0 0),(4,I 0)]) (own':=[(Qn2 p0),Qmp,(.own 4 [[(.acc 3 90 2 ((([]):List Qba).map Qa1)),(.acc 4 3 1 (((([]:List Int)++p0.Feeds):List Int).map Qah)),I p0.Factor,I p0.Horizon]]),.tok,.tok]) [(1,.ref 0 4 0 0),(2,.ref 1 4 0 0),(3,.ref 4 4 0 0),(4,I 0)] [0,1,4,5,3] [(Qn2 p0),Qmp,(.own 4 [[(.acc 5 90 2 (([]:List Qba).map Qa1)),(Q1x p0),I p0.Factor,I p0.Horizon]]),.tok,.tok] hq (prr (prr (prr (pw pn)))) (qb (lc (rnd Qam) (lc (rnd Qal) (lcc ln))) (qb (lcc (lcc ln)) (qb (lc (.rn (Qff rfl (Qeg Qam _))) (lc (.rn (Qff rfl (Qeg Qal _))) (lcc ln))) (qc .tok (qc .tok qn))))))) ?_
   refine Qbx (τ:=Int×(List Qba)×(List Int)) (fun n t=>Qeb N p0 k4 n t.1 t.2.1 t.2.2=some r) (fun ⟨y5,y6,y7⟩=>⟨mk 68 [(1,.ref 0 4 0 0),(2,.ref 1 4 0 0),(3,.ref 2 4 0 0),(4,I y5)],[(Qn2 p0),Qmp,(Qtq y6 y7 p0),.tok,.tok]⟩) (fun t h=>by rw[Qeb] at h;cases h) (fun n11 ih t h=>?_) N (0,[],([]:List Int)++p0.Feeds) h
   obtain⟨y5,y6,y7⟩:=t
   rw[Qeb] at h
   skip
   refine wsq<|wx tbk [(3,rp _ _)] ⟨alq 2 Qa1 p0.Inlets underlying25,tv⟩ ?_
   refine bfe h (fun hc12 h=>?_) fun hc12 h=>?_
   ·refine wft hc12<|Qai<|thn ?_
    obtain⟨k15,hk_k15,h⟩:=jko h
    refine wjn (τ:=(List Qba)×(List Int)) (fun t=>k15 t=some r) (fun ⟨y13,y14⟩=>⟨mk 68 [(1,.ref 0 4 0 0),(2,.ref 1 4 0 0),(3,.ref 2 4 0 0),(4,I y5)],[(Qn2 p0),Qmp,(.own 4 [[(.acc 3 90 2 (y13.map Qa1)),(Qyc y14),I p0.Factor,I p0.Horizon]]),.tok,.tok]⟩) (fun t h=>?_) ?_
    ·subst hk_k15
     obtain⟨y13,y14⟩:=t
     exact wxz1<|thn<|arm (mto (n:=68) [(1,.ref 0 4 0 0),(2,.ref 1 4 0 0),(3,.ref 2 4 0 0),(4,(I (w64 (y5+1))))] [0,1,2,3,4] [(Qn2 p0),Qmp,(.own 4 [[(.acc 3 90 2 (y13.map Qa1)),(Qyc y14),I p0.Factor,I p0.Horizon]]),.tok,.tok] hq (prr (prr (prr (pw pn)))) (qb (lc (rnd Qam) (lc (rnd Qal) (lcc ln))) (qb (lcc (lcc ln)) (qb (lc (.rn (Qff rfl (Qeg Qam _))) (lc (.rn (Qff rfl (Qeg Qal _))) (lcc ln))) (qc .tok (qc .tok qn)))))) (ih (w64 (y5+1),y13,y14) h)
    ·skip
     refine Qaf ?_
     obtain⟨x16,hg17,h⟩:=bno h
     obtain⟨hi18,hj19⟩:=gsm hg17
     refine wx tbk [(3,rp _ _),(6,rp _ _)] ⟨aiq underlying25 ti45 Qa1 hi18 hj19,Qdz (vs:=[I x16.Site]) rfl ts90 tz90 rfl (by rfl) rfl,tv⟩ ?_
     obtain⟨k23,hk_k23,h⟩:=jko h
     refine wjn (τ:=(List Qba)×(List Int)×(List Qap)) (fun t=>k23 t=some r) (fun ⟨y20,y21,y22⟩=>⟨mk 68 [(1,.ref 0 4 0 0),(2,.ref 1 4 0 0),(3,.ref 2 4 0 0),(4,I y5),(5,.ref 3 2 0 0)],[(Qn2 p0),Qmp,(.own 4 [[(.acc 4 90 2 (y20.map Qa1)),(.acc 5 3 1 (y21.map Qah)),I p0.Factor,I p0.Horizon]]),(.own 2 [[I x16.Site,(.acc 6 91 2 (y22.map Qaz))]]),.tok,.tok,.tok]⟩) (fun t h=>?_) ?_
     ·subst hk_k23
      obtain⟨y20,y21,y22⟩:=t
      obtain⟨ha24,h⟩:=cko h
      refine wx1 tbk [(3,rp [(.tmp 63,(.agg [I x16.Site,(.acc 6 91 2 (y22.map Qaz))]))] (.dat 2 (([(⟨x16.Site,y22⟩:Qba)]:List Qba).map Qa1))),(4,⟨[(.tmp 62,(.acc 4 90 2 (y20.map Qa1))),(.tmp 64,(.dat 2 (([(⟨x16.Site,y22⟩:Qba)]:List Qba).map Qa1)))],[(4,.tok),(7,.unused)],(.acc 7 90 2 ((y20++([(⟨x16.Site,y22⟩:Qba)]):List Qba).map Qa1)),[(4,.dead),(7,.tok)],false⟩)] ⟨awk (rd':=[(.tmp 63,(.agg [I x16.Site,(.dat 2 (y22.map Qaz))]))]) ⟨rfl,(Less.agg ⟨lrf,Less.acc,tv⟩),tv⟩ (Qfj (vs:=[(.agg [I x16.Site,(.dat 2 (y22.map Qaz))])]) rfl underlying67 ti90 tz90 rfl (by decide) rfl (by decide) (by rfl) (by rfl) (by rfl) rfl),Qie rfl underlying67 te90 (Base.acc _ _) rfl rfl (by rfl) (Qks Qa1 ha24) (Qkr Qa1 ha24 (by decide)) (Qkq Qa1) rfl rfl,tv⟩<|bln<|thn ?_
      exact⟨(y20++([(⟨x16.Site,y22⟩:Qba)]),y21),h,(mto (n:=68) [(1,.ref 0 4 0 0),(2,.ref 1 4 0 0),(3,.ref 2 4 0 0),(4,I y5)] [0,1,2,7,5] [(Qn2 p0),Qmp,(.own 4 [[(.acc 7 90 2 ((y20++([(⟨x16.Site,y22⟩:Qba)]):List Qba).map Qa1)),(.acc 5 3 1 (y21.map Qah)),I p0.Factor,I p0.Horizon]]),.tok,.tok] hq (prr (prr (prr (pw pn)))) (qb (lc (rnd Qam) (lc (rnd Qal) (lcc ln))) (qb (lcc (lcc ln)) (qb (lc (.rn (Qff rfl (Qeg Qam _))) (lc (.rn (Qff rfl (Qeg Qal _))) (lcc ln))) (qc .tok (qc .tok qn))))))⟩
     ·skip
      refine wxz<|Qaf ?_
      refine wmr (Mor.trans (Qmx (n:=6) (ty:=91) (m:=2) (q:=5) (mq:=2) (c:=[I x16.Site,nilS]) 1 (by kernel_rfl) (by kernel_rfl) (by kernel_rfl) (by decide)) (mto (n:=68) (l':=[(1,.ref 0 4 0 0),(2,.ref 1 4 0 0),(3,.ref 2 4 0 0),(4,I y5),(5,.ref 3 2 0 0),(6,I 0)]) (own':=[(Qn2 p0),Qmp,(.own 4 [[(.acc 4 90 2 (y6.map Qa1)),(.acc 5 3 1 (y7.map Qah)),I p0.Factor,I p0.Horizon]]),(.own 2 [[I x16.Site,Q4u]]),.tok,.tok,.tok]) [(1,.ref 0 4 0 0),(2,.ref 1 4 0 0),(3,.ref 2 4 0 0),(4,I y5),(5,.ref 5 2 0 0),(6,I 0)] [0,1,2,5,3,4,6] [(Qn2 p0),Qmp,(Qtq y6 y7 p0),(.own 2 [[I x16.Site,Q4v]]),.tok,.tok,.tok] hq (prr (prr (prr (pw (prr (pw pn)))))) (qb (lc (rnd Qam) (lc (rnd Qal) (lcc ln))) (qb (lcc (lcc ln)) (qb (lc (.rn (Qff rfl (Qeg Qam _))) (lc (.rn (Qff rfl (Qeg Qal _))) (lcc ln))) (qb (lc rwl (lc (.rn (Qff rfl (Qeg Qaw _))) ln)) (qc .tok (qc .tok (qc .tok qn))))))))) ?_
      refine Qbx (τ:=Int×(List Qba)×(List Int)×(List Qap)) (fun n t=>Qer N x16 k23 n t.1 t.2.1 t.2.2.1 t.2.2.2=some r) (fun ⟨y25,y26,y27,y28⟩=>⟨mk 68 [(1,.ref 0 4 0 0),(2,.ref 1 4 0 0),(3,.ref 2 4 0 0),(4,I y5),(5,.ref 3 2 0 0),(6,I y25)],[(Qn2 p0),Qmp,(Qtp y26 y27 p0),(.own 2 [[I x16.Site,(.acc 6 91 2 (y28.map Qaz))]]),.tok,.tok,.tok]⟩) (fun t h=>by rw[Qer] at h;cases h) (fun n33 ih t h=>?_) N (0,y6,y7,[]) h
      obtain⟨y25,y26,y27,y28⟩:=t
      rw[Qer] at h
      skip
      refine wsq<|wx tbk [(4,rp _ _),(7,rp _ _)] ⟨aiq underlying25 ti45 Qa1 hi18 hj19,alq 2 Qaz x16.Stairs underlying43,tv⟩ ?_
      refine bfe h (fun hc34 h=>?_) fun hc34 h=>?_
      ·refine wft hc34<|Qai<|thn<|wsq<|Qaf ?_
       obtain⟨x35,hg36,h⟩:=bno h
       obtain⟨hi37,hj38⟩:=gsm hg36
       refine wx tbk [(3,rp _ _),(7,rp _ _)] ⟨aiq underlying25 ti45 Qa1 hi18 hj19,aiq underlying43 ti48 Qaz hi37 hj38,tv⟩ ?_
       obtain⟨ha39,h⟩:=cko h
       refine wx1 tbk [(6,rp _ _),(7,rp [(.tmp 57,(Qyb x35))] (.dat 2 (([x35]:List Qap).map Qaz))),(8,⟨[(.tmp 52,(.acc 6 91 2 (y28.map Qaz))),(.tmp 58,(.dat 2 (([x35]:List Qap).map Qaz)))],[(6,.tok),(8,.unused)],(.acc 8 91 2 ((y28++([x35]):List Qap).map Qaz)),[(6,.dead),(8,.tok)],false⟩)] ⟨Qdz (vs:=[I x35.Amount,I x35.Price]) rfl ts91 tz91 rfl (by rfl) rfl,Qfj (vs:=[(Qyb x35)]) rfl underlying88 ti91 tz91 rfl (by decide) rfl (by decide) (by rfl) (by rfl) (by rfl) rfl,Qie rfl underlying88 te91 (Base.acc _ _) rfl rfl (by rfl) (Qks Qaz ha39) (Qkr Qaz ha39 (by decide)) (Qkq Qaz) rfl rfl,tv⟩<|bln<|thn<|wxz1<|thn ?_
       exact arm (mto (n:=68) [(1,.ref 0 4 0 0),(2,.ref 1 4 0 0),(3,.ref 2 4 0 0),(4,I y5),(5,.ref 3 2 0 0),(6,(I (w64 (y25+1))))] [0,1,2,3,4,5,8] [(Qn2 p0),Qmp,(Qtp y26 y27 p0),(.own 2 [[I x16.Site,(.acc 8 91 2 ((y28++([x35]):List Qap).map Qaz))]]),.tok,.tok,.tok] hq (prr (prr (prr (pw (prr (pw pn)))))) (qb (lc (rnd Qam) (lc (rnd Qal) (lcc ln))) (qb (lcc (lcc ln)) (qb (lc (.rn (Qff rfl (Qeg Qam _))) (lc (.rn (Qff rfl (Qeg Qal _))) (lcc ln))) (qb (lc rwl (lc (.rn (Qff rfl (Qeg Qaw _))) ln)) (qc .tok (qc .tok (qc .tok qn)))))))) (ih (w64 (y25+1),y26,y27,y28++([x35])) h)
      ·exact wfn hc34<|Qa3<|Qan<|Qan<|Qa2 rfl<|thn<|⟨(y26,y27,y28),h,(mto (n:=68) [(1,.ref 0 4 0 0),(2,.ref 1 4 0 0),(3,.ref 2 4 0 0),(4,I y5),(5,.ref 3 2 0 0)] [0,1,2,3,4,5,6] [(Qn2 p0),Qmp,(Qtp y26 y27 p0),(.own 2 [[I x16.Site,(.acc 6 91 2 (y28.map Qaz))]]),.tok,.tok,.tok] hq (prr (prr (prr (pw (prr pn))))) (qb (lc (rnd Qam) (lc (rnd Qal) (lcc ln))) (qb (lcc (lcc ln)) (qb (lc (.rn (Qff rfl (Qeg Qam _))) (lc (.rn (Qff rfl (Qeg Qal _))) (lcc ln))) (qb (lc rwl (lc (.rn (Qff rfl (Qeg Qaw _))) ln)) (qc .tok (qc .tok (qc .tok qn))))))))⟩
   ·exact wfn hc12<|Qa3<|Qan<|Qan<|Qa2 rfl<|thn<|⟨(y6,y7),h,(mto (n:=68) [(2,.ref 1 4 0 0),(3,.ref 2 4 0 0)] [1,2,3,4] [Qmp,(Qtq y6 y7 p0),.tok,.tok] hq (prr (prr pn)) (qb (lcc (lcc ln)) (qb (lc (.rn (Qff rfl (Qeg Qam _))) (lc (.rn (Qff rfl (Qeg Qal _))) (lcc ln))) (qc .tok (qc .tok qn)))))⟩
def Qhg (N:Nat) (p0 p1 p2:Int):Option Int:=
  (Qf4 N p0 p1).bind fun x2=>
  (some (w64 ((w64 (x2.1*p2)).tdiv 1000))).bind fun x3=>
  some x3
theorem Qkm (N:Nat) (p0 p1:Int) (p2 r:Int) (h:Qhg N p0 p1 p2=some r):Spec prog 55 [(.lit (.pointer none)),(I p0),(I p1),(I p2)] [] (I r) []:=by
  refine sA func55 0 fun _ _ _ hq hd0=>?_
  unfold Qhg at h
  refine wxz ?_
  obtain⟨x2,hf1,h⟩:=bno h
  refine wx tbk [(3,rp _ _)] ⟨acq [(.lit (.pointer none)),I p0,I p1] [] [] (.tup [I x2.1,I x2.2]) [] Qrh (Qhv N p0 p1 _ hf1) (Qb1 (rncc (rnc (.plain _ nll) rn0))) Qak Qak (.plain _ (NLt.tup _ (nlcc nl0))),tv⟩ ?_
  obtain⟨x3,hl4,h⟩:=bno h
  refine wx tbk [(3,rp [(.tmp 20,(I (w64 (x2.1*p2)))),ci 1000] (I (w64 ((w64 (x2.1*p2)).tdiv 1000)))),(4,rp [(.tmp 21,(I (w64 ((w64 (x2.1*p2)).tdiv 1000))))] (I x3))] ⟨Qll rfl (by decide),Qfh hl4 (aas rfl),tv⟩<|Qag ?_
  obtain rfl:=osi h
  exact fend ⟨[I x3],⟨rot,tv⟩,rfl⟩ nll
def Qgj (N:Nat) (p0 p1:Int) (_p2:List Qap) (_p3:List Qba) (_p4:List Int) (p5 p6:Int):Option Bool:=
  (Qhg N p1 p0 p5).bind fun x3=>
  some (decide (x3<p6))
abbrev Q1w:Slot:=.own 1 [[(.lit (.pointer none))]]
abbrev Q1v (p3:List Qba) (p4:List Int) (p5 p6:Int):Slot:=.own 4 [[(.dat 2 (p3.map Qa1)),(.dat 1 (p4.map Qah)),(I p5),(I p6)]]
theorem Qjl (N:Nat) (p0 p1:Int) (p2:List Qap) (p3:List Qba) (p4:List Int) (p5 p6:Int) (r:Bool) (h:Qgj N p0 p1 p2 p3 p4 p5 p6=some r):Spec prog 54 [(I p0),(.ref 0 1 (0) 0),(.ref 1 2 (0) 0),(.ref 2 4 (0) 0)] [Q1w,(.own 2 [[(I p1),(.dat 2 (p2.map Qaz))]]),(Q1v p3 p4 p5 p6)] (B r) [Q1w,(.own 2 [[(I p1),(.dat 2 (p2.map Qaz))]]),(Q1v p3 p4 p5 p6)]:=by
  refine sF func54 3 fun _ _ _ hq hd0=>?_
  unfold Qgj at h
  refine wxz ?_
  obtain⟨x3,hf2,h⟩:=bno h
  refine wxd tbk [(6,rp _ _)] ⟨acq [(.lit (.pointer none)),I p1,I p0,I p5] [] [] (I x3) [] Qz4 (Qkm N p1 p0 p5 _ hf2) (Qb1 (rncc (rncc rn0))) Qak Qak (.plain _ nll),tv⟩ ?_
  refine wmr (mto (n:=16) (l':=[(5,(B ((decide (x3<p6)))))]) (own':=[Q1w,(.own 2 [[I p1,(.dat 2 (p2.map Qaz))]]),(Q1v p3 p4 p5 p6)]) [(5,(B ((decide (x3<p6)))))] [0,1,2] [Q1w,(.own 2 [[I p1,(.dat 2 (p2.map Qaz))]]),(Q1v p3 p4 p5 p6)] hq (pw pn) (qb (lc rwl ln) (qb (lc rwl (lc (rnd Qaw) ln)) (qb (lc (rnd Qam) (lc (rnd Qal) (lcc ln))) qn))))<|Qag ?_
  obtain rfl:=osi h
  exact⟨_,Mor.rfl,fio [(B ((decide (x3<p6))))] ⟨rot,tv⟩⟩
def Qc4 (N:Nat) (p0:List Int) (p1:Int) (k2:Unit→Option Int) (p2:List Qap) (p3:List Qba) (p4:List Int) (p5 p6:Int):Nat→Int→Option Int
  |0,_=>none
  |n5+1,y3=>
    bif (decide (y3<(p0.length:Int))) then
     (getI p0 y3).bind fun x7=>
     (Qgj N x7 p1 p2 p3 p4 p5 p6).bind fun x12=>
     bif x12 then
      some y3
     else
      Qc4 N p0 p1 k2 p2 p3 p4 p5 p6 n5 (w64 (y3+1))
    else
     k2 ()
def Qfo (N:Nat) (p0:List Int) (p1:Int) (p2:List Qap) (p3:List Qba) (p4:List Int) (p5 p6:Int):Option Int:=
  Qcy (fun _=>
    some (-1)) fun k2:Unit→Option Int=>
  Qc4 N p0 p1 k2 p2 p3 p4 p5 p6 N 0
abbrev Qx8:AV:=.fn (.func 54) [] [(.ref 0 1 (0) 0),(.ref 1 2 (0) 0),(.ref 2 4 (0) 0)]
abbrev Qmn:Slot:=.own 1 [[(.lit (.pointer none))]]
abbrev Qmm (p1:Int) (p2:List Qap):Slot:=.own 2 [[(I p1),(.dat 2 (p2.map Qaz))]]
abbrev Qml (p3:List Qba) (p4:List Int) (p5 p6:Int):Slot:=.own 4 [[(.dat 2 (p3.map Qa1)),(.dat 1 (p4.map Qah)),(I p5),(I p6)]]
theorem Qiu (N:Nat) (p0:List Int) (p1:Int) (p2:List Qap) (p3:List Qba) (p4:List Int) (p5 p6 r:Int) (h:Qfo N p0 p1 p2 p3 p4 p5 p6=some r):Spec prog 47 [(.dat 1 (p0.map Qah)),Qx8] [Qmn,(Qmm p1 p2),(Qml p3 p4 p5 p6)] (I r) [Qmn,(Qmm p1 p2),(Qml p3 p4 p5 p6)]:=by
  refine sF func47 3 fun _ _ _ hq hd0=>?_
  unfold Qfo at h
  refine wxz ?_
  obtain⟨k2,hk_k2,h⟩:=jko h
  refine wjn (τ:=Unit) (fun t=>k2 t=some r) (fun _=>⟨mk 19 [],[Qmn,(Qmm p1 p2),(Qml p3 p4 p5 p6)]⟩) (fun t h=>?_) ?_
  ·subst hk_k2
   refine wxz<|wmr (mto (n:=19) (l':=[(4,(I ((-1))))]) (own':=[Qmn,(Qmm p1 p2),(Qml p3 p4 p5 p6)]) [(4,(I ((-1))))] [0,1,2] [Qmn,(Qmm p1 p2),(Qml p3 p4 p5 p6)] hq (pw pn) (qb (lc rwl ln) (qb (lc rwl (lc (rnd Qaw) ln)) (qb (lc (rnd Qam) (lc (rnd Qal) (lcc ln))) qn))))<|Qag ?_
   obtain rfl:=osi h
   exact⟨_,Mor.rfl,fio [(I ((-1)))] ⟨rot,tv⟩⟩
  ·skip
   refine wx tbk [(1,rp _ _)] ⟨alq 1 Qah p0 underlying26,tv⟩<|Qaf ?_
   refine wmr (mto (n:=19) (l':=[(0,(.dat 1 (p0.map Qah))),(1,Qx8),(7,(I ((p0.length:Int)))),(8,I 0)]) (own':=[Qmn,(Qmm p1 p2),(Qml p3 p4 p5 p6)]) [(0,(.dat 1 (p0.map Qah))),(1,Qx8),(7,(I ((p0.length:Int)))),(8,I 0)] [0,1,2] [Qmn,(Qmm p1 p2),(Qml p3 p4 p5 p6)] hq (pc (rnd Qal) (pc (.rn (Qao rn0 (rnc (rqr rfl) (rnc (rqr rfl) (rnc (rqr rfl) rn0))))) (pw (pw pn)))) (qb (lc rwl ln) (qb (lc rwl (lc (rnd Qaw) ln)) (qb (lc (rnd Qam) (lc (rnd Qal) (lcc ln))) qn)))) ?_
   refine Qbx (τ:=Int) (fun n t=>Qc4 N p0 p1 k2 p2 p3 p4 p5 p6 n t=some r) (fun y3=>⟨mk 19 [(0,(.dat 1 (p0.map Qah))),(1,Qx8),(7,(I ((p0.length:Int)))),(8,I y3)],[Qmn,(Qmm p1 p2),(Qml p3 p4 p5 p6)]⟩) (fun t h=>by rw[Qc4] at h;cases h) (fun n5 ih y3 h=>?_) N (0) h
   rw[Qc4] at h
   skip
   refine wxz<|wsq ?_
   refine bfe h (fun hc6 h=>?_) fun hc6 h=>?_
   ·refine wft hc6<|Qai<|thn<|wsq<|Qaf<|wxz ?_
    obtain⟨x7,hg8,h⟩:=bno h
    obtain⟨hi9,hj10⟩:=gsm hg8
    obtain⟨x12,hf11,h⟩:=bno h
    refine wx tbk [(3,rp _ _),(5,⟨_,_,_,_,false⟩)] ⟨aiq underlying26 ti3 Qah hi9 hj10,Qei (first:=[]) (cap:=[.ref 0 1 0 0,.ref 1 2 0 0,.ref 2 4 0 0]) (vs:=[I x7]) (σr:=[Qmn,(Qmm p1 p2),(Qml p3 p4 p5 p6)]) (σr':=[Qmn,(Qmm p1 p2),(Qml p3 p4 p5 p6)]) (res':=(B x12)) [0,1,2] rfl Qz5 (Qjl N x7 p1 p2 p3 p4 p5 p6 _ hf11) rfl (Qb1 (rnc (.plain _ nll) (rnc (Qa4 rfl) (rnc (Qa4 rfl) (rnc (Qa4 rfl) rn0))))) (slc (Qaj (rnc (.plain _ nll) rn0)) (slc (Qaj (rnc (.plain _ nll) (rnc (pld Qaw) rn0))) (slc (Qaj (rnc (pld Qam) (rnc (pld Qal) (rncc rn0)))) Qak))) (slc (Qaj (rnc (.plain _ nll) rn0)) (slc (Qaj (rnc (.plain _ nll) (rnc (pld Qaw) rn0))) (slc (Qaj (rnc (pld Qam) (rnc (pld Qal) (rncc rn0)))) Qak))) (.plain _ nll) rfl rfl rfl,tv⟩ ?_
    refine bfe h (fun hc13 h=>?_) fun hc13 h=>?_
    ·refine wft hc13<|wxz ?_
     refine wmr (mto (n:=19) (l':=[(4,I y3)]) (own':=[Qmn,(Qmm p1 p2),(Qml p3 p4 p5 p6)]) [(4,I y3)] [0,1,2] [Qmn,(Qmm p1 p2),(Qml p3 p4 p5 p6)] hq (pw pn) (qb (lc rwl ln) (qb (lc rwl (lc (rnd Qaw) ln)) (qb (lc (rnd Qam) (lc (rnd Qal) (lcc ln))) qn))))<|Qag<|Qaq<|Qae<|Qae<|Qaq<|Qae ?_
     obtain rfl:=osi h
     exact⟨_,Mor.rfl,fio [I y3] ⟨rot,tv⟩⟩
    ·exact wfn hc13<|Qai<|bln<|thn<|wxz1<|thn<|arm (mto (n:=19) [(0,(.dat 1 (p0.map Qah))),(1,Qx8),(7,(I ((p0.length:Int)))),(8,(I (w64 (y3+1))))] [0,1,2] [Qmn,(Qmm p1 p2),(Qml p3 p4 p5 p6)] hq (pc (rnd Qal) (pc (.rn (Qao rn0 (rnc (rqr rfl) (rnc (rqr rfl) (rnc (rqr rfl) rn0))))) (pw (pw pn)))) (qb (lc rwl ln) (qb (lc rwl (lc (rnd Qaw) ln)) (qb (lc (rnd Qam) (lc (rnd Qal) (lcc ln))) qn)))) (ih (w64 (y3+1)) h)
   ·exact wfn hc6<|Qa3<|Qan<|Qan<|Qa2 rfl<|thn<|⟨(),h,(mto (n:=19) [] [0,1,2] [Qmn,(Qmm p1 p2),(Qml p3 p4 p5 p6)] hq pn (qb (lc rwl ln) (qb (lc rwl (lc (rnd Qaw) ln)) (qb (lc (rnd Qam) (lc (rnd Qal) (lcc ln))) qn))))⟩
def Qe2 (N:Nat) (p0:List Int) (p1:Int) (p2:List Qap) (p3:List Qba) (p4:List Int) (p5 p6:Int):Option Bool:=
  (Qfo N p0 p1 p2 p3 p4 p5 p6).bind fun x3=>
  some (decide (x3≥0))
abbrev Q72:AV:=.fn (.func 54) [] [(.ref 0 1 (0) 0),(.ref 1 2 (0) 0),(.ref 2 4 (0) 0)]
abbrev Qv0:Slot:=.own 1 [[(.lit (.pointer none))]]
abbrev Qvz (p1:Int) (p2:List Qap):Slot:=.own 2 [[(I p1),(.dat 2 (p2.map Qaz))]]
abbrev Qvy (p3:List Qba) (p4:List Int) (p5 p6:Int):Slot:=.own 4 [[(.dat 2 (p3.map Qa1)),(.dat 1 (p4.map Qah)),(I p5),(I p6)]]
theorem Qh9 (N:Nat) (p0:List Int) (p1:Int) (p2:List Qap) (p3:List Qba) (p4:List Int) (p5 p6:Int) (r:Bool) (h:Qe2 N p0 p1 p2 p3 p4 p5 p6=some r):Spec prog 29 [(.dat 1 (p0.map Qah)),Q72] [Qv0,(Qvz p1 p2),(Qvy p3 p4 p5 p6)] (B r) [Qv0,(Qvz p1 p2),(Qvy p3 p4 p5 p6)]:=by
  refine sF func29 3 fun _ _ _ hq hd0=>?_
  unfold Qe2 at h
  refine wxz ?_
  obtain⟨x3,hf2,h⟩:=bno h
  refine wx tbk [(2,⟨_,_,_,_,false⟩)] ⟨acq [(.dat 1 (p0.map Qah)),Q72] [Qv0,(Qvz p1 p2),(Qvy p3 p4 p5 p6)] [Qv0,(Qvz p1 p2),(Qvy p3 p4 p5 p6)] (I x3) [0,1,2] Qub (Qiu N p0 p1 p2 p3 p4 p5 p6 _ hf2) (Qb1 (rnc (pld Qal) (rnc (Qao rn0 (rnc (Qa4 rfl) (rnc (Qa4 rfl) (rnc (Qa4 rfl) rn0)))) rn0))) (slc (Qaj (rnc (.plain _ nll) rn0)) (slc (Qaj (rnc (.plain _ nll) (rnc (pld Qaw) rn0))) (slc (Qaj (rnc (pld Qam) (rnc (pld Qal) (rncc rn0)))) Qak))) (slc (Qaj (rnc (.plain _ nll) rn0)) (slc (Qaj (rnc (.plain _ nll) (rnc (pld Qaw) rn0))) (slc (Qaj (rnc (pld Qam) (rnc (pld Qal) (rncc rn0)))) Qak))) (.plain _ nll),tv⟩ ?_
  refine wmr (mto (n:=9) (l':=[(4,(B ((decide (x3≥0)))))]) (own':=[Qv0,(Qvz p1 p2),(Qvy p3 p4 p5 p6)]) [(4,(B ((decide (x3≥0)))))] [0,1,2] [Qv0,(Qvz p1 p2),(Qvy p3 p4 p5 p6)] hq (pw pn) (qb (lc rwl ln) (qb (lc rwl (lc (rnd Qaw) ln)) (qb (lc (rnd Qam) (lc (rnd Qal) (lcc ln))) qn))))<|Qag ?_
  obtain rfl:=osi h
  exact⟨_,Mor.rfl,fio [(B ((decide (x3≥0))))] ⟨rot,tv⟩⟩
def Qgw (N:Nat) (p0:Qa7) (p1:Qba):Option Bool:=
  (Qe2 N p0.Feeds p1.Site p1.Stairs p0.Inlets p0.Feeds p0.Factor p0.Horizon).bind fun x2=>
  some x2
abbrev Q4r (p0:Qa7):AV:=.dat 1 (p0.Feeds.map Qah)
def Q73:AV:=.fn (.func 54) [] [(.ref 0 1 (0) 0),(.ref 2 2 (0) 0),(.ref 1 4 (0) 0)]
def Q76:Slot:=.own 1 [[(.lit (.pointer none))]]
def Q74 (p1:Qba):Slot:=.own 2 [[(I p1.Site),(.dat 2 (p1.Stairs.map Qaz))]]
def Q75 (p0:Qa7):Slot:=.own 4 [[(.dat 2 (p0.Inlets.map Qa1)),(Q4r p0),(I p0.Factor),(I p0.Horizon)]]
theorem Qj2 (N:Nat) (p0:Qa7) (p1:Qba) (r:Bool) (h:Qgw N p0 p1=some r):Spec prog 36 [(.lit (.pointer none)),(.agg [(.dat 2 (p0.Inlets.map Qa1)),(Q4r p0),(I p0.Factor),(I p0.Horizon)]),(.agg [(I p1.Site),(.dat 2 (p1.Stairs.map Qaz))])] [] (B r) []:=by
  refine sA func36 0 fun _ _ _ hq hd0=>?_
  unfold Qgw at h
  refine wxz ?_
  obtain⟨x2,hf1,h⟩:=bno h
  refine wx tbk [(2,rp [(.tmp 3,.ref 0 1 0 0),(.tmp 5,.ref 2 2 0 0),(.tmp 4,.ref 1 4 0 0)] Q73),(3,⟨_,_,_,_,false⟩)] ⟨Qfm (fs:=[]) (cs:=[.ref 0 1 0 0,.ref 2 2 0 0,.ref 1 4 0 0]) rfl rfl rfl rfl,acq [(Q4r p0),Q73] [Q76,(Q74 p1),(Q75 p0)] [Q76,(Q74 p1),(Q75 p0)] (B x2) [0,2,1] Quc (Qh9 N p0.Feeds p1.Site p1.Stairs p0.Inlets p0.Feeds p0.Factor p0.Horizon _ hf1) (Qb1 (rnc (pld Qal) (rnc (Qao rn0 (rnc (Qa4 rfl) (rnc (Qa4 rfl) (rnc (Qa4 rfl) rn0)))) rn0))) (slc (Qaj (rnc (.plain _ nll) rn0)) (slc (Qaj (rnc (.plain _ nll) (rnc (pld Qaw) rn0))) (slc (Qaj (rnc (pld Qam) (rnc (pld Qal) (rncc rn0)))) Qak))) (slc (Qaj (rnc (.plain _ nll) rn0)) (slc (Qaj (rnc (.plain _ nll) (rnc (pld Qaw) rn0))) (slc (Qaj (rnc (pld Qam) (rnc (pld Qal) (rncc rn0)))) Qak))) (.plain _ nll),tv⟩<|Qag ?_
  exact frb h
def Qbd (N:Nat) (p0 p1:Int):Nat→Int→Option Unit
  |0,_=>none
  |n3+1,y1=>
    bif (decide (y1<p1)) then
     Qcy (fun _=>
       Qbd N p0 p1 n3 (w64 (y1+1))) fun k5:Unit→Option Unit=>
     bif (decide (y1>p0)) then
      none
     else
      k5 ()
    else
     some ()
def Qbq (N:Nat) (p0 p1:Int):Option Unit:=
  Qbd N p0 p1 N (w64 (p0+1))
abbrev Qth:AV:=.dat 3 (([]:List Qaa).map Qac)
abbrev Qti:AV:=.fn (.func 57) [] [(.ref 0 1 (0) 0)]
abbrev Qpk:Slot:=.own 1 [[(.fn (.func 39) [] [])]]
theorem Qef (N:Nat) (p0 p1:Int) (r:Unit) (h:Qbq N p0 p1=some r):Spec prog 67 [Qth,(I p0),(I p1),Qti] [Qpk] (.tup []) [Qpk]:=by
  refine sF func67 1 fun _ _ _ hq hd0=>?_
  unfold Qbq at h
  refine wxz<|Qaf ?_
  refine wmr (mto (n:=53) (l':=[(0,Qth),(1,I p0),(2,I p1),(3,Qti),(8,(I ((w64 (p0+1)))))]) (own':=[Qpk]) [(0,Qth),(1,I p0),(2,I p1),(3,Qti),(8,(I (w64 (p0+1))))] [0] [Qpk] hq (pc (rnd Qab) (pw (pw (pc (.rn (Qao rn0 (rnc (rqr rfl) rn0))) (pw pn))))) (qb (lc (.rn (Qao rn0 rn0)) ln) qn)) ?_
  refine Qbx (τ:=Int) (fun n t=>Qbd N p0 p1 n t=some r) (fun y1=>⟨mk 53 [(0,Qth),(1,I p0),(2,I p1),(3,Qti),(8,I y1)],[Qpk]⟩) (fun t h=>by rw[Qbd] at h;cases h) (fun n3 ih y1 h=>?_) N (w64 (p0+1)) h
  rw[Qbd] at h
  skip
  refine wsq<|wxz ?_
  refine bfe h (fun hc4 h=>?_) fun hc4 h=>?_
  ·refine wft hc4<|Qai<|thn ?_
   obtain⟨k5,hk_k5,h⟩:=jko h
   refine wjn (τ:=Unit) (fun t=>k5 t=some r) (fun _=>⟨mk 53 [(0,Qth),(1,I p0),(2,I p1),(3,Qti),(8,I y1)],[Qpk]⟩) (fun t h=>?_) ?_
   ·subst hk_k5
    exact wxz1<|thn<|arm (mto (n:=53) [(0,Qth),(1,I p0),(2,I p1),(3,Qti),(8,(I (w64 (y1+1))))] [0] [Qpk] hq (pc (rnd Qab) (pw (pw (pc (.rn (Qao rn0 (rnc (rqr rfl) rn0))) (pw pn))))) (qb (lc (.rn (Qao rn0 rn0)) ln) qn)) (ih (w64 (y1+1)) h)
   ·skip
    refine Qaf<|wxz<|Qaf<|Qrn 17<|Q1c<|wsq ?_
    refine bfe h (fun hb6 h=>?_) fun hb6 h=>?_
    ·cases h
    ·exact wxd tbk [(3,rp [(.tmp 20,(B ((decide (y1>p0)))))] (B false))] ⟨asb hb6 (amv rfl),tv⟩<|wfa<|Qa3<|Qan<|Qan<|Qa2 rfl<|bln<|thn<|⟨(),h,(mto (n:=53) [(0,Qth),(1,I p0),(2,I p1),(3,Qti),(8,I y1)] [0] [Qpk] hq (pc (rnd Qab) (pw (pw (pc (.rn (Qao rn0 (rnc (rqr rfl) rn0))) (pw pn))))) (qb (lc (.rn (Qao rn0 rn0)) ln) qn))⟩
  ·refine wfn hc4<|Qa3<|Qan<|Qan<|Qa2 rfl ?_
   obtain rfl:=osi h
   exact⟨_,(mto (n:=53) (l':=[]) (own':=[Qpk]) [] [0] [Qpk] hq pn (qb (lc (.rn (Qao rn0 rn0)) ln) qn)),fio [] tv⟩
def Qci (N:Nat) (p2:Int):Nat→Option Unit
  |0=>none
  |n1+1=>
    bif (decide (0<p2)) then
     none
    else
     some ()
def Qcf (N:Nat) (_p0 _p1 p2:Int):Option Unit:=
  Qci N p2 N
abbrev Q1u:AV:=.dat 3 (([]:List Qaa).map Qac)
abbrev Qtg:Slot:=.own 1 [[(.fn (.func 39) [] [])]]
theorem Qdq (N:Nat) (p0 p1 p2:Int) (r:Unit) (h:Qcf N p0 p1 p2=some r):Spec prog 70 [Q1u,(I p0),(I p1),(I p2),(.fn (.func 57) [] [(.ref 0 1 (0) 0)])] [Qtg] (.tup []) [Qtg]:=by
  refine sF func70 1 fun _ _ _ hq hd0=>?_
  unfold Qcf at h
  refine wxz<|Qaf ?_
  refine wmr (mto (n:=38) (l':=[(0,Q1u),(1,I p0),(2,I p1),(3,I p2),(10,I 0)]) (own':=[Qtg]) [(0,Q1u),(1,I p0),(2,I p1),(3,I p2),(10,I 0)] [0] [Qtg] hq (pc (rnd Qab) (pw (pw (pw (pw pn))))) (qb (lc (.rn (Qao rn0 rn0)) ln) qn)) ?_
  refine Qbx (τ:=Unit) (fun n t=>Qci N p2 n=some r) (fun _=>⟨mk 38 [(0,Q1u),(1,I p0),(2,I p1),(3,I p2),(10,I 0)],[Qtg]⟩) (fun t h=>by rw[Qci] at h;cases h) (fun n1 ih t h=>?_) N () h
  rw[Qci] at h
  skip
  refine wsq<|wxz ?_
  refine bfe h (fun hc2 h=>?_) fun hc2 h=>?_
  ·refine wft hc2<|Qai<|thn<|wsq<|Qaf ?_
   cases h
  ·refine wfn hc2<|Qa3<|Qan<|Qan<|Qa2 rfl ?_
   obtain rfl:=osi h
   exact⟨_,(mto (n:=38) (l':=[]) (own':=[Qtg]) [] [0] [Qtg] hq pn (qb (lc (.rn (Qao rn0 rn0)) ln) qn)),fio [] tv⟩
def Qbs (N:Nat) (p1:Int) (k2:Int→Option Unit):Nat→Int→Int→Option Unit
  |0,_,_=>none
  |n9+1,y5,y6=>
    bif (y5 != y6) then
     bif (decide (y5>y6)) then
      (Qcf N (w64 (p1-y5)) p1 y6).bind fun _=>
      Qbs N p1 k2 n9 (w64 (y5-y6)) y6
     else
      (Qcf N (w64 (p1-y5)) (w64 ((w64 (p1+y6))-y5)) y5).bind fun _=>
      Qbs N p1 k2 n9 y5 (w64 (y6-y5))
    else
     k2 (y5)
def Qed (N:Nat) (p0 p1 p2:Int):Option Unit:=
  Qcy (fun y1=>
    (Qcf N (w64 (p1-y1)) p1 y1).bind fun _=>
    some ()) fun k2:Int→Option Unit=>
  Qbs N p1 k2 N (w64 (p1-p0)) (w64 (p2-p1))
abbrev Qof:AV:=.dat 3 (([]:List Qaa).map Qac)
abbrev Qoe:AV:=.fn (.func 57) [] [(.ref 0 1 (0) 0)]
abbrev Qk7:Slot:=.own 1 [[(.fn (.func 39) [] [])]]
theorem Qg7 (N:Nat) (p0 p1 p2:Int) (r:Unit) (h:Qed N p0 p1 p2=some r):Spec prog 69 [Qof,(I p0),(I p1),(I p2),Qoe] [Qk7] (.tup []) [Qk7]:=by
  refine sF func69 1 fun _ _ _ hq hd0=>?_
  unfold Qed at h
  refine wxz<|wxz ?_
  obtain⟨k2,hk_k2,h⟩:=jko h
  refine wjn (τ:=Int) (fun t=>k2 t=some r) (fun y1=>⟨mk 58 [(0,Qof),(2,I p1),(4,Qoe),(10,I y1)],[Qk7]⟩) (fun y1 h=>?_) ?_
  ·subst hk_k2
   obtain⟨x4,hf3,h⟩:=bno h
   refine wx1 tbk [(7,⟨_,_,_,_,false⟩)] ⟨acq [Qof,(I (w64 (p1-y1))),I p1,I y1,Qoe] [Qk7] [Qk7] (.tup []) [0] Qng (Qdq N (w64 (p1-y1)) p1 y1 _ hf3) (Qb1 (rnc (pld Qab) (rncc (rnc (.plain _ nll) (rnc (Qao rn0 (rnc (Qa4 rfl) rn0)) rn0))))) (slc (Qaj (rnc (.plain _ (NLt.fn _ _ _ nl0 nl0)) rn0)) Qak) (slc (Qaj (rnc (.plain _ (NLt.fn _ _ _ nl0 nl0)) rn0)) Qak) (.plain _ (NLt.tup _ nl0)),tv⟩ ?_
   obtain rfl:=osi h
   exact⟨_,(mto (n:=58) (l':=[]) (own':=[Qk7]) [] [0] [Qk7] hq pn (qb (lc (.rn (Qao rn0 rn0)) ln) qn)),fio [] tv⟩
  ·skip
   refine Qaf<|wmr (mto (n:=58) (l':=[(0,Qof),(2,I p1),(4,Qoe),(10,(I ((w64 (p1-p0))))),(11,(I ((w64 (p2-p1)))))]) (own':=[Qk7]) [(0,Qof),(2,I p1),(4,Qoe),(10,(I (w64 (p1-p0)))),(11,(I (w64 (p2-p1))))] [0] [Qk7] hq (pc (rnd Qab) (pw (pc (.rn (Qao rn0 (rnc (rqr rfl) rn0))) (pw (pw pn))))) (qb (lc (.rn (Qao rn0 rn0)) ln) qn)) ?_
   refine Qbx (τ:=Int×Int) (fun n t=>Qbs N p1 k2 n t.1 t.2=some r) (fun ⟨y5,y6⟩=>⟨mk 58 [(0,Qof),(2,I p1),(4,Qoe),(10,I y5),(11,I y6)],[Qk7]⟩) (fun t h=>by rw[Qbs] at h;cases h) (fun n9 ih t h=>?_) N (w64 (p1-p0),w64 (p2-p1)) h
   obtain⟨y5,y6⟩:=t
   rw[Qbs] at h
   skip
   refine wsq<|wxz ?_
   refine bfe h (fun hc10 h=>?_) fun hc10 h=>?_
   ·refine wft hc10<|Qai<|thn<|Qaf<|wxz ?_
    refine bfe h (fun hc11 h=>?_) fun hc11 h=>?_
    ·refine wft hc11 ?_
     obtain⟨x13,hf12,h⟩:=bno h
     refine wx tbk [(7,⟨_,_,_,_,false⟩)] ⟨acq [Qof,(I (w64 (p1-y5))),I p1,I y6,Qoe] [Qk7] [Qk7] (.tup []) [0] Qng (Qdq N (w64 (p1-y5)) p1 y6 _ hf12) (Qb1 (rnc (pld Qab) (rncc (rnc (.plain _ nll) (rnc (Qao rn0 (rnc (Qa4 rfl) rn0)) rn0))))) (slc (Qaj (rnc (.plain _ (NLt.fn _ _ _ nl0 nl0)) rn0)) Qak) (slc (Qaj (rnc (.plain _ (NLt.fn _ _ _ nl0 nl0)) rn0)) Qak) (.plain _ (NLt.tup _ nl0)),tv⟩<|wxz1<|bln<|thn ?_
     exact arm (mto (n:=58) [(0,Qof),(2,I p1),(4,Qoe),(10,(I (w64 (y5-y6)))),(11,I y6)] [0] [Qk7] hq (pc (rnd Qab) (pw (pc (.rn (Qao rn0 (rnc (rqr rfl) rn0))) (pw (pw pn))))) (qb (lc (.rn (Qao rn0 rn0)) ln) qn)) (ih (w64 (y5-y6),y6) h)
    ·refine wfn hc11 ?_
     obtain⟨x15,hf14,h⟩:=bno h
     refine wx tbk [(11,⟨_,_,_,_,false⟩)] ⟨acq [Qof,(I (w64 (p1-y5))),(I (w64 ((w64 (p1+y6))-y5))),I y5,Qoe] [Qk7] [Qk7] (.tup []) [0] Qng (Qdq N (w64 (p1-y5)) (w64 ((w64 (p1+y6))-y5)) y5 _ hf14) (Qb1 (rnc (pld Qab) (rncc (rnc (.plain _ nll) (rnc (Qao rn0 (rnc (Qa4 rfl) rn0)) rn0))))) (slc (Qaj (rnc (.plain _ (NLt.fn _ _ _ nl0 nl0)) rn0)) Qak) (slc (Qaj (rnc (.plain _ (NLt.fn _ _ _ nl0 nl0)) rn0)) Qak) (.plain _ (NLt.tup _ nl0)),tv⟩<|wxz1<|bln<|thn ?_
     exact arm (mto (n:=58) [(0,Qof),(2,I p1),(4,Qoe),(10,I y5),(11,(I (w64 (y6-y5))))] [0] [Qk7] hq (pc (rnd Qab) (pw (pc (.rn (Qao rn0 (rnc (rqr rfl) rn0))) (pw (pw pn))))) (qb (lc (.rn (Qao rn0 rn0)) ln) qn)) (ih (y5,w64 (y6-y5)) h)
   ·exact wfn hc10<|Qa3<|Qan<|Qan<|Qa2 rfl<|thn<|⟨(y5),h,(mto (n:=58) [(0,Qof),(2,I p1),(4,Qoe),(10,I y5)] [0] [Qk7] hq (pc (rnd Qab) (pw (pc (.rn (Qao rn0 (rnc (rqr rfl) rn0))) (pw pn)))) (qb (lc (.rn (Qao rn0 rn0)) ln) qn))⟩
def Qct (N:Nat) (y5 y6:Int) (k10:Unit→Option Unit):Nat→Option Unit
  |0=>none
  |n27+1=>
    bif (decide (y5<y6)) then
     (some (w64 ((IntKind.wrap .u64 (w64 (y5+y6)))/2))).bind fun _=>
     none
    else
     k10 ()
def Qcs (N:Nat) (p0 p1:Int) (k36:Unit→Option Unit):Nat→Option Unit
  |0=>none
  |n37+1=>
    bif (decide (p1>p0)) then
     none
    else
     k36 ()
def Qcr (N:Nat) (p0 p1:Int) (k35:Unit→Option Unit):Nat→Option Unit
  |0=>none
  |n39+1=>
    bif (decide (p0<p1)) then
     (some (w64 ((IntKind.wrap .u64 (w64 (p0+p1)))/2))).bind fun _=>
     none
    else
     k35 ()
def Qcq (N:Nat) (p0 p1:Int) (k45:Unit→Option Unit):Nat→Option Unit
  |0=>none
  |n46+1=>
    bif (decide (p0<(w64 (p1-1)))) then
     none
    else
     k45 ()
def Qcp (N:Nat) (p1 p2:Int) (k44:Unit→Option Unit):Nat→Option Unit
  |0=>none
  |n48+1=>
    bif (decide (p1<p2)) then
     (some (w64 ((IntKind.wrap .u64 (w64 (p1+p2)))/2))).bind fun _=>
     none
    else
     k44 ()
def Qdl (N:Nat) (rec_:Int→Int→Int→Option Unit) (p0 p1 p2:Int):Option Unit:=
  Qcy (fun _=>
    Qcy (fun _=>
      (some (w64 ((IntKind.wrap .u64 (w64 (p0+p2)))/2))).bind fun x3=>
      Qcy (fun ⟨y5,y6⟩=>
        (some (w64 ((w64 (x3+p1))-1))).bind fun _=>
        Qcy (fun _=>
          (some (w64 ((w64 (x3+p1))-y5))).bind fun x11=>
          Qcy (fun _=>
            Qcy (fun _=>
              bif (decide (x3<x11)) then
               bif (decide (x11<p2)) then
                (rec_ x3 x11 p2).bind fun _=>
                some ()
               else
                some ()
              else
               some ()) fun k14:Unit→Option Unit=>
            bif (decide (p0<y5)) then
             bif (decide (y5<x3)) then
              (rec_ p0 y5 x3).bind fun _=>
              k14 ()
             else
              k14 ()
            else
             k14 ()) fun k13:Unit→Option Unit=>
          bif (decide (y5<p1)) then
           bif (decide (p1<x11)) then
            (Qed N y5 p1 x11).bind fun _=>
            k13 ()
           else
            k13 ()
          else
           k13 ()) fun k10:Unit→Option Unit=>
        Qct N y5 y6 k10 N) fun k7:Int×Int→Option Unit=>
      bif (decide (p1>x3)) then
       (some (w64 ((w64 (x3+p1))-p2))).bind fun x32=>
       k7 (x32,x3)
      else
       k7 (p0,p1)) fun k2:Unit→Option Unit=>
    bif ((w64 (p2-p1))==1) then
     Qcy (fun _=>
       Qcy (fun _=>
         some ()) fun k36:Unit→Option Unit=>
       Qcs N p0 p1 k36 N) fun k35:Unit→Option Unit=>
     Qcr N p0 p1 k35 N
    else
     k2 ()) fun k1:Unit→Option Unit=>
  bif ((w64 (p1-p0))==1) then
   Qcy (fun _=>
     Qcy (fun _=>
       some ()) fun k45:Unit→Option Unit=>
     Qcq N p0 p1 k45 N) fun k44:Unit→Option Unit=>
   Qcp N p1 p2 k44 N
  else
   k1 ()
def Qch:Nat→Int→Int→Int→Option Unit
  |0,_,_,_=>none
  |N+1,p0,p1,p2=>Qdl N (Qch N) p0 p1 p2
abbrev Qgk:AV:=.dat 3 (([]:List Qaa).map Qac)
abbrev Qh1:AV:=.fn (.func 57) [] [(.ref 0 1 (0) 0)]
abbrev Qex:Slot:=.own 1 [[(.fn (.func 39) [] [])]]
theorem Qe0:∀(N:Nat) (p0 p1 p2:Int) (r:Unit) (_:Qch N p0 p1 p2=some r),Spec prog 68 [Qgk,(I p0),(I p1),(I p2),Qh1] [Qex] (.tup []) [Qex]:=by
  intro N
  induction N with
  |zero=>intro p0 p1 p2 r h;exact nomatch (show(none:Option Unit)=some r from h)
  |succ N ihX=>
  intro p0 p1 p2 r h
  replace h:Qdl N (Qch N) p0 p1 p2=some r:=h
  refine sF func68 1 fun _ _ _ hq hd0=>?_
  unfold Qdl at h
  obtain⟨k1,hk_k1,h⟩:=jko h
  refine wjn (τ:=Unit) (fun t=>k1 t=some r) (fun _=>⟨mk 220 [(0,Qgk),(1,I p0),(2,I p1),(3,I p2),(4,Qh1)],[Qex]⟩) (fun t h=>?_) ?_
  ·subst hk_k1
   obtain⟨k2,hk_k2,h⟩:=jko h
   refine wjn (τ:=Unit) (fun t=>k2 t=some r) (fun _=>⟨mk 220 [(0,Qgk),(1,I p0),(2,I p1),(3,I p2),(4,Qh1)],[Qex]⟩) (fun t h=>?_) ?_
   ·subst hk_k2
    obtain⟨x3,hl4,h⟩:=bno h
    refine wx tbk [(3,rp [(.tmp 131,(I (w64 (p0+p2))))] (K .u64 (IntKind.wrap .u64 (w64 (p0+p2))))),(4,rp [(.tmp 132,(K .u64 (IntKind.wrap .u64 (w64 (p0+p2))))),(.const (.int .u64 1),(K .u64 (1)))] (K .u64 ((IntKind.wrap .u64 (w64 (p0+p2)))/2))),(5,rp [(.tmp 133,(K .u64 ((IntKind.wrap .u64 (w64 (p0+p2)))/2)))] (I (w64 ((IntKind.wrap .u64 (w64 (p0+p2)))/2)))),(6,rp [(.tmp 134,(I (w64 ((IntKind.wrap .u64 (w64 (p0+p2)))/2))))] (I x3))] ⟨acv rfl (by rw[underlying3];rfl) underlying127,Qi2 rfl (by decide) (by decide),acv rfl (by rw[underlying127];rfl) underlying3,Qfh hl4 (aas rfl),tv⟩<|wxz<|wxz ?_
    obtain⟨k7,hk_k7,h⟩:=jko h
    refine wjn (τ:=Int×Int) (fun t=>k7 t=some r) (fun ⟨y5,y6⟩=>⟨mk 220 [(0,Qgk),(1,I p0),(2,I p1),(3,I p2),(4,Qh1),(18,I x3),(19,(I (w64 (x3+p1)))),(20,I y5),(21,I y6)],[Qex]⟩) (fun t h=>?_) ?_
    ·subst hk_k7
     obtain⟨y5,y6⟩:=t
     obtain⟨x8,hl9,h⟩:=bno h
     refine wx tbk [(2,rp [(.tmp 148,(I (w64 ((w64 (x3+p1))-1))))] (I x8))] ⟨Qfh hl9 (aas rfl),tv⟩ ?_
     obtain⟨k10,hk_k10,h⟩:=jko h
     refine wjn (τ:=Unit) (fun t=>k10 t=some r) (fun _=>⟨mk 220 [(0,Qgk),(1,I p0),(2,I p1),(3,I p2),(4,Qh1),(18,I x3),(19,(I (w64 (x3+p1)))),(20,I y5)],[Qex]⟩) (fun t h=>?_) ?_
     ·subst hk_k10
      obtain⟨x11,hl12,h⟩:=bno h
      refine wx tbk [(3,rp [(.tmp 177,(I (w64 ((w64 (x3+p1))-y5))))] (I x11))] ⟨Qfh hl12 (aas rfl),tv⟩ ?_
      obtain⟨k13,hk_k13,h⟩:=jko h
      refine wjn (τ:=Unit) (fun t=>k13 t=some r) (fun _=>⟨mk 220 [(0,Qgk),(1,I p0),(3,I p2),(4,Qh1),(18,I x3),(20,I y5),(24,I x11)],[Qex]⟩) (fun t h=>?_) ?_
      ·subst hk_k13
       obtain⟨k14,hk_k14,h⟩:=jko h
       refine wjn (τ:=Unit) (fun t=>k14 t=some r) (fun _=>⟨mk 220 [(0,Qgk),(3,I p2),(4,Qh1),(18,I x3),(24,I x11)],[Qex]⟩) (fun t h=>?_) ?_
       ·subst hk_k14
        refine bfe h (fun hb15 h=>?_) fun hb15 h=>?_
        ·refine wx tbk [(3,rp [(.tmp 208,(B ((decide (x3<x11)))))] (B true))] ⟨asb hb15 (amv rfl),tv⟩ ?_
         refine bfe h (fun hc16 h=>?_) fun hc16 h=>?_
         ·refine wft hc16 ?_
          obtain⟨x18,hf17,h⟩:=bno h
          refine wx1 tbk [(5,⟨_,_,_,_,false⟩)] ⟨acq [Qgk,I x3,I x11,I p2,Qh1] [Qex] [Qex] (.tup []) [0] Qlk (ihX x3 x11 p2 _ hf17) (Qb1 (rnc (pld Qab) (rncc (rnc (.plain _ nll) (rnc (Qao rn0 (rnc (Qa4 rfl) rn0)) rn0))))) (slc (Qaj (rnc (.plain _ (NLt.fn _ _ _ nl0 nl0)) rn0)) Qak) (slc (Qaj (rnc (.plain _ (NLt.fn _ _ _ nl0 nl0)) rn0)) Qak) (.plain _ (NLt.tup _ nl0)),tv⟩ ?_
          obtain rfl:=osi h
          exact⟨_,(mto (n:=220) (l':=[]) (own':=[Qex]) [] [0] [Qex] hq pn (qb (lc (.rn (Qao rn0 rn0)) ln) qn)),fio [] tv⟩
         ·refine wfn hc16<|Qai ?_
          obtain rfl:=osi h
          exact⟨_,(mto (n:=220) (l':=[]) (own':=[Qex]) [] [0] [Qex] hq pn (qb (lc (.rn (Qao rn0 rn0)) ln) qn)),fio [] tv⟩
        ·refine wx tbk [(3,rp [(.tmp 208,(B ((decide (x3<x11)))))] (B false))] ⟨asb hb15 (amv rfl),tv⟩<|wfa<|Qai ?_
         obtain rfl:=osi h
         exact⟨_,(mto (n:=220) (l':=[]) (own':=[Qex]) [] [0] [Qex] hq pn (qb (lc (.rn (Qao rn0 rn0)) ln) qn)),fio [] tv⟩
       ·skip
        refine bfe h (fun hb19 h=>?_) fun hb19 h=>?_
        ·refine wx tbk [(3,rp [(.tmp 194,(B ((decide (p0<y5)))))] (B true))] ⟨asb hb19 (amv rfl),tv⟩ ?_
         refine bfe h (fun hc20 h=>?_) fun hc20 h=>?_
         ·refine wft hc20 ?_
          obtain⟨x22,hf21,h⟩:=bno h
          refine wx1 tbk [(5,⟨_,_,_,_,false⟩)] ⟨acq [Qgk,I p0,I y5,I x3,Qh1] [Qex] [Qex] (.tup []) [0] Qlk (ihX p0 y5 x3 _ hf21) (Qb1 (rnc (pld Qab) (rncc (rnc (.plain _ nll) (rnc (Qao rn0 (rnc (Qa4 rfl) rn0)) rn0))))) (slc (Qaj (rnc (.plain _ (NLt.fn _ _ _ nl0 nl0)) rn0)) Qak) (slc (Qaj (rnc (.plain _ (NLt.fn _ _ _ nl0 nl0)) rn0)) Qak) (.plain _ (NLt.tup _ nl0)),tv⟩<|thn ?_
          exact⟨(),h,(mto (n:=220) [(0,Qgk),(3,I p2),(4,Qh1),(18,I x3),(24,I x11)] [0] [Qex] hq (pc (rnd Qab) (pw (pc (.rn (Qao rn0 (rnc (rqr rfl) rn0))) (pw (pw pn))))) (qb (lc (.rn (Qao rn0 rn0)) ln) qn))⟩
         ·exact wfn hc20<|Qai<|thn<|⟨(),h,(mto (n:=220) [(0,Qgk),(3,I p2),(4,Qh1),(18,I x3),(24,I x11)] [0] [Qex] hq (pc (rnd Qab) (pw (pc (.rn (Qao rn0 (rnc (rqr rfl) rn0))) (pw (pw pn))))) (qb (lc (.rn (Qao rn0 rn0)) ln) qn))⟩
        ·exact wx tbk [(3,rp [(.tmp 194,(B ((decide (p0<y5)))))] (B false))] ⟨asb hb19 (amv rfl),tv⟩<|wfa<|Qai<|thn<|⟨(),h,(mto (n:=220) [(0,Qgk),(3,I p2),(4,Qh1),(18,I x3),(24,I x11)] [0] [Qex] hq (pc (rnd Qab) (pw (pc (.rn (Qao rn0 (rnc (rqr rfl) rn0))) (pw (pw pn))))) (qb (lc (.rn (Qao rn0 rn0)) ln) qn))⟩
      ·skip
       refine bfe h (fun hb23 h=>?_) fun hb23 h=>?_
       ·refine wx tbk [(3,rp [(.tmp 180,(B ((decide (y5<p1)))))] (B true))] ⟨asb hb23 (amv rfl),tv⟩ ?_
        refine bfe h (fun hc24 h=>?_) fun hc24 h=>?_
        ·refine wft hc24 ?_
         obtain⟨x26,hf25,h⟩:=bno h
         refine wx1 tbk [(5,⟨_,_,_,_,false⟩)] ⟨acq [Qgk,I y5,I p1,I x11,Qh1] [Qex] [Qex] (.tup []) [0] Qz0 (Qg7 N y5 p1 x11 _ hf25) (Qb1 (rnc (pld Qab) (rncc (rnc (.plain _ nll) (rnc (Qao rn0 (rnc (Qa4 rfl) rn0)) rn0))))) (slc (Qaj (rnc (.plain _ (NLt.fn _ _ _ nl0 nl0)) rn0)) Qak) (slc (Qaj (rnc (.plain _ (NLt.fn _ _ _ nl0 nl0)) rn0)) Qak) (.plain _ (NLt.tup _ nl0)),tv⟩<|thn ?_
         exact⟨(),h,(mto (n:=220) [(0,Qgk),(1,I p0),(3,I p2),(4,Qh1),(18,I x3),(20,I y5),(24,I x11)] [0] [Qex] hq (pc (rnd Qab) (pw (pw (pc (.rn (Qao rn0 (rnc (rqr rfl) rn0))) (pw (pw (pw pn))))))) (qb (lc (.rn (Qao rn0 rn0)) ln) qn))⟩
        ·exact wfn hc24<|Qai<|thn<|⟨(),h,(mto (n:=220) [(0,Qgk),(1,I p0),(3,I p2),(4,Qh1),(18,I x3),(20,I y5),(24,I x11)] [0] [Qex] hq (pc (rnd Qab) (pw (pw (pc (.rn (Qao rn0 (rnc (rqr rfl) rn0))) (pw (pw (pw pn))))))) (qb (lc (.rn (Qao rn0 rn0)) ln) qn))⟩
       ·exact wx tbk [(3,rp [(.tmp 180,(B ((decide (y5<p1)))))] (B false))] ⟨asb hb23 (amv rfl),tv⟩<|wfa<|Qai<|thn<|⟨(),h,(mto (n:=220) [(0,Qgk),(1,I p0),(3,I p2),(4,Qh1),(18,I x3),(20,I y5),(24,I x11)] [0] [Qex] hq (pc (rnd Qab) (pw (pw (pc (.rn (Qao rn0 (rnc (rqr rfl) rn0))) (pw (pw (pw pn))))))) (qb (lc (.rn (Qao rn0 rn0)) ln) qn))⟩
     ·skip
      refine Qaf<|wmr (mto (n:=220) (l':=[(0,Qgk),(1,I p0),(2,I p1),(3,I p2),(4,Qh1),(18,I x3),(19,(I (w64 (x3+p1)))),(20,I y5),(21,I y6),(22,I x8)]) (own':=[Qex]) [(0,Qgk),(1,I p0),(2,I p1),(3,I p2),(4,Qh1),(18,I x3),(19,(I (w64 (x3+p1)))),(20,I y5),(21,I y6),(22,I x8)] [0] [Qex] hq (pc (rnd Qab) (pw (pw (pw (pc (.rn (Qao rn0 (rnc (rqr rfl) rn0))) (pw (pw (pw (pw (pw pn)))))))))) (qb (lc (.rn (Qao rn0 rn0)) ln) qn)) ?_
      refine Qbx (τ:=Unit) (fun n t=>Qct N y5 y6 k10 n=some r) (fun _=>⟨mk 220 [(0,Qgk),(1,I p0),(2,I p1),(3,I p2),(4,Qh1),(18,I x3),(19,(I (w64 (x3+p1)))),(20,I y5),(21,I y6),(22,I x8)],[Qex]⟩) (fun t h=>by rw[Qct] at h;cases h) (fun n27 ih t h=>?_) N () h
      rw[Qct] at h
      skip
      refine wsq<|wxz ?_
      refine bfe h (fun hc28 h=>?_) fun hc28 h=>?_
      ·refine wft hc28<|Qai<|thn<|Qaf ?_
       obtain⟨x29,hl30,h⟩:=bno h
       refine wx tbk [(3,rp [(.tmp 154,(I (w64 (y5+y6))))] (K .u64 (IntKind.wrap .u64 (w64 (y5+y6))))),(4,rp [(.tmp 155,(K .u64 (IntKind.wrap .u64 (w64 (y5+y6))))),(.const (.int .u64 1),(K .u64 (1)))] (K .u64 ((IntKind.wrap .u64 (w64 (y5+y6)))/2))),(5,rp [(.tmp 156,(K .u64 ((IntKind.wrap .u64 (w64 (y5+y6)))/2)))] (I (w64 ((IntKind.wrap .u64 (w64 (y5+y6)))/2)))),(6,rp [(.tmp 157,(I (w64 ((IntKind.wrap .u64 (w64 (y5+y6)))/2))))] (I x29))] ⟨acv rfl (by rw[underlying3];rfl) underlying127,Qi2 rfl (by decide) (by decide),acv rfl (by rw[underlying127];rfl) underlying3,Qfh hl30 (aas rfl),tv⟩ ?_
       cases h
      ·exact wfn hc28<|Qa3<|Qan<|Qan<|Qa2 rfl<|thn<|⟨(),h,(mto (n:=220) [(0,Qgk),(1,I p0),(2,I p1),(3,I p2),(4,Qh1),(18,I x3),(19,(I (w64 (x3+p1)))),(20,I y5)] [0] [Qex] hq (pc (rnd Qab) (pw (pw (pw (pc (.rn (Qao rn0 (rnc (rqr rfl) rn0))) (pw (pw (pw pn)))))))) (qb (lc (.rn (Qao rn0 rn0)) ln) qn))⟩
    ·skip
     refine wxz ?_
     refine bfe h (fun hc31 h=>?_) fun hc31 h=>?_
     ·refine wft hc31 ?_
      obtain⟨x32,hl33,h⟩:=bno h
      exact wx tbk [(3,rp [(.tmp 143,(I (w64 ((w64 (x3+p1))-p2))))] (I x32))] ⟨Qfh hl33 (aas rfl),tv⟩<|wxz1<|thn<|⟨(x32,x3),h,(mto (n:=220) [(0,Qgk),(1,I p0),(2,I p1),(3,I p2),(4,Qh1),(18,I x3),(19,(I (w64 (x3+p1)))),(20,I x32),(21,I x3)] [0] [Qex] hq (pc (rnd Qab) (pw (pw (pw (pc (.rn (Qao rn0 (rnc (rqr rfl) rn0))) (pw (pw (pw (pw pn))))))))) (qb (lc (.rn (Qao rn0 rn0)) ln) qn))⟩
     ·exact wfn hc31<|wxz<|wxz1<|thn<|⟨(p0,p1),h,(mto (n:=220) [(0,Qgk),(1,I p0),(2,I p1),(3,I p2),(4,Qh1),(18,I x3),(19,(I (w64 (x3+p1)))),(20,I p0),(21,I p1)] [0] [Qex] hq (pc (rnd Qab) (pw (pw (pw (pc (.rn (Qao rn0 (rnc (rqr rfl) rn0))) (pw (pw (pw (pw pn))))))))) (qb (lc (.rn (Qao rn0 rn0)) ln) qn))⟩
   ·skip
    refine wxz ?_
    refine bfe h (fun hc34 h=>?_) fun hc34 h=>?_
    ·refine wft hc34<|wxz<|wxz ?_
     obtain⟨k35,hk_k35,h⟩:=jko h
     refine wjn (τ:=Unit) (fun t=>k35 t=some r) (fun _=>⟨mk 220 [(0,Qgk),(2,I p1),(14,I p0)],[Qex]⟩) (fun t h=>?_) ?_
     ·subst hk_k35
      obtain⟨k36,hk_k36,h⟩:=jko h
      refine wjn (τ:=Unit) (fun t=>k36 t=some r) (fun _=>⟨mk 220 [],[Qex]⟩) (fun t h=>?_) ?_
      ·subst hk_k36
       refine wmr (mto (n:=220) (l':=[]) (own':=[Qex]) [] [0] [Qex] hq pn (qb (lc (.rn (Qao rn0 rn0)) ln) qn))<|Qag<|Qae ?_
       obtain rfl:=osi h
       exact⟨_,Mor.rfl,fio [] tv⟩
      ·skip
       refine wxz<|Qaf ?_
       refine wmr (mto (n:=220) (l':=[(0,Qgk),(14,I p0),(17,I p1)]) (own':=[Qex]) [(0,Qgk),(14,I p0),(17,I p1)] [0] [Qex] hq (pc (rnd Qab) (pw (pw pn))) (qb (lc (.rn (Qao rn0 rn0)) ln) qn)) ?_
       refine Qbx (τ:=Unit) (fun n t=>Qcs N p0 p1 k36 n=some r) (fun _=>⟨mk 220 [(0,Qgk),(14,I p0),(17,I p1)],[Qex]⟩) (fun t h=>by rw[Qcs] at h;cases h) (fun n37 ih t h=>?_) N () h
       rw[Qcs] at h
       skip
       refine wsq<|wxz ?_
       refine bfe h (fun hc38 h=>?_) fun hc38 h=>?_
       ·refine wft hc38<|Qai<|thn<|wsq<|Qaf ?_
        cases h
       ·exact wfn hc38<|Qa3<|Qan<|Qan<|Qa2 rfl<|thn<|⟨(),h,(mto (n:=220) [] [0] [Qex] hq pn (qb (lc (.rn (Qao rn0 rn0)) ln) qn))⟩
     ·skip
      refine Qaf<|wmr (mto (n:=220) (l':=[(0,Qgk),(2,I p1),(4,Qh1),(14,I p0),(15,I p1)]) (own':=[Qex]) [(0,Qgk),(2,I p1),(4,Qh1),(14,I p0),(15,I p1)] [0] [Qex] hq (pc (rnd Qab) (pw (pc (.rn (Qao rn0 (rnc (rqr rfl) rn0))) (pw (pw pn))))) (qb (lc (.rn (Qao rn0 rn0)) ln) qn)) ?_
      refine Qbx (τ:=Unit) (fun n t=>Qcr N p0 p1 k35 n=some r) (fun _=>⟨mk 220 [(0,Qgk),(2,I p1),(4,Qh1),(14,I p0),(15,I p1)],[Qex]⟩) (fun t h=>by rw[Qcr] at h;cases h) (fun n39 ih t h=>?_) N () h
      rw[Qcr] at h
      skip
      refine wsq<|wxz ?_
      refine bfe h (fun hc40 h=>?_) fun hc40 h=>?_
      ·refine wft hc40<|Qai<|thn<|Qaf ?_
       obtain⟨x41,hl42,h⟩:=bno h
       refine wx tbk [(3,rp [(.tmp 88,(I (w64 (p0+p1))))] (K .u64 (IntKind.wrap .u64 (w64 (p0+p1))))),(4,rp [(.tmp 89,(K .u64 (IntKind.wrap .u64 (w64 (p0+p1))))),(.const (.int .u64 1),(K .u64 (1)))] (K .u64 ((IntKind.wrap .u64 (w64 (p0+p1)))/2))),(5,rp [(.tmp 90,(K .u64 ((IntKind.wrap .u64 (w64 (p0+p1)))/2)))] (I (w64 ((IntKind.wrap .u64 (w64 (p0+p1)))/2)))),(6,rp [(.tmp 91,(I (w64 ((IntKind.wrap .u64 (w64 (p0+p1)))/2))))] (I x41))] ⟨acv rfl (by rw[underlying3];rfl) underlying127,Qi2 rfl (by decide) (by decide),acv rfl (by rw[underlying127];rfl) underlying3,Qfh hl42 (aas rfl),tv⟩ ?_
       cases h
      ·exact wfn hc40<|Qa3<|Qan<|Qan<|Qa2 rfl<|thn<|⟨(),h,(mto (n:=220) [(0,Qgk),(2,I p1),(14,I p0)] [0] [Qex] hq (pc (rnd Qab) (pw (pw pn))) (qb (lc (.rn (Qao rn0 rn0)) ln) qn))⟩
    ·exact wfn hc34<|Qai<|thn<|⟨(),h,(mto (n:=220) [(0,Qgk),(1,I p0),(2,I p1),(3,I p2),(4,Qh1)] [0] [Qex] hq (pc (rnd Qab) (pw (pw (pw (pc (.rn (Qao rn0 (rnc (rqr rfl) rn0))) pn))))) (qb (lc (.rn (Qao rn0 rn0)) ln) qn))⟩
  ·skip
   refine wxz ?_
   refine bfe h (fun hc43 h=>?_) fun hc43 h=>?_
   ·refine wft hc43<|wxz<|wxz ?_
    obtain⟨k44,hk_k44,h⟩:=jko h
    refine wjn (τ:=Unit) (fun t=>k44 t=some r) (fun _=>⟨mk 220 [(0,Qgk),(1,I p0),(10,I p1)],[Qex]⟩) (fun t h=>?_) ?_
    ·subst hk_k44
     obtain⟨k45,hk_k45,h⟩:=jko h
     refine wjn (τ:=Unit) (fun t=>k45 t=some r) (fun _=>⟨mk 220 [],[Qex]⟩) (fun t h=>?_) ?_
     ·subst hk_k45
      refine wmr (mto (n:=220) (l':=[]) (own':=[Qex]) [] [0] [Qex] hq pn (qb (lc (.rn (Qao rn0 rn0)) ln) qn))<|Qag<|Qae ?_
      obtain rfl:=osi h
      exact⟨_,Mor.rfl,fio [] tv⟩
     ·skip
      refine wxz<|Qaf ?_
      refine wmr (mto (n:=220) (l':=[(0,Qgk),(10,I p1),(13,I p0)]) (own':=[Qex]) [(0,Qgk),(10,I p1),(13,I p0)] [0] [Qex] hq (pc (rnd Qab) (pw (pw pn))) (qb (lc (.rn (Qao rn0 rn0)) ln) qn)) ?_
      refine Qbx (τ:=Unit) (fun n t=>Qcq N p0 p1 k45 n=some r) (fun _=>⟨mk 220 [(0,Qgk),(10,I p1),(13,I p0)],[Qex]⟩) (fun t h=>by rw[Qcq] at h;cases h) (fun n46 ih t h=>?_) N () h
      rw[Qcq] at h
      skip
      refine wsq<|wxz ?_
      refine bfe h (fun hc47 h=>?_) fun hc47 h=>?_
      ·refine wft hc47<|Qai<|thn<|wsq<|Qaf ?_
       cases h
      ·exact wfn hc47<|Qa3<|Qan<|Qan<|Qa2 rfl<|thn<|⟨(),h,(mto (n:=220) [] [0] [Qex] hq pn (qb (lc (.rn (Qao rn0 rn0)) ln) qn))⟩
    ·skip
     refine Qaf<|wmr (mto (n:=220) (l':=[(0,Qgk),(1,I p0),(4,Qh1),(10,I p1),(11,I p2)]) (own':=[Qex]) [(0,Qgk),(1,I p0),(4,Qh1),(10,I p1),(11,I p2)] [0] [Qex] hq (pc (rnd Qab) (pw (pc (.rn (Qao rn0 (rnc (rqr rfl) rn0))) (pw (pw pn))))) (qb (lc (.rn (Qao rn0 rn0)) ln) qn)) ?_
     refine Qbx (τ:=Unit) (fun n t=>Qcp N p1 p2 k44 n=some r) (fun _=>⟨mk 220 [(0,Qgk),(1,I p0),(4,Qh1),(10,I p1),(11,I p2)],[Qex]⟩) (fun t h=>by rw[Qcp] at h;cases h) (fun n48 ih t h=>?_) N () h
     rw[Qcp] at h
     skip
     refine wsq<|wxz ?_
     refine bfe h (fun hc49 h=>?_) fun hc49 h=>?_
     ·refine wft hc49<|Qai<|thn<|Qaf ?_
      obtain⟨x50,hl51,h⟩:=bno h
      refine wx tbk [(3,rp [(.tmp 36,(I (w64 (p1+p2))))] (K .u64 (IntKind.wrap .u64 (w64 (p1+p2))))),(4,rp [(.tmp 37,(K .u64 (IntKind.wrap .u64 (w64 (p1+p2))))),(.const (.int .u64 1),(K .u64 (1)))] (K .u64 ((IntKind.wrap .u64 (w64 (p1+p2)))/2))),(5,rp [(.tmp 38,(K .u64 ((IntKind.wrap .u64 (w64 (p1+p2)))/2)))] (I (w64 ((IntKind.wrap .u64 (w64 (p1+p2)))/2)))),(6,rp [(.tmp 39,(I (w64 ((IntKind.wrap .u64 (w64 (p1+p2)))/2))))] (I x50))] ⟨acv rfl (by rw[underlying3];rfl) underlying127,Qi2 rfl (by decide) (by decide),acv rfl (by rw[underlying127];rfl) underlying3,Qfh hl51 (aas rfl),tv⟩ ?_
      cases h
     ·exact wfn hc49<|Qa3<|Qan<|Qan<|Qa2 rfl<|thn<|⟨(),h,(mto (n:=220) [(0,Qgk),(1,I p0),(10,I p1)] [0] [Qex] hq (pc (rnd Qab) (pw (pw pn))) (qb (lc (.rn (Qao rn0 rn0)) ln) qn))⟩
   ·exact wfn hc43<|Qai<|thn<|⟨(),h,(mto (n:=220) [(0,Qgk),(1,I p0),(2,I p1),(3,I p2),(4,Qh1)] [0] [Qex] hq (pc (rnd Qab) (pw (pw (pw (pc (.rn (Qao rn0 (rnc (rqr rfl) rn0))) pn))))) (qb (lc (.rn (Qao rn0 rn0)) ln) qn))⟩
def Qb7 (N:Nat) (p0 y5:Int) (k10:Int→Option Unit):Nat→Int→Int→Option Unit
  |0,_,_=>none
  |n18+1,y14,y15=>
    bif (decide (y15≤p0)) then
     (Qch N y14 (w64 (y14+y5)) y15).bind fun _=>
     (some (w64 (y15+(w64 (2*y5))))).bind fun x22=>
     Qb7 N p0 y5 k10 n18 y15 x22
    else
     k10 (y14)
def Qbi (N:Nat) (p0:Int):Nat→Int→Option Unit
  |0,_=>none
  |n7+1,y5=>
    bif (decide (y5<p0)) then
     Qcy (fun y9=>
       bif (decide ((w64 (y9+y5))<p0)) then
        (Qch N y9 (w64 (y9+y5)) p0).bind fun _=>
        Qbi N p0 n7 (w64 (y5*2))
       else
        Qbi N p0 n7 (w64 (y5*2))) fun k10:Int→Option Unit=>
     Qb7 N p0 y5 k10 N 0 (w64 (2*y5))
    else
     some ()
def Qbr (N:Nat) (p0:Int) (k2:Int→Option Unit):Nat→Int→Int→Option Unit
  |0,_,_=>none
  |n28+1,y24,y25=>
    bif (decide (y25≤p0)) then
     (Qbq N y24 y25).bind fun _=>
     Qbr N p0 k2 n28 y25 (w64 (y25+20))
    else
     k2 (y24)
def Qcx (N:Nat) (p0:Int):Option Unit:=
  Qcy (fun y1=>
    (Qbq N y1 p0).bind fun _=>
    Qbi N p0 N 20) fun k2:Int→Option Unit=>
  Qbr N p0 k2 N 0 20
abbrev Qjq:AV:=.dat 3 (([]:List Qaa).map Qac)
abbrev Qjp:AV:=.fn (.func 57) [] [(.ref 0 1 (0) 0)]
abbrev Qh4:Slot:=.own 1 [[(.fn (.func 39) [] [])]]
theorem Qg5 (N:Nat) (p0:Int) (r:Unit) (h:Qcx N p0=some r):Spec prog 65 [Qjq,(I p0),Qjp] [Qh4] (.tup []) [Qh4]:=by
  refine sF func65 1 fun _ _ _ hq hd0=>?_
  unfold Qcx at h
  refine wxz<|wxz ?_
  obtain⟨k2,hk_k2,h⟩:=jko h
  refine wjn (τ:=Int) (fun t=>k2 t=some r) (fun y1=>⟨mk 63 [(0,Qjq),(1,I p0),(2,Qjp),(6,I 20),(7,I y1)],[Qh4]⟩) (fun y1 h=>?_) ?_
  ·subst hk_k2
   obtain⟨x4,hf3,h⟩:=bno h
   refine wx tbk [(4,⟨_,_,_,_,false⟩)] ⟨acq [Qjq,I y1,I p0,Qjp] [Qh4] [Qh4] (.tup []) [0] Qra (Qef N y1 p0 _ hf3) (Qb1 (rnc (pld Qab) (rncc (rnc (Qao rn0 (rnc (Qa4 rfl) rn0)) rn0)))) (slc (Qaj (rnc (.plain _ (NLt.fn _ _ _ nl0 nl0)) rn0)) Qak) (slc (Qaj (rnc (.plain _ (NLt.fn _ _ _ nl0 nl0)) rn0)) Qak) (.plain _ (NLt.tup _ nl0)),tv⟩<|Qaf ?_
   refine wmr (mto (n:=63) (l':=[(0,Qjq),(1,I p0),(2,Qjp),(6,I 20)]) (own':=[Qh4]) [(0,Qjq),(1,I p0),(2,Qjp),(6,I 20)] [0] [Qh4] hq (pc (rnd Qab) (pw (pc (.rn (Qao rn0 (rnc (rqr rfl) rn0))) (pw pn)))) (qb (lc (.rn (Qao rn0 rn0)) ln) qn)) ?_
   refine Qbx (τ:=Int) (fun n t=>Qbi N p0 n t=some r) (fun y5=>⟨mk 63 [(0,Qjq),(1,I p0),(2,Qjp),(6,I y5)],[Qh4]⟩) (fun t h=>by rw[Qbi] at h;cases h) (fun n7 ih y5 h=>?_) N (20) h
   rw[Qbi] at h
   skip
   refine wsq<|wxz ?_
   refine bfe h (fun hc8 h=>?_) fun hc8 h=>?_
   ·refine wft hc8<|Qai<|thn<|Qaf<|wxz ?_
    obtain⟨k10,hk_k10,h⟩:=jko h
    refine wjn (τ:=Int) (fun t=>k10 t=some r) (fun y9=>⟨mk 63 [(0,Qjq),(1,I p0),(2,Qjp),(6,I y5),(7,I y9)],[Qh4]⟩) (fun y9 h=>?_) ?_
    ·subst hk_k10
     refine wsq<|wxz<|wxz ?_
     refine bfe h (fun hc11 h=>?_) fun hc11 h=>?_
     ·refine wft hc11 ?_
      obtain⟨x13,hf12,h⟩:=bno h
      refine wx1 tbk [(5,⟨_,_,_,_,false⟩)] ⟨acq [Qjq,I y9,(I (w64 (y9+y5))),I p0,Qjp] [Qh4] [Qh4] (.tup []) [0] Qlk (Qe0 N y9 (w64 (y9+y5)) p0 _ hf12) (Qb1 (rnc (pld Qab) (rncc (rnc (.plain _ nll) (rnc (Qao rn0 (rnc (Qa4 rfl) rn0)) rn0))))) (slc (Qaj (rnc (.plain _ (NLt.fn _ _ _ nl0 nl0)) rn0)) Qak) (slc (Qaj (rnc (.plain _ (NLt.fn _ _ _ nl0 nl0)) rn0)) Qak) (.plain _ (NLt.tup _ nl0)),tv⟩<|thn<|wxz1<|bln<|thn ?_
      exact arm (mto (n:=63) [(0,Qjq),(1,I p0),(2,Qjp),(6,(I (w64 (y5*2))))] [0] [Qh4] hq (pc (rnd Qab) (pw (pc (.rn (Qao rn0 (rnc (rqr rfl) rn0))) (pw pn)))) (qb (lc (.rn (Qao rn0 rn0)) ln) qn)) (ih (w64 (y5*2)) h)
     ·exact wfn hc11<|Qai<|thn<|wxz1<|bln<|thn<|arm (mto (n:=63) [(0,Qjq),(1,I p0),(2,Qjp),(6,(I (w64 (y5*2))))] [0] [Qh4] hq (pc (rnd Qab) (pw (pc (.rn (Qao rn0 (rnc (rqr rfl) rn0))) (pw pn)))) (qb (lc (.rn (Qao rn0 rn0)) ln) qn)) (ih (w64 (y5*2)) h)
    ·skip
     refine Qaf<|wmr (mto (n:=63) (l':=[(0,Qjq),(1,I p0),(2,Qjp),(6,I y5),(7,I 0),(8,(I ((w64 (2*y5)))))]) (own':=[Qh4]) [(0,Qjq),(1,I p0),(2,Qjp),(6,I y5),(7,I 0),(8,(I (w64 (2*y5))))] [0] [Qh4] hq (pc (rnd Qab) (pw (pc (.rn (Qao rn0 (rnc (rqr rfl) rn0))) (pw (pw (pw pn)))))) (qb (lc (.rn (Qao rn0 rn0)) ln) qn)) ?_
     refine Qbx (τ:=Int×Int) (fun n t=>Qb7 N p0 y5 k10 n t.1 t.2=some r) (fun ⟨y14,y15⟩=>⟨mk 63 [(0,Qjq),(1,I p0),(2,Qjp),(6,I y5),(7,I y14),(8,I y15)],[Qh4]⟩) (fun t h=>by rw[Qb7] at h;cases h) (fun n18 ih t h=>?_) N (0,w64 (2*y5)) h
     obtain⟨y14,y15⟩:=t
     rw[Qb7] at h
     skip
     refine wsq<|wxz ?_
     refine bfe h (fun hc19 h=>?_) fun hc19 h=>?_
     ·refine wft hc19<|Qai<|thn<|Qaf ?_
      obtain⟨x21,hf20,h⟩:=bno h
      refine wx tbk [(7,⟨_,_,_,_,false⟩)] ⟨acq [Qjq,I y14,(I (w64 (y14+y5))),I y15,Qjp] [Qh4] [Qh4] (.tup []) [0] Qlk (Qe0 N y14 (w64 (y14+y5)) y15 _ hf20) (Qb1 (rnc (pld Qab) (rncc (rnc (.plain _ nll) (rnc (Qao rn0 (rnc (Qa4 rfl) rn0)) rn0))))) (slc (Qaj (rnc (.plain _ (NLt.fn _ _ _ nl0 nl0)) rn0)) Qak) (slc (Qaj (rnc (.plain _ (NLt.fn _ _ _ nl0 nl0)) rn0)) Qak) (.plain _ (NLt.tup _ nl0)),tv⟩<|wxz ?_
      obtain⟨x22,hl23,h⟩:=bno h
      exact wx1 tbk [(4,rp [(.tmp 48,(I (w64 (y15+(w64 (2*y5))))))] (I x22))] ⟨Qfh hl23 (aas rfl),tv⟩<|bln<|thn<|arm (mto (n:=63) [(0,Qjq),(1,I p0),(2,Qjp),(6,I y5),(7,I y15),(8,I x22)] [0] [Qh4] hq (pc (rnd Qab) (pw (pc (.rn (Qao rn0 (rnc (rqr rfl) rn0))) (pw (pw (pw pn)))))) (qb (lc (.rn (Qao rn0 rn0)) ln) qn)) (ih (y15,x22) h)
     ·exact wfn hc19<|Qa3<|Qan<|Qan<|Qa2 rfl<|thn<|⟨(y14),h,(mto (n:=63) [(0,Qjq),(1,I p0),(2,Qjp),(6,I y5),(7,I y14)] [0] [Qh4] hq (pc (rnd Qab) (pw (pc (.rn (Qao rn0 (rnc (rqr rfl) rn0))) (pw (pw pn))))) (qb (lc (.rn (Qao rn0 rn0)) ln) qn))⟩
   ·refine wfn hc8<|Qa3<|Qan<|Qan<|Qa2 rfl ?_
    obtain rfl:=osi h
    exact⟨_,(mto (n:=63) (l':=[]) (own':=[Qh4]) [] [0] [Qh4] hq pn (qb (lc (.rn (Qao rn0 rn0)) ln) qn)),fio [] tv⟩
  ·skip
   refine Qaf<|wmr (mto (n:=63) (l':=[(0,Qjq),(1,I p0),(2,Qjp),(6,I 20),(7,I 0),(8,I 20)]) (own':=[Qh4]) [(0,Qjq),(1,I p0),(2,Qjp),(6,I 20),(7,I 0),(8,I 20)] [0] [Qh4] hq (pc (rnd Qab) (pw (pc (.rn (Qao rn0 (rnc (rqr rfl) rn0))) (pw (pw (pw pn)))))) (qb (lc (.rn (Qao rn0 rn0)) ln) qn)) ?_
   refine Qbx (τ:=Int×Int) (fun n t=>Qbr N p0 k2 n t.1 t.2=some r) (fun ⟨y24,y25⟩=>⟨mk 63 [(0,Qjq),(1,I p0),(2,Qjp),(6,I 20),(7,I y24),(8,I y25)],[Qh4]⟩) (fun t h=>by rw[Qbr] at h;cases h) (fun n28 ih t h=>?_) N (0,20) h
   obtain⟨y24,y25⟩:=t
   rw[Qbr] at h
   skip
   refine wsq<|wxz ?_
   refine bfe h (fun hc29 h=>?_) fun hc29 h=>?_
   ·refine wft hc29<|Qai<|thn<|Qaf ?_
    obtain⟨x31,hf30,h⟩:=bno h
    refine wx tbk [(4,⟨_,_,_,_,false⟩)] ⟨acq [Qjq,I y24,I y25,Qjp] [Qh4] [Qh4] (.tup []) [0] Qra (Qef N y24 y25 _ hf30) (Qb1 (rnc (pld Qab) (rncc (rnc (Qao rn0 (rnc (Qa4 rfl) rn0)) rn0)))) (slc (Qaj (rnc (.plain _ (NLt.fn _ _ _ nl0 nl0)) rn0)) Qak) (slc (Qaj (rnc (.plain _ (NLt.fn _ _ _ nl0 nl0)) rn0)) Qak) (.plain _ (NLt.tup _ nl0)),tv⟩<|wxz<|wxz1<|bln<|thn ?_
    exact arm (mto (n:=63) [(0,Qjq),(1,I p0),(2,Qjp),(6,I 20),(7,I y25),(8,(I (w64 (y25+20))))] [0] [Qh4] hq (pc (rnd Qab) (pw (pc (.rn (Qao rn0 (rnc (rqr rfl) rn0))) (pw (pw (pw pn)))))) (qb (lc (.rn (Qao rn0 rn0)) ln) qn)) (ih (y25,w64 (y25+20)) h)
   ·exact wfn hc29<|Qa3<|Qan<|Qan<|Qa2 rfl<|thn<|⟨(y24),h,(mto (n:=63) [(0,Qjq),(1,I p0),(2,Qjp),(6,I 20),(7,I y24)] [0] [Qh4] hq (pc (rnd Qab) (pw (pc (.rn (Qao rn0 (rnc (rqr rfl) rn0))) (pw (pw pn))))) (qb (lc (.rn (Qao rn0 rn0)) ln) qn))⟩
def Qb5 (N:Nat):Option Unit:=
  (Qcx N 0).bind fun _=>
  some ()
abbrev Q4p:AV:=.dat 3 (([]:List Qaa).map Qac)
abbrev Q7z:AV:=.fn (.func 57) [] [(.ref 0 1 (0) 0)]
abbrev Qvx:Slot:=.own 1 [[(.fn (.func 39) [] [])]]
theorem Qfe (N:Nat) (r:Unit) (h:Qb5 N=some r):Spec prog 56 [Q4p,Q7z] [Qvx] (.tup []) [Qvx]:=by
  refine sF func56 1 fun _ _ _ hq hd0=>?_
  unfold Qb5 at h
  obtain⟨x2,hf1,h⟩:=bno h
  refine wx1 tbk [(2,rp [(.tmp 5,Q4p)] (I 0)),(4,⟨_,_,_,_,false⟩)] ⟨aln rfl underlying87 rfl,acq [Q4p,I 0,Q7z] [Qvx] [Qvx] (.tup []) [0] Qz1 (Qg5 N 0 _ hf1) (Qb1 (rnc (pld Qab) (rnc (.plain _ nll) (rnc (Qao rn0 (rnc (Qa4 rfl) rn0)) rn0)))) (slc (Qaj (rnc (.plain _ (NLt.fn _ _ _ nl0 nl0)) rn0)) Qak) (slc (Qaj (rnc (.plain _ (NLt.fn _ _ _ nl0 nl0)) rn0)) Qak) (.plain _ (NLt.tup _ nl0)),tv⟩ ?_
  obtain rfl:=osi h
  exact⟨_,(mto (n:=9) (l':=[]) (own':=[Qvx]) [] [0] [Qvx] hq pn (qb (lc (.rn (Qao rn0 rn0)) ln) qn)),fio [] tv⟩
def Qcm (N:Nat):Option (List Qaa):=
  (Qb5 N).bind fun _=>
  some ([])
abbrev Q4q:AV:=.dat 3 (([]:List Qaa).map Qac)
def Q70:AV:=.fn (.func 57) [] [(.ref 0 1 (0) 0)]
def Q71:Slot:=.own 1 [[(.fn (.func 39) [] [])]]
theorem Qgc (N:Nat) (r:List Qaa) (h:Qcm N=some r):Spec prog 38 [Q4q,(.fn (.func 39) [] [])] [] (.dat 3 (r.map Qac)) []:=by
  refine sA func38 0 fun _ _ _ hq hd0=>?_
  unfold Qcm at h
  refine wxz ?_
  obtain⟨x2,hf1,h⟩:=bno h
  refine wx tbk [(1,rp [(.tmp 3,.ref 0 1 0 0)] Q70),(2,⟨_,_,_,_,false⟩)] ⟨Qfm (fs:=[]) (cs:=[.ref 0 1 0 0]) rfl rfl rfl rfl,acq [Q4q,Q70] [Q71] [Q71] (.tup []) [0] Qz3 (Qfe N _ hf1) (Qb1 (rnc (pld Qab) (rnc (Qao rn0 (rnc (Qa4 rfl) rn0)) rn0))) (slc (Qaj (rnc (.plain _ (NLt.fn _ _ _ nl0 nl0)) rn0)) Qak) (slc (Qaj (rnc (.plain _ (NLt.fn _ _ _ nl0 nl0)) rn0)) Qak) (.plain _ (NLt.tup _ nl0)),tv⟩<|wxz<|Qag ?_
  obtain rfl:=osi h
  exact fie [Q4q] ⟨rot,tv⟩
def Qel (_N:Nat) (p0:Qaa) (p1:Int) (p2:Nat) (p3:Int) (p4:List Int):Option (Int×Int×(List Int)):=
  (some (if p0.Stair.Amount<p1 then p0.Stair.Amount else p1)).bind fun x4=>
  bif (decide (x4>0)) then
   chk (decide (0≤p0.inlet)&&decide (p0.inlet.toNat<p2))<|
   (p4[p0.inlet.toNat]?).bind fun x8=>
   chk (decide (0≤p0.inlet)&&decide (p0.inlet.toNat<p2))<|
   (p4[p0.inlet.toNat]?).bind fun _=>
   some (w64 (p1-x4),p0.Stair.Price,p4.set p0.inlet.toNat (w64 (x8+x4)))
  else
   some (p1,p3,p4)
abbrev Qvw (p2:Nat):Slot:=.own 1 [[(.own 3 1 (0) p2)]]
theorem Qgf (N:Nat) (p0:Qaa) (p1:Int) (p2:Nat) (p3:Int) (p4:List Int) (r:(Int×Int×(List Int))) (h:Qel N p0 p1 p2 p3 p4=some r):Spec prog 37 [(.agg [(I p0.Stair.Amount),(I p0.Stair.Price),(I p0.inlet)]),(.ref 0 1 (0) 0),(.ref 1 1 (0) 0),(.ref 2 1 (0) 0)] [(.own 1 [[(I p1)]]),(Qvw p2),(.own 1 [[(I p3)]]),(.own 1 (p4.map Qah))] (.tup []) [(.own 1 [[(I r.1)]]),(Qvw p2),(.own 1 [[(I r.2.1)]]),(.own 1 (r.2.2.map Qah))]:=by
  refine sF func37 4 fun _ _ _ hq hd0=>?_
  unfold Qel at h
  refine wxz ?_
  obtain⟨x4,hl5,h⟩:=bno h
  refine wx tbk [(4,rp [(.tmp 6,I p1),(.tmp 9,I p0.Stair.Amount)] (I ((if p0.Stair.Amount<p1 then p0.Stair.Amount else p1)))),(5,rp [(.tmp 10,(I ((if p0.Stair.Amount<p1 then p0.Stair.Amount else p1))))] (I x4))] ⟨Qke rfl,Qfh hl5 (aas rfl),tv⟩<|wxz ?_
  refine bfe h (fun hc6 h=>?_) fun hc6 h=>?_
  ·refine wft hc6 ?_
   obtain⟨hi7,h⟩:=cko h
   obtain⟨hi7a,hi7b⟩:=Qbp hi7
   obtain⟨x8,hg9,h⟩:=bno h
   obtain⟨hi10,h⟩:=cko h
   obtain⟨hi10a,hi10b⟩:=Qbp hi10
   obtain⟨x11,hg12,h⟩:=bno h
   refine wx tbk [(3,rb [(.tmp 13,(.own 3 1 (0) p2)),(.tmp 15,I p0.inlet)] [(3,(.own 1 (p4.map Qah)))] (.ref 3 1 p0.inlet.toNat 0)),(4,rb [(.tmp 16,(.ref 3 1 p0.inlet.toNat 0))] [(3,(.own 1 (p4.map Qah)))] (I x8)),(7,rb [(.tmp 13,(.own 3 1 (0) p2)),(.tmp 15,I p0.inlet)] [(3,(.own 1 (p4.map Qah)))] (.ref 3 1 p0.inlet.toNat 0)),(8,⟨[(.tmp 20,(.ref 3 1 p0.inlet.toNat 0)),(.tmp 19,(I (w64 (x8+x4))))],[(3,(.own 1 (p4.map Qah)))],.any,[(3,(.own 1 ((p4.set p0.inlet.toNat (w64 (x8+x4)):List Int).map Qah)))],false⟩)] ⟨aio rfl underlying26 ti3 (odt hi7a) (odt hi7b) (Nat.zero_add _),ald rfl ti3 (by decide) (mgt Qah hg9) (nle rfl) rfl,aio rfl underlying26 ti3 (odt hi10a) (odt hi10b) (Nat.zero_add _),ast rfl ti3 (by rfl) (mgt Qah hg12) (nle rfl) (Qhf Qah rfl),tv⟩<|wxz<|wxz1 ?_
   obtain rfl:=osi h
   exact⟨_,(mto (n:=27) (l':=[]) (own':=[(.own 1 [[(I ((w64 (p1-x4))))]]),(Qvw p2),(.own 1 [[I p0.Stair.Price]]),(.own 1 (((p4.set p0.inlet.toNat (w64 (x8+x4))):List Int).map Qah))]) [] [0,1,2,3] [(.own 1 [[(I (w64 (p1-x4)))]]),(Qvw p2),(.own 1 [[I p0.Stair.Price]]),(.own 1 ((p4.set p0.inlet.toNat (w64 (x8+x4)):List Int).map Qah))] hq pn (qb (lc rwl ln) (qb (lc (.rn (Qbj rfl)) ln) (qb (lc rwl ln) (qc (spr Qal) qn))))),fio [] tv⟩
  ·refine wfn hc6<|Qai ?_
   obtain rfl:=osi h
   exact⟨_,(mto (n:=27) (l':=[]) (own':=[(.own 1 [[I p1]]),(Qvw p2),(.own 1 [[I p3]]),(.own 1 (p4.map Qah))]) [] [0,1,2,3] [(.own 1 [[I p1]]),(Qvw p2),(.own 1 [[I p3]]),(.own 1 (p4.map Qah))] hq pn (qb (lc rwl ln) (qb (lc (.rn (Qbj rfl)) ln) (qb (lc rwl ln) (qc (spr Qal) qn))))),fio [] tv⟩
def Qhc (_N:Nat) (p0:Qaa):Option Int:=
  some p0.Stair.Price
theorem Qjx (N:Nat) (p0:Qaa) (r:Int) (h:Qhc N p0=some r):Spec prog 39 [(.agg (Qac p0))] [] (I r) []:=by
  refine sA func39 0 fun _ _ _ hq hd0=>?_
  unfold Qhc at h
  refine wxz<|wxz<|Qag ?_
  obtain rfl:=osi h
  exact fend ⟨[I p0.Stair.Price],⟨rot,tv⟩,rfl⟩ nll
def Qb3 (N:Nat) (p0 p1:Qaa):Option Int:=
  (Qhc N (⟨(⟨p0.Stair.Amount,p0.Stair.Price⟩:Qap),p0.inlet⟩:Qaa)).bind fun x3=>
  (Qhc N (⟨(⟨p1.Stair.Amount,p1.Stair.Price⟩:Qap),p1.inlet⟩:Qaa)).bind fun x5=>
  some (w64 (x3-x5))
abbrev Q9i (p0:Qaa):AV:=.agg [(I p0.Stair.Amount),(I p0.Stair.Price),(I p0.inlet)]
abbrev Q9h (p1:Qaa):AV:=.agg [(I p1.Stair.Amount),(I p1.Stair.Price),(I p1.inlet)]
abbrev Q1t:Slot:=.own 1 [[(.fn (.func 39) [] [])]]
theorem Qdu (N:Nat) (p0 p1:Qaa) (r:Int) (h:Qb3 N p0 p1=some r):Spec prog 57 [(Q9i p0),(Q9h p1),(.ref 0 1 (0) 0)] [Q1t] (I r) [Q1t]:=by
  refine sF func57 1 fun _ _ _ hq hd0=>?_
  unfold Qb3 at h
  refine wxz ?_
  obtain⟨x3,hf2,h⟩:=bno h
  obtain⟨x5,hf4,h⟩:=bno h
  refine wxd tbk [(2,rp _ _),(5,rp _ _)] ⟨apw Q0a (Qjx N (⟨(⟨p0.Stair.Amount,p0.Stair.Price⟩:Qap),p0.inlet⟩:Qaa) _ hf2),apw Q0a (Qjx N (⟨(⟨p1.Stair.Amount,p1.Stair.Price⟩:Qap),p1.inlet⟩:Qaa) _ hf4),tv⟩ ?_
  refine wmr (mto (n:=13) (l':=[(5,(I ((w64 (x3-x5)))))]) (own':=[Q1t]) [(5,(I (w64 (x3-x5))))] [0] [Q1t] hq (pw pn) (qb (lc (.rn (Qao rn0 rn0)) ln) qn))<|Qag ?_
  obtain rfl:=osi h
  exact⟨_,Mor.rfl,fio [(I (w64 (x3-x5)))] ⟨rot,tv⟩⟩
def Qa0 (N p0:Nat) (p1:Int) (k9:(List Qaa)→Option (List Qaa)):Nat→Int→(List Qaa)→Option (List Qaa)
  |0,_,_=>none
  |n14+1,y10,y11=>
    Qcy (fun _=>
      chk (decide (0≤w64 (y10-1))&&decide ((w64 (y10-1)).toNat<p0))<|
      (y11[(w64 (y10-1)).toNat]?).bind fun x17=>
      chk (decide (0≤y10)&&decide (y10.toNat<p0))<|
      (y11[y10.toNat]?).bind fun x20=>
      chk (decide (0≤y10)&&decide (y10.toNat<p0))<|
      (y11[y10.toNat]?).bind fun _=>
      chk (decide (0≤w64 (y10-1))&&decide ((w64 (y10-1)).toNat<p0))<|
      ((y11.set y10.toNat (⟨(⟨x17.Stair.Amount,x17.Stair.Price⟩:Qap),x17.inlet⟩:Qaa))[(w64 (y10-1)).toNat]?).bind fun _=>
      Qa0 N p0 p1 k9 n14 (w64 (y10-1)) ((y11.set y10.toNat (⟨(⟨x17.Stair.Amount,x17.Stair.Price⟩:Qap),x17.inlet⟩:Qaa)).set ((w64 (y10-1)).toNat) (⟨(⟨x20.Stair.Amount,x20.Stair.Price⟩:Qap),x20.inlet⟩:Qaa))) fun k15:Unit→Option (List Qaa)=>
    bif (decide (y10>p1)) then
     chk (decide (0≤y10)&&decide (y10.toNat<p0))<|
     (y11[y10.toNat]?).bind fun x30=>
     chk (decide (0≤w64 (y10-1))&&decide ((w64 (y10-1)).toNat<p0))<|
     (y11[(w64 (y10-1)).toNat]?).bind fun x33=>
     (Qb3 N (⟨(⟨x30.Stair.Amount,x30.Stair.Price⟩:Qap),x30.inlet⟩:Qaa) (⟨(⟨x33.Stair.Amount,x33.Stair.Price⟩:Qap),x33.inlet⟩:Qaa)).bind fun x36=>
     bif (decide (x36<0)) then
      k15 ()
     else
      k9 (y11)
    else
     k9 (y11)
def Qas (N p0:Nat) (p1 p2:Int):Nat→Int→(List Qaa)→Option (List Qaa)
  |0,_,_=>none
  |n6+1,y2,y3=>
    bif (decide (y2<p2)) then
     Qcy (fun y8=>
       Qas N p0 p1 p2 n6 (w64 (y2+1)) y8) fun k9:(List Qaa)→Option (List Qaa)=>
     Qa0 N p0 p1 k9 N y2 y3
    else
     some y3
def Qbe (N p0:Nat) (p1 p2:Int) (p3:List Qaa):Option (List Qaa):=
  Qas N p0 p1 p2 N (w64 (p1+1)) p3
abbrev Ql1:AV:=.fn (.func 57) [] [(.ref 1 1 (0) 0)]
abbrev Qjy:Slot:=.own 1 [[(.fn (.func 39) [] [])]]
def Qru (y3:List Qaa):Slot:=.own 3 (y3.map Qac)
def Qhn (y11:List Qaa):Slot:=.own 3 (y11.map Qac)
def Q7v (x17:Qaa):AV:=.agg [(I x17.Stair.Amount),(I x17.Stair.Price),(I x17.inlet)]
def Q3m (x20:Qaa):AV:=.agg [(I x20.Stair.Amount),(I x20.Stair.Price),(I x20.inlet)]
def Qtf (y11:List Qaa) (y10:Int) (x17:Qaa):Slot:=.own 3 ((y11.set y10.toNat (⟨(⟨x17.Stair.Amount,x17.Stair.Price⟩:Qap),x17.inlet⟩:Qaa):List Qaa).map Qac)
def Qx7 (y11:List Qaa) (y10:Int) (x17 x20:Qaa):Slot:=.own 3 (((y11.set y10.toNat (⟨(⟨x17.Stair.Amount,x17.Stair.Price⟩:Qap),x17.inlet⟩:Qaa)).set ((w64 (y10-1)).toNat) (⟨(⟨x20.Stair.Amount,x20.Stair.Price⟩:Qap),x20.inlet⟩:Qaa):List Qaa).map Qac)
def Q3l (x30:Qaa):AV:=.agg [(I x30.Stair.Amount),(I x30.Stair.Price),(I x30.inlet)]
def Qx6 (x33:Qaa):AV:=.agg [(I x33.Stair.Amount),(I x33.Stair.Price),(I x33.inlet)]
theorem Qee (N p0:Nat) (p1 p2:Int) (p3 r:List Qaa) (h:Qbe N p0 p1 p2 p3=some r):Spec prog 67 [(.own 0 3 (0) p0),(I p1),(I p2),Ql1] [(.own 3 (p3.map Qac)),Qjy] (.tup []) [(.own 3 (r.map Qac)),Qjy]:=by
  refine sF func67 2 fun _ _ _ hq hd0=>?_
  unfold Qbe at h
  refine wxz<|Qaf ?_
  refine wmr (mto (n:=53) (l':=[(0,(.own 0 3 (0) p0)),(1,I p1),(2,I p2),(3,Ql1),(8,(I ((w64 (p1+1)))))]) (own':=[(.own 3 (p3.map Qac)),Qjy]) [(0,(.own 0 3 (0) p0)),(1,I p1),(2,I p2),(3,Ql1),(8,(I (w64 (p1+1))))] [0,1] [(.own 3 (p3.map Qac)),Qjy] hq (pc (.rn (Qbj rfl)) (pw (pw (pc (.rn (Qao rn0 (rnc (rqr rfl) rn0))) (pw pn))))) (qc (spr Qab) (qb (lc (.rn (Qao rn0 rn0)) ln) qn))) ?_
  refine Qbx (τ:=Int×(List Qaa)) (fun n t=>Qas N p0 p1 p2 n t.1 t.2=some r) (fun ⟨y2,y3⟩=>⟨mk 53 [(0,(.own 0 3 (0) p0)),(1,I p1),(2,I p2),(3,Ql1),(8,I y2)],[(Qru y3),Qjy]⟩) (fun t h=>by rw[Qas] at h;cases h) (fun n6 ih t h=>?_) N (w64 (p1+1),p3) h
  obtain⟨y2,y3⟩:=t
  rw[Qas] at h
  skip
  refine wsq<|wxz ?_
  refine bfe h (fun hc7 h=>?_) fun hc7 h=>?_
  ·refine wft hc7<|Qai<|thn ?_
   obtain⟨k9,hk_k9,h⟩:=jko h
   refine wjn (τ:=(List Qaa)) (fun t=>k9 t=some r) (fun y8=>⟨mk 53 [(0,(.own 0 3 (0) p0)),(1,I p1),(2,I p2),(3,Ql1),(8,I y2)],[(.own 3 (y8.map Qac)),Qjy]⟩) (fun y8 h=>?_) ?_
   ·subst hk_k9
    exact wxz1<|thn<|arm (mto (n:=53) [(0,(.own 0 3 (0) p0)),(1,I p1),(2,I p2),(3,Ql1),(8,(I (w64 (y2+1))))] [0,1] [(.own 3 (y8.map Qac)),Qjy] hq (pc (.rn (Qbj rfl)) (pw (pw (pc (.rn (Qao rn0 (rnc (rqr rfl) rn0))) (pw pn))))) (qc (spr Qab) (qb (lc (.rn (Qao rn0 rn0)) ln) qn))) (ih (w64 (y2+1),y8) h)
   ·skip
    refine Qaf<|wxz<|Qaf ?_
    refine wmr (mto (n:=53) (l':=[(0,(.own 0 3 (0) p0)),(1,I p1),(2,I p2),(3,Ql1),(8,I y2),(9,I y2)]) (own':=[(Qru y3),Qjy]) [(0,(.own 0 3 (0) p0)),(1,I p1),(2,I p2),(3,Ql1),(8,I y2),(9,I y2)] [0,1] [(Qru y3),Qjy] hq (pc (.rn (Qbj rfl)) (pw (pw (pc (.rn (Qao rn0 (rnc (rqr rfl) rn0))) (pw (pw pn)))))) (qc (spr Qab) (qb (lc (.rn (Qao rn0 rn0)) ln) qn))) ?_
    refine Qbx (τ:=Int×(List Qaa)) (fun n t=>Qa0 N p0 p1 k9 n t.1 t.2=some r) (fun ⟨y10,y11⟩=>⟨mk 53 [(0,(.own 0 3 (0) p0)),(1,I p1),(2,I p2),(3,Ql1),(8,I y2),(9,I y10)],[(Qhn y11),Qjy]⟩) (fun t h=>by rw[Qa0] at h;cases h) (fun n14 ih t h=>?_) N (y2,y3) h
    obtain⟨y10,y11⟩:=t
    rw[Qa0] at h
    skip
    obtain⟨k15,hk_k15,h⟩:=jko h
    refine wjn (τ:=Unit) (fun t=>k15 t=some r) (fun _=>⟨mk 53 [(0,(.own 0 3 (0) p0)),(1,I p1),(2,I p2),(3,Ql1),(8,I y2),(9,I y10)],[(Qhn y11),Qjy]⟩) (fun t h=>?_) ?_
    ·subst hk_k15
     refine wsq<|Qaf ?_
     obtain⟨hi16,h⟩:=cko h
     obtain⟨hi16a,hi16b⟩:=Qbp hi16
     obtain⟨x17,hg18,h⟩:=bno h
     obtain⟨hi19,h⟩:=cko h
     obtain⟨hi19a,hi19b⟩:=Qbp hi19
     obtain⟨x20,hg21,h⟩:=bno h
     obtain⟨hi22,h⟩:=cko h
     obtain⟨hi22a,hi22b⟩:=Qbp hi22
     obtain⟨x23,hg24,h⟩:=bno h
     obtain⟨hi25,h⟩:=cko h
     obtain⟨hi25a,hi25b⟩:=Qbp hi25
     obtain⟨x26,hg27,h⟩:=bno h
     refine wy1 tbk [(8,rb [(.tmp 42,(.own 0 3 (0) p0)),(.tmp 44,(I (w64 (y10-1))))] [(0,(Qhn y11))] (.ref 0 3 ((w64 (y10-1)).toNat) 0)),(9,rb [(.tmp 45,(.ref 0 3 ((w64 (y10-1)).toNat) 0))] [(0,(Qhn y11))] (Q7v x17)),(12,rb [(.tmp 47,(.own 0 3 (0) p0)),(.tmp 48,I y10)] [(0,(Qhn y11))] (.ref 0 3 y10.toNat 0)),(13,rb [(.tmp 49,(.ref 0 3 y10.toNat 0))] [(0,(Qhn y11))] (Q3m x20)),(14,rb [(.tmp 37,(.own 0 3 (0) p0)),(.tmp 38,I y10)] [(0,(Qhn y11))] (.ref 0 3 y10.toNat 0)),(15,⟨[(.tmp 51,(.ref 0 3 y10.toNat 0)),(.tmp 46,(Q7v x17))],[(0,(Qhn y11))],.any,[(0,(Qtf y11 y10 x17))],false⟩),(16,rb [(.tmp 39,(.own 0 3 (0) p0)),(.tmp 41,(I (w64 (y10-1))))] [(0,(Qtf y11 y10 x17))] (.ref 0 3 ((w64 (y10-1)).toNat) 0)),(17,⟨[(.tmp 52,(.ref 0 3 ((w64 (y10-1)).toNat) 0)),(.tmp 50,(Q3m x20))],[(0,(Qtf y11 y10 x17))],.any,[(0,(Qx7 y11 y10 x17 x20))],false⟩)] ⟨aio rfl underlying87 ti94 (odt hi16a) (odt hi16b) (Nat.zero_add _),ald rfl ti94 (by decide) (mgt Qac hg18) (nle rfl) rfl,aio rfl underlying87 ti94 (odt hi19a) (odt hi19b) (Nat.zero_add _),ald rfl ti94 (by decide) (mgt Qac hg21) (nle rfl) rfl,aio rfl underlying87 ti94 (odt hi22a) (odt hi22b) (Nat.zero_add _),ast rfl ti94 (by rfl) (mgt Qac hg24) (nle rfl) (Qhf Qac rfl),aio rfl underlying87 ti94 (odt hi25a) (odt hi25b) (Nat.zero_add _),ast rfl ti94 (by rfl) (mgt Qac hg27) (nle rfl) (Qhf Qac rfl),tv⟩<|bln<|thn<|wxz1<|thn ?_
     exact arm (mto (n:=53) [(0,(.own 0 3 (0) p0)),(1,I p1),(2,I p2),(3,Ql1),(8,I y2),(9,(I (w64 (y10-1))))] [0,1] [(Qx7 y11 y10 x17 x20),Qjy] hq (pc (.rn (Qbj rfl)) (pw (pw (pc (.rn (Qao rn0 (rnc (rqr rfl) rn0))) (pw (pw pn)))))) (qc (spr Qab) (qb (lc (.rn (Qao rn0 rn0)) ln) qn))) (ih (w64 (y10-1),(y11.set y10.toNat (⟨(⟨x17.Stair.Amount,x17.Stair.Price⟩:Qap),x17.inlet⟩:Qaa)).set ((w64 (y10-1)).toNat) (⟨(⟨x20.Stair.Amount,x20.Stair.Price⟩:Qap),x20.inlet⟩:Qaa)) h)
    ·skip
     refine bfe h (fun hb28 h=>?_) fun hb28 h=>?_
     ·obtain⟨hi29,h⟩:=cko h
      obtain⟨hi29a,hi29b⟩:=Qbp hi29
      obtain⟨x30,hg31,h⟩:=bno h
      obtain⟨hi32,h⟩:=cko h
      obtain⟨hi32a,hi32b⟩:=Qbp hi32
      obtain⟨x33,hg34,h⟩:=bno h
      obtain⟨x36,hf35,h⟩:=bno h
      refine wxd tbk [(3,rp [(.tmp 20,(B ((decide (y10>p1)))))] (B true)),(7,rb [(.tmp 21,B true),(.tmp 23,(.own 0 3 (0) p0)),(.tmp 24,I y10)] [(0,(Qhn y11))] (.ref 0 3 y10.toNat 0)),(8,rb [(.tmp 21,B true),(.tmp 25,(.ref 0 3 y10.toNat 0))] [(0,(Qhn y11))] (Q3l x30)),(12,rb [(.tmp 21,B true),(.tmp 27,(.own 0 3 (0) p0)),(.tmp 29,(I (w64 (y10-1))))] [(0,(Qhn y11))] (.ref 0 3 ((w64 (y10-1)).toNat) 0)),(13,rb [(.tmp 21,B true),(.tmp 30,(.ref 0 3 ((w64 (y10-1)).toNat) 0))] [(0,(Qhn y11))] (Qx6 x33)),(14,⟨[(.tmp 21,B true),(.tmp 22,Ql1),(.tmp 26,(Q3l x30)),(.tmp 31,(Qx6 x33))],[(1,Qjy)],I x36,[(1,Qjy)],false⟩)] ⟨asb hb28 (amv rfl),ag_ (aio rfl underlying87 ti94 (odt hi29a) (odt hi29b) (Nat.zero_add _)),ag_ (ald rfl ti94 (by decide) (mgt Qac hg31) (nle rfl) rfl),ag_ (aio rfl underlying87 ti94 (odt hi32a) (odt hi32b) (Nat.zero_add _)),ag_ (ald rfl ti94 (by decide) (mgt Qac hg34) (nle rfl) rfl),ag_ (Qei (first:=[]) (cap:=[.ref 1 1 0 0]) (vs:=[(.agg [(I ((⟨(⟨x30.Stair.Amount,x30.Stair.Price⟩:Qap),x30.inlet⟩:Qaa).Stair.Amount)),(I ((⟨(⟨x30.Stair.Amount,x30.Stair.Price⟩:Qap),x30.inlet⟩:Qaa).Stair.Price)),(I ((⟨(⟨x30.Stair.Amount,x30.Stair.Price⟩:Qap),x30.inlet⟩:Qaa).inlet))]),(.agg [(I ((⟨(⟨x33.Stair.Amount,x33.Stair.Price⟩:Qap),x33.inlet⟩:Qaa).Stair.Amount)),(I ((⟨(⟨x33.Stair.Amount,x33.Stair.Price⟩:Qap),x33.inlet⟩:Qaa).Stair.Price)),(I ((⟨(⟨x33.Stair.Amount,x33.Stair.Price⟩:Qap),x33.inlet⟩:Qaa).inlet))])]) (σr:=[Qjy]) (σr':=[Qjy]) (res':=(I x36)) [1] rfl Qrb (Qdu N (⟨(⟨x30.Stair.Amount,x30.Stair.Price⟩:Qap),x30.inlet⟩:Qaa) (⟨(⟨x33.Stair.Amount,x33.Stair.Price⟩:Qap),x33.inlet⟩:Qaa) _ hf35) rfl (Qb1 (rnc (.plain _ (NLt.agg _ (nlcc (nlc nll nl0)))) (rnc (.plain _ (NLt.agg _ (nlcc (nlc nll nl0)))) (rnc (Qa4 rfl) rn0)))) (slc (Qaj (rnc (.plain _ (NLt.fn _ _ _ nl0 nl0)) rn0)) Qak) (slc (Qaj (rnc (.plain _ (NLt.fn _ _ _ nl0 nl0)) rn0)) Qak) (.plain _ nll) rfl rfl rfl),tv⟩ ?_
      refine bfe h (fun hc37 h=>?_) fun hc37 h=>?_
      ·exact wft hc37<|Qai<|thn<|⟨(),h,(mto (n:=53) [(0,(.own 0 3 (0) p0)),(1,I p1),(2,I p2),(3,Ql1),(8,I y2),(9,I y10)] [0,1] [(Qhn y11),Qjy] hq (pc (.rn (Qbj rfl)) (pw (pw (pc (.rn (Qao rn0 (rnc (rqr rfl) rn0))) (pw (pw pn)))))) (qc (spr Qab) (qb (lc (.rn (Qao rn0 rn0)) ln) qn)))⟩
      ·exact wfn hc37<|Qa3<|Qan<|Qan<|Qa2 rfl<|bln<|thn<|⟨(y11),h,(mto (n:=53) [(0,(.own 0 3 (0) p0)),(1,I p1),(2,I p2),(3,Ql1),(8,I y2)] [0,1] [(Qhn y11),Qjy] hq (pc (.rn (Qbj rfl)) (pw (pw (pc (.rn (Qao rn0 (rnc (rqr rfl) rn0))) (pw pn))))) (qc (spr Qab) (qb (lc (.rn (Qao rn0 rn0)) ln) qn)))⟩
     ·exact wxd tbk [(3,rp [(.tmp 20,(B ((decide (y10>p1)))))] (B false))] ⟨asb hb28 (amv rfl),tv⟩<|wfa<|Qa3<|Qan<|Qan<|Qa2 rfl<|bln<|thn<|⟨(y11),h,(mto (n:=53) [(0,(.own 0 3 (0) p0)),(1,I p1),(2,I p2),(3,Ql1),(8,I y2)] [0,1] [(Qhn y11),Qjy] hq (pc (.rn (Qbj rfl)) (pw (pw (pc (.rn (Qao rn0 (rnc (rqr rfl) rn0))) (pw pn))))) (qc (spr Qab) (qb (lc (.rn (Qao rn0 rn0)) ln) qn)))⟩
  ·refine wfn hc7<|Qa3<|Qan<|Qan<|Qa2 rfl ?_
   obtain rfl:=osi h
   exact⟨_,(mto (n:=53) (l':=[]) (own':=[(Qru y3),Qjy]) [] [0,1] [(Qru y3),Qjy] hq pn (qc (spr Qab) (qb (lc (.rn (Qao rn0 rn0)) ln) qn))),fio [] tv⟩
def Qa9 (N p0:Nat) (p1 p2 p3:Int):Nat→Int→(List Qaa)→Option (List Qaa)
  |0,_,_=>none
  |n6+1,y2,y3=>
    bif (decide (y2<p3)) then
     chk (decide (0≤w64 (p2+y2))&&decide ((w64 (p2+y2)).toNat<p0))<|
     (y3[(w64 (p2+y2)).toNat]?).bind fun x9=>
     chk (decide (0≤w64 (p1+y2))&&decide ((w64 (p1+y2)).toNat<p0))<|
     (y3[(w64 (p1+y2)).toNat]?).bind fun x12=>
     chk (decide (0≤w64 (p1+y2))&&decide ((w64 (p1+y2)).toNat<p0))<|
     (y3[(w64 (p1+y2)).toNat]?).bind fun _=>
     chk (decide (0≤w64 (p2+y2))&&decide ((w64 (p2+y2)).toNat<p0))<|
     ((y3.set ((w64 (p1+y2)).toNat) (⟨(⟨x9.Stair.Amount,x9.Stair.Price⟩:Qap),x9.inlet⟩:Qaa))[(w64 (p2+y2)).toNat]?).bind fun _=>
     Qa9 N p0 p1 p2 p3 n6 (w64 (y2+1)) ((y3.set ((w64 (p1+y2)).toNat) (⟨(⟨x9.Stair.Amount,x9.Stair.Price⟩:Qap),x9.inlet⟩:Qaa)).set ((w64 (p2+y2)).toNat) (⟨(⟨x12.Stair.Amount,x12.Stair.Price⟩:Qap),x12.inlet⟩:Qaa))
    else
     some y3
def Qbm (N p0:Nat) (p1 p2 p3:Int) (p4:List Qaa):Option (List Qaa):=
  Qa9 N p0 p1 p2 p3 N 0 p4
abbrev Qnr:Slot:=.own 1 [[(.fn (.func 39) [] [])]]
def Qmk (y3:List Qaa):Slot:=.own 3 (y3.map Qac)
def Q3k (x9:Qaa):AV:=.agg [(I x9.Stair.Amount),(I x9.Stair.Price),(I x9.inlet)]
def Q3j (x12:Qaa):AV:=.agg [(I x12.Stair.Amount),(I x12.Stair.Price),(I x12.inlet)]
def Qxz (y3:List Qaa) (p1 y2:Int) (x9:Qaa):Slot:=.own 3 ((y3.set ((w64 (p1+y2)).toNat) (⟨(⟨x9.Stair.Amount,x9.Stair.Price⟩:Qap),x9.inlet⟩:Qaa):List Qaa).map Qac)
def Q3i (y3:List Qaa) (p1 y2:Int) (x9:Qaa) (p2:Int) (x12:Qaa):Slot:=.own 3 (((y3.set ((w64 (p1+y2)).toNat) (⟨(⟨x9.Stair.Amount,x9.Stair.Price⟩:Qap),x9.inlet⟩:Qaa)).set ((w64 (p2+y2)).toNat) (⟨(⟨x12.Stair.Amount,x12.Stair.Price⟩:Qap),x12.inlet⟩:Qaa):List Qaa).map Qac)
theorem Qdp (N p0:Nat) (p1 p2 p3:Int) (p4 r:List Qaa) (h:Qbm N p0 p1 p2 p3 p4=some r):Spec prog 70 [(.own 0 3 (0) p0),(I p1),(I p2),(I p3),(.fn (.func 57) [] [(.ref 1 1 (0) 0)])] [(.own 3 (p4.map Qac)),Qnr] (.tup []) [(.own 3 (r.map Qac)),Qnr]:=by
  refine sF func70 2 fun _ _ _ hq hd0=>?_
  unfold Qbm at h
  refine wxz<|Qaf ?_
  refine wmr (mto (n:=38) (l':=[(0,(.own 0 3 (0) p0)),(1,I p1),(2,I p2),(3,I p3),(10,I 0)]) (own':=[(.own 3 (p4.map Qac)),Qnr]) [(0,(.own 0 3 (0) p0)),(1,I p1),(2,I p2),(3,I p3),(10,I 0)] [0,1] [(.own 3 (p4.map Qac)),Qnr] hq (pc (.rn (Qbj rfl)) (pw (pw (pw (pw pn))))) (qc (spr Qab) (qb (lc (.rn (Qao rn0 rn0)) ln) qn))) ?_
  refine Qbx (τ:=Int×(List Qaa)) (fun n t=>Qa9 N p0 p1 p2 p3 n t.1 t.2=some r) (fun ⟨y2,y3⟩=>⟨mk 38 [(0,(.own 0 3 (0) p0)),(1,I p1),(2,I p2),(3,I p3),(10,I y2)],[(Qmk y3),Qnr]⟩) (fun t h=>by rw[Qa9] at h;cases h) (fun n6 ih t h=>?_) N (0,p4) h
  obtain⟨y2,y3⟩:=t
  rw[Qa9] at h
  skip
  refine wsq<|wxz ?_
  refine bfe h (fun hc7 h=>?_) fun hc7 h=>?_
  ·refine wft hc7<|Qai<|thn<|wsq<|Qaf ?_
   obtain⟨hi8,h⟩:=cko h
   obtain⟨hi8a,hi8b⟩:=Qbp hi8
   obtain⟨x9,hg10,h⟩:=bno h
   obtain⟨hi11,h⟩:=cko h
   obtain⟨hi11a,hi11b⟩:=Qbp hi11
   obtain⟨x12,hg13,h⟩:=bno h
   obtain⟨hi14,h⟩:=cko h
   obtain⟨hi14a,hi14b⟩:=Qbp hi14
   obtain⟨x15,hg16,h⟩:=bno h
   obtain⟨hi17,h⟩:=cko h
   obtain⟨hi17a,hi17b⟩:=Qbp hi17
   obtain⟨x18,hg19,h⟩:=bno h
   refine wy1 tbk [(12,rb [(.tmp 24,(.own 0 3 (0) p0)),(.tmp 27,(I (w64 (p2+y2))))] [(0,(Qmk y3))] (.ref 0 3 ((w64 (p2+y2)).toNat) 0)),(13,rb [(.tmp 28,(.ref 0 3 ((w64 (p2+y2)).toNat) 0))] [(0,(Qmk y3))] (Q3k x9)),(18,rb [(.tmp 30,(.own 0 3 (0) p0)),(.tmp 33,(I (w64 (p1+y2))))] [(0,(Qmk y3))] (.ref 0 3 ((w64 (p1+y2)).toNat) 0)),(19,rb [(.tmp 34,(.ref 0 3 ((w64 (p1+y2)).toNat) 0))] [(0,(Qmk y3))] (Q3j x12)),(20,rb [(.tmp 16,(.own 0 3 (0) p0)),(.tmp 19,(I (w64 (p1+y2))))] [(0,(Qmk y3))] (.ref 0 3 ((w64 (p1+y2)).toNat) 0)),(21,⟨[(.tmp 36,(.ref 0 3 ((w64 (p1+y2)).toNat) 0)),(.tmp 29,(Q3k x9))],[(0,(Qmk y3))],.any,[(0,(Qxz y3 p1 y2 x9))],false⟩),(22,rb [(.tmp 20,(.own 0 3 (0) p0)),(.tmp 23,(I (w64 (p2+y2))))] [(0,(Qxz y3 p1 y2 x9))] (.ref 0 3 ((w64 (p2+y2)).toNat) 0)),(23,⟨[(.tmp 37,(.ref 0 3 ((w64 (p2+y2)).toNat) 0)),(.tmp 35,(Q3j x12))],[(0,(Qxz y3 p1 y2 x9))],.any,[(0,(Q3i y3 p1 y2 x9 p2 x12))],false⟩)] ⟨aio rfl underlying87 ti94 (odt hi8a) (odt hi8b) (Nat.zero_add _),ald rfl ti94 (by decide) (mgt Qac hg10) (nle rfl) rfl,aio rfl underlying87 ti94 (odt hi11a) (odt hi11b) (Nat.zero_add _),ald rfl ti94 (by decide) (mgt Qac hg13) (nle rfl) rfl,aio rfl underlying87 ti94 (odt hi14a) (odt hi14b) (Nat.zero_add _),ast rfl ti94 (by rfl) (mgt Qac hg16) (nle rfl) (Qhf Qac rfl),aio rfl underlying87 ti94 (odt hi17a) (odt hi17b) (Nat.zero_add _),ast rfl ti94 (by rfl) (mgt Qac hg19) (nle rfl) (Qhf Qac rfl),tv⟩<|bln<|thn<|wxz1<|thn ?_
   exact arm (mto (n:=38) [(0,(.own 0 3 (0) p0)),(1,I p1),(2,I p2),(3,I p3),(10,(I (w64 (y2+1))))] [0,1] [(Q3i y3 p1 y2 x9 p2 x12),Qnr] hq (pc (.rn (Qbj rfl)) (pw (pw (pw (pw pn))))) (qc (spr Qab) (qb (lc (.rn (Qao rn0 rn0)) ln) qn))) (ih (w64 (y2+1),(y3.set ((w64 (p1+y2)).toNat) (⟨(⟨x9.Stair.Amount,x9.Stair.Price⟩:Qap),x9.inlet⟩:Qaa)).set ((w64 (p2+y2)).toNat) (⟨(⟨x12.Stair.Amount,x12.Stair.Price⟩:Qap),x12.inlet⟩:Qaa)) h)
  ·refine wfn hc7<|Qa3<|Qan<|Qan<|Qa2 rfl ?_
   obtain rfl:=osi h
   exact⟨_,(mto (n:=38) (l':=[]) (own':=[(Qmk y3),Qnr]) [] [0,1] [(Qmk y3),Qnr] hq pn (qc (spr Qab) (qb (lc (.rn (Qao rn0 rn0)) ln) qn))),fio [] tv⟩
def Qa5 (N p0:Nat) (p2:Int) (k4:Int×(List Qaa)→Option (List Qaa)):Nat→Int→Int→(List Qaa)→Option (List Qaa)
  |0,_,_,_=>none
  |n13+1,y7,y8,y9=>
    bif (y7 != y8) then
     bif (decide (y7>y8)) then
      (Qbm N p0 (w64 (p2-y7)) p2 y8 y9).bind fun x17=>
      Qa5 N p0 p2 k4 n13 (w64 (y7-y8)) y8 x17
     else
      (Qbm N p0 (w64 (p2-y7)) (w64 ((w64 (p2+y8))-y7)) y7 y9).bind fun x19=>
      Qa5 N p0 p2 k4 n13 y7 (w64 (y8-y7)) x19
    else
     k4 (y7,y9)
def Qca (N p0:Nat) (p1 p2 p3:Int) (p4:List Qaa):Option (List Qaa):=
  Qcy (fun ⟨y2,y3⟩=>
    (Qbm N p0 (w64 (p2-y2)) p2 y2 y3).bind fun x6=>
    some x6) fun k4:Int×(List Qaa)→Option (List Qaa)=>
  Qa5 N p0 p2 k4 N (w64 (p2-p1)) (w64 (p3-p2)) p4
abbrev Qod:AV:=.fn (.func 57) [] [(.ref 1 1 (0) 0)]
abbrev Qk4:Slot:=.own 1 [[(.fn (.func 39) [] [])]]
def Qux (y9:List Qaa):Slot:=.own 3 (y9.map Qac)
theorem Qg6 (N p0:Nat) (p1 p2 p3:Int) (p4 r:List Qaa) (h:Qca N p0 p1 p2 p3 p4=some r):Spec prog 69 [(.own 0 3 (0) p0),(I p1),(I p2),(I p3),Qod] [(.own 3 (p4.map Qac)),Qk4] (.tup []) [(.own 3 (r.map Qac)),Qk4]:=by
  refine sF func69 2 fun _ _ _ hq hd0=>?_
  unfold Qca at h
  refine wxz<|wxz ?_
  obtain⟨k4,hk_k4,h⟩:=jko h
  refine wjn (τ:=Int×(List Qaa)) (fun t=>k4 t=some r) (fun ⟨y2,y3⟩=>⟨mk 58 [(0,(.own 0 3 (0) p0)),(2,I p2),(4,Qod),(10,I y2)],[(.own 3 (y3.map Qac)),Qk4]⟩) (fun t h=>?_) ?_
  ·subst hk_k4
   obtain⟨y2,y3⟩:=t
   obtain⟨x6,hf5,h⟩:=bno h
   refine wx1 tbk [(7,⟨_,_,_,_,false⟩)] ⟨acq [(.own 0 3 (0) p0),(I (w64 (p2-y2))),I p2,I y2,Qod] [(.own 3 (y3.map Qac)),Qk4] [(.own 3 (x6.map Qac)),Qk4] (.tup []) [0,1] Qng (Qdp N p0 (w64 (p2-y2)) p2 y2 y3 _ hf5) (Qb1 (rnc (Qgu rfl) (rncc (rnc (.plain _ nll) (rnc (Qao rn0 (rnc (Qa4 rfl) rn0)) rn0))))) (slc (Qd1 Qab) (slc (Qaj (rnc (.plain _ (NLt.fn _ _ _ nl0 nl0)) rn0)) Qak)) (slc (Qd1 Qab) (slc (Qaj (rnc (.plain _ (NLt.fn _ _ _ nl0 nl0)) rn0)) Qak)) (.plain _ (NLt.tup _ nl0)),tv⟩ ?_
   obtain rfl:=osi h
   exact⟨_,(mto (n:=58) (l':=[]) (own':=[(.own 3 (x6.map Qac)),Qk4]) [] [0,1] [(.own 3 (x6.map Qac)),Qk4] hq pn (qc (spr Qab) (qb (lc (.rn (Qao rn0 rn0)) ln) qn))),fio [] tv⟩
  ·skip
   refine Qaf<|wmr (mto (n:=58) (l':=[(0,(.own 0 3 (0) p0)),(2,I p2),(4,Qod),(10,(I ((w64 (p2-p1))))),(11,(I ((w64 (p3-p2)))))]) (own':=[(.own 3 (p4.map Qac)),Qk4]) [(0,(.own 0 3 (0) p0)),(2,I p2),(4,Qod),(10,(I (w64 (p2-p1)))),(11,(I (w64 (p3-p2))))] [0,1] [(.own 3 (p4.map Qac)),Qk4] hq (pc (.rn (Qbj rfl)) (pw (pc (.rn (Qao rn0 (rnc (rqr rfl) rn0))) (pw (pw pn))))) (qc (spr Qab) (qb (lc (.rn (Qao rn0 rn0)) ln) qn))) ?_
   refine Qbx (τ:=Int×Int×(List Qaa)) (fun n t=>Qa5 N p0 p2 k4 n t.1 t.2.1 t.2.2=some r) (fun ⟨y7,y8,y9⟩=>⟨mk 58 [(0,(.own 0 3 (0) p0)),(2,I p2),(4,Qod),(10,I y7),(11,I y8)],[(Qux y9),Qk4]⟩) (fun t h=>by rw[Qa5] at h;cases h) (fun n13 ih t h=>?_) N (w64 (p2-p1),w64 (p3-p2),p4) h
   obtain⟨y7,y8,y9⟩:=t
   rw[Qa5] at h
   skip
   refine wsq<|wxz ?_
   refine bfe h (fun hc14 h=>?_) fun hc14 h=>?_
   ·refine wft hc14<|Qai<|thn<|Qaf<|wxz ?_
    refine bfe h (fun hc15 h=>?_) fun hc15 h=>?_
    ·refine wft hc15 ?_
     obtain⟨x17,hf16,h⟩:=bno h
     refine wx tbk [(7,⟨_,_,_,_,false⟩)] ⟨acq [(.own 0 3 (0) p0),(I (w64 (p2-y7))),I p2,I y8,Qod] [(Qux y9),Qk4] [(.own 3 (x17.map Qac)),Qk4] (.tup []) [0,1] Qng (Qdp N p0 (w64 (p2-y7)) p2 y8 y9 _ hf16) (Qb1 (rnc (Qgu rfl) (rncc (rnc (.plain _ nll) (rnc (Qao rn0 (rnc (Qa4 rfl) rn0)) rn0))))) (slc (Qd1 Qab) (slc (Qaj (rnc (.plain _ (NLt.fn _ _ _ nl0 nl0)) rn0)) Qak)) (slc (Qd1 Qab) (slc (Qaj (rnc (.plain _ (NLt.fn _ _ _ nl0 nl0)) rn0)) Qak)) (.plain _ (NLt.tup _ nl0)),tv⟩<|wxz1<|bln<|thn ?_
     exact arm (mto (n:=58) [(0,(.own 0 3 (0) p0)),(2,I p2),(4,Qod),(10,(I (w64 (y7-y8)))),(11,I y8)] [0,1] [(.own 3 (x17.map Qac)),Qk4] hq (pc (.rn (Qbj rfl)) (pw (pc (.rn (Qao rn0 (rnc (rqr rfl) rn0))) (pw (pw pn))))) (qc (spr Qab) (qb (lc (.rn (Qao rn0 rn0)) ln) qn))) (ih (w64 (y7-y8),y8,x17) h)
    ·refine wfn hc15 ?_
     obtain⟨x19,hf18,h⟩:=bno h
     refine wx tbk [(11,⟨_,_,_,_,false⟩)] ⟨acq [(.own 0 3 (0) p0),(I (w64 (p2-y7))),(I (w64 ((w64 (p2+y8))-y7))),I y7,Qod] [(Qux y9),Qk4] [(.own 3 (x19.map Qac)),Qk4] (.tup []) [0,1] Qng (Qdp N p0 (w64 (p2-y7)) (w64 ((w64 (p2+y8))-y7)) y7 y9 _ hf18) (Qb1 (rnc (Qgu rfl) (rncc (rnc (.plain _ nll) (rnc (Qao rn0 (rnc (Qa4 rfl) rn0)) rn0))))) (slc (Qd1 Qab) (slc (Qaj (rnc (.plain _ (NLt.fn _ _ _ nl0 nl0)) rn0)) Qak)) (slc (Qd1 Qab) (slc (Qaj (rnc (.plain _ (NLt.fn _ _ _ nl0 nl0)) rn0)) Qak)) (.plain _ (NLt.tup _ nl0)),tv⟩<|wxz1<|bln<|thn ?_
     exact arm (mto (n:=58) [(0,(.own 0 3 (0) p0)),(2,I p2),(4,Qod),(10,I y7),(11,(I (w64 (y8-y7))))] [0,1] [(.own 3 (x19.map Qac)),Qk4] hq (pc (.rn (Qbj rfl)) (pw (pc (.rn (Qao rn0 (rnc (rqr rfl) rn0))) (pw (pw pn))))) (qc (spr Qab) (qb (lc (.rn (Qao rn0 rn0)) ln) qn))) (ih (y7,w64 (y8-y7),x19) h)
   ·exact wfn hc14<|Qa3<|Qan<|Qan<|Qa2 rfl<|thn<|⟨(y7,y9),h,(mto (n:=58) [(0,(.own 0 3 (0) p0)),(2,I p2),(4,Qod),(10,I y7)] [0,1] [(Qux y9),Qk4] hq (pc (.rn (Qbj rfl)) (pw (pc (.rn (Qao rn0 (rnc (rqr rfl) rn0))) (pw pn)))) (qc (spr Qab) (qb (lc (.rn (Qao rn0 rn0)) ln) qn)))⟩
def slices_symMergeCmpFunc_inject_offerX_2_loop1 (N p0:Nat) (p4:List Qaa) (x10:Int) (k13:Int→Option (List Qaa)):Nat→Int→Int→Option (List Qaa)
  |0,_,_=>none
  |n36+1,y32,y33=>
    bif (decide (y32<y33)) then
     (some (w64 ((IntKind.wrap .u64 (w64 (y32+y33)))/2))).bind fun x38=>
     chk (decide (0≤w64 (x10-x38))&&decide ((w64 (x10-x38)).toNat<p0))<|
     (p4[(w64 (x10-x38)).toNat]?).bind fun x41=>
     chk (decide (0≤x38)&&decide (x38.toNat<p0))<|
     (p4[x38.toNat]?).bind fun x44=>
     (Qb3 N (⟨(⟨x41.Stair.Amount,x41.Stair.Price⟩:Qap),x41.inlet⟩:Qaa) (⟨(⟨x44.Stair.Amount,x44.Stair.Price⟩:Qap),x44.inlet⟩:Qaa)).bind fun x47=>
     bif (!(decide (x47<0))) then
      slices_symMergeCmpFunc_inject_offerX_2_loop1 N p0 p4 x10 k13 n36 (w64 (x38+1)) y33
     else
      slices_symMergeCmpFunc_inject_offerX_2_loop1 N p0 p4 x10 k13 n36 y32 x38
    else
     k13 (y32)
def Qbc (N p0:Nat) (y53:Int) (k56:(List Qaa)→Option (List Qaa)):Nat→Int→(List Qaa)→Option (List Qaa)
  |0,_,_=>none
  |n61+1,y57,y58=>
    bif (decide (y57>y53)) then
     chk (decide (0≤w64 (y57-1))&&decide ((w64 (y57-1)).toNat<p0))<|
     (y58[(w64 (y57-1)).toNat]?).bind fun x64=>
     chk (decide (0≤y57)&&decide (y57.toNat<p0))<|
     (y58[y57.toNat]?).bind fun x67=>
     chk (decide (0≤y57)&&decide (y57.toNat<p0))<|
     (y58[y57.toNat]?).bind fun _=>
     chk (decide (0≤w64 (y57-1))&&decide ((w64 (y57-1)).toNat<p0))<|
     ((y58.set y57.toNat (⟨(⟨x64.Stair.Amount,x64.Stair.Price⟩:Qap),x64.inlet⟩:Qaa))[(w64 (y57-1)).toNat]?).bind fun _=>
     Qbc N p0 y53 k56 n61 (w64 (y57-1)) ((y58.set y57.toNat (⟨(⟨x64.Stair.Amount,x64.Stair.Price⟩:Qap),x64.inlet⟩:Qaa)).set ((w64 (y57-1)).toNat) (⟨(⟨x67.Stair.Amount,x67.Stair.Price⟩:Qap),x67.inlet⟩:Qaa))
    else
     k56 (y58)
def slices_symMergeCmpFunc_inject_offerX_2_loop3 (N p0:Nat) (p2:Int) (p4:List Qaa) (k54:Int→Option (List Qaa)):Nat→Int→Int→Option (List Qaa)
  |0,_,_=>none
  |n79+1,y75,y76=>
    bif (decide (y75<y76)) then
     (some (w64 ((IntKind.wrap .u64 (w64 (y75+y76)))/2))).bind fun x81=>
     chk (decide (0≤p2)&&decide (p2.toNat<p0))<|
     (p4[p2.toNat]?).bind fun x84=>
     chk (decide (0≤x81)&&decide (x81.toNat<p0))<|
     (p4[x81.toNat]?).bind fun x87=>
     (Qb3 N (⟨(⟨x84.Stair.Amount,x84.Stair.Price⟩:Qap),x84.inlet⟩:Qaa) (⟨(⟨x87.Stair.Amount,x87.Stair.Price⟩:Qap),x87.inlet⟩:Qaa)).bind fun x90=>
     bif (!(decide (x90<0))) then
      slices_symMergeCmpFunc_inject_offerX_2_loop3 N p0 p2 p4 k54 n79 (w64 (x81+1)) y76
     else
      slices_symMergeCmpFunc_inject_offerX_2_loop3 N p0 p2 p4 k54 n79 y75 x81
    else
     k54 (y75)
def Qbb (N p0:Nat) (y93:Int) (k96:(List Qaa)→Option (List Qaa)):Nat→Int→(List Qaa)→Option (List Qaa)
  |0,_,_=>none
  |n101+1,y97,y98=>
    bif (decide (y97<(w64 (y93-1)))) then
     chk (decide (0≤w64 (y97+1))&&decide ((w64 (y97+1)).toNat<p0))<|
     (y98[(w64 (y97+1)).toNat]?).bind fun x104=>
     chk (decide (0≤y97)&&decide (y97.toNat<p0))<|
     (y98[y97.toNat]?).bind fun x107=>
     chk (decide (0≤y97)&&decide (y97.toNat<p0))<|
     (y98[y97.toNat]?).bind fun _=>
     chk (decide (0≤w64 (y97+1))&&decide ((w64 (y97+1)).toNat<p0))<|
     ((y98.set y97.toNat (⟨(⟨x104.Stair.Amount,x104.Stair.Price⟩:Qap),x104.inlet⟩:Qaa))[(w64 (y97+1)).toNat]?).bind fun _=>
     Qbb N p0 y93 k96 n101 (w64 (y97+1)) ((y98.set y97.toNat (⟨(⟨x104.Stair.Amount,x104.Stair.Price⟩:Qap),x104.inlet⟩:Qaa)).set ((w64 (y97+1)).toNat) (⟨(⟨x107.Stair.Amount,x107.Stair.Price⟩:Qap),x107.inlet⟩:Qaa))
    else
     k96 (y98)
def slices_symMergeCmpFunc_inject_offerX_2_loop5 (N p0:Nat) (p1:Int) (p4:List Qaa) (k94:Int→Option (List Qaa)):Nat→Int→Int→Option (List Qaa)
  |0,_,_=>none
  |n119+1,y115,y116=>
    bif (decide (y115<y116)) then
     (some (w64 ((IntKind.wrap .u64 (w64 (y115+y116)))/2))).bind fun x121=>
     chk (decide (0≤x121)&&decide (x121.toNat<p0))<|
     (p4[x121.toNat]?).bind fun x124=>
     chk (decide (0≤p1)&&decide (p1.toNat<p0))<|
     (p4[p1.toNat]?).bind fun x127=>
     (Qb3 N (⟨(⟨x124.Stair.Amount,x124.Stair.Price⟩:Qap),x124.inlet⟩:Qaa) (⟨(⟨x127.Stair.Amount,x127.Stair.Price⟩:Qap),x127.inlet⟩:Qaa)).bind fun x130=>
     bif (decide (x130<0)) then
      slices_symMergeCmpFunc_inject_offerX_2_loop5 N p0 p1 p4 k94 n119 (w64 (x121+1)) y116
     else
      slices_symMergeCmpFunc_inject_offerX_2_loop5 N p0 p1 p4 k94 n119 y115 x121
    else
     k94 (y115)
def Qcu (N:Nat) (rec_:Nat→Int→Int→Int→(List Qaa)→Option (List Qaa)) (p0:Nat) (p1 p2 p3:Int) (p4:List Qaa):Option (List Qaa):=
  Qcy (fun _=>
    Qcy (fun _=>
      (some (w64 ((IntKind.wrap .u64 (w64 (p1+p3)))/2))).bind fun x5=>
      Qcy (fun ⟨y7,y8⟩=>
        (some (w64 ((w64 (x5+p2))-1))).bind fun x10=>
        Qcy (fun y12=>
          (some (w64 ((w64 (x5+p2))-y12))).bind fun x14=>
          Qcy (fun y16=>
            Qcy (fun y18=>
              bif (decide (x5<x14)) then
               bif (decide (x14<p3)) then
                (rec_ p0 x5 x14 p3 y18).bind fun x23=>
                some x23
               else
                some y18
              else
               some y18) fun k19:(List Qaa)→Option (List Qaa)=>
            bif (decide (p1<y12)) then
             bif (decide (y12<x5)) then
              (rec_ p0 p1 y12 x5 y16).bind fun x27=>
              k19 (x27)
             else
              k19 (y16)
            else
             k19 y16) fun k17:(List Qaa)→Option (List Qaa)=>
          bif (decide (y12<p2)) then
           bif (decide (p2<x14)) then
            (Qca N p0 y12 p2 x14 p4).bind fun x31=>
            k17 (x31)
           else
            k17 (p4)
          else
           k17 p4) fun k13:Int→Option (List Qaa)=>
        slices_symMergeCmpFunc_inject_offerX_2_loop1 N p0 p4 x10 k13 N y7 y8) fun k9:Int×Int→Option (List Qaa)=>
      bif (decide (p2>x5)) then
       (some (w64 ((w64 (x5+p2))-p3))).bind fun x50=>
       k9 (x50,x5)
      else
       k9 (p1,p2)) fun k4:Unit→Option (List Qaa)=>
    bif ((w64 (p3-p2))==1) then
     Qcy (fun y53=>
       Qcy (fun y55=>
         some y55) fun k56:(List Qaa)→Option (List Qaa)=>
       Qbc N p0 y53 k56 N p2 p4) fun k54:Int→Option (List Qaa)=>
     slices_symMergeCmpFunc_inject_offerX_2_loop3 N p0 p2 p4 k54 N p1 p2
    else
     k4 ()) fun k3:Unit→Option (List Qaa)=>
  bif ((w64 (p2-p1))==1) then
   Qcy (fun y93=>
     Qcy (fun y95=>
       some y95) fun k96:(List Qaa)→Option (List Qaa)=>
     Qbb N p0 y93 k96 N p1 p4) fun k94:Int→Option (List Qaa)=>
   slices_symMergeCmpFunc_inject_offerX_2_loop5 N p0 p1 p4 k94 N p2 p3
  else
   k3 ()
def Qax:Nat→Nat→Int→Int→Int→(List Qaa)→Option (List Qaa)
  |0,_,_,_,_,_=>none
  |N+1,p0,p1,p2,p3,p4=>Qcu N (Qax N) p0 p1 p2 p3 p4
abbrev Qg1:AV:=.fn (.func 57) [] [(.ref 1 1 (0) 0)]
abbrev Qfk (p4:List Qaa):Slot:=.own 3 (p4.map Qac)
abbrev Qd2:Slot:=.own 1 [[(.fn (.func 39) [] [])]]
def Qm7 (y18:List Qaa):Slot:=.own 3 (y18.map Qac)
def Q4o (x41:Qaa):AV:=.agg [(I x41.Stair.Amount),(I x41.Stair.Price),(I x41.inlet)]
def Q4n (x44:Qaa):AV:=.agg [(I x44.Stair.Amount),(I x44.Stair.Price),(I x44.inlet)]
def Qk6 (y58:List Qaa):Slot:=.own 3 (y58.map Qac)
def Qx5 (x64:Qaa):AV:=.agg [(I x64.Stair.Amount),(I x64.Stair.Price),(I x64.inlet)]
def Qx3 (x67:Qaa):AV:=.agg [(I x67.Stair.Amount),(I x67.Stair.Price),(I x67.inlet)]
def Qte (y58:List Qaa) (y57:Int) (x64:Qaa):Slot:=.own 3 ((y58.set y57.toNat (⟨(⟨x64.Stair.Amount,x64.Stair.Price⟩:Qap),x64.inlet⟩:Qaa):List Qaa).map Qac)
def Qx2 (y58:List Qaa) (y57:Int) (x64 x67:Qaa):Slot:=.own 3 (((y58.set y57.toNat (⟨(⟨x64.Stair.Amount,x64.Stair.Price⟩:Qap),x64.inlet⟩:Qaa)).set ((w64 (y57-1)).toNat) (⟨(⟨x67.Stair.Amount,x67.Stair.Price⟩:Qap),x67.inlet⟩:Qaa):List Qaa).map Qac)
def Q4m (x84:Qaa):AV:=.agg [(I x84.Stair.Amount),(I x84.Stair.Price),(I x84.inlet)]
def Q4l (x87:Qaa):AV:=.agg [(I x87.Stair.Amount),(I x87.Stair.Price),(I x87.inlet)]
def Qk5 (y98:List Qaa):Slot:=.own 3 (y98.map Qac)
def Qx4 (x104:Qaa):AV:=.agg [(I x104.Stair.Amount),(I x104.Stair.Price),(I x104.inlet)]
def Qx1 (x107:Qaa):AV:=.agg [(I x107.Stair.Amount),(I x107.Stair.Price),(I x107.inlet)]
def Qtd (y98:List Qaa) (y97:Int) (x104:Qaa):Slot:=.own 3 ((y98.set y97.toNat (⟨(⟨x104.Stair.Amount,x104.Stair.Price⟩:Qap),x104.inlet⟩:Qaa):List Qaa).map Qac)
def Qx0 (y98:List Qaa) (y97:Int) (x104 x107:Qaa):Slot:=.own 3 (((y98.set y97.toNat (⟨(⟨x104.Stair.Amount,x104.Stair.Price⟩:Qap),x104.inlet⟩:Qaa)).set ((w64 (y97+1)).toNat) (⟨(⟨x107.Stair.Amount,x107.Stair.Price⟩:Qap),x107.inlet⟩:Qaa):List Qaa).map Qac)
def Q4k (x124:Qaa):AV:=.agg [(I x124.Stair.Amount),(I x124.Stair.Price),(I x124.inlet)]
def Q4j (x127:Qaa):AV:=.agg [(I x127.Stair.Amount),(I x127.Stair.Price),(I x127.inlet)]
theorem Qez:∀(N p0:Nat) (p1 p2 p3:Int) (p4 r:List Qaa) (_:Qax N p0 p1 p2 p3 p4=some r),Spec prog 68 [(.own 0 3 (0) p0),(I p1),(I p2),(I p3),Qg1] [(Qfk p4),Qd2] (.tup []) [(.own 3 (r.map Qac)),Qd2]:=by
  intro N
  induction N with
  |zero=>intro p0 p1 p2 p3 p4 r h;exact nomatch (show(none:Option (List Qaa))=some r from h)
  |succ N ihX=>
  intro p0 p1 p2 p3 p4 r h
  replace h:Qcu N (Qax N) p0 p1 p2 p3 p4=some r:=h
  refine sF func68 2 fun _ _ _ hq hd0=>?_
  unfold Qcu at h
  obtain⟨k3,hk_k3,h⟩:=jko h
  refine wjn (τ:=Unit) (fun t=>k3 t=some r) (fun _=>⟨mk 220 [(0,(.own 0 3 (0) p0)),(1,I p1),(2,I p2),(3,I p3),(4,Qg1)],[(Qfk p4),Qd2]⟩) (fun t h=>?_) ?_
  ·subst hk_k3
   obtain⟨k4,hk_k4,h⟩:=jko h
   refine wjn (τ:=Unit) (fun t=>k4 t=some r) (fun _=>⟨mk 220 [(0,(.own 0 3 (0) p0)),(1,I p1),(2,I p2),(3,I p3),(4,Qg1)],[(Qfk p4),Qd2]⟩) (fun t h=>?_) ?_
   ·subst hk_k4
    obtain⟨x5,hl6,h⟩:=bno h
    refine wx tbk [(3,rp [(.tmp 131,(I (w64 (p1+p3))))] (K .u64 (IntKind.wrap .u64 (w64 (p1+p3))))),(4,rp [(.tmp 132,(K .u64 (IntKind.wrap .u64 (w64 (p1+p3))))),(.const (.int .u64 1),(K .u64 (1)))] (K .u64 ((IntKind.wrap .u64 (w64 (p1+p3)))/2))),(5,rp [(.tmp 133,(K .u64 ((IntKind.wrap .u64 (w64 (p1+p3)))/2)))] (I (w64 ((IntKind.wrap .u64 (w64 (p1+p3)))/2)))),(6,rp [(.tmp 134,(I (w64 ((IntKind.wrap .u64 (w64 (p1+p3)))/2))))] (I x5))] ⟨acv rfl (by rw[underlying3];rfl) underlying127,Qi2 rfl (by decide) (by decide),acv rfl (by rw[underlying127];rfl) underlying3,Qfh hl6 (aas rfl),tv⟩<|wxz<|wxz ?_
    obtain⟨k9,hk_k9,h⟩:=jko h
    refine wjn (τ:=Int×Int) (fun t=>k9 t=some r) (fun ⟨y7,y8⟩=>⟨mk 220 [(0,(.own 0 3 (0) p0)),(1,I p1),(2,I p2),(3,I p3),(4,Qg1),(18,I x5),(19,(I (w64 (x5+p2)))),(20,I y7),(21,I y8)],[(Qfk p4),Qd2]⟩) (fun t h=>?_) ?_
    ·subst hk_k9
     obtain⟨y7,y8⟩:=t
     obtain⟨x10,hl11,h⟩:=bno h
     refine wx tbk [(2,rp [(.tmp 148,(I (w64 ((w64 (x5+p2))-1))))] (I x10))] ⟨Qfh hl11 (aas rfl),tv⟩ ?_
     obtain⟨k13,hk_k13,h⟩:=jko h
     refine wjn (τ:=Int) (fun t=>k13 t=some r) (fun y12=>⟨mk 220 [(0,(.own 0 3 (0) p0)),(1,I p1),(2,I p2),(3,I p3),(4,Qg1),(18,I x5),(19,(I (w64 (x5+p2)))),(20,I y12)],[(Qfk p4),Qd2]⟩) (fun y12 h=>?_) ?_
     ·subst hk_k13
      obtain⟨x14,hl15,h⟩:=bno h
      refine wx tbk [(3,rp [(.tmp 177,(I (w64 ((w64 (x5+p2))-y12))))] (I x14))] ⟨Qfh hl15 (aas rfl),tv⟩ ?_
      obtain⟨k17,hk_k17,h⟩:=jko h
      refine wjn (τ:=(List Qaa)) (fun t=>k17 t=some r) (fun y16=>⟨mk 220 [(0,(.own 0 3 (0) p0)),(1,I p1),(3,I p3),(4,Qg1),(18,I x5),(20,I y12),(24,I x14)],[(.own 3 (y16.map Qac)),Qd2]⟩) (fun y16 h=>?_) ?_
      ·subst hk_k17
       obtain⟨k19,hk_k19,h⟩:=jko h
       refine wjn (τ:=(List Qaa)) (fun t=>k19 t=some r) (fun y18=>⟨mk 220 [(0,(.own 0 3 (0) p0)),(3,I p3),(4,Qg1),(18,I x5),(24,I x14)],[(Qm7 y18),Qd2]⟩) (fun y18 h=>?_) ?_
       ·subst hk_k19
        refine bfe h (fun hb20 h=>?_) fun hb20 h=>?_
        ·refine wx tbk [(3,rp [(.tmp 208,(B ((decide (x5<x14)))))] (B true))] ⟨asb hb20 (amv rfl),tv⟩ ?_
         refine bfe h (fun hc21 h=>?_) fun hc21 h=>?_
         ·refine wft hc21 ?_
          obtain⟨x23,hf22,h⟩:=bno h
          refine wx1 tbk [(5,⟨_,_,_,_,false⟩)] ⟨acq [(.own 0 3 (0) p0),I x5,I x14,I p3,Qg1] [(Qm7 y18),Qd2] [(.own 3 (x23.map Qac)),Qd2] (.tup []) [0,1] Qlk (ihX p0 x5 x14 p3 y18 _ hf22) (Qb1 (rnc (Qgu rfl) (rncc (rnc (.plain _ nll) (rnc (Qao rn0 (rnc (Qa4 rfl) rn0)) rn0))))) (slc (Qd1 Qab) (slc (Qaj (rnc (.plain _ (NLt.fn _ _ _ nl0 nl0)) rn0)) Qak)) (slc (Qd1 Qab) (slc (Qaj (rnc (.plain _ (NLt.fn _ _ _ nl0 nl0)) rn0)) Qak)) (.plain _ (NLt.tup _ nl0)),tv⟩ ?_
          obtain rfl:=osi h
          exact⟨_,(mto (n:=220) (l':=[]) (own':=[(.own 3 (x23.map Qac)),Qd2]) [] [0,1] [(.own 3 (x23.map Qac)),Qd2] hq pn (qc (spr Qab) (qb (lc (.rn (Qao rn0 rn0)) ln) qn))),fio [] tv⟩
         ·refine wfn hc21<|Qai ?_
          obtain rfl:=osi h
          exact⟨_,(mto (n:=220) (l':=[]) (own':=[(Qm7 y18),Qd2]) [] [0,1] [(Qm7 y18),Qd2] hq pn (qc (spr Qab) (qb (lc (.rn (Qao rn0 rn0)) ln) qn))),fio [] tv⟩
        ·refine wx tbk [(3,rp [(.tmp 208,(B ((decide (x5<x14)))))] (B false))] ⟨asb hb20 (amv rfl),tv⟩<|wfa<|Qai ?_
         obtain rfl:=osi h
         exact⟨_,(mto (n:=220) (l':=[]) (own':=[(Qm7 y18),Qd2]) [] [0,1] [(Qm7 y18),Qd2] hq pn (qc (spr Qab) (qb (lc (.rn (Qao rn0 rn0)) ln) qn))),fio [] tv⟩
       ·skip
        refine bfe h (fun hb24 h=>?_) fun hb24 h=>?_
        ·refine wx tbk [(3,rp [(.tmp 194,(B ((decide (p1<y12)))))] (B true))] ⟨asb hb24 (amv rfl),tv⟩ ?_
         refine bfe h (fun hc25 h=>?_) fun hc25 h=>?_
         ·refine wft hc25 ?_
          obtain⟨x27,hf26,h⟩:=bno h
          refine wx1 tbk [(5,⟨_,_,_,_,false⟩)] ⟨acq [(.own 0 3 (0) p0),I p1,I y12,I x5,Qg1] [(.own 3 (y16.map Qac)),Qd2] [(.own 3 (x27.map Qac)),Qd2] (.tup []) [0,1] Qlk (ihX p0 p1 y12 x5 y16 _ hf26) (Qb1 (rnc (Qgu rfl) (rncc (rnc (.plain _ nll) (rnc (Qao rn0 (rnc (Qa4 rfl) rn0)) rn0))))) (slc (Qd1 Qab) (slc (Qaj (rnc (.plain _ (NLt.fn _ _ _ nl0 nl0)) rn0)) Qak)) (slc (Qd1 Qab) (slc (Qaj (rnc (.plain _ (NLt.fn _ _ _ nl0 nl0)) rn0)) Qak)) (.plain _ (NLt.tup _ nl0)),tv⟩<|thn ?_
          exact⟨(x27),h,(mto (n:=220) [(0,(.own 0 3 (0) p0)),(3,I p3),(4,Qg1),(18,I x5),(24,I x14)] [0,1] [(.own 3 (x27.map Qac)),Qd2] hq (pc (.rn (Qbj rfl)) (pw (pc (.rn (Qao rn0 (rnc (rqr rfl) rn0))) (pw (pw pn))))) (qc (spr Qab) (qb (lc (.rn (Qao rn0 rn0)) ln) qn)))⟩
         ·exact wfn hc25<|Qai<|thn<|⟨(y16),h,(mto (n:=220) [(0,(.own 0 3 (0) p0)),(3,I p3),(4,Qg1),(18,I x5),(24,I x14)] [0,1] [(.own 3 (y16.map Qac)),Qd2] hq (pc (.rn (Qbj rfl)) (pw (pc (.rn (Qao rn0 (rnc (rqr rfl) rn0))) (pw (pw pn))))) (qc (spr Qab) (qb (lc (.rn (Qao rn0 rn0)) ln) qn)))⟩
        ·exact wx tbk [(3,rp [(.tmp 194,(B ((decide (p1<y12)))))] (B false))] ⟨asb hb24 (amv rfl),tv⟩<|wfa<|Qai<|thn<|⟨(y16),h,(mto (n:=220) [(0,(.own 0 3 (0) p0)),(3,I p3),(4,Qg1),(18,I x5),(24,I x14)] [0,1] [(.own 3 (y16.map Qac)),Qd2] hq (pc (.rn (Qbj rfl)) (pw (pc (.rn (Qao rn0 (rnc (rqr rfl) rn0))) (pw (pw pn))))) (qc (spr Qab) (qb (lc (.rn (Qao rn0 rn0)) ln) qn)))⟩
      ·skip
       refine bfe h (fun hb28 h=>?_) fun hb28 h=>?_
       ·refine wx tbk [(3,rp [(.tmp 180,(B ((decide (y12<p2)))))] (B true))] ⟨asb hb28 (amv rfl),tv⟩ ?_
        refine bfe h (fun hc29 h=>?_) fun hc29 h=>?_
        ·refine wft hc29 ?_
         obtain⟨x31,hf30,h⟩:=bno h
         refine wx1 tbk [(5,⟨_,_,_,_,false⟩)] ⟨acq [(.own 0 3 (0) p0),I y12,I p2,I x14,Qg1] [(Qfk p4),Qd2] [(.own 3 (x31.map Qac)),Qd2] (.tup []) [0,1] Qz0 (Qg6 N p0 y12 p2 x14 p4 _ hf30) (Qb1 (rnc (Qgu rfl) (rncc (rnc (.plain _ nll) (rnc (Qao rn0 (rnc (Qa4 rfl) rn0)) rn0))))) (slc (Qd1 Qab) (slc (Qaj (rnc (.plain _ (NLt.fn _ _ _ nl0 nl0)) rn0)) Qak)) (slc (Qd1 Qab) (slc (Qaj (rnc (.plain _ (NLt.fn _ _ _ nl0 nl0)) rn0)) Qak)) (.plain _ (NLt.tup _ nl0)),tv⟩<|thn ?_
         exact⟨(x31),h,(mto (n:=220) [(0,(.own 0 3 (0) p0)),(1,I p1),(3,I p3),(4,Qg1),(18,I x5),(20,I y12),(24,I x14)] [0,1] [(.own 3 (x31.map Qac)),Qd2] hq (pc (.rn (Qbj rfl)) (pw (pw (pc (.rn (Qao rn0 (rnc (rqr rfl) rn0))) (pw (pw (pw pn))))))) (qc (spr Qab) (qb (lc (.rn (Qao rn0 rn0)) ln) qn)))⟩
        ·exact wfn hc29<|Qai<|thn<|⟨(p4),h,(mto (n:=220) [(0,(.own 0 3 (0) p0)),(1,I p1),(3,I p3),(4,Qg1),(18,I x5),(20,I y12),(24,I x14)] [0,1] [(Qfk p4),Qd2] hq (pc (.rn (Qbj rfl)) (pw (pw (pc (.rn (Qao rn0 (rnc (rqr rfl) rn0))) (pw (pw (pw pn))))))) (qc (spr Qab) (qb (lc (.rn (Qao rn0 rn0)) ln) qn)))⟩
       ·exact wx tbk [(3,rp [(.tmp 180,(B ((decide (y12<p2)))))] (B false))] ⟨asb hb28 (amv rfl),tv⟩<|wfa<|Qai<|thn<|⟨(p4),h,(mto (n:=220) [(0,(.own 0 3 (0) p0)),(1,I p1),(3,I p3),(4,Qg1),(18,I x5),(20,I y12),(24,I x14)] [0,1] [(Qfk p4),Qd2] hq (pc (.rn (Qbj rfl)) (pw (pw (pc (.rn (Qao rn0 (rnc (rqr rfl) rn0))) (pw (pw (pw pn))))))) (qc (spr Qab) (qb (lc (.rn (Qao rn0 rn0)) ln) qn)))⟩
     ·skip
      refine Qaf<|wmr (mto (n:=220) (l':=[(0,(.own 0 3 (0) p0)),(1,I p1),(2,I p2),(3,I p3),(4,Qg1),(18,I x5),(19,(I (w64 (x5+p2)))),(20,I y7),(21,I y8),(22,I x10)]) (own':=[(Qfk p4),Qd2]) [(0,(.own 0 3 (0) p0)),(1,I p1),(2,I p2),(3,I p3),(4,Qg1),(18,I x5),(19,(I (w64 (x5+p2)))),(20,I y7),(21,I y8),(22,I x10)] [0,1] [(Qfk p4),Qd2] hq (pc (.rn (Qbj rfl)) (pw (pw (pw (pc (.rn (Qao rn0 (rnc (rqr rfl) rn0))) (pw (pw (pw (pw (pw pn)))))))))) (qc (spr Qab) (qb (lc (.rn (Qao rn0 rn0)) ln) qn))) ?_
      refine Qbx (τ:=Int×Int) (fun n t=>slices_symMergeCmpFunc_inject_offerX_2_loop1 N p0 p4 x10 k13 n t.1 t.2=some r) (fun ⟨y32,y33⟩=>⟨mk 220 [(0,(.own 0 3 (0) p0)),(1,I p1),(2,I p2),(3,I p3),(4,Qg1),(18,I x5),(19,(I (w64 (x5+p2)))),(20,I y32),(21,I y33),(22,I x10)],[(Qfk p4),Qd2]⟩) (fun t h=>by rw[slices_symMergeCmpFunc_inject_offerX_2_loop1] at h;cases h) (fun n36 ih t h=>?_) N (y7,y8) h
      obtain⟨y32,y33⟩:=t
      rw[slices_symMergeCmpFunc_inject_offerX_2_loop1] at h
      skip
      refine wsq<|wxz ?_
      refine bfe h (fun hc37 h=>?_) fun hc37 h=>?_
      ·refine wft hc37<|Qai<|thn<|Qaf ?_
       obtain⟨x38,hl39,h⟩:=bno h
       refine wx tbk [(3,rp [(.tmp 154,(I (w64 (y32+y33))))] (K .u64 (IntKind.wrap .u64 (w64 (y32+y33))))),(4,rp [(.tmp 155,(K .u64 (IntKind.wrap .u64 (w64 (y32+y33))))),(.const (.int .u64 1),(K .u64 (1)))] (K .u64 ((IntKind.wrap .u64 (w64 (y32+y33)))/2))),(5,rp [(.tmp 156,(K .u64 ((IntKind.wrap .u64 (w64 (y32+y33)))/2)))] (I (w64 ((IntKind.wrap .u64 (w64 (y32+y33)))/2)))),(6,rp [(.tmp 157,(I (w64 ((IntKind.wrap .u64 (w64 (y32+y33)))/2))))] (I x38))] ⟨acv rfl (by rw[underlying3];rfl) underlying127,Qi2 rfl (by decide) (by decide),acv rfl (by rw[underlying127];rfl) underlying3,Qfh hl39 (aas rfl),tv⟩ ?_
       obtain⟨hi40,h⟩:=cko h
       obtain⟨hi40a,hi40b⟩:=Qbp hi40
       obtain⟨x41,hg42,h⟩:=bno h
       obtain⟨hi43,h⟩:=cko h
       obtain⟨hi43a,hi43b⟩:=Qbp hi43
       obtain⟨x44,hg45,h⟩:=bno h
       obtain⟨x47,hf46,h⟩:=bno h
       refine wxd tbk [(5,rb [(.tmp 159,(.own 0 3 (0) p0)),(.tmp 162,(I (w64 (x10-x38))))] [(0,(Qfk p4))] (.ref 0 3 ((w64 (x10-x38)).toNat) 0)),(6,rb [(.tmp 163,(.ref 0 3 ((w64 (x10-x38)).toNat) 0))] [(0,(Qfk p4))] (Q4o x41)),(9,rb [(.tmp 165,(.own 0 3 (0) p0)),(.tmp 166,I x38)] [(0,(Qfk p4))] (.ref 0 3 x38.toNat 0)),(10,rb [(.tmp 167,(.ref 0 3 x38.toNat 0))] [(0,(Qfk p4))] (Q4n x44)),(11,⟨_,_,_,_,false⟩)] ⟨aio rfl underlying87 ti94 (odt hi40a) (odt hi40b) (Nat.zero_add _),ald rfl ti94 (by decide) (mgt Qac hg42) (nle rfl) rfl,aio rfl underlying87 ti94 (odt hi43a) (odt hi43b) (Nat.zero_add _),ald rfl ti94 (by decide) (mgt Qac hg45) (nle rfl) rfl,Qei (first:=[]) (cap:=[.ref 1 1 0 0]) (vs:=[(.agg [(I ((⟨(⟨x41.Stair.Amount,x41.Stair.Price⟩:Qap),x41.inlet⟩:Qaa).Stair.Amount)),(I ((⟨(⟨x41.Stair.Amount,x41.Stair.Price⟩:Qap),x41.inlet⟩:Qaa).Stair.Price)),(I ((⟨(⟨x41.Stair.Amount,x41.Stair.Price⟩:Qap),x41.inlet⟩:Qaa).inlet))]),(.agg [(I ((⟨(⟨x44.Stair.Amount,x44.Stair.Price⟩:Qap),x44.inlet⟩:Qaa).Stair.Amount)),(I ((⟨(⟨x44.Stair.Amount,x44.Stair.Price⟩:Qap),x44.inlet⟩:Qaa).Stair.Price)),(I ((⟨(⟨x44.Stair.Amount,x44.Stair.Price⟩:Qap),x44.inlet⟩:Qaa).inlet))])]) (σr:=[Qd2]) (σr':=[Qd2]) (res':=(I x47)) [1] rfl Qrb (Qdu N (⟨(⟨x41.Stair.Amount,x41.Stair.Price⟩:Qap),x41.inlet⟩:Qaa) (⟨(⟨x44.Stair.Amount,x44.Stair.Price⟩:Qap),x44.inlet⟩:Qaa) _ hf46) rfl (Qb1 (rnc (.plain _ (NLt.agg _ (nlcc (nlc nll nl0)))) (rnc (.plain _ (NLt.agg _ (nlcc (nlc nll nl0)))) (rnc (Qa4 rfl) rn0)))) (slc (Qaj (rnc (.plain _ (NLt.fn _ _ _ nl0 nl0)) rn0)) Qak) (slc (Qaj (rnc (.plain _ (NLt.fn _ _ _ nl0 nl0)) rn0)) Qak) (.plain _ nll) rfl rfl rfl,tv⟩ ?_
       refine bfe h (fun hc48 h=>?_) fun hc48 h=>?_
       ·exact wft hc48<|wxz1<|bln<|thn<|arm (mto (n:=220) [(0,(.own 0 3 (0) p0)),(1,I p1),(2,I p2),(3,I p3),(4,Qg1),(18,I x5),(19,(I (w64 (x5+p2)))),(20,(I (w64 (x38+1)))),(21,I y33),(22,I x10)] [0,1] [(Qfk p4),Qd2] hq (pc (.rn (Qbj rfl)) (pw (pw (pw (pc (.rn (Qao rn0 (rnc (rqr rfl) rn0))) (pw (pw (pw (pw (pw pn)))))))))) (qc (spr Qab) (qb (lc (.rn (Qao rn0 rn0)) ln) qn))) (ih (w64 (x38+1),y33) h)
       ·exact wfn hc48<|wxz1<|bln<|thn<|arm (mto (n:=220) [(0,(.own 0 3 (0) p0)),(1,I p1),(2,I p2),(3,I p3),(4,Qg1),(18,I x5),(19,(I (w64 (x5+p2)))),(20,I y32),(21,I x38),(22,I x10)] [0,1] [(Qfk p4),Qd2] hq (pc (.rn (Qbj rfl)) (pw (pw (pw (pc (.rn (Qao rn0 (rnc (rqr rfl) rn0))) (pw (pw (pw (pw (pw pn)))))))))) (qc (spr Qab) (qb (lc (.rn (Qao rn0 rn0)) ln) qn))) (ih (y32,x38) h)
      ·exact wfn hc37<|Qa3<|Qan<|Qan<|Qa2 rfl<|thn<|⟨(y32),h,(mto (n:=220) [(0,(.own 0 3 (0) p0)),(1,I p1),(2,I p2),(3,I p3),(4,Qg1),(18,I x5),(19,(I (w64 (x5+p2)))),(20,I y32)] [0,1] [(Qfk p4),Qd2] hq (pc (.rn (Qbj rfl)) (pw (pw (pw (pc (.rn (Qao rn0 (rnc (rqr rfl) rn0))) (pw (pw (pw pn)))))))) (qc (spr Qab) (qb (lc (.rn (Qao rn0 rn0)) ln) qn)))⟩
    ·skip
     refine wxz ?_
     refine bfe h (fun hc49 h=>?_) fun hc49 h=>?_
     ·refine wft hc49 ?_
      obtain⟨x50,hl51,h⟩:=bno h
      exact wx tbk [(3,rp [(.tmp 143,(I (w64 ((w64 (x5+p2))-p3))))] (I x50))] ⟨Qfh hl51 (aas rfl),tv⟩<|wxz1<|thn<|⟨(x50,x5),h,(mto (n:=220) [(0,(.own 0 3 (0) p0)),(1,I p1),(2,I p2),(3,I p3),(4,Qg1),(18,I x5),(19,(I (w64 (x5+p2)))),(20,I x50),(21,I x5)] [0,1] [(Qfk p4),Qd2] hq (pc (.rn (Qbj rfl)) (pw (pw (pw (pc (.rn (Qao rn0 (rnc (rqr rfl) rn0))) (pw (pw (pw (pw pn))))))))) (qc (spr Qab) (qb (lc (.rn (Qao rn0 rn0)) ln) qn)))⟩
     ·exact wfn hc49<|wxz<|wxz1<|thn<|⟨(p1,p2),h,(mto (n:=220) [(0,(.own 0 3 (0) p0)),(1,I p1),(2,I p2),(3,I p3),(4,Qg1),(18,I x5),(19,(I (w64 (x5+p2)))),(20,I p1),(21,I p2)] [0,1] [(Qfk p4),Qd2] hq (pc (.rn (Qbj rfl)) (pw (pw (pw (pc (.rn (Qao rn0 (rnc (rqr rfl) rn0))) (pw (pw (pw (pw pn))))))))) (qc (spr Qab) (qb (lc (.rn (Qao rn0 rn0)) ln) qn)))⟩
   ·skip
    refine wxz ?_
    refine bfe h (fun hc52 h=>?_) fun hc52 h=>?_
    ·refine wft hc52<|wxz<|wxz ?_
     obtain⟨k54,hk_k54,h⟩:=jko h
     refine wjn (τ:=Int) (fun t=>k54 t=some r) (fun y53=>⟨mk 220 [(0,(.own 0 3 (0) p0)),(2,I p2),(14,I y53)],[(Qfk p4),Qd2]⟩) (fun y53 h=>?_) ?_
     ·subst hk_k54
      obtain⟨k56,hk_k56,h⟩:=jko h
      refine wjn (τ:=(List Qaa)) (fun t=>k56 t=some r) (fun y55=>⟨mk 220 [],[(.own 3 (y55.map Qac)),Qd2]⟩) (fun y55 h=>?_) ?_
      ·subst hk_k56
       refine wmr (mto (n:=220) (l':=[]) (own':=[(.own 3 (y55.map Qac)),Qd2]) [] [0,1] [(.own 3 (y55.map Qac)),Qd2] hq pn (qc (spr Qab) (qb (lc (.rn (Qao rn0 rn0)) ln) qn)))<|Qag<|Qae ?_
       obtain rfl:=osi h
       exact⟨_,Mor.rfl,fio [] tv⟩
      ·skip
       refine wxz<|Qaf ?_
       refine wmr (mto (n:=220) (l':=[(0,(.own 0 3 (0) p0)),(14,I y53),(17,I p2)]) (own':=[(Qfk p4),Qd2]) [(0,(.own 0 3 (0) p0)),(14,I y53),(17,I p2)] [0,1] [(Qfk p4),Qd2] hq (pc (.rn (Qbj rfl)) (pw (pw pn))) (qc (spr Qab) (qb (lc (.rn (Qao rn0 rn0)) ln) qn))) ?_
       refine Qbx (τ:=Int×(List Qaa)) (fun n t=>Qbc N p0 y53 k56 n t.1 t.2=some r) (fun ⟨y57,y58⟩=>⟨mk 220 [(0,(.own 0 3 (0) p0)),(14,I y53),(17,I y57)],[(Qk6 y58),Qd2]⟩) (fun t h=>by rw[Qbc] at h;cases h) (fun n61 ih t h=>?_) N (p2,p4) h
       obtain⟨y57,y58⟩:=t
       rw[Qbc] at h
       skip
       refine wsq<|wxz ?_
       refine bfe h (fun hc62 h=>?_) fun hc62 h=>?_
       ·refine wft hc62<|Qai<|thn<|wsq<|Qaf ?_
        obtain⟨hi63,h⟩:=cko h
        obtain⟨hi63a,hi63b⟩:=Qbp hi63
        obtain⟨x64,hg65,h⟩:=bno h
        obtain⟨hi66,h⟩:=cko h
        obtain⟨hi66a,hi66b⟩:=Qbp hi66
        obtain⟨x67,hg68,h⟩:=bno h
        obtain⟨hi69,h⟩:=cko h
        obtain⟨hi69a,hi69b⟩:=Qbp hi69
        obtain⟨x70,hg71,h⟩:=bno h
        obtain⟨hi72,h⟩:=cko h
        obtain⟨hi72a,hi72b⟩:=Qbp hi72
        obtain⟨x73,hg74,h⟩:=bno h
        refine wy1 tbk [(8,rb [(.tmp 118,(.own 0 3 (0) p0)),(.tmp 120,(I (w64 (y57-1))))] [(0,(Qk6 y58))] (.ref 0 3 ((w64 (y57-1)).toNat) 0)),(9,rb [(.tmp 121,(.ref 0 3 ((w64 (y57-1)).toNat) 0))] [(0,(Qk6 y58))] (Qx5 x64)),(12,rb [(.tmp 123,(.own 0 3 (0) p0)),(.tmp 124,I y57)] [(0,(Qk6 y58))] (.ref 0 3 y57.toNat 0)),(13,rb [(.tmp 125,(.ref 0 3 y57.toNat 0))] [(0,(Qk6 y58))] (Qx3 x67)),(14,rb [(.tmp 113,(.own 0 3 (0) p0)),(.tmp 114,I y57)] [(0,(Qk6 y58))] (.ref 0 3 y57.toNat 0)),(15,⟨[(.tmp 127,(.ref 0 3 y57.toNat 0)),(.tmp 122,(Qx5 x64))],[(0,(Qk6 y58))],.any,[(0,(Qte y58 y57 x64))],false⟩),(16,rb [(.tmp 115,(.own 0 3 (0) p0)),(.tmp 117,(I (w64 (y57-1))))] [(0,(Qte y58 y57 x64))] (.ref 0 3 ((w64 (y57-1)).toNat) 0)),(17,⟨[(.tmp 128,(.ref 0 3 ((w64 (y57-1)).toNat) 0)),(.tmp 126,(Qx3 x67))],[(0,(Qte y58 y57 x64))],.any,[(0,(Qx2 y58 y57 x64 x67))],false⟩)] ⟨aio rfl underlying87 ti94 (odt hi63a) (odt hi63b) (Nat.zero_add _),ald rfl ti94 (by decide) (mgt Qac hg65) (nle rfl) rfl,aio rfl underlying87 ti94 (odt hi66a) (odt hi66b) (Nat.zero_add _),ald rfl ti94 (by decide) (mgt Qac hg68) (nle rfl) rfl,aio rfl underlying87 ti94 (odt hi69a) (odt hi69b) (Nat.zero_add _),ast rfl ti94 (by rfl) (mgt Qac hg71) (nle rfl) (Qhf Qac rfl),aio rfl underlying87 ti94 (odt hi72a) (odt hi72b) (Nat.zero_add _),ast rfl ti94 (by rfl) (mgt Qac hg74) (nle rfl) (Qhf Qac rfl),tv⟩<|bln<|thn<|wxz1<|thn ?_
        exact arm (mto (n:=220) [(0,(.own 0 3 (0) p0)),(14,I y53),(17,(I (w64 (y57-1))))] [0,1] [(Qx2 y58 y57 x64 x67),Qd2] hq (pc (.rn (Qbj rfl)) (pw (pw pn))) (qc (spr Qab) (qb (lc (.rn (Qao rn0 rn0)) ln) qn))) (ih (w64 (y57-1),(y58.set y57.toNat (⟨(⟨x64.Stair.Amount,x64.Stair.Price⟩:Qap),x64.inlet⟩:Qaa)).set ((w64 (y57-1)).toNat) (⟨(⟨x67.Stair.Amount,x67.Stair.Price⟩:Qap),x67.inlet⟩:Qaa)) h)
       ·exact wfn hc62<|Qa3<|Qan<|Qan<|Qa2 rfl<|thn<|⟨(y58),h,(mto (n:=220) [] [0,1] [(Qk6 y58),Qd2] hq pn (qc (spr Qab) (qb (lc (.rn (Qao rn0 rn0)) ln) qn)))⟩
     ·skip
      refine Qaf<|wmr (mto (n:=220) (l':=[(0,(.own 0 3 (0) p0)),(2,I p2),(4,Qg1),(14,I p1),(15,I p2)]) (own':=[(Qfk p4),Qd2]) [(0,(.own 0 3 (0) p0)),(2,I p2),(4,Qg1),(14,I p1),(15,I p2)] [0,1] [(Qfk p4),Qd2] hq (pc (.rn (Qbj rfl)) (pw (pc (.rn (Qao rn0 (rnc (rqr rfl) rn0))) (pw (pw pn))))) (qc (spr Qab) (qb (lc (.rn (Qao rn0 rn0)) ln) qn))) ?_
      refine Qbx (τ:=Int×Int) (fun n t=>slices_symMergeCmpFunc_inject_offerX_2_loop3 N p0 p2 p4 k54 n t.1 t.2=some r) (fun ⟨y75,y76⟩=>⟨mk 220 [(0,(.own 0 3 (0) p0)),(2,I p2),(4,Qg1),(14,I y75),(15,I y76)],[(Qfk p4),Qd2]⟩) (fun t h=>by rw[slices_symMergeCmpFunc_inject_offerX_2_loop3] at h;cases h) (fun n79 ih t h=>?_) N (p1,p2) h
      obtain⟨y75,y76⟩:=t
      rw[slices_symMergeCmpFunc_inject_offerX_2_loop3] at h
      skip
      refine wsq<|wxz ?_
      refine bfe h (fun hc80 h=>?_) fun hc80 h=>?_
      ·refine wft hc80<|Qai<|thn<|Qaf ?_
       obtain⟨x81,hl82,h⟩:=bno h
       refine wx tbk [(3,rp [(.tmp 88,(I (w64 (y75+y76))))] (K .u64 (IntKind.wrap .u64 (w64 (y75+y76))))),(4,rp [(.tmp 89,(K .u64 (IntKind.wrap .u64 (w64 (y75+y76))))),(.const (.int .u64 1),(K .u64 (1)))] (K .u64 ((IntKind.wrap .u64 (w64 (y75+y76)))/2))),(5,rp [(.tmp 90,(K .u64 ((IntKind.wrap .u64 (w64 (y75+y76)))/2)))] (I (w64 ((IntKind.wrap .u64 (w64 (y75+y76)))/2)))),(6,rp [(.tmp 91,(I (w64 ((IntKind.wrap .u64 (w64 (y75+y76)))/2))))] (I x81))] ⟨acv rfl (by rw[underlying3];rfl) underlying127,Qi2 rfl (by decide) (by decide),acv rfl (by rw[underlying127];rfl) underlying3,Qfh hl82 (aas rfl),tv⟩ ?_
       obtain⟨hi83,h⟩:=cko h
       obtain⟨hi83a,hi83b⟩:=Qbp hi83
       obtain⟨x84,hg85,h⟩:=bno h
       obtain⟨hi86,h⟩:=cko h
       obtain⟨hi86a,hi86b⟩:=Qbp hi86
       obtain⟨x87,hg88,h⟩:=bno h
       obtain⟨x90,hf89,h⟩:=bno h
       refine wxd tbk [(3,rb [(.tmp 93,(.own 0 3 (0) p0)),(.tmp 94,I p2)] [(0,(Qfk p4))] (.ref 0 3 p2.toNat 0)),(4,rb [(.tmp 95,(.ref 0 3 p2.toNat 0))] [(0,(Qfk p4))] (Q4m x84)),(7,rb [(.tmp 97,(.own 0 3 (0) p0)),(.tmp 98,I x81)] [(0,(Qfk p4))] (.ref 0 3 x81.toNat 0)),(8,rb [(.tmp 99,(.ref 0 3 x81.toNat 0))] [(0,(Qfk p4))] (Q4l x87)),(9,⟨_,_,_,_,false⟩)] ⟨aio rfl underlying87 ti94 (odt hi83a) (odt hi83b) (Nat.zero_add _),ald rfl ti94 (by decide) (mgt Qac hg85) (nle rfl) rfl,aio rfl underlying87 ti94 (odt hi86a) (odt hi86b) (Nat.zero_add _),ald rfl ti94 (by decide) (mgt Qac hg88) (nle rfl) rfl,Qei (first:=[]) (cap:=[.ref 1 1 0 0]) (vs:=[(.agg [(I ((⟨(⟨x84.Stair.Amount,x84.Stair.Price⟩:Qap),x84.inlet⟩:Qaa).Stair.Amount)),(I ((⟨(⟨x84.Stair.Amount,x84.Stair.Price⟩:Qap),x84.inlet⟩:Qaa).Stair.Price)),(I ((⟨(⟨x84.Stair.Amount,x84.Stair.Price⟩:Qap),x84.inlet⟩:Qaa).inlet))]),(.agg [(I ((⟨(⟨x87.Stair.Amount,x87.Stair.Price⟩:Qap),x87.inlet⟩:Qaa).Stair.Amount)),(I ((⟨(⟨x87.Stair.Amount,x87.Stair.Price⟩:Qap),x87.inlet⟩:Qaa).Stair.Price)),(I ((⟨(⟨x87.Stair.Amount,x87.Stair.Price⟩:Qap),x87.inlet⟩:Qaa).inlet))])]) (σr:=[Qd2]) (σr':=[Qd2]) (res':=(I x90)) [1] rfl Qrb (Qdu N (⟨(⟨x84.Stair.Amount,x84.Stair.Price⟩:Qap),x84.inlet⟩:Qaa) (⟨(⟨x87.Stair.Amount,x87.Stair.Price⟩:Qap),x87.inlet⟩:Qaa) _ hf89) rfl (Qb1 (rnc (.plain _ (NLt.agg _ (nlcc (nlc nll nl0)))) (rnc (.plain _ (NLt.agg _ (nlcc (nlc nll nl0)))) (rnc (Qa4 rfl) rn0)))) (slc (Qaj (rnc (.plain _ (NLt.fn _ _ _ nl0 nl0)) rn0)) Qak) (slc (Qaj (rnc (.plain _ (NLt.fn _ _ _ nl0 nl0)) rn0)) Qak) (.plain _ nll) rfl rfl rfl,tv⟩ ?_
       refine bfe h (fun hc91 h=>?_) fun hc91 h=>?_
       ·exact wft hc91<|wxz1<|bln<|thn<|arm (mto (n:=220) [(0,(.own 0 3 (0) p0)),(2,I p2),(4,Qg1),(14,(I (w64 (x81+1)))),(15,I y76)] [0,1] [(Qfk p4),Qd2] hq (pc (.rn (Qbj rfl)) (pw (pc (.rn (Qao rn0 (rnc (rqr rfl) rn0))) (pw (pw pn))))) (qc (spr Qab) (qb (lc (.rn (Qao rn0 rn0)) ln) qn))) (ih (w64 (x81+1),y76) h)
       ·exact wfn hc91<|wxz1<|bln<|thn<|arm (mto (n:=220) [(0,(.own 0 3 (0) p0)),(2,I p2),(4,Qg1),(14,I y75),(15,I x81)] [0,1] [(Qfk p4),Qd2] hq (pc (.rn (Qbj rfl)) (pw (pc (.rn (Qao rn0 (rnc (rqr rfl) rn0))) (pw (pw pn))))) (qc (spr Qab) (qb (lc (.rn (Qao rn0 rn0)) ln) qn))) (ih (y75,x81) h)
      ·exact wfn hc80<|Qa3<|Qan<|Qan<|Qa2 rfl<|thn<|⟨(y75),h,(mto (n:=220) [(0,(.own 0 3 (0) p0)),(2,I p2),(14,I y75)] [0,1] [(Qfk p4),Qd2] hq (pc (.rn (Qbj rfl)) (pw (pw pn))) (qc (spr Qab) (qb (lc (.rn (Qao rn0 rn0)) ln) qn)))⟩
    ·exact wfn hc52<|Qai<|thn<|⟨(),h,(mto (n:=220) [(0,(.own 0 3 (0) p0)),(1,I p1),(2,I p2),(3,I p3),(4,Qg1)] [0,1] [(Qfk p4),Qd2] hq (pc (.rn (Qbj rfl)) (pw (pw (pw (pc (.rn (Qao rn0 (rnc (rqr rfl) rn0))) pn))))) (qc (spr Qab) (qb (lc (.rn (Qao rn0 rn0)) ln) qn)))⟩
  ·skip
   refine wxz ?_
   refine bfe h (fun hc92 h=>?_) fun hc92 h=>?_
   ·refine wft hc92<|wxz<|wxz ?_
    obtain⟨k94,hk_k94,h⟩:=jko h
    refine wjn (τ:=Int) (fun t=>k94 t=some r) (fun y93=>⟨mk 220 [(0,(.own 0 3 (0) p0)),(1,I p1),(10,I y93)],[(Qfk p4),Qd2]⟩) (fun y93 h=>?_) ?_
    ·subst hk_k94
     obtain⟨k96,hk_k96,h⟩:=jko h
     refine wjn (τ:=(List Qaa)) (fun t=>k96 t=some r) (fun y95=>⟨mk 220 [],[(.own 3 (y95.map Qac)),Qd2]⟩) (fun y95 h=>?_) ?_
     ·subst hk_k96
      refine wmr (mto (n:=220) (l':=[]) (own':=[(.own 3 (y95.map Qac)),Qd2]) [] [0,1] [(.own 3 (y95.map Qac)),Qd2] hq pn (qc (spr Qab) (qb (lc (.rn (Qao rn0 rn0)) ln) qn)))<|Qag<|Qae ?_
      obtain rfl:=osi h
      exact⟨_,Mor.rfl,fio [] tv⟩
     ·skip
      refine wxz<|Qaf ?_
      refine wmr (mto (n:=220) (l':=[(0,(.own 0 3 (0) p0)),(10,I y93),(13,I p1)]) (own':=[(Qfk p4),Qd2]) [(0,(.own 0 3 (0) p0)),(10,I y93),(13,I p1)] [0,1] [(Qfk p4),Qd2] hq (pc (.rn (Qbj rfl)) (pw (pw pn))) (qc (spr Qab) (qb (lc (.rn (Qao rn0 rn0)) ln) qn))) ?_
      refine Qbx (τ:=Int×(List Qaa)) (fun n t=>Qbb N p0 y93 k96 n t.1 t.2=some r) (fun ⟨y97,y98⟩=>⟨mk 220 [(0,(.own 0 3 (0) p0)),(10,I y93),(13,I y97)],[(Qk5 y98),Qd2]⟩) (fun t h=>by rw[Qbb] at h;cases h) (fun n101 ih t h=>?_) N (p1,p4) h
      obtain⟨y97,y98⟩:=t
      rw[Qbb] at h
      skip
      refine wsq<|wxz ?_
      refine bfe h (fun hc102 h=>?_) fun hc102 h=>?_
      ·refine wft hc102<|Qai<|thn<|wsq<|Qaf ?_
       obtain⟨hi103,h⟩:=cko h
       obtain⟨hi103a,hi103b⟩:=Qbp hi103
       obtain⟨x104,hg105,h⟩:=bno h
       obtain⟨hi106,h⟩:=cko h
       obtain⟨hi106a,hi106b⟩:=Qbp hi106
       obtain⟨x107,hg108,h⟩:=bno h
       obtain⟨hi109,h⟩:=cko h
       obtain⟨hi109a,hi109b⟩:=Qbp hi109
       obtain⟨x110,hg111,h⟩:=bno h
       obtain⟨hi112,h⟩:=cko h
       obtain⟨hi112a,hi112b⟩:=Qbp hi112
       obtain⟨x113,hg114,h⟩:=bno h
       refine wy1 tbk [(8,rb [(.tmp 66,(.own 0 3 (0) p0)),(.tmp 68,(I (w64 (y97+1))))] [(0,(Qk5 y98))] (.ref 0 3 ((w64 (y97+1)).toNat) 0)),(9,rb [(.tmp 69,(.ref 0 3 ((w64 (y97+1)).toNat) 0))] [(0,(Qk5 y98))] (Qx4 x104)),(12,rb [(.tmp 71,(.own 0 3 (0) p0)),(.tmp 72,I y97)] [(0,(Qk5 y98))] (.ref 0 3 y97.toNat 0)),(13,rb [(.tmp 73,(.ref 0 3 y97.toNat 0))] [(0,(Qk5 y98))] (Qx1 x107)),(14,rb [(.tmp 61,(.own 0 3 (0) p0)),(.tmp 62,I y97)] [(0,(Qk5 y98))] (.ref 0 3 y97.toNat 0)),(15,⟨[(.tmp 75,(.ref 0 3 y97.toNat 0)),(.tmp 70,(Qx4 x104))],[(0,(Qk5 y98))],.any,[(0,(Qtd y98 y97 x104))],false⟩),(16,rb [(.tmp 63,(.own 0 3 (0) p0)),(.tmp 65,(I (w64 (y97+1))))] [(0,(Qtd y98 y97 x104))] (.ref 0 3 ((w64 (y97+1)).toNat) 0)),(17,⟨[(.tmp 76,(.ref 0 3 ((w64 (y97+1)).toNat) 0)),(.tmp 74,(Qx1 x107))],[(0,(Qtd y98 y97 x104))],.any,[(0,(Qx0 y98 y97 x104 x107))],false⟩)] ⟨aio rfl underlying87 ti94 (odt hi103a) (odt hi103b) (Nat.zero_add _),ald rfl ti94 (by decide) (mgt Qac hg105) (nle rfl) rfl,aio rfl underlying87 ti94 (odt hi106a) (odt hi106b) (Nat.zero_add _),ald rfl ti94 (by decide) (mgt Qac hg108) (nle rfl) rfl,aio rfl underlying87 ti94 (odt hi109a) (odt hi109b) (Nat.zero_add _),ast rfl ti94 (by rfl) (mgt Qac hg111) (nle rfl) (Qhf Qac rfl),aio rfl underlying87 ti94 (odt hi112a) (odt hi112b) (Nat.zero_add _),ast rfl ti94 (by rfl) (mgt Qac hg114) (nle rfl) (Qhf Qac rfl),tv⟩<|bln<|thn<|wxz1<|thn ?_
       exact arm (mto (n:=220) [(0,(.own 0 3 (0) p0)),(10,I y93),(13,(I (w64 (y97+1))))] [0,1] [(Qx0 y98 y97 x104 x107),Qd2] hq (pc (.rn (Qbj rfl)) (pw (pw pn))) (qc (spr Qab) (qb (lc (.rn (Qao rn0 rn0)) ln) qn))) (ih (w64 (y97+1),(y98.set y97.toNat (⟨(⟨x104.Stair.Amount,x104.Stair.Price⟩:Qap),x104.inlet⟩:Qaa)).set ((w64 (y97+1)).toNat) (⟨(⟨x107.Stair.Amount,x107.Stair.Price⟩:Qap),x107.inlet⟩:Qaa)) h)
      ·exact wfn hc102<|Qa3<|Qan<|Qan<|Qa2 rfl<|thn<|⟨(y98),h,(mto (n:=220) [] [0,1] [(Qk5 y98),Qd2] hq pn (qc (spr Qab) (qb (lc (.rn (Qao rn0 rn0)) ln) qn)))⟩
    ·skip
     refine Qaf<|wmr (mto (n:=220) (l':=[(0,(.own 0 3 (0) p0)),(1,I p1),(4,Qg1),(10,I p2),(11,I p3)]) (own':=[(Qfk p4),Qd2]) [(0,(.own 0 3 (0) p0)),(1,I p1),(4,Qg1),(10,I p2),(11,I p3)] [0,1] [(Qfk p4),Qd2] hq (pc (.rn (Qbj rfl)) (pw (pc (.rn (Qao rn0 (rnc (rqr rfl) rn0))) (pw (pw pn))))) (qc (spr Qab) (qb (lc (.rn (Qao rn0 rn0)) ln) qn))) ?_
     refine Qbx (τ:=Int×Int) (fun n t=>slices_symMergeCmpFunc_inject_offerX_2_loop5 N p0 p1 p4 k94 n t.1 t.2=some r) (fun ⟨y115,y116⟩=>⟨mk 220 [(0,(.own 0 3 (0) p0)),(1,I p1),(4,Qg1),(10,I y115),(11,I y116)],[(Qfk p4),Qd2]⟩) (fun t h=>by rw[slices_symMergeCmpFunc_inject_offerX_2_loop5] at h;cases h) (fun n119 ih t h=>?_) N (p2,p3) h
     obtain⟨y115,y116⟩:=t
     rw[slices_symMergeCmpFunc_inject_offerX_2_loop5] at h
     skip
     refine wsq<|wxz ?_
     refine bfe h (fun hc120 h=>?_) fun hc120 h=>?_
     ·refine wft hc120<|Qai<|thn<|Qaf ?_
      obtain⟨x121,hl122,h⟩:=bno h
      refine wx tbk [(3,rp [(.tmp 36,(I (w64 (y115+y116))))] (K .u64 (IntKind.wrap .u64 (w64 (y115+y116))))),(4,rp [(.tmp 37,(K .u64 (IntKind.wrap .u64 (w64 (y115+y116))))),(.const (.int .u64 1),(K .u64 (1)))] (K .u64 ((IntKind.wrap .u64 (w64 (y115+y116)))/2))),(5,rp [(.tmp 38,(K .u64 ((IntKind.wrap .u64 (w64 (y115+y116)))/2)))] (I (w64 ((IntKind.wrap .u64 (w64 (y115+y116)))/2)))),(6,rp [(.tmp 39,(I (w64 ((IntKind.wrap .u64 (w64 (y115+y116)))/2))))] (I x121))] ⟨acv rfl (by rw[underlying3];rfl) underlying127,Qi2 rfl (by decide) (by decide),acv rfl (by rw[underlying127];rfl) underlying3,Qfh hl122 (aas rfl),tv⟩ ?_
      obtain⟨hi123,h⟩:=cko h
      obtain⟨hi123a,hi123b⟩:=Qbp hi123
      obtain⟨x124,hg125,h⟩:=bno h
      obtain⟨hi126,h⟩:=cko h
      obtain⟨hi126a,hi126b⟩:=Qbp hi126
      obtain⟨x127,hg128,h⟩:=bno h
      obtain⟨x130,hf129,h⟩:=bno h
      refine wxd tbk [(3,rb [(.tmp 41,(.own 0 3 (0) p0)),(.tmp 42,I x121)] [(0,(Qfk p4))] (.ref 0 3 x121.toNat 0)),(4,rb [(.tmp 43,(.ref 0 3 x121.toNat 0))] [(0,(Qfk p4))] (Q4k x124)),(7,rb [(.tmp 45,(.own 0 3 (0) p0)),(.tmp 46,I p1)] [(0,(Qfk p4))] (.ref 0 3 p1.toNat 0)),(8,rb [(.tmp 47,(.ref 0 3 p1.toNat 0))] [(0,(Qfk p4))] (Q4j x127)),(9,⟨_,_,_,_,false⟩)] ⟨aio rfl underlying87 ti94 (odt hi123a) (odt hi123b) (Nat.zero_add _),ald rfl ti94 (by decide) (mgt Qac hg125) (nle rfl) rfl,aio rfl underlying87 ti94 (odt hi126a) (odt hi126b) (Nat.zero_add _),ald rfl ti94 (by decide) (mgt Qac hg128) (nle rfl) rfl,Qei (first:=[]) (cap:=[.ref 1 1 0 0]) (vs:=[(.agg [(I ((⟨(⟨x124.Stair.Amount,x124.Stair.Price⟩:Qap),x124.inlet⟩:Qaa).Stair.Amount)),(I ((⟨(⟨x124.Stair.Amount,x124.Stair.Price⟩:Qap),x124.inlet⟩:Qaa).Stair.Price)),(I ((⟨(⟨x124.Stair.Amount,x124.Stair.Price⟩:Qap),x124.inlet⟩:Qaa).inlet))]),(.agg [(I ((⟨(⟨x127.Stair.Amount,x127.Stair.Price⟩:Qap),x127.inlet⟩:Qaa).Stair.Amount)),(I ((⟨(⟨x127.Stair.Amount,x127.Stair.Price⟩:Qap),x127.inlet⟩:Qaa).Stair.Price)),(I ((⟨(⟨x127.Stair.Amount,x127.Stair.Price⟩:Qap),x127.inlet⟩:Qaa).inlet))])]) (σr:=[Qd2]) (σr':=[Qd2]) (res':=(I x130)) [1] rfl Qrb (Qdu N (⟨(⟨x124.Stair.Amount,x124.Stair.Price⟩:Qap),x124.inlet⟩:Qaa) (⟨(⟨x127.Stair.Amount,x127.Stair.Price⟩:Qap),x127.inlet⟩:Qaa) _ hf129) rfl (Qb1 (rnc (.plain _ (NLt.agg _ (nlcc (nlc nll nl0)))) (rnc (.plain _ (NLt.agg _ (nlcc (nlc nll nl0)))) (rnc (Qa4 rfl) rn0)))) (slc (Qaj (rnc (.plain _ (NLt.fn _ _ _ nl0 nl0)) rn0)) Qak) (slc (Qaj (rnc (.plain _ (NLt.fn _ _ _ nl0 nl0)) rn0)) Qak) (.plain _ nll) rfl rfl rfl,tv⟩ ?_
      refine bfe h (fun hc131 h=>?_) fun hc131 h=>?_
      ·exact wft hc131<|wxz1<|bln<|thn<|arm (mto (n:=220) [(0,(.own 0 3 (0) p0)),(1,I p1),(4,Qg1),(10,(I (w64 (x121+1)))),(11,I y116)] [0,1] [(Qfk p4),Qd2] hq (pc (.rn (Qbj rfl)) (pw (pc (.rn (Qao rn0 (rnc (rqr rfl) rn0))) (pw (pw pn))))) (qc (spr Qab) (qb (lc (.rn (Qao rn0 rn0)) ln) qn))) (ih (w64 (x121+1),y116) h)
      ·exact wfn hc131<|wxz1<|bln<|thn<|arm (mto (n:=220) [(0,(.own 0 3 (0) p0)),(1,I p1),(4,Qg1),(10,I y115),(11,I x121)] [0,1] [(Qfk p4),Qd2] hq (pc (.rn (Qbj rfl)) (pw (pc (.rn (Qao rn0 (rnc (rqr rfl) rn0))) (pw (pw pn))))) (qc (spr Qab) (qb (lc (.rn (Qao rn0 rn0)) ln) qn))) (ih (y115,x121) h)
     ·exact wfn hc120<|Qa3<|Qan<|Qan<|Qa2 rfl<|thn<|⟨(y115),h,(mto (n:=220) [(0,(.own 0 3 (0) p0)),(1,I p1),(10,I y115)] [0,1] [(Qfk p4),Qd2] hq (pc (.rn (Qbj rfl)) (pw (pw pn))) (qc (spr Qab) (qb (lc (.rn (Qao rn0 rn0)) ln) qn)))⟩
   ·exact wfn hc92<|Qai<|thn<|⟨(),h,(mto (n:=220) [(0,(.own 0 3 (0) p0)),(1,I p1),(2,I p2),(3,I p3),(4,Qg1)] [0,1] [(Qfk p4),Qd2] hq (pc (.rn (Qbj rfl)) (pw (pw (pw (pc (.rn (Qao rn0 (rnc (rqr rfl) rn0))) pn))))) (qc (spr Qab) (qb (lc (.rn (Qao rn0 rn0)) ln) qn)))⟩
def Qbh (N p0:Nat) (p1 y7:Int) (k15:Int×(List Qaa)→Option (List Qaa)):Nat→Int→Int→(List Qaa)→Option (List Qaa)
  |0,_,_,_=>none
  |n25+1,y19,y20,y21=>
    bif (decide (y20≤p1)) then
     (Qax N p0 y19 (w64 (y19+y7)) y20 y21).bind fun x28=>
     (some (w64 (y20+(w64 (2*y7))))).bind fun x29=>
     Qbh N p0 p1 y7 k15 n25 y20 x29 x28
    else
     k15 (y19,y21)
def Qar (N p0:Nat) (p1:Int):Nat→Int→(List Qaa)→Option (List Qaa)
  |0,_,_=>none
  |n11+1,y7,y8=>
    bif (decide (y7<p1)) then
     Qcy (fun ⟨y13,y14⟩=>
       bif (decide ((w64 (y13+y7))<p1)) then
        (Qax N p0 y13 (w64 (y13+y7)) p1 y14).bind fun x18=>
        Qar N p0 p1 n11 (w64 (y7*2)) x18
       else
        Qar N p0 p1 n11 (w64 (y7*2)) y14) fun k15:Int×(List Qaa)→Option (List Qaa)=>
     Qbh N p0 p1 y7 k15 N 0 (w64 (2*y7)) y8
    else
     some y8
def Qbg (N p0:Nat) (p1:Int) (k4:Int×(List Qaa)→Option (List Qaa)):Nat→Int→Int→(List Qaa)→Option (List Qaa)
  |0,_,_,_=>none
  |n37+1,y31,y32,y33=>
    bif (decide (y32≤p1)) then
     (Qbe N p0 y31 y32 y33).bind fun x40=>
     Qbg N p0 p1 k4 n37 y32 (w64 (y32+20)) x40
    else
     k4 (y31,y33)
def Qdj (N p0:Nat) (p1:Int) (p2:List Qaa):Option (List Qaa):=
  Qcy (fun ⟨y2,y3⟩=>
    (Qbe N p0 y2 p1 y3).bind fun x6=>
    Qar N p0 p1 N 20 x6) fun k4:Int×(List Qaa)→Option (List Qaa)=>
  Qbg N p0 p1 k4 N 0 20 p2
abbrev Qjo:AV:=.fn (.func 57) [] [(.ref 1 1 (0) 0)]
abbrev Qh3:Slot:=.own 1 [[(.fn (.func 39) [] [])]]
def Qrv (y8:List Qaa):Slot:=.own 3 (y8.map Qac)
theorem Qg4 (N p0:Nat) (p1:Int) (p2 r:List Qaa) (h:Qdj N p0 p1 p2=some r):Spec prog 65 [(.own 0 3 (0) p0),(I p1),Qjo] [(.own 3 (p2.map Qac)),Qh3] (.tup []) [(.own 3 (r.map Qac)),Qh3]:=by
  refine sF func65 2 fun _ _ _ hq hd0=>?_
  unfold Qdj at h
  refine wxz<|wxz ?_
  obtain⟨k4,hk_k4,h⟩:=jko h
  refine wjn (τ:=Int×(List Qaa)) (fun t=>k4 t=some r) (fun ⟨y2,y3⟩=>⟨mk 63 [(0,(.own 0 3 (0) p0)),(1,I p1),(2,Qjo),(6,I 20),(7,I y2)],[(.own 3 (y3.map Qac)),Qh3]⟩) (fun t h=>?_) ?_
  ·subst hk_k4
   obtain⟨y2,y3⟩:=t
   obtain⟨x6,hf5,h⟩:=bno h
   refine wx tbk [(4,⟨_,_,_,_,false⟩)] ⟨acq [(.own 0 3 (0) p0),I y2,I p1,Qjo] [(.own 3 (y3.map Qac)),Qh3] [(.own 3 (x6.map Qac)),Qh3] (.tup []) [0,1] Qra (Qee N p0 y2 p1 y3 _ hf5) (Qb1 (rnc (Qgu rfl) (rncc (rnc (Qao rn0 (rnc (Qa4 rfl) rn0)) rn0)))) (slc (Qd1 Qab) (slc (Qaj (rnc (.plain _ (NLt.fn _ _ _ nl0 nl0)) rn0)) Qak)) (slc (Qd1 Qab) (slc (Qaj (rnc (.plain _ (NLt.fn _ _ _ nl0 nl0)) rn0)) Qak)) (.plain _ (NLt.tup _ nl0)),tv⟩<|Qaf ?_
   refine wmr (mto (n:=63) (l':=[(0,(.own 0 3 (0) p0)),(1,I p1),(2,Qjo),(6,I 20)]) (own':=[(.own 3 (x6.map Qac)),Qh3]) [(0,(.own 0 3 (0) p0)),(1,I p1),(2,Qjo),(6,I 20)] [0,1] [(.own 3 (x6.map Qac)),Qh3] hq (pc (.rn (Qbj rfl)) (pw (pc (.rn (Qao rn0 (rnc (rqr rfl) rn0))) (pw pn)))) (qc (spr Qab) (qb (lc (.rn (Qao rn0 rn0)) ln) qn))) ?_
   refine Qbx (τ:=Int×(List Qaa)) (fun n t=>Qar N p0 p1 n t.1 t.2=some r) (fun ⟨y7,y8⟩=>⟨mk 63 [(0,(.own 0 3 (0) p0)),(1,I p1),(2,Qjo),(6,I y7)],[(Qrv y8),Qh3]⟩) (fun t h=>by rw[Qar] at h;cases h) (fun n11 ih t h=>?_) N (20,x6) h
   obtain⟨y7,y8⟩:=t
   rw[Qar] at h
   skip
   refine wsq<|wxz ?_
   refine bfe h (fun hc12 h=>?_) fun hc12 h=>?_
   ·refine wft hc12<|Qai<|thn<|Qaf<|wxz ?_
    obtain⟨k15,hk_k15,h⟩:=jko h
    refine wjn (τ:=Int×(List Qaa)) (fun t=>k15 t=some r) (fun ⟨y13,y14⟩=>⟨mk 63 [(0,(.own 0 3 (0) p0)),(1,I p1),(2,Qjo),(6,I y7),(7,I y13)],[(.own 3 (y14.map Qac)),Qh3]⟩) (fun t h=>?_) ?_
    ·subst hk_k15
     obtain⟨y13,y14⟩:=t
     refine wsq<|wxz<|wxz ?_
     refine bfe h (fun hc16 h=>?_) fun hc16 h=>?_
     ·refine wft hc16 ?_
      obtain⟨x18,hf17,h⟩:=bno h
      refine wx1 tbk [(5,⟨_,_,_,_,false⟩)] ⟨acq [(.own 0 3 (0) p0),I y13,(I (w64 (y13+y7))),I p1,Qjo] [(.own 3 (y14.map Qac)),Qh3] [(.own 3 (x18.map Qac)),Qh3] (.tup []) [0,1] Qlk (Qez N p0 y13 (w64 (y13+y7)) p1 y14 _ hf17) (Qb1 (rnc (Qgu rfl) (rncc (rnc (.plain _ nll) (rnc (Qao rn0 (rnc (Qa4 rfl) rn0)) rn0))))) (slc (Qd1 Qab) (slc (Qaj (rnc (.plain _ (NLt.fn _ _ _ nl0 nl0)) rn0)) Qak)) (slc (Qd1 Qab) (slc (Qaj (rnc (.plain _ (NLt.fn _ _ _ nl0 nl0)) rn0)) Qak)) (.plain _ (NLt.tup _ nl0)),tv⟩<|thn<|wxz1<|bln<|thn ?_
      exact arm (mto (n:=63) [(0,(.own 0 3 (0) p0)),(1,I p1),(2,Qjo),(6,(I (w64 (y7*2))))] [0,1] [(.own 3 (x18.map Qac)),Qh3] hq (pc (.rn (Qbj rfl)) (pw (pc (.rn (Qao rn0 (rnc (rqr rfl) rn0))) (pw pn)))) (qc (spr Qab) (qb (lc (.rn (Qao rn0 rn0)) ln) qn))) (ih (w64 (y7*2),x18) h)
     ·exact wfn hc16<|Qai<|thn<|wxz1<|bln<|thn<|arm (mto (n:=63) [(0,(.own 0 3 (0) p0)),(1,I p1),(2,Qjo),(6,(I (w64 (y7*2))))] [0,1] [(.own 3 (y14.map Qac)),Qh3] hq (pc (.rn (Qbj rfl)) (pw (pc (.rn (Qao rn0 (rnc (rqr rfl) rn0))) (pw pn)))) (qc (spr Qab) (qb (lc (.rn (Qao rn0 rn0)) ln) qn))) (ih (w64 (y7*2),y14) h)
    ·skip
     refine Qaf<|wmr (mto (n:=63) (l':=[(0,(.own 0 3 (0) p0)),(1,I p1),(2,Qjo),(6,I y7),(7,I 0),(8,(I ((w64 (2*y7)))))]) (own':=[(Qrv y8),Qh3]) [(0,(.own 0 3 (0) p0)),(1,I p1),(2,Qjo),(6,I y7),(7,I 0),(8,(I (w64 (2*y7))))] [0,1] [(Qrv y8),Qh3] hq (pc (.rn (Qbj rfl)) (pw (pc (.rn (Qao rn0 (rnc (rqr rfl) rn0))) (pw (pw (pw pn)))))) (qc (spr Qab) (qb (lc (.rn (Qao rn0 rn0)) ln) qn))) ?_
     refine Qbx (τ:=Int×Int×(List Qaa)) (fun n t=>Qbh N p0 p1 y7 k15 n t.1 t.2.1 t.2.2=some r) (fun ⟨y19,y20,y21⟩=>⟨mk 63 [(0,(.own 0 3 (0) p0)),(1,I p1),(2,Qjo),(6,I y7),(7,I y19),(8,I y20)],[(.own 3 (y21.map Qac)),Qh3]⟩) (fun t h=>by rw[Qbh] at h;cases h) (fun n25 ih t h=>?_) N (0,w64 (2*y7),y8) h
     obtain⟨y19,y20,y21⟩:=t
     rw[Qbh] at h
     skip
     refine wsq<|wxz ?_
     refine bfe h (fun hc26 h=>?_) fun hc26 h=>?_
     ·refine wft hc26<|Qai<|thn<|Qaf ?_
      obtain⟨x28,hf27,h⟩:=bno h
      refine wx tbk [(7,⟨_,_,_,_,false⟩)] ⟨acq [(.own 0 3 (0) p0),I y19,(I (w64 (y19+y7))),I y20,Qjo] [(.own 3 (y21.map Qac)),Qh3] [(.own 3 (x28.map Qac)),Qh3] (.tup []) [0,1] Qlk (Qez N p0 y19 (w64 (y19+y7)) y20 y21 _ hf27) (Qb1 (rnc (Qgu rfl) (rncc (rnc (.plain _ nll) (rnc (Qao rn0 (rnc (Qa4 rfl) rn0)) rn0))))) (slc (Qd1 Qab) (slc (Qaj (rnc (.plain _ (NLt.fn _ _ _ nl0 nl0)) rn0)) Qak)) (slc (Qd1 Qab) (slc (Qaj (rnc (.plain _ (NLt.fn _ _ _ nl0 nl0)) rn0)) Qak)) (.plain _ (NLt.tup _ nl0)),tv⟩<|wxz ?_
      obtain⟨x29,hl30,h⟩:=bno h
      exact wx1 tbk [(4,rp [(.tmp 48,(I (w64 (y20+(w64 (2*y7))))))] (I x29))] ⟨Qfh hl30 (aas rfl),tv⟩<|bln<|thn<|arm (mto (n:=63) [(0,(.own 0 3 (0) p0)),(1,I p1),(2,Qjo),(6,I y7),(7,I y20),(8,I x29)] [0,1] [(.own 3 (x28.map Qac)),Qh3] hq (pc (.rn (Qbj rfl)) (pw (pc (.rn (Qao rn0 (rnc (rqr rfl) rn0))) (pw (pw (pw pn)))))) (qc (spr Qab) (qb (lc (.rn (Qao rn0 rn0)) ln) qn))) (ih (y20,x29,x28) h)
     ·exact wfn hc26<|Qa3<|Qan<|Qan<|Qa2 rfl<|thn<|⟨(y19,y21),h,(mto (n:=63) [(0,(.own 0 3 (0) p0)),(1,I p1),(2,Qjo),(6,I y7),(7,I y19)] [0,1] [(.own 3 (y21.map Qac)),Qh3] hq (pc (.rn (Qbj rfl)) (pw (pc (.rn (Qao rn0 (rnc (rqr rfl) rn0))) (pw (pw pn))))) (qc (spr Qab) (qb (lc (.rn (Qao rn0 rn0)) ln) qn)))⟩
   ·refine wfn hc12<|Qa3<|Qan<|Qan<|Qa2 rfl ?_
    obtain rfl:=osi h
    exact⟨_,(mto (n:=63) (l':=[]) (own':=[(Qrv y8),Qh3]) [] [0,1] [(Qrv y8),Qh3] hq pn (qc (spr Qab) (qb (lc (.rn (Qao rn0 rn0)) ln) qn))),fio [] tv⟩
  ·skip
   refine Qaf<|wmr (mto (n:=63) (l':=[(0,(.own 0 3 (0) p0)),(1,I p1),(2,Qjo),(6,I 20),(7,I 0),(8,I 20)]) (own':=[(.own 3 (p2.map Qac)),Qh3]) [(0,(.own 0 3 (0) p0)),(1,I p1),(2,Qjo),(6,I 20),(7,I 0),(8,I 20)] [0,1] [(.own 3 (p2.map Qac)),Qh3] hq (pc (.rn (Qbj rfl)) (pw (pc (.rn (Qao rn0 (rnc (rqr rfl) rn0))) (pw (pw (pw pn)))))) (qc (spr Qab) (qb (lc (.rn (Qao rn0 rn0)) ln) qn))) ?_
   refine Qbx (τ:=Int×Int×(List Qaa)) (fun n t=>Qbg N p0 p1 k4 n t.1 t.2.1 t.2.2=some r) (fun ⟨y31,y32,y33⟩=>⟨mk 63 [(0,(.own 0 3 (0) p0)),(1,I p1),(2,Qjo),(6,I 20),(7,I y31),(8,I y32)],[(.own 3 (y33.map Qac)),Qh3]⟩) (fun t h=>by rw[Qbg] at h;cases h) (fun n37 ih t h=>?_) N (0,20,p2) h
   obtain⟨y31,y32,y33⟩:=t
   rw[Qbg] at h
   skip
   refine wsq<|wxz ?_
   refine bfe h (fun hc38 h=>?_) fun hc38 h=>?_
   ·refine wft hc38<|Qai<|thn<|Qaf ?_
    obtain⟨x40,hf39,h⟩:=bno h
    refine wx tbk [(4,⟨_,_,_,_,false⟩)] ⟨acq [(.own 0 3 (0) p0),I y31,I y32,Qjo] [(.own 3 (y33.map Qac)),Qh3] [(.own 3 (x40.map Qac)),Qh3] (.tup []) [0,1] Qra (Qee N p0 y31 y32 y33 _ hf39) (Qb1 (rnc (Qgu rfl) (rncc (rnc (Qao rn0 (rnc (Qa4 rfl) rn0)) rn0)))) (slc (Qd1 Qab) (slc (Qaj (rnc (.plain _ (NLt.fn _ _ _ nl0 nl0)) rn0)) Qak)) (slc (Qd1 Qab) (slc (Qaj (rnc (.plain _ (NLt.fn _ _ _ nl0 nl0)) rn0)) Qak)) (.plain _ (NLt.tup _ nl0)),tv⟩<|wxz<|wxz1<|bln<|thn ?_
    exact arm (mto (n:=63) [(0,(.own 0 3 (0) p0)),(1,I p1),(2,Qjo),(6,I 20),(7,I y32),(8,(I (w64 (y32+20))))] [0,1] [(.own 3 (x40.map Qac)),Qh3] hq (pc (.rn (Qbj rfl)) (pw (pc (.rn (Qao rn0 (rnc (rqr rfl) rn0))) (pw (pw (pw pn)))))) (qc (spr Qab) (qb (lc (.rn (Qao rn0 rn0)) ln) qn))) (ih (y32,w64 (y32+20),x40) h)
   ·exact wfn hc38<|Qa3<|Qan<|Qan<|Qa2 rfl<|thn<|⟨(y31,y33),h,(mto (n:=63) [(0,(.own 0 3 (0) p0)),(1,I p1),(2,Qjo),(6,I 20),(7,I y31)] [0,1] [(.own 3 (y33.map Qac)),Qh3] hq (pc (.rn (Qbj rfl)) (pw (pc (.rn (Qao rn0 (rnc (rqr rfl) rn0))) (pw (pw pn))))) (qc (spr Qab) (qb (lc (.rn (Qao rn0 rn0)) ln) qn)))⟩
def Qb4 (N p0:Nat) (p1:List Qaa):Option (List Qaa):=
  (Qdj N p0 ((p0:Nat):Int) p1).bind fun x3=>
  some x3
abbrev Q7w:AV:=.fn (.func 57) [] [(.ref 1 1 (0) 0)]
abbrev Qvv:Slot:=.own 1 [[(.fn (.func 39) [] [])]]
theorem Qfd (N p0:Nat) (p1 r:List Qaa) (h:Qb4 N p0 p1=some r):Spec prog 56 [(.own 0 3 (0) p0),Q7w] [(.own 3 (p1.map Qac)),Qvv] (.tup []) [(.own 3 (r.map Qac)),Qvv]:=by
  refine sF func56 2 fun _ _ _ hq hd0=>?_
  unfold Qb4 at h
  obtain⟨x3,hf2,h⟩:=bno h
  refine wx1 tbk [(2,rp [(.tmp 5,(.own 0 3 (0) p0))] (I (((p0:Nat):Int)))),(4,⟨_,_,_,_,false⟩)] ⟨aln rfl underlying87 rfl,acq [(.own 0 3 (0) p0),(I (((p0:Nat):Int))),Q7w] [(.own 3 (p1.map Qac)),Qvv] [(.own 3 (x3.map Qac)),Qvv] (.tup []) [0,1] Qz1 (Qg4 N p0 ((p0:Nat):Int) p1 _ hf2) (Qb1 (rnc (Qgu rfl) (rnc (.plain _ nll) (rnc (Qao rn0 (rnc (Qa4 rfl) rn0)) rn0)))) (slc (Qd1 Qab) (slc (Qaj (rnc (.plain _ (NLt.fn _ _ _ nl0 nl0)) rn0)) Qak)) (slc (Qd1 Qab) (slc (Qaj (rnc (.plain _ (NLt.fn _ _ _ nl0 nl0)) rn0)) Qak)) (.plain _ (NLt.tup _ nl0)),tv⟩ ?_
  obtain rfl:=osi h
  exact⟨_,(mto (n:=9) (l':=[]) (own':=[(.own 3 (x3.map Qac)),Qvv]) [] [0,1] [(.own 3 (x3.map Qac)),Qvv] hq pn (qc (spr Qab) (qb (lc (.rn (Qao rn0 rn0)) ln) qn))),fio [] tv⟩
def Qcl (N p0:Nat) (p1:List Qaa):Option (List Qaa):=
  (Qb4 N p0 p1).bind fun x3=>
  some x3
def Q7x:AV:=.fn (.func 57) [] [(.ref 1 1 (0) 0)]
def Q7y:Slot:=.own 1 [[(.fn (.func 39) [] [])]]
theorem Qgb (N p0:Nat) (p1 r:List Qaa) (h:Qcl N p0 p1=some r):Spec prog 38 [(.own 0 3 (0) p0),(.fn (.func 39) [] [])] [(.own 3 (p1.map Qac))] (.own 0 3 (0) p0) [(.own 3 (r.map Qac))]:=by
  refine sF func38 1 fun _ _ _ hq hd0=>?_
  unfold Qcl at h
  refine wxz ?_
  obtain⟨x3,hf2,h⟩:=bno h
  refine wx tbk [(1,rp [(.tmp 3,.ref 1 1 0 0)] Q7x),(2,⟨_,_,_,_,false⟩)] ⟨Qfm (fs:=[]) (cs:=[.ref 1 1 0 0]) rfl rfl rfl rfl,acq [(.own 0 3 (0) p0),Q7x] [(.own 3 (p1.map Qac)),Q7y] [(.own 3 (x3.map Qac)),Q7y] (.tup []) [0,1] Qz3 (Qfd N p0 p1 _ hf2) (Qb1 (rnc (Qgu rfl) (rnc (Qao rn0 (rnc (Qa4 rfl) rn0)) rn0))) (slc (Qd1 Qab) (slc (Qaj (rnc (.plain _ (NLt.fn _ _ _ nl0 nl0)) rn0)) Qak)) (slc (Qd1 Qab) (slc (Qaj (rnc (.plain _ (NLt.fn _ _ _ nl0 nl0)) rn0)) Qak)) (.plain _ (NLt.tup _ nl0)),tv⟩<|wxz ?_
  refine wmr (mto (n:=9) (l':=[(4,(.own 0 3 (0) p0))]) (own':=[(.own 3 (x3.map Qac))]) [(4,(.own 0 3 (0) p0))] [0] [(.own 3 (x3.map Qac))] hq (pc (.rn (Qbj rfl)) pn) (qc (spr Qab) qn))<|Qag ?_
  obtain rfl:=osi h
  exact⟨_,Mor.rfl,fio [(.own 0 3 (0) p0)] ⟨rot,tv⟩⟩
def Qfa (N:Nat) (p0:Int) (p1:List Qcc) (p2 p3:(Nat→Int)) (p4 p5 p6:Int):Option Int:=
  (Qej N p0 p1 p2 p3 p4 p5).bind fun x2=>
  (some (w64 ((w64 (x2.1*p6)).tdiv 1000))).bind fun x3=>
  some x3
theorem Qkl (N:Nat) (p0:Int) (p1:List Qcc) (p2 p3:(Nat→Int)) (p4 p5:Int) (p6 r:Int) (h:Qfa N p0 p1 p2 p3 p4 p5 p6=some r):Spec prog 55 [(.dptr ((I p0)::(.dat 4 (p1.map Qbf))::(arrF 144 p2++arrF 144 p3)) 0),(I p4),(I p5),(I p6)] [] (I r) []:=by
  refine sA func55 0 fun _ _ _ hq hd0=>?_
  unfold Qfa at h
  refine wxz ?_
  obtain⟨x2,hf1,h⟩:=bno h
  refine wx tbk [(3,rp [fu 26,(.tmp 12,(.dptr ((I p0)::(.dat 4 (p1.map Qbf))::(arrF 144 p2++arrF 144 p3)) 0)),(.tmp 13,I p4),(.tmp 14,I p5)] (.tup [I x2.1,I x2.2]))] ?_ ?_
  ·exact⟨acq [(.dptr ((I p0)::(.dat 4 (p1.map Qbf))::(arrF 144 p2++arrF 144 p3)) 0),I p4,I p5] [] [] (.tup [I x2.1,I x2.2]) [] Qrh (Qhu N p0 p1 p2 p3 p4 p5 _ hf1) (Qb1 (rnc (.plain _ (NLt.dptr _ _ (nlc nll (nlc (nld Qad _) (Qdb Qb2 Qb2))))) (rncc rn0))) Qak Qak (.plain _ (NLt.tup _ (nlcc nl0))),tv⟩
  obtain⟨x3,hl4,h⟩:=bno h
  refine wx tbk [(3,rp [(.tmp 20,(I (w64 (x2.1*p6)))),ci 1000] (I (w64 ((w64 (x2.1*p6)).tdiv 1000)))),(4,rp [(.tmp 21,(I (w64 ((w64 (x2.1*p6)).tdiv 1000))))] (I x3))] ⟨Qll rfl (by decide),Qfh hl4 (aas rfl),tv⟩<|Qag ?_
  obtain rfl:=osi h
  exact fend ⟨[I x3],⟨rot,tv⟩,rfl⟩ nll
def Qe6 (N:Nat) (p0 p1:Int) (p2:List Qcc) (p3 p4:(Nat→Int)) (p5:Int) (_p6:List Qap) (_p7:List Qba) (_p8:List Int) (p9 p10:Int):Option Bool:=
  (Qfa N p1 p2 p3 p4 p5 p0 p9).bind fun x3=>
  some (decide (x3<p10))
abbrev Q1s (p1:Int) (p2:List Qcc) (p3 p4:(Nat→Int)):Slot:=.own 1 [[(.dptr ((I p1)::(.dat 4 (p2.map Qbf))::(arrF 144 p3++arrF 144 p4)) 0)]]
abbrev Q1r (p7:List Qba) (p8:List Int) (p9 p10:Int):Slot:=.own 4 [[(.dat 2 (p7.map Qa1)),(.dat 1 (p8.map Qah)),(I p9),(I p10)]]
theorem Qjk (N:Nat) (p0 p1:Int) (p2:List Qcc) (p3 p4:(Nat→Int)) (p5:Int) (p6:List Qap) (p7:List Qba) (p8:List Int) (p9 p10:Int) (r:Bool) (h:Qe6 N p0 p1 p2 p3 p4 p5 p6 p7 p8 p9 p10=some r):Spec prog 54 [(I p0),(.ref 0 1 (0) 0),(.ref 1 2 (0) 0),(.ref 2 4 (0) 0)] [(Q1s p1 p2 p3 p4),(.own 2 [[(I p5),(.dat 2 (p6.map Qaz))]]),(Q1r p7 p8 p9 p10)] (B r) [(Q1s p1 p2 p3 p4),(.own 2 [[(I p5),(.dat 2 (p6.map Qaz))]]),(Q1r p7 p8 p9 p10)]:=by
  refine sF func54 3 fun _ _ _ hq hd0=>?_
  unfold Qe6 at h
  refine wxz ?_
  obtain⟨x3,hf2,h⟩:=bno h
  refine wxd tbk [(6,rp [fu 55,(.tmp 6,(.dptr ((I p1)::(.dat 4 (p2.map Qbf))::(arrF 144 p3++arrF 144 p4)) 0)),(.tmp 8,I p5),(.tmp 9,I p0),(.tmp 11,I p9)] (I x3))] ?_ ?_
  ·exact⟨acq [(.dptr ((I p1)::(.dat 4 (p2.map Qbf))::(arrF 144 p3++arrF 144 p4)) 0),I p5,I p0,I p9] [] [] (I x3) [] Qz4 (Qkl N p1 p2 p3 p4 p5 p0 p9 _ hf2) (Qb1 (rnc (.plain _ (NLt.dptr _ _ (nlc nll (nlc (nld Qad _) (Qdb Qb2 Qb2))))) (rncc (rnc (.plain _ nll) rn0)))) Qak Qak (.plain _ nll),tv⟩
  refine wmr (mto (n:=16) (l':=[(5,(B ((decide (x3<p10)))))]) (own':=[(Q1s p1 p2 p3 p4),(.own 2 [[I p5,(.dat 2 (p6.map Qaz))]]),(Q1r p7 p8 p9 p10)]) [(5,(B ((decide (x3<p10)))))] [0,1,2] [(Q1s p1 p2 p3 p4),(.own 2 [[I p5,(.dat 2 (p6.map Qaz))]]),(Q1r p7 p8 p9 p10)] hq (pw pn) (qb (lc (.rn (.plain _ (NLt.dptr _ _ (nlc nll (nlc (nld Qad _) (Qdb Qb2 Qb2)))))) ln) (qb (lc rwl (lc (rnd Qaw) ln)) (qb (lc (rnd Qam) (lc (rnd Qal) (lcc ln))) qn))))<|Qag ?_
  obtain rfl:=osi h
  exact⟨_,Mor.rfl,fio [(B ((decide (x3<p10))))] ⟨rot,tv⟩⟩
def Qbu (N:Nat) (p0:List Int) (p1:Int) (k2:Unit→Option Int) (p2:List Qcc) (p3 p4:(Nat→Int)) (p5:Int) (p6:List Qap) (p7:List Qba) (p8:List Int) (p9 p10:Int):Nat→Int→Option Int
  |0,_=>none
  |n5+1,y3=>
    bif (decide (y3<(p0.length:Int))) then
     (getI p0 y3).bind fun x7=>
     (Qe6 N x7 p1 p2 p3 p4 p5 p6 p7 p8 p9 p10).bind fun x12=>
     bif x12 then
      some y3
     else
      Qbu N p0 p1 k2 p2 p3 p4 p5 p6 p7 p8 p9 p10 n5 (w64 (y3+1))
    else
     k2 ()
def Qeo (N:Nat) (p0:List Int) (p1:Int) (p2:List Qcc) (p3 p4:(Nat→Int)) (p5:Int) (p6:List Qap) (p7:List Qba) (p8:List Int) (p9 p10:Int):Option Int:=
  Qcy (fun _=>
    some (-1)) fun k2:Unit→Option Int=>
  Qbu N p0 p1 k2 p2 p3 p4 p5 p6 p7 p8 p9 p10 N 0
abbrev Qxy:AV:=.fn (.func 54) [] [(.ref 0 1 (0) 0),(.ref 1 2 (0) 0),(.ref 2 4 (0) 0)]
abbrev Qmj (p1:Int) (p2:List Qcc) (p3 p4:(Nat→Int)):Slot:=.own 1 [[(.dptr ((I p1)::(.dat 4 (p2.map Qbf))::(arrF 144 p3++arrF 144 p4)) 0)]]
abbrev Qmi (p5:Int) (p6:List Qap):Slot:=.own 2 [[(I p5),(.dat 2 (p6.map Qaz))]]
abbrev Qmh (p7:List Qba) (p8:List Int) (p9 p10:Int):Slot:=.own 4 [[(.dat 2 (p7.map Qa1)),(.dat 1 (p8.map Qah)),(I p9),(I p10)]]
theorem Qit (N:Nat) (p0:List Int) (p1:Int) (p2:List Qcc) (p3 p4:(Nat→Int)) (p5:Int) (p6:List Qap) (p7:List Qba) (p8:List Int) (p9 p10 r:Int) (h:Qeo N p0 p1 p2 p3 p4 p5 p6 p7 p8 p9 p10=some r):Spec prog 47 [(.dat 1 (p0.map Qah)),Qxy] [(Qmj p1 p2 p3 p4),(Qmi p5 p6),(Qmh p7 p8 p9 p10)] (I r) [(Qmj p1 p2 p3 p4),(Qmi p5 p6),(Qmh p7 p8 p9 p10)]:=by
  refine sF func47 3 fun _ _ _ hq hd0=>?_
  unfold Qeo at h
  refine wxz ?_
  obtain⟨k2,hk_k2,h⟩:=jko h
  refine wjn (τ:=Unit) (fun t=>k2 t=some r) (fun _=>⟨mk 19 [],[(Qmj p1 p2 p3 p4),(Qmi p5 p6),(Qmh p7 p8 p9 p10)]⟩) (fun t h=>?_) ?_
  ·subst hk_k2
   refine wxz<|wmr (mto (n:=19) (l':=[(4,(I ((-1))))]) (own':=[(Qmj p1 p2 p3 p4),(Qmi p5 p6),(Qmh p7 p8 p9 p10)]) [(4,(I ((-1))))] [0,1,2] [(Qmj p1 p2 p3 p4),(Qmi p5 p6),(Qmh p7 p8 p9 p10)] hq (pw pn) (qb (lc (.rn (.plain _ (NLt.dptr _ _ (nlc nll (nlc (nld Qad _) (Qdb Qb2 Qb2)))))) ln) (qb (lc rwl (lc (rnd Qaw) ln)) (qb (lc (rnd Qam) (lc (rnd Qal) (lcc ln))) qn))))<|Qag ?_
   obtain rfl:=osi h
   exact⟨_,Mor.rfl,fio [(I ((-1)))] ⟨rot,tv⟩⟩
  ·skip
   refine wx tbk [(1,rp _ _)] ⟨alq 1 Qah p0 underlying26,tv⟩<|Qaf ?_
   refine wmr (mto (n:=19) (l':=[(0,(.dat 1 (p0.map Qah))),(1,Qxy),(7,(I ((p0.length:Int)))),(8,I 0)]) (own':=[(Qmj p1 p2 p3 p4),(Qmi p5 p6),(Qmh p7 p8 p9 p10)]) [(0,(.dat 1 (p0.map Qah))),(1,Qxy),(7,(I ((p0.length:Int)))),(8,I 0)] [0,1,2] [(Qmj p1 p2 p3 p4),(Qmi p5 p6),(Qmh p7 p8 p9 p10)] hq (pc (rnd Qal) (pc (.rn (Qao rn0 (rnc (rqr rfl) (rnc (rqr rfl) (rnc (rqr rfl) rn0))))) (pw (pw pn)))) (qb (lc (.rn (.plain _ (NLt.dptr _ _ (nlc nll (nlc (nld Qad _) (Qdb Qb2 Qb2)))))) ln) (qb (lc rwl (lc (rnd Qaw) ln)) (qb (lc (rnd Qam) (lc (rnd Qal) (lcc ln))) qn)))) ?_
   refine Qbx (τ:=Int) (fun n t=>Qbu N p0 p1 k2 p2 p3 p4 p5 p6 p7 p8 p9 p10 n t=some r) (fun y3=>⟨mk 19 [(0,(.dat 1 (p0.map Qah))),(1,Qxy),(7,(I ((p0.length:Int)))),(8,I y3)],[(Qmj p1 p2 p3 p4),(Qmi p5 p6),(Qmh p7 p8 p9 p10)]⟩) (fun t h=>by rw[Qbu] at h;cases h) (fun n5 ih y3 h=>?_) N (0) h
   rw[Qbu] at h
   skip
   refine wxz<|wsq ?_
   refine bfe h (fun hc6 h=>?_) fun hc6 h=>?_
   ·refine wft hc6<|Qai<|thn<|wsq<|Qaf<|wxz ?_
    obtain⟨x7,hg8,h⟩:=bno h
    obtain⟨hi9,hj10⟩:=gsm hg8
    obtain⟨x12,hf11,h⟩:=bno h
    refine wx tbk [(3,rp _ _),(5,⟨_,_,_,_,false⟩)] ⟨aiq underlying26 ti3 Qah hi9 hj10,Qei (first:=[]) (cap:=[.ref 0 1 0 0,.ref 1 2 0 0,.ref 2 4 0 0]) (vs:=[I x7]) (σr:=[(Qmj p1 p2 p3 p4),(Qmi p5 p6),(Qmh p7 p8 p9 p10)]) (σr':=[(Qmj p1 p2 p3 p4),(Qmi p5 p6),(Qmh p7 p8 p9 p10)]) (res':=(B x12)) [0,1,2] rfl Qz5 (Qjk N x7 p1 p2 p3 p4 p5 p6 p7 p8 p9 p10 _ hf11) rfl (Qb1 (rnc (.plain _ nll) (rnc (Qa4 rfl) (rnc (Qa4 rfl) (rnc (Qa4 rfl) rn0))))) (slc (Qaj (rnc (.plain _ (NLt.dptr _ _ (nlc nll (nlc (nld Qad _) (Qdb Qb2 Qb2))))) rn0)) (slc (Qaj (rnc (.plain _ nll) (rnc (pld Qaw) rn0))) (slc (Qaj (rnc (pld Qam) (rnc (pld Qal) (rncc rn0)))) Qak))) (slc (Qaj (rnc (.plain _ (NLt.dptr _ _ (nlc nll (nlc (nld Qad _) (Qdb Qb2 Qb2))))) rn0)) (slc (Qaj (rnc (.plain _ nll) (rnc (pld Qaw) rn0))) (slc (Qaj (rnc (pld Qam) (rnc (pld Qal) (rncc rn0)))) Qak))) (.plain _ nll) rfl rfl rfl,tv⟩ ?_
    refine bfe h (fun hc13 h=>?_) fun hc13 h=>?_
    ·refine wft hc13<|wxz ?_
     refine wmr (mto (n:=19) (l':=[(4,I y3)]) (own':=[(Qmj p1 p2 p3 p4),(Qmi p5 p6),(Qmh p7 p8 p9 p10)]) [(4,I y3)] [0,1,2] [(Qmj p1 p2 p3 p4),(Qmi p5 p6),(Qmh p7 p8 p9 p10)] hq (pw pn) (qb (lc (.rn (.plain _ (NLt.dptr _ _ (nlc nll (nlc (nld Qad _) (Qdb Qb2 Qb2)))))) ln) (qb (lc rwl (lc (rnd Qaw) ln)) (qb (lc (rnd Qam) (lc (rnd Qal) (lcc ln))) qn))))<|Qag<|Qaq<|Qae<|Qae<|Qaq<|Qae ?_
     obtain rfl:=osi h
     exact⟨_,Mor.rfl,fio [I y3] ⟨rot,tv⟩⟩
    ·exact wfn hc13<|Qai<|bln<|thn<|wxz1<|thn<|arm (mto (n:=19) [(0,(.dat 1 (p0.map Qah))),(1,Qxy),(7,(I ((p0.length:Int)))),(8,(I (w64 (y3+1))))] [0,1,2] [(Qmj p1 p2 p3 p4),(Qmi p5 p6),(Qmh p7 p8 p9 p10)] hq (pc (rnd Qal) (pc (.rn (Qao rn0 (rnc (rqr rfl) (rnc (rqr rfl) (rnc (rqr rfl) rn0))))) (pw (pw pn)))) (qb (lc (.rn (.plain _ (NLt.dptr _ _ (nlc nll (nlc (nld Qad _) (Qdb Qb2 Qb2)))))) ln) (qb (lc rwl (lc (rnd Qaw) ln)) (qb (lc (rnd Qam) (lc (rnd Qal) (lcc ln))) qn)))) (ih (w64 (y3+1)) h)
   ·exact wfn hc6<|Qa3<|Qan<|Qan<|Qa2 rfl<|thn<|⟨(),h,(mto (n:=19) [] [0,1,2] [(Qmj p1 p2 p3 p4),(Qmi p5 p6),(Qmh p7 p8 p9 p10)] hq pn (qb (lc (.rn (.plain _ (NLt.dptr _ _ (nlc nll (nlc (nld Qad _) (Qdb Qb2 Qb2)))))) ln) (qb (lc rwl (lc (rnd Qaw) ln)) (qb (lc (rnd Qam) (lc (rnd Qal) (lcc ln))) qn))))⟩
def Qea (N:Nat) (p0:List Int) (p1:Int) (p2:List Qcc) (p3 p4:(Nat→Int)) (p5:Int) (p6:List Qap) (p7:List Qba) (p8:List Int) (p9 p10:Int):Option Bool:=
  (Qeo N p0 p1 p2 p3 p4 p5 p6 p7 p8 p9 p10).bind fun x3=>
  some (decide (x3≥0))
abbrev Q7q:AV:=.fn (.func 54) [] [(.ref 0 1 (0) 0),(.ref 1 2 (0) 0),(.ref 2 4 (0) 0)]
abbrev Qvu (p1:Int) (p2:List Qcc) (p3 p4:(Nat→Int)):Slot:=.own 1 [[(.dptr ((I p1)::(.dat 4 (p2.map Qbf))::(arrF 144 p3++arrF 144 p4)) 0)]]
abbrev Qvt (p5:Int) (p6:List Qap):Slot:=.own 2 [[(I p5),(.dat 2 (p6.map Qaz))]]
abbrev Qvs (p7:List Qba) (p8:List Int) (p9 p10:Int):Slot:=.own 4 [[(.dat 2 (p7.map Qa1)),(.dat 1 (p8.map Qah)),(I p9),(I p10)]]
theorem Qh8 (N:Nat) (p0:List Int) (p1:Int) (p2:List Qcc) (p3 p4:(Nat→Int)) (p5:Int) (p6:List Qap) (p7:List Qba) (p8:List Int) (p9 p10:Int) (r:Bool) (h:Qea N p0 p1 p2 p3 p4 p5 p6 p7 p8 p9 p10=some r):Spec prog 29 [(.dat 1 (p0.map Qah)),Q7q] [(Qvu p1 p2 p3 p4),(Qvt p5 p6),(Qvs p7 p8 p9 p10)] (B r) [(Qvu p1 p2 p3 p4),(Qvt p5 p6),(Qvs p7 p8 p9 p10)]:=by
  refine sF func29 3 fun _ _ _ hq hd0=>?_
  unfold Qea at h
  refine wxz ?_
  obtain⟨x3,hf2,h⟩:=bno h
  refine wx tbk [(2,⟨_,_,_,_,false⟩)] ⟨acq [(.dat 1 (p0.map Qah)),Q7q] [(Qvu p1 p2 p3 p4),(Qvt p5 p6),(Qvs p7 p8 p9 p10)] [(Qvu p1 p2 p3 p4),(Qvt p5 p6),(Qvs p7 p8 p9 p10)] (I x3) [0,1,2] Qub (Qit N p0 p1 p2 p3 p4 p5 p6 p7 p8 p9 p10 _ hf2) (Qb1 (rnc (pld Qal) (rnc (Qao rn0 (rnc (Qa4 rfl) (rnc (Qa4 rfl) (rnc (Qa4 rfl) rn0)))) rn0))) (slc (Qaj (rnc (.plain _ (NLt.dptr _ _ (nlc nll (nlc (nld Qad _) (Qdb Qb2 Qb2))))) rn0)) (slc (Qaj (rnc (.plain _ nll) (rnc (pld Qaw) rn0))) (slc (Qaj (rnc (pld Qam) (rnc (pld Qal) (rncc rn0)))) Qak))) (slc (Qaj (rnc (.plain _ (NLt.dptr _ _ (nlc nll (nlc (nld Qad _) (Qdb Qb2 Qb2))))) rn0)) (slc (Qaj (rnc (.plain _ nll) (rnc (pld Qaw) rn0))) (slc (Qaj (rnc (pld Qam) (rnc (pld Qal) (rncc rn0)))) Qak))) (.plain _ nll),tv⟩ ?_
  refine wmr (mto (n:=9) (l':=[(4,(B ((decide (x3≥0)))))]) (own':=[(Qvu p1 p2 p3 p4),(Qvt p5 p6),(Qvs p7 p8 p9 p10)]) [(4,(B ((decide (x3≥0)))))] [0,1,2] [(Qvu p1 p2 p3 p4),(Qvt p5 p6),(Qvs p7 p8 p9 p10)] hq (pw pn) (qb (lc (.rn (.plain _ (NLt.dptr _ _ (nlc nll (nlc (nld Qad _) (Qdb Qb2 Qb2)))))) ln) (qb (lc rwl (lc (rnd Qaw) ln)) (qb (lc (rnd Qam) (lc (rnd Qal) (lcc ln))) qn))))<|Qag ?_
  obtain rfl:=osi h
  exact⟨_,Mor.rfl,fio [(B ((decide (x3≥0))))] ⟨rot,tv⟩⟩
def Qck (N:Nat) (p0:Int) (p1:List Qcc) (p2 p3:(Nat→Int)) (p4:Qa7) (p5:Qba):Option Bool:=
  (Qea N p4.Feeds p0 p1 p2 p3 p5.Site p5.Stairs p4.Inlets p4.Feeds p4.Factor p4.Horizon).bind fun x2=>
  some x2
abbrev Q4i (p4:Qa7):AV:=.dat 1 (p4.Feeds.map Qah)
def Q7r:AV:=.fn (.func 54) [] [(.ref 0 1 (0) 0),(.ref 2 2 (0) 0),(.ref 1 4 (0) 0)]
def Q7u (p0:Int) (p1:List Qcc) (p2 p3:(Nat→Int)):Slot:=.own 1 [[(.dptr ((I p0)::(.dat 4 (p1.map Qbf))::(arrF 144 p2++arrF 144 p3)) 0)]]
def Q7s (p5:Qba):Slot:=.own 2 [[(I p5.Site),(.dat 2 (p5.Stairs.map Qaz))]]
def Q7t (p4:Qa7):Slot:=.own 4 [[(.dat 2 (p4.Inlets.map Qa1)),(Q4i p4),(I p4.Factor),(I p4.Horizon)]]
theorem Qj1 (N:Nat) (p0:Int) (p1:List Qcc) (p2 p3:(Nat→Int)) (p4:Qa7) (p5:Qba) (r:Bool) (h:Qck N p0 p1 p2 p3 p4 p5=some r):Spec prog 36 [(.dptr ((I p0)::(.dat 4 (p1.map Qbf))::(arrF 144 p2++arrF 144 p3)) 0),(.agg [(.dat 2 (p4.Inlets.map Qa1)),(Q4i p4),(I p4.Factor),(I p4.Horizon)]),(.agg [(I p5.Site),(.dat 2 (p5.Stairs.map Qaz))])] [] (B r) []:=by
  refine sA func36 0 fun _ _ _ hq hd0=>?_
  unfold Qck at h
  refine wxz ?_
  obtain⟨x2,hf1,h⟩:=bno h
  refine wx tbk [(2,rp [(.tmp 3,.ref 0 1 0 0),(.tmp 5,.ref 2 2 0 0),(.tmp 4,.ref 1 4 0 0)] Q7r),(3,⟨_,_,_,_,false⟩)] ⟨Qfm (fs:=[]) (cs:=[.ref 0 1 0 0,.ref 2 2 0 0,.ref 1 4 0 0]) rfl rfl rfl rfl,acq [(Q4i p4),Q7r] [(Q7u p0 p1 p2 p3),(Q7s p5),(Q7t p4)] [(Q7u p0 p1 p2 p3),(Q7s p5),(Q7t p4)] (B x2) [0,2,1] Quc (Qh8 N p4.Feeds p0 p1 p2 p3 p5.Site p5.Stairs p4.Inlets p4.Feeds p4.Factor p4.Horizon _ hf1) (Qb1 (rnc (pld Qal) (rnc (Qao rn0 (rnc (Qa4 rfl) (rnc (Qa4 rfl) (rnc (Qa4 rfl) rn0)))) rn0))) (slc (Qaj (rnc (.plain _ (NLt.dptr _ _ (nlc nll (nlc (nld Qad _) (Qdb Qb2 Qb2))))) rn0)) (slc (Qaj (rnc (.plain _ nll) (rnc (pld Qaw) rn0))) (slc (Qaj (rnc (pld Qam) (rnc (pld Qal) (rncc rn0)))) Qak))) (slc (Qaj (rnc (.plain _ (NLt.dptr _ _ (nlc nll (nlc (nld Qad _) (Qdb Qb2 Qb2))))) rn0)) (slc (Qaj (rnc (.plain _ nll) (rnc (pld Qaw) rn0))) (slc (Qaj (rnc (pld Qam) (rnc (pld Qal) (rncc rn0)))) Qak))) (.plain _ nll),tv⟩<|Qag ?_
  exact frb h
def Qfv (N:Nat) (p1:Qa7) (k24:Int×Int×(List Int)→Option ((List Int)×Int×Int)) (x29:List Qaa):Nat→Int→Int→Int→(List Int)→Option ((List Int)×Int×Int)
  |0,_,_,_,_=>none
  |n38+1,y30,y31,y32,y33=>
    bif (decide (y30<(x29.length:Int))) then
     (getI x29 y30).bind fun x40=>
     (Qel N (⟨(⟨x40.Stair.Amount,x40.Stair.Price⟩:Qap),x40.inlet⟩:Qaa) y31 ((p1.Inlets.length:Int).toNat) y32 y33).bind fun x45=>
     Qfv N p1 k24 x29 n38 (w64 (y30+1)) x45.1 x45.2.1 x45.2.2
    else
     k24 (y31,y32,y33)
def Qfu (N:Nat) (p1:Qa7) (y18:List Qaa) (k24:Int×Int×(List Int)→Option ((List Int)×Int×Int)) (x48:List Qaa):Nat→Int→Int→Int→(List Int)→Option ((List Int)×Int×Int)
  |0,_,_,_,_=>none
  |n57+1,y49,y50,y51,y52=>
    bif (decide (y49<((y18.length:Nat):Int))) then
     chk (decide (0≤y49)&&decide (y49.toNat<y18.length))<|
     (x48[y49.toNat]?).bind fun x60=>
     (Qel N (⟨(⟨x60.Stair.Amount,x60.Stair.Price⟩:Qap),x60.inlet⟩:Qaa) y50 ((p1.Inlets.length:Int).toNat) y51 y52).bind fun x63=>
     Qfu N p1 y18 k24 x48 n57 (w64 (y49+1)) x63.1 x63.2.1 x63.2.2
    else
     k24 (y50,y51,y52)
def Qe1 (N:Nat) (p1:Qa7) (y64:Int) (k71:(List Qaa)→Option ((List Int)×Int×Int)) (x72:Qba):Nat→Int→(List Qaa)→Option ((List Int)×Int×Int)
  |0,_,_=>none
  |n80+1,y76,y77=>
    bif (decide (y76<(x72.Stairs.length:Int))) then
     (getI x72.Stairs y76).bind fun x82=>
     (Qgw N p1 x72).bind fun x87=>
     bif (!x87) then
      chk (decide ((y77.length+([(⟨x82,y64⟩:Qaa)]).length)*24≤140737488355328))<|
      Qe1 N p1 y64 k71 x72 n80 (w64 (y76+1)) (y77++([(⟨x82,y64⟩:Qaa)]))
     else
      Qe1 N p1 y64 k71 x72 n80 (w64 (y76+1)) y77
    else
     k71 (y77)
def Qft (N:Nat) (p1:Qa7) (k19:(List Qaa)→Option ((List Int)×Int×Int)):Nat→Int→(List Qaa)→Option ((List Int)×Int×Int)
  |0,_,_=>none
  |n68+1,y64,y65=>
    bif (decide (y64<(p1.Inlets.length:Int))) then
     Qcy (fun y70=>
       Qft N p1 k19 n68 (w64 (y64+1)) y70) fun k71:(List Qaa)→Option ((List Int)×Int×Int)=>
     (getI p1.Inlets y64).bind fun x72=>
     Qe1 N p1 y64 k71 x72 N 0 y65
    else
     k19 (y65)
def Qeh (N:Nat) (p1:Qa7) (k98:Int×Int×(List Int)→Option ((List Int)×Int×Int)) (x103:List Qaa):Nat→Int→Int→Int→(List Int)→Option ((List Int)×Int×Int)
  |0,_,_,_,_=>none
  |n112+1,y104,y105,y106,y107=>
    bif (decide (y104<(x103.length:Int))) then
     (getI x103 y104).bind fun x114=>
     (Qel N (⟨(⟨x114.Stair.Amount,x114.Stair.Price⟩:Qap),x114.inlet⟩:Qaa) y105 ((p1.Inlets.length:Int).toNat) y106 y107).bind fun x119=>
     Qeh N p1 k98 x103 n112 (w64 (y104+1)) x119.1 x119.2.1 x119.2.2
    else
     k98 (y105,y106,y107)
def Qdo (N:Nat) (p1:Qa7) (y92:List Qaa) (k98:Int×Int×(List Int)→Option ((List Int)×Int×Int)) (x122:List Qaa):Nat→Int→Int→Int→(List Int)→Option ((List Int)×Int×Int)
  |0,_,_,_,_=>none
  |n131+1,y123,y124,y125,y126=>
    bif (decide (y123<((y92.length:Nat):Int))) then
     chk (decide (0≤y123)&&decide (y123.toNat<y92.length))<|
     (x122[y123.toNat]?).bind fun x134=>
     (Qel N (⟨(⟨x134.Stair.Amount,x134.Stair.Price⟩:Qap),x134.inlet⟩:Qaa) y124 ((p1.Inlets.length:Int).toNat) y125 y126).bind fun x137=>
     Qdo N p1 y92 k98 x122 n131 (w64 (y123+1)) x137.1 x137.2.1 x137.2.2
    else
     k98 (y124,y125,y126)
def Qd3 (N:Nat) (p0:Qat) (p1:Qa7) (x90:(Int×(Nat→Int)×(Nat→Int))) (y138:Int) (k145:(List Qaa)→Option ((List Int)×Int×Int)) (x146:Qba):Nat→Int→(List Qaa)→Option ((List Int)×Int×Int)
  |0,_,_=>none
  |n154+1,y150,y151=>
    bif (decide (y150<(x146.Stairs.length:Int))) then
     (getI x146.Stairs y150).bind fun x156=>
     (Qck N p0.Sites p0.Tests x90.2.1 x90.2.2 p1 x146).bind fun x161=>
     bif (!x161) then
      chk (decide ((y151.length+([(⟨x156,y138⟩:Qaa)]).length)*24≤140737488355328))<|
      Qd3 N p0 p1 x90 y138 k145 x146 n154 (w64 (y150+1)) (y151++([(⟨x156,y138⟩:Qaa)]))
     else
      Qd3 N p0 p1 x90 y138 k145 x146 n154 (w64 (y150+1)) y151
    else
     k145 (y151)
def Qd4 (N:Nat) (p0:Qat) (p1:Qa7) (x90:(Int×(Nat→Int)×(Nat→Int))) (k93:(List Qaa)→Option ((List Int)×Int×Int)):Nat→Int→(List Qaa)→Option ((List Int)×Int×Int)
  |0,_,_=>none
  |n142+1,y138,y139=>
    bif (decide (y138<(p1.Inlets.length:Int))) then
     Qcy (fun y144=>
       Qd4 N p0 p1 x90 k93 n142 (w64 (y138+1)) y144) fun k145:(List Qaa)→Option ((List Int)×Int×Int)=>
     (getI p1.Inlets y138).bind fun x146=>
     Qd3 N p0 p1 x90 y138 k145 x146 N 0 y139
    else
     k93 (y139)
def Qeu (N:Nat) (p0:Qat) (p1:Qa7) (p2:Int):Option ((List Int)×Int×Int):=
  (Qec N p0 p1).bind fun x9=>
  bif (x9 != 0) then
   some ([],0,x9)
  else
   (Qc8 N p2 0 1000000).bind fun x12=>
   bif (!x12) then
    some ([],0,2)
   else
    (Qdv N p0).bind (
     Sum.elim (fun x16=>
       bif (x16 != 0) then
        some ([],0,x16)
       else
        Qcy (fun y18=>
          chk (decide (0≤(p1.Inlets.length:Int))&&decide (8*(p1.Inlets.length:Int)≤281474976710656)&&decide ((p1.Inlets.length:Int)≤9223372036854775807))<|
          Qcy (fun ⟨y21,y22,y23⟩=>
            bif (decide (y21>0)) then
             some ([],0,11)
            else
             chk (decide ((p1.Inlets.length:Int).toNat≤y23.length))<|
             some (y23.take ((p1.Inlets.length:Int).toNat),y22,0)) fun k24:Int×Int×(List Int)→Option ((List Int)×Int×Int)=>
          bif y18.isEmpty then
           (Qcm N).bind fun x29=>
           Qfv N p1 k24 x29 N 0 p2 0 (List.replicate (p1.Inlets.length:Int).toNat 0)
          else
           (Qcl N y18.length y18).bind fun x48=>
           Qfu N p1 y18 k24 x48 N 0 p2 0 (List.replicate (p1.Inlets.length:Int).toNat 0)) fun k19:(List Qaa)→Option ((List Int)×Int×Int)=>
        Qft N p1 k19 N 0 ([]:List Qaa))
     (fun x90=>
       bif (x90.1 != 0) then
        some ([],0,x90.1)
       else
        Qcy (fun y92=>
          chk (decide (0≤(p1.Inlets.length:Int))&&decide (8*(p1.Inlets.length:Int)≤281474976710656)&&decide ((p1.Inlets.length:Int)≤9223372036854775807))<|
          Qcy (fun ⟨y95,y96,y97⟩=>
            bif (decide (y95>0)) then
             some ([],0,11)
            else
             chk (decide ((p1.Inlets.length:Int).toNat≤y97.length))<|
             some (y97.take ((p1.Inlets.length:Int).toNat),y96,0)) fun k98:Int×Int×(List Int)→Option ((List Int)×Int×Int)=>
          bif y92.isEmpty then
           (Qcm N).bind fun x103=>
           Qeh N p1 k98 x103 N 0 p2 0 (List.replicate (p1.Inlets.length:Int).toNat 0)
          else
           (Qcl N y92.length y92).bind fun x122=>
           Qdo N p1 y92 k98 x122 N 0 p2 0 (List.replicate (p1.Inlets.length:Int).toNat 0)) fun k93:(List Qaa)→Option ((List Int)×Int×Int)=>
        Qd4 N p0 p1 x90 k93 N 0 ([]:List Qaa)))
def Qj6 (p0:Qat):AV:=.dat 4 (p0.Tests.map Qbf)
def Qrw (p0:Qat):AV:=.agg [(I p0.Sites),(Qj6 p0)]
def Qif (p1:Qa7):AV:=.dat 2 (p1.Inlets.map Qa1)
def Qto (p1:Qa7):AV:=.agg [(Qif p1),(.dat 1 (p1.Feeds.map Qah)),(I p1.Factor),(I p1.Horizon)]
def Qm8:AV:=.dat 1 ((([]):List Int).map Qah)
def Qi4:AV:=.dat 1 (([]:List Int).map Qah)
def Qhh (p1:Qa7):Slot:=.own 4 [[(Qif p1),(.dat 1 (p1.Feeds.map Qah)),(I p1.Factor),(I p1.Horizon)]]
def Qj0 (p1:Qa7):Slot:=.own 1 ((List.replicate (p1.Inlets.length:Int).toNat 0:List Int).map Qah)
def Qh5:AV:=.fn (.func 37) [] [(.ref 1 1 (0) 0),(.ref 2 1 (0) 0),(.ref 3 1 (0) 0)]
def Qjz (p1:Qa7):Slot:=.own 1 [[(.own 3 1 (0) ((p1.Inlets.length:Int).toNat))]]
def Qtn (y23:List Int) (p1:Qa7):AV:=.dat 1 ((y23.take ((p1.Inlets.length:Int).toNat):List Int).map Qah)
def Qtm (y23:List Int) (p1:Qa7):AV:=.dat 1 (((y23.take ((p1.Inlets.length:Int).toNat)):List Int).map Qah)
def Qlb (p1:Qa7):Slot:=.own 1 [[(.own 5 1 (0) ((p1.Inlets.length:Int).toNat))]]
def Qya:Slot:=.gro 3 (([]:List Qaa).map Qac)
def Qqm:AV:=.dat 3 (([]:List Qaa).map Qac)
def Qoi (x29:List Qaa):AV:=.dat 3 (x29.map Qac)
def Qi5:AV:=.fn (.func 37) [] [(.ref 0 1 (0) 0),(.ref 1 1 (0) 0),(.ref 2 1 (0) 0)]
def Qqk (p1:Qa7):Slot:=.own 1 (((List.replicate (p1.Inlets.length:Int).toNat 0):List Int).map Qah)
def Qql (p1:Qa7):Slot:=.own 1 [[(.own 3 1 (0) (((p1.Inlets.length:Int).toNat)))]]
def Qk9 (x48:List Qaa):Slot:=.own 3 (x48.map Qac)
def Qla (p1:Qa7):Slot:=.own 1 [[(.own 4 1 (0) ((p1.Inlets.length:Int).toNat))]]
def Q4t (x60:Qaa):AV:=.agg [(I x60.Stair.Amount),(I x60.Stair.Price),(I x60.inlet)]
def Qqj (p1:Qa7):Slot:=.own 1 [[(.own 4 1 (0) (((p1.Inlets.length:Int).toNat)))]]
def Quy:Slot:=.gro 3 ((([]:List Qaa):List Qaa).map Qac)
def Ql2 (x72:Qba):AV:=.dat 2 (x72.Stairs.map Qaz)
def Qoh (x72:Qba):Slot:=.own 2 [[(I x72.Site),(Ql2 x72)]]
def Qtl (x82:Qap) (y64:Int):AV:=.agg [(I x82.Amount),(I x82.Price),(I y64)]
def Qx9 (p0:Qat) (x90:(Int×(Nat→Int)×(Nat→Int))):Slot:=.own 290 [((I p0.Sites)::(Qj6 p0)::(arrF 144 x90.2.1++arrF 144 x90.2.2))]
def Qtk (y97:List Int) (p1:Qa7):AV:=.dat 1 ((y97.take ((p1.Inlets.length:Int).toNat):List Int).map Qah)
def Qtj (y97:List Int) (p1:Qa7):AV:=.dat 1 (((y97.take ((p1.Inlets.length:Int).toNat)):List Int).map Qah)
def Qog (x103:List Qaa):AV:=.dat 3 (x103.map Qac)
def Qk8 (x122:List Qaa):Slot:=.own 3 (x122.map Qac)
def Q4s (x134:Qaa):AV:=.agg [(I x134.Stair.Amount),(I x134.Stair.Price),(I x134.inlet)]
def Qjv (x146:Qba):AV:=.dat 2 (x146.Stairs.map Qaz)
def Qmo (x146:Qba):Slot:=.own 2 [[(I x146.Site),(Qjv x146)]]
def Qqn (x156:Qap) (y138:Int):AV:=.agg [(I x156.Amount),(I x156.Price),(I y138)]
theorem Qn5 (N:Nat) (p0:Qat) (p1:Qa7) (p2:Int) (r:((List Int)×Int×Int)) (h:Qeu N p0 p1 p2=some r):Spec prog 21 [(.agg (Qf9 p0)),(.agg (Qhm p1)),(I p2)] [] (.tup [(.dat 1 (r.1.map Qah)),(I r.2.1),(I r.2.2)]) []:=by
  refine sF func21 0 fun _ _ _ hq hd0=>?_
  unfold Qeu at h
  refine wxz<|wsq ?_
  obtain⟨x9,hf8,h⟩:=bno h
  refine wx tbk [(2,rp _ _)] ⟨apw Q0c (Qi1 N p0 p1 _ hf8),tv⟩<|wxz ?_
  refine bfe h (fun hc10 h=>?_) fun hc10 h=>?_
  ·refine wft hc10<|wxz ?_
   refine wmr (mto (n:=84) (l':=[(6,.ref 0 1 0 0),(7,.ref 1 1 0 0),(8,I x9)]) (own':=[(.own 1 [[Qm8]]),(.own 1 [[I 0]])]) [(6,.ref 3 1 0 0),(7,.ref 4 1 0 0),(8,I x9)] [3,4] [(.own 1 [[nilS]]),(.own 1 [[I 0]])] hq (prr (prr (pw pn))) (qb (lc (.nil _) ln) (qb (lc rwl ln) qn)))<|Qag<|Qae ?_
   obtain rfl:=osi h
   exact⟨_,Mor.rfl,fie [Qi4,I 0,I x9] ⟨Qda (n:=0) (m:=1) (j:=0) (i:=0) (xs:=[[Qi4]]) (by kernel_rfl) (by kernel_rfl) ti26 (by decide) rfl (nle rfl) rfl,Qda (n:=1) (m:=1) (j:=0) (i:=0) (xs:=[[I 0]]) (by kernel_rfl) (by kernel_rfl) ti3 (by decide) rfl (nle rfl) rfl,rot,tv⟩⟩
  ·refine wfn hc10<|Qai<|thn<|wsq ?_
   obtain⟨x12,hf11,h⟩:=bno h
   refine wx tbk [(1,rp _ _)] ⟨apw Qjn (Qde N p2 0 1000000 _ hf11),tv⟩ ?_
   refine bfe h (fun hc13 h=>?_) fun hc13 h=>?_
   ·refine wft hc13<|wxz ?_
    refine wmr (mto (n:=84) (l':=[(6,.ref 0 1 0 0),(7,.ref 1 1 0 0),(8,I 2)]) (own':=[(.own 1 [[Qm8]]),(.own 1 [[I 0]])]) [(6,.ref 3 1 0 0),(7,.ref 4 1 0 0),(8,I 2)] [3,4] [(.own 1 [[nilS]]),(.own 1 [[I 0]])] hq (prr (prr (pw pn))) (qb (lc (.nil _) ln) (qb (lc rwl ln) qn)))<|Qag<|Qae ?_
    obtain rfl:=osi h
    exact⟨_,Mor.rfl,fie [Qi4,I 0,I 2] ⟨Qda (n:=0) (m:=1) (j:=0) (i:=0) (xs:=[[Qi4]]) (by kernel_rfl) (by kernel_rfl) ti26 (by decide) rfl (nle rfl) rfl,Qda (n:=1) (m:=1) (j:=0) (i:=0) (xs:=[[I 0]]) (by kernel_rfl) (by kernel_rfl) ti3 (by decide) rfl (nle rfl) rfl,rot,tv⟩⟩
   ·refine wfn hc13<|Qai<|thn ?_
    obtain⟨x15,hf14,h⟩:=bno h
    rcases x15 with x16 |x90
    ·replace h:=Q5a h
     refine wx tbk [(1,rp _ _)] ⟨acq [(Qrw p0)] [] [] (.tup [(.lit (.pointer none)),I x16]) [] Qre (Qiz N p0 _ hf14) (Qb1 (rnc (.plain _ (NLt.agg _ (nlc nll (nlc (nld Qad _) nl0)))) rn0)) Qak Qak (.plain _ (NLt.tup _ (nlcc nl0))),tv⟩<|wsq<|wxz ?_
     refine bfe h (fun hc17 h=>?_) fun hc17 h=>?_
     ·refine wft hc17<|wxz ?_
      refine wmr (mto (n:=84) (l':=[(6,.ref 0 1 0 0),(7,.ref 1 1 0 0),(8,I x16)]) (own':=[(.own 1 [[Qm8]]),(.own 1 [[I 0]])]) [(6,.ref 3 1 0 0),(7,.ref 4 1 0 0),(8,I x16)] [3,4] [(.own 1 [[nilS]]),(.own 1 [[I 0]])] hq (prr (prr (pw pn))) (qb (lc (.nil _) ln) (qb (lc rwl ln) qn)))<|Qag<|Qae ?_
      obtain rfl:=osi h
      exact⟨_,Mor.rfl,fie [Qi4,I 0,I x16] ⟨Qda (n:=0) (m:=1) (j:=0) (i:=0) (xs:=[[Qi4]]) (by kernel_rfl) (by kernel_rfl) ti26 (by decide) rfl (nle rfl) rfl,Qda (n:=1) (m:=1) (j:=0) (i:=0) (xs:=[[I 0]]) (by kernel_rfl) (by kernel_rfl) ti3 (by decide) rfl (nle rfl) rfl,rot,tv⟩⟩
     ·refine wfn hc17<|Qai<|thn<|wxz ?_
      obtain⟨k19,hk_k19,h⟩:=jko h
      refine wjn (τ:=(List Qaa)) (fun t=>k19 t=some r) (fun y18=>⟨mk 84 [(4,.ref 0 4 0 0),(5,.ref 1 1 0 0),(6,.ref 2 1 0 0),(7,.ref 3 1 0 0),(11,(.gro 4 94 3 y18.length))],[(Qhh p1),(.own 1 [[I p2]]),(.own 1 [[nilS]]),(.own 1 [[I 0]]),(.gro 3 (y18.map Qac))]⟩) (fun y18 h=>?_) ?_
      ·subst hk_k19
       obtain⟨hm20,h⟩:=cko h
       refine wx tbk [(2,rp _ _),(3,⟨[(.tmp 66,(I ((p1.Inlets.length:Int)))),(.tmp 66,(I ((p1.Inlets.length:Int))))],[(5,.unused)],(.own 5 1 (0) ((p1.Inlets.length:Int).toNat)),[(5,(Qj0 p1))],false⟩)] ⟨alq 2 Qa1 p1.Inlets underlying67,Qnk rfl underlying26 te3 tz3 rfl (Q66 hm20) rfl (Q65 hm20) (Q1f hm20) (Qtx Qah rfl),tv⟩ ?_
       refine wx tbk [(0,rp [(.tmp 5,.ref 1 1 0 0),(.tmp 6,.ref 2 1 0 0),(.tmp 7,.ref 3 1 0 0)] Qh5)] ⟨Qfm (fs:=[]) (cs:=[.ref 1 1 0 0,.ref 2 1 0 0,.ref 3 1 0 0]) rfl rfl rfl rfl,tv⟩ ?_
       obtain⟨k24,hk_k24,h⟩:=jko h
       refine wjn (τ:=Int×Int×(List Int)) (fun t=>k24 t=some r) (fun ⟨y21,y22,y23⟩=>⟨mk 84 [(5,.ref 0 1 0 0),(6,.ref 1 1 0 0),(7,.ref 2 1 0 0)],[(.own 1 [[I y21]]),(Qjz p1),(.own 1 [[I y22]]),(.own 1 (y23.map Qah))]⟩) (fun t h=>?_) ?_
       ·subst hk_k24
        obtain⟨y21,y22,y23⟩:=t
        refine wsq<|wxz ?_
        refine bfe h (fun hc25 h=>?_) fun hc25 h=>?_
        ·refine wft hc25<|wxz ?_
         refine wmr (mto (n:=84) (l':=[(6,.ref 0 1 0 0),(7,.ref 1 1 0 0),(8,I 11)]) (own':=[(.own 1 [[Qm8]]),(.own 1 [[I 0]])]) [(6,.ref 1 1 0 0),(7,.ref 2 1 0 0),(8,I 11)] [1,2] [(.own 1 [[nilS]]),(.own 1 [[I 0]])] hq (prr (prr (pw pn))) (qb (lc (.nil _) ln) (qb (lc rwl ln) qn)))<|Qag<|Qae ?_
         obtain rfl:=osi h
         exact⟨_,Mor.rfl,fie [Qi4,I 0,I 11] ⟨Qda (n:=0) (m:=1) (j:=0) (i:=0) (xs:=[[Qi4]]) (by kernel_rfl) (by kernel_rfl) ti26 (by decide) rfl (nle rfl) rfl,Qda (n:=1) (m:=1) (j:=0) (i:=0) (xs:=[[I 0]]) (by kernel_rfl) (by kernel_rfl) ti3 (by decide) rfl (nle rfl) rfl,rot,tv⟩⟩
        ·refine wfn hc25<|Qai<|thn<|wxe ?_
         obtain⟨hz26,h⟩:=cko h
         refine wmr (Qzb (n:=84) (mp:=1) (m:=1) (xs:=y23.map Qah) (c:=[(.own 3 1 (0) ((p1.Inlets.length:Int).toNat))]) (l':=[(6,.ref 1 1 0 0),(7,.ref 2 1 0 0),(8,I 0)]) (c':=[(Qtn y23 p1)]) (own':=[(.own 1 [[I y21]]),(.own 1 [[(Qtn y23 p1)]]),(.own 1 [[I y22]]),.dead]) 3 1 [(6,.ref 1 1 0 0),(7,.ref 2 1 0 0),(8,I 0)] (by kernel_rfl) (by kernel_rfl) (by kernel_rfl) (by kernel_rfl) ⟨(Qq6 hz26),tv⟩ ⟨rfl,(.same _),rfl,(.same _),rfl,(.same _),tv⟩ (by kernel_rfl)) ?_
         refine wmr (mto (n:=84) (l':=[(6,.ref 0 1 0 0),(7,.ref 1 1 0 0),(8,I 0)]) (own':=[(.own 1 [[(Qtm y23 p1)]]),(.own 1 [[I y22]])]) [(6,.ref 1 1 0 0),(7,.ref 2 1 0 0),(8,I 0)] [1,2] [(.own 1 [[(Qtn y23 p1)]]),(.own 1 [[I y22]])] hq (prr (prr (pw pn))) (qb (lc (rnd Qal) ln) (qb (lc rwl ln) qn)))<|Qag ?_
         obtain rfl:=osi h
         exact⟨_,Mor.rfl,fie [(Qtm y23 p1),I y22,I 0] ⟨Qda (n:=0) (m:=1) (j:=0) (i:=0) (xs:=[[(Qtm y23 p1)]]) (by kernel_rfl) (by kernel_rfl) ti26 (by decide) rfl (nle rfl) rfl,Qda (n:=1) (m:=1) (j:=0) (i:=0) (xs:=[[I y22]]) (by kernel_rfl) (by kernel_rfl) ti3 (by decide) rfl (nle rfl) rfl,rot,tv⟩⟩
       ·skip
        refine bfe h (fun hb27 h=>?_) fun hb27 h=>?_
        ·obtain rfl:=List.isEmpty_iff.1 hb27
         refine wmr (Qox [(Qhh p1),(.own 1 [[I p2]]),(Qlb p1),(.own 1 [[I 0]]),Qya,(Qj0 p1)] (Qu9 (n:=84) (m:=3) (xs:=([]:List Qaa).map Qac) (l':=[(4,.ref 0 4 0 0),(5,.ref 1 1 0 0),(6,.ref 2 1 0 0),(7,.ref 3 1 0 0),(11,Qqm),(16,Qh5),(64,.ref 0 4 0 0),(65,(Qif p1)),(66,(I ((p1.Inlets.length:Int)))),(67,(.own 5 1 (0) ((p1.Inlets.length:Int).toNat))),(68,Qh5)]) (own':=[(Qhh p1),(.own 1 [[I p2]]),(Qlb p1),(.own 1 [[I 0]]),.dead,(Qj0 p1)]) 4 [(4,.ref 0 4 0 0),(5,.ref 1 1 0 0),(6,.ref 2 1 0 0),(7,.ref 3 1 0 0),(11,(.gro 4 94 3 (([]).length))),(16,Qh5),(64,.ref 0 4 0 0),(65,(Qif p1)),(66,(I ((p1.Inlets.length:Int)))),(67,(.own 5 1 (0) ((p1.Inlets.length:Int).toNat))),(68,Qh5)] (by kernel_rfl) (by kernel_rfl) (by kernel_rfl) ⟨rfl,(.same _),rfl,(.same _),rfl,(.same _),rfl,(.same _),rfl,(.gro _ _ (Qzi).symm),rfl,(.same _),rfl,(.same _),rfl,(.same _),rfl,(.same _),rfl,(.same _),rfl,(.same _),tv⟩ (qc Qio (qc Qio (qc Qio (qc Qio (qc .dead (qc Qio qn)))))))) ?_
         obtain⟨x29,hf28,h⟩:=bno h
         refine wx tbk [(1,rp _ _),(2,rp _ _)] ⟨acq [Qqm,(.fn (.func 39) [] [])] [] [] (Qoi x29) [] Qrc (Qgc N _ hf28) (Qb1 (rnc (pld Qab) (rnc (.plain _ (NLt.fn _ _ _ nl0 nl0)) rn0))) Qak Qak (pld Qab),alq 3 Qac x29 underlying87,tv⟩<|Qaf ?_
         refine wmr (mto (n:=84) (l':=[(5,.ref 0 1 0 0),(6,.ref 1 1 0 0),(7,.ref 2 1 0 0),(16,Qi5),(70,(Qoi x29)),(71,(I ((x29.length:Int)))),(72,I 0)]) (own':=[(.own 1 [[I p2]]),(Qjz p1),(.own 1 [[I 0]]),(Qqk p1)]) [(5,.ref 1 1 0 0),(6,.ref 2 1 0 0),(7,.ref 3 1 0 0),(16,Qh5),(70,(Qoi x29)),(71,(I ((x29.length:Int)))),(72,I 0)] [1,2,3,5] [(.own 1 [[I p2]]),(Qlb p1),(.own 1 [[I 0]]),(Qj0 p1)] hq (prr (prr (prr (pc (.rn (Qao rn0 (rnc (rqr rfl) (rnc (rqr rfl) (rnc (rqr rfl) rn0))))) (pc (rnd Qab) (pw (pw pn))))))) (qb (lc rwl ln) (qb (lc (.rn (Qbj rfl)) ln) (qb (lc rwl ln) (qc (spr Qal) qn))))) ?_
         refine Qbx (τ:=Int×Int×Int×(List Int)) (fun n t=>Qfv N p1 k24 x29 n t.1 t.2.1 t.2.2.1 t.2.2.2=some r) (fun ⟨y30,y31,y32,y33⟩=>⟨mk 84 [(5,.ref 0 1 0 0),(6,.ref 1 1 0 0),(7,.ref 2 1 0 0),(16,Qi5),(70,(Qoi x29)),(71,(I ((x29.length:Int)))),(72,I y30)],[(.own 1 [[I y31]]),(Qjz p1),(.own 1 [[I y32]]),(.own 1 (y33.map Qah))]⟩) (fun t h=>by rw[Qfv] at h;cases h) (fun n38 ih t h=>?_) N (0,p2,0,List.replicate (p1.Inlets.length:Int).toNat 0) h
         obtain⟨y30,y31,y32,y33⟩:=t
         rw[Qfv] at h
         skip
         refine wxz<|wsq ?_
         refine bfe h (fun hc39 h=>?_) fun hc39 h=>?_
         ·refine wft hc39<|Qai<|thn<|wsq<|Qaf ?_
          obtain⟨x40,hg41,h⟩:=bno h
          obtain⟨hi42,hj43⟩:=gsm hg41
          refine wx tbk [(0,rp _ _)] ⟨aiq underlying87 ti94 Qac hi42 hj43,tv⟩ ?_
          obtain⟨x45,hf44,h⟩:=bno h
          refine wx1 tbk [(2,⟨_,_,_,_,false⟩)] ⟨Qei (first:=[]) (cap:=[.ref 0 1 0 0,.ref 1 1 0 0,.ref 2 1 0 0]) (vs:=[(.agg [(I ((⟨(⟨x40.Stair.Amount,x40.Stair.Price⟩:Qap),x40.inlet⟩:Qaa).Stair.Amount)),(I ((⟨(⟨x40.Stair.Amount,x40.Stair.Price⟩:Qap),x40.inlet⟩:Qaa).Stair.Price)),(I ((⟨(⟨x40.Stair.Amount,x40.Stair.Price⟩:Qap),x40.inlet⟩:Qaa).inlet))])]) (σr:=[(.own 1 [[I y31]]),(Qjz p1),(.own 1 [[I y32]]),(.own 1 (y33.map Qah))]) (σr':=[(.own 1 [[I x45.1]]),(Qql p1),(.own 1 [[I x45.2.1]]),(.own 1 (x45.2.2.map Qah))]) (res':=(.tup [])) [0,1,2,3] rfl Qrd (Qgf N (⟨(⟨x40.Stair.Amount,x40.Stair.Price⟩:Qap),x40.inlet⟩:Qaa) y31 ((p1.Inlets.length:Int).toNat) y32 y33 _ hf44) rfl (Qb1 (rnc (.plain _ (NLt.agg _ (nlcc (nlc nll nl0)))) (rnc (Qa4 rfl) (rnc (Qa4 rfl) (rnc (Qa4 rfl) rn0))))) (slc (Qaj (rnc (.plain _ nll) rn0)) (slc (Qaj (rnc (Qgu rfl) rn0)) (slc (Qaj (rnc (.plain _ nll) rn0)) (slc (Qd1 Qal) Qak)))) (slc (Qaj (rnc (.plain _ nll) rn0)) (slc (Qaj (rnc (Qnc rfl) rn0)) (slc (Qaj (rnc (.plain _ nll) rn0)) (slc (Qd1 Qal) Qak)))) (.plain _ (NLt.tup _ nl0)) rfl rfl rfl,tv⟩<|bln<|thn<|wxz1<|thn ?_
          exact arm (mto (n:=84) [(5,.ref 0 1 0 0),(6,.ref 1 1 0 0),(7,.ref 2 1 0 0),(16,Qi5),(70,(Qoi x29)),(71,(I ((x29.length:Int)))),(72,(I (w64 (y30+1))))] [0,1,2,3] [(.own 1 [[I x45.1]]),(Qql p1),(.own 1 [[I x45.2.1]]),(.own 1 (x45.2.2.map Qah))] hq (prr (prr (prr (pc (.rn (Qao rn0 (rnc (rqr rfl) (rnc (rqr rfl) (rnc (rqr rfl) rn0))))) (pc (rnd Qab) (pw (pw pn))))))) (qb (lc rwl ln) (qb (lc (.rn (Qbj rfl)) ln) (qb (lc rwl ln) (qc (spr Qal) qn))))) (ih (w64 (y30+1),x45.1,x45.2.1,x45.2.2) h)
         ·exact wfn hc39<|Qa3<|Qan<|Qan<|Qa2 rfl<|thn<|⟨(y31,y32,y33),h,(mto (n:=84) [(5,.ref 0 1 0 0),(6,.ref 1 1 0 0),(7,.ref 2 1 0 0)] [0,1,2,3] [(.own 1 [[I y31]]),(Qjz p1),(.own 1 [[I y32]]),(.own 1 (y33.map Qah))] hq (prr (prr (prr pn))) (qb (lc rwl ln) (qb (lc (.rn (Qbj rfl)) ln) (qb (lc rwl ln) (qc (spr Qal) qn)))))⟩
        ·have hz46:(!y18.isEmpty)=true:=by rw[hb27];rfl
         obtain⟨x48,hf47,h⟩:=bno h
         refine wx tbk [(1,⟨[fu 38,(.tmp 69,(.gro 4 94 3 y18.length)),fu 39],[(4,(.gro 3 (y18.map Qac)))],(.own 4 3 (0) y18.length),[(4,(Qk9 x48))],false⟩),(2,rp [(.tmp 70,(.own 4 3 (0) y18.length))] (I (((y18.length:Nat):Int))))] ⟨Qo9 (bl':=[(4,(.own 3 (y18.map Qac)))]) ⟨rfl,SLess.gro (Qji hz46),tv⟩ (awk (rd':=[fu 38,(.tmp 69,(.own 4 3 (0) y18.length)),fu 39]) ⟨rfl,lrf,rfl,Less.gro,rfl,lrf,tv⟩ (acq [(.own 4 3 (0) y18.length),(.fn (.func 39) [] [])] [(.own 3 (y18.map Qac))] [(Qk9 x48)] (.own 4 3 (0) y18.length) [4] Qrc (Qgb N y18.length y18 _ hf47) (Qb1 (rnc (Qgu rfl) (rnc (.plain _ (NLt.fn _ _ _ nl0 nl0)) rn0))) (slc (Qd1 Qab) Qak) (slc (Qd1 Qab) Qak) (Qnc rfl))),aln rfl underlying87 rfl,tv⟩<|Qaf ?_
         refine wmr (mto (n:=84) (l':=[(5,.ref 0 1 0 0),(6,.ref 1 1 0 0),(7,.ref 2 1 0 0),(16,Qi5),(70,(.own 3 3 (0) y18.length)),(71,(I (((y18.length:Nat):Int)))),(72,I 0)]) (own':=[(.own 1 [[I p2]]),(Qla p1),(.own 1 [[I 0]]),(Qk9 x48),(Qqk p1)]) [(5,.ref 1 1 0 0),(6,.ref 2 1 0 0),(7,.ref 3 1 0 0),(16,Qh5),(70,(.own 4 3 (0) y18.length)),(71,(I (((y18.length:Nat):Int)))),(72,I 0)] [1,2,3,4,5] [(.own 1 [[I p2]]),(Qlb p1),(.own 1 [[I 0]]),(Qk9 x48),(Qj0 p1)] hq (prr (prr (prr (pc (.rn (Qao rn0 (rnc (rqr rfl) (rnc (rqr rfl) (rnc (rqr rfl) rn0))))) (pc (.rn (Qbj rfl)) (pw (pw pn))))))) (qb (lc rwl ln) (qb (lc (.rn (Qbj rfl)) ln) (qb (lc rwl ln) (qc (spr Qab) (qc (spr Qal) qn)))))) ?_
         refine Qbx (τ:=Int×Int×Int×(List Int)) (fun n t=>Qfu N p1 y18 k24 x48 n t.1 t.2.1 t.2.2.1 t.2.2.2=some r) (fun ⟨y49,y50,y51,y52⟩=>⟨mk 84 [(5,.ref 0 1 0 0),(6,.ref 1 1 0 0),(7,.ref 2 1 0 0),(16,Qi5),(70,(.own 3 3 (0) y18.length)),(71,(I (((y18.length:Nat):Int)))),(72,I y49)],[(.own 1 [[I y50]]),(Qla p1),(.own 1 [[I y51]]),(Qk9 x48),(.own 1 (y52.map Qah))]⟩) (fun t h=>by rw[Qfu] at h;cases h) (fun n57 ih t h=>?_) N (0,p2,0,List.replicate (p1.Inlets.length:Int).toNat 0) h
         obtain⟨y49,y50,y51,y52⟩:=t
         rw[Qfu] at h
         skip
         refine wxz<|wsq ?_
         refine bfe h (fun hc58 h=>?_) fun hc58 h=>?_
         ·refine wft hc58<|Qai<|thn<|wsq<|Qaf ?_
          obtain⟨hi59,h⟩:=cko h
          obtain⟨hi59a,hi59b⟩:=Qbp hi59
          obtain⟨x60,hg61,h⟩:=bno h
          refine wx tbk [(0,rb [(.tmp 70,(.own 3 3 (0) y18.length)),(.tmp 72,I y49)] [(3,(Qk9 x48))] (.ref 3 3 y49.toNat 0)),(1,rb [(.tmp 74,(.ref 3 3 y49.toNat 0))] [(3,(Qk9 x48))] (Q4t x60))] ⟨aio rfl underlying87 ti94 (odt hi59a) (odt hi59b) (Nat.zero_add _),ald rfl ti94 (by decide) (mgt Qac hg61) (nle rfl) rfl,tv⟩ ?_
          obtain⟨x63,hf62,h⟩:=bno h
          refine wx1 tbk [(2,⟨_,_,_,_,false⟩)] ⟨Qei (first:=[]) (cap:=[.ref 0 1 0 0,.ref 1 1 0 0,.ref 2 1 0 0]) (vs:=[(.agg [(I ((⟨(⟨x60.Stair.Amount,x60.Stair.Price⟩:Qap),x60.inlet⟩:Qaa).Stair.Amount)),(I ((⟨(⟨x60.Stair.Amount,x60.Stair.Price⟩:Qap),x60.inlet⟩:Qaa).Stair.Price)),(I ((⟨(⟨x60.Stair.Amount,x60.Stair.Price⟩:Qap),x60.inlet⟩:Qaa).inlet))])]) (σr:=[(.own 1 [[I y50]]),(Qla p1),(.own 1 [[I y51]]),(.own 1 (y52.map Qah))]) (σr':=[(.own 1 [[I x63.1]]),(Qqj p1),(.own 1 [[I x63.2.1]]),(.own 1 (x63.2.2.map Qah))]) (res':=(.tup [])) [0,1,2,4] rfl Qrd (Qgf N (⟨(⟨x60.Stair.Amount,x60.Stair.Price⟩:Qap),x60.inlet⟩:Qaa) y50 ((p1.Inlets.length:Int).toNat) y51 y52 _ hf62) rfl (Qb1 (rnc (.plain _ (NLt.agg _ (nlcc (nlc nll nl0)))) (rnc (Qa4 rfl) (rnc (Qa4 rfl) (rnc (Qa4 rfl) rn0))))) (slc (Qaj (rnc (.plain _ nll) rn0)) (slc (Qaj (rnc (Qgu rfl) rn0)) (slc (Qaj (rnc (.plain _ nll) rn0)) (slc (Qd1 Qal) Qak)))) (slc (Qaj (rnc (.plain _ nll) rn0)) (slc (Qaj (rnc (Qnc rfl) rn0)) (slc (Qaj (rnc (.plain _ nll) rn0)) (slc (Qd1 Qal) Qak)))) (.plain _ (NLt.tup _ nl0)) rfl rfl rfl,tv⟩<|bln<|thn<|wxz1<|thn ?_
          exact arm (mto (n:=84) [(5,.ref 0 1 0 0),(6,.ref 1 1 0 0),(7,.ref 2 1 0 0),(16,Qi5),(70,(.own 3 3 (0) y18.length)),(71,(I (((y18.length:Nat):Int)))),(72,(I (w64 (y49+1))))] [0,1,2,3,4] [(.own 1 [[I x63.1]]),(Qqj p1),(.own 1 [[I x63.2.1]]),(Qk9 x48),(.own 1 (x63.2.2.map Qah))] hq (prr (prr (prr (pc (.rn (Qao rn0 (rnc (rqr rfl) (rnc (rqr rfl) (rnc (rqr rfl) rn0))))) (pc (.rn (Qbj rfl)) (pw (pw pn))))))) (qb (lc rwl ln) (qb (lc (.rn (Qbj rfl)) ln) (qb (lc rwl ln) (qc (spr Qab) (qc (spr Qal) qn)))))) (ih (w64 (y49+1),x63.1,x63.2.1,x63.2.2) h)
         ·exact wfn hc58<|Qa3<|Qan<|Qan<|Qa2 rfl<|thn<|⟨(y50,y51,y52),h,(mto (n:=84) [(5,.ref 0 1 0 0),(6,.ref 1 1 0 0),(7,.ref 2 1 0 0)] [0,1,2,4] [(.own 1 [[I y50]]),(Qla p1),(.own 1 [[I y51]]),(.own 1 (y52.map Qah))] hq (prr (prr (prr pn))) (qb (lc rwl ln) (qb (lc (.rn (Qbj rfl)) ln) (qb (lc rwl ln) (qc (spr Qal) qn)))))⟩
      ·skip
       refine wx tbk [(2,rp _ _)] ⟨alq 2 Qa1 p1.Inlets underlying67,tv⟩<|Qaf ?_
       refine wmr (Mor.trans (Qu8 5 94 3 11 (by kernel_rfl) (by kernel_rfl)) (mto (n:=84) (l':=[(4,.ref 0 4 0 0),(5,.ref 1 1 0 0),(6,.ref 2 1 0 0),(7,.ref 3 1 0 0),(10,(.lit (.pointer none))),(11,(.gro 4 94 3 (([]:List Qaa).length))),(37,(Qif p1)),(38,(I ((p1.Inlets.length:Int)))),(39,I 0)]) (own':=[(Qhh p1),(.own 1 [[I p2]]),(.own 1 [[nilS]]),(.own 1 [[I 0]]),Quy]) [(4,.ref 1 4 0 0),(5,.ref 2 1 0 0),(6,.ref 3 1 0 0),(7,.ref 4 1 0 0),(10,(.lit (.pointer none))),(11,(.gro 5 94 3 (([]:List Qaa).length))),(37,(Qif p1)),(38,(I ((p1.Inlets.length:Int)))),(39,I 0)] [1,2,3,4,5] [(Qhh p1),(.own 1 [[I p2]]),(.own 1 [[nilS]]),(.own 1 [[I 0]]),Quy] hq (prr (prr (prr (prr (pw (pc (.rn (Qia rfl)) (pc (rnd Qam) (pw (pw pn))))))))) (qb (lc (rnd Qam) (lc (rnd Qal) (lcc ln))) (qb (lc rwl ln) (qb (lc rwl ln) (qb (lc rwl ln) (qc (Qgy Qab) qn))))))) ?_
       refine Qbx (τ:=Int×(List Qaa)) (fun n t=>Qft N p1 k19 n t.1 t.2=some r) (fun ⟨y64,y65⟩=>⟨mk 84 [(4,.ref 0 4 0 0),(5,.ref 1 1 0 0),(6,.ref 2 1 0 0),(7,.ref 3 1 0 0),(10,(.lit (.pointer none))),(11,(.gro 4 94 3 y65.length)),(37,(Qif p1)),(38,(I ((p1.Inlets.length:Int)))),(39,I y64)],[(Qhh p1),(.own 1 [[I p2]]),(.own 1 [[nilS]]),(.own 1 [[I 0]]),(.gro 3 (y65.map Qac))]⟩) (fun t h=>by rw[Qft] at h;cases h) (fun n68 ih t h=>?_) N (0,([]:List Qaa)) h
       obtain⟨y64,y65⟩:=t
       rw[Qft] at h
       skip
       refine wxz<|wsq ?_
       refine bfe h (fun hc69 h=>?_) fun hc69 h=>?_
       ·refine wft hc69<|Qai<|thn ?_
        obtain⟨k71,hk_k71,h⟩:=jko h
        refine wjn (τ:=(List Qaa)) (fun t=>k71 t=some r) (fun y70=>⟨mk 84 [(4,.ref 0 4 0 0),(5,.ref 1 1 0 0),(6,.ref 2 1 0 0),(7,.ref 3 1 0 0),(10,(.lit (.pointer none))),(11,(.gro 4 94 3 y70.length)),(37,(Qif p1)),(38,(I ((p1.Inlets.length:Int)))),(39,I y64)],[(Qhh p1),(.own 1 [[I p2]]),(.own 1 [[nilS]]),(.own 1 [[I 0]]),(.gro 3 (y70.map Qac))]⟩) (fun y70 h=>?_) ?_
        ·subst hk_k71
         exact wxz1<|thn<|arm (mto (n:=84) [(4,.ref 0 4 0 0),(5,.ref 1 1 0 0),(6,.ref 2 1 0 0),(7,.ref 3 1 0 0),(10,(.lit (.pointer none))),(11,(.gro 4 94 3 y70.length)),(37,(Qif p1)),(38,(I ((p1.Inlets.length:Int)))),(39,(I (w64 (y64+1))))] [0,1,2,3,4] [(Qhh p1),(.own 1 [[I p2]]),(.own 1 [[nilS]]),(.own 1 [[I 0]]),(.gro 3 (y70.map Qac))] hq (prr (prr (prr (prr (pw (pc (.rn (Qia rfl)) (pc (rnd Qam) (pw (pw pn))))))))) (qb (lc (rnd Qam) (lc (rnd Qal) (lcc ln))) (qb (lc rwl ln) (qb (lc rwl ln) (qb (lc rwl ln) (qc (Qgy Qab) qn)))))) (ih (w64 (y64+1),y70) h)
        ·skip
         refine Qaf ?_
         obtain⟨x72,hg73,h⟩:=bno h
         obtain⟨hi74,hj75⟩:=gsm hg73
         refine wx tbk [(1,rp _ _)] ⟨aiq underlying67 ti90 Qa1 hi74 hj75,tv⟩ ?_
         refine wx tbk [(2,rp _ _)] ⟨alq 2 Qaz x72.Stairs underlying88,tv⟩<|Qaf ?_
         refine wmr (mto (n:=84) (l':=[(4,.ref 0 4 0 0),(5,.ref 1 1 0 0),(6,.ref 2 1 0 0),(7,.ref 3 1 0 0),(10,(.lit (.pointer none))),(11,(.gro 4 94 3 y65.length)),(12,I y64),(13,.ref 5 2 0 0),(37,(Qif p1)),(38,(I ((p1.Inlets.length:Int)))),(39,I y64),(45,(Ql2 x72)),(46,(I ((x72.Stairs.length:Int)))),(47,I 0)]) (own':=[(Qhh p1),(.own 1 [[I p2]]),(.own 1 [[nilS]]),(.own 1 [[I 0]]),(.gro 3 (y65.map Qac)),(Qoh x72)]) [(4,.ref 0 4 0 0),(5,.ref 1 1 0 0),(6,.ref 2 1 0 0),(7,.ref 3 1 0 0),(10,(.lit (.pointer none))),(11,(.gro 4 94 3 y65.length)),(12,I y64),(13,.ref 5 2 0 0),(37,(Qif p1)),(38,(I ((p1.Inlets.length:Int)))),(39,I y64),(45,(Ql2 x72)),(46,(I ((x72.Stairs.length:Int)))),(47,I 0)] [0,1,2,3,4,5] [(Qhh p1),(.own 1 [[I p2]]),(.own 1 [[nilS]]),(.own 1 [[I 0]]),(.gro 3 (y65.map Qac)),(Qoh x72)] hq (prr (prr (prr (prr (pw (pc (.rn (Qia rfl)) (pw (prr (pc (rnd Qam) (pw (pw (pc (rnd Qaw) (pw (pw pn)))))))))))))) (qb (lc (rnd Qam) (lc (rnd Qal) (lcc ln))) (qb (lc rwl ln) (qb (lc rwl ln) (qb (lc rwl ln) (qc (Qgy Qab) (qb (lc rwl (lc (rnd Qaw) ln)) qn))))))) ?_
         refine Qbx (τ:=Int×(List Qaa)) (fun n t=>Qe1 N p1 y64 k71 x72 n t.1 t.2=some r) (fun ⟨y76,y77⟩=>⟨mk 84 [(4,.ref 0 4 0 0),(5,.ref 1 1 0 0),(6,.ref 2 1 0 0),(7,.ref 3 1 0 0),(10,(.lit (.pointer none))),(11,(.gro 4 94 3 y77.length)),(12,I y64),(13,.ref 5 2 0 0),(37,(Qif p1)),(38,(I ((p1.Inlets.length:Int)))),(39,I y64),(45,(Ql2 x72)),(46,(I ((x72.Stairs.length:Int)))),(47,I y76)],[(Qhh p1),(.own 1 [[I p2]]),(.own 1 [[nilS]]),(.own 1 [[I 0]]),(.gro 3 (y77.map Qac)),(Qoh x72)]⟩) (fun t h=>by rw[Qe1] at h;cases h) (fun n80 ih t h=>?_) N (0,y65) h
         obtain⟨y76,y77⟩:=t
         rw[Qe1] at h
         skip
         refine wxz<|wsq ?_
         refine bfe h (fun hc81 h=>?_) fun hc81 h=>?_
         ·refine wft hc81<|Qai<|thn<|wsq<|Qaf ?_
          obtain⟨x82,hg83,h⟩:=bno h
          obtain⟨hi84,hj85⟩:=gsm hg83
          refine wx tbk [(0,rp _ _)] ⟨aiq underlying88 ti91 Qaz hi84 hj85,tv⟩ ?_
          obtain⟨x87,hf86,h⟩:=bno h
          refine wx tbk [(3,rp _ _)] ⟨acq [(.lit (.pointer none)),(Qto p1),(.agg [I x72.Site,(Ql2 x72)])] [] [] (B x87) [] Q0b (Qj2 N p1 x72 _ hf86) (Qb1 (rnc (.plain _ nll) (rnc (.plain _ (NLt.agg _ (nlc (nld Qam _) (nlc (nld Qal _) (nlcc nl0))))) (rnc (.plain _ (NLt.agg _ (nlc nll (nlc (nld Qaw _) nl0)))) rn0)))) Qak Qak (.plain _ nll),tv⟩ ?_
          refine bfe h (fun hc88 h=>?_) fun hc88 h=>?_
          ·refine wft hc88 ?_
           obtain⟨ha89,h⟩:=cko h
           refine wx1 tbk [(3,rp [(.tmp 57,(.agg [I x82.Amount,I x82.Price])),(.tmp 58,I y64)] (Qtl x82 y64)),(4,rp [(.tmp 59,(Qtl x82 y64))] (.dat 3 (([(⟨x82,y64⟩:Qaa)]:List Qaa).map Qac))),(5,⟨[(.tmp 56,(.gro 4 94 3 y77.length)),(.tmp 60,(.dat 3 (([(⟨x82,y64⟩:Qaa)]:List Qaa).map Qac)))],[(4,(.gro 3 (y77.map Qac))),(7,.unused)],(.gro 7 94 3 ((y77++([(⟨x82,y64⟩:Qaa)])).length)),[(4,.dead),(7,(.gro 3 ((y77++([(⟨x82,y64⟩:Qaa)]):List Qaa).map Qac)))],false⟩)] ?_ ?_
           ·exact⟨Qdz (vs:=[(.agg [I x82.Amount,I x82.Price]),I y64]) rfl ts94 tz94 rfl (by rfl) rfl,Qfj (vs:=[(Qtl x82 y64)]) rfl underlying87 ti94 tz94 rfl (by decide) rfl (by decide) (by rfl) (by rfl) (by rfl) rfl,Qpf (c:=Qac) (a:=y77) (b:=[(⟨x82,y64⟩:Qaa)]) rfl underlying87 te94 rfl (Qji rfl) (by rfl) ha89 (by decide),tv⟩
           exact bln<|thn<|wxz1<|thn<|arm (mto (n:=84) [(4,.ref 0 4 0 0),(5,.ref 1 1 0 0),(6,.ref 2 1 0 0),(7,.ref 3 1 0 0),(10,(.lit (.pointer none))),(11,(.gro 7 94 3 ((y77++([(⟨x82,y64⟩:Qaa)])).length))),(12,I y64),(13,.ref 5 2 0 0),(37,(Qif p1)),(38,(I ((p1.Inlets.length:Int)))),(39,I y64),(45,(Ql2 x72)),(46,(I ((x72.Stairs.length:Int)))),(47,(I (w64 (y76+1))))] [0,1,2,3,7,5] [(Qhh p1),(.own 1 [[I p2]]),(.own 1 [[nilS]]),(.own 1 [[I 0]]),(.gro 3 ((y77++([(⟨x82,y64⟩:Qaa)]):List Qaa).map Qac)),(Qoh x72)] hq (prr (prr (prr (prr (pw (pc (.rn (Qia rfl)) (pw (prr (pc (rnd Qam) (pw (pw (pc (rnd Qaw) (pw (pw pn)))))))))))))) (qb (lc (rnd Qam) (lc (rnd Qal) (lcc ln))) (qb (lc rwl ln) (qb (lc rwl ln) (qb (lc rwl ln) (qc (Qgy Qab) (qb (lc rwl (lc (rnd Qaw) ln)) qn))))))) (ih (w64 (y76+1),y77++([(⟨x82,y64⟩:Qaa)])) h)
          ·exact wfn hc88<|Qai<|bln<|thn<|wxz1<|thn<|arm (mto (n:=84) [(4,.ref 0 4 0 0),(5,.ref 1 1 0 0),(6,.ref 2 1 0 0),(7,.ref 3 1 0 0),(10,(.lit (.pointer none))),(11,(.gro 4 94 3 y77.length)),(12,I y64),(13,.ref 5 2 0 0),(37,(Qif p1)),(38,(I ((p1.Inlets.length:Int)))),(39,I y64),(45,(Ql2 x72)),(46,(I ((x72.Stairs.length:Int)))),(47,(I (w64 (y76+1))))] [0,1,2,3,4,5] [(Qhh p1),(.own 1 [[I p2]]),(.own 1 [[nilS]]),(.own 1 [[I 0]]),(.gro 3 (y77.map Qac)),(Qoh x72)] hq (prr (prr (prr (prr (pw (pc (.rn (Qia rfl)) (pw (prr (pc (rnd Qam) (pw (pw (pc (rnd Qaw) (pw (pw pn)))))))))))))) (qb (lc (rnd Qam) (lc (rnd Qal) (lcc ln))) (qb (lc rwl ln) (qb (lc rwl ln) (qb (lc rwl ln) (qc (Qgy Qab) (qb (lc rwl (lc (rnd Qaw) ln)) qn))))))) (ih (w64 (y76+1),y77) h)
         ·exact wfn hc81<|Qa3<|Qan<|Qan<|Qa2 rfl<|bln<|thn<|⟨(y77),h,(mto (n:=84) [(4,.ref 0 4 0 0),(5,.ref 1 1 0 0),(6,.ref 2 1 0 0),(7,.ref 3 1 0 0),(10,(.lit (.pointer none))),(11,(.gro 4 94 3 y77.length)),(37,(Qif p1)),(38,(I ((p1.Inlets.length:Int)))),(39,I y64)] [0,1,2,3,4] [(Qhh p1),(.own 1 [[I p2]]),(.own 1 [[nilS]]),(.own 1 [[I 0]]),(.gro 3 (y77.map Qac))] hq (prr (prr (prr (prr (pw (pc (.rn (Qia rfl)) (pc (rnd Qam) (pw (pw pn))))))))) (qb (lc (rnd Qam) (lc (rnd Qal) (lcc ln))) (qb (lc rwl ln) (qb (lc rwl ln) (qb (lc rwl ln) (qc (Qgy Qab) qn))))))⟩
       ·exact wfn hc69<|Qa3<|Qan<|Qan<|Qa2 rfl<|thn<|⟨(y65),h,(mto (n:=84) [(4,.ref 0 4 0 0),(5,.ref 1 1 0 0),(6,.ref 2 1 0 0),(7,.ref 3 1 0 0),(11,(.gro 4 94 3 y65.length))] [0,1,2,3,4] [(Qhh p1),(.own 1 [[I p2]]),(.own 1 [[nilS]]),(.own 1 [[I 0]]),(.gro 3 (y65.map Qac))] hq (prr (prr (prr (prr (pc (.rn (Qia rfl)) pn))))) (qb (lc (rnd Qam) (lc (rnd Qal) (lcc ln))) (qb (lc rwl ln) (qb (lc rwl ln) (qb (lc rwl ln) (qc (Qgy Qab) qn))))))⟩
    ·replace h:=Q49 h
     refine wx tbk [(1,⟨_,_,_,_,false⟩)] ⟨acq [(Qrw p0)] [] [(Qx9 p0 x90)] (.tup [.ref 5 290 0 0,I x90.1]) [5] Qre (Qiy N p0 _ hf14) (Qb1 (rnc (.plain _ (NLt.agg _ (nlc nll (nlc (nld Qad _) nl0)))) rn0)) Qak (slc (Qaj (rnc (.plain _ nll) (rnc (pld Qad) (Qdd (Qa6 fun _=>(.plain _ nll)) (Qa6 fun _=>(.plain _ nll)))))) Qak) (Qyv (rnc (Qfg rfl) (rnc (.plain _ nll) rn0))),tv⟩<|wsq ?_
     refine wmr (Qox [(.own 2 [[I p0.Sites,(Qj6 p0)]]),(Qhh p1),(.own 1 [[I p2]]),(.own 1 [[nilS]]),(.own 1 [[I 0]]),(Qx9 p0 x90)] (Qt3 (n:=84) (m:=290) (xs:=[((I p0.Sites)::(Qj6 p0)::(arrF 144 x90.2.1++arrF 144 x90.2.2))]) (l':=[(0,(Qrw p0)),(1,(Qto p1)),(2,I p2),(3,.ref 0 2 0 0),(4,.ref 1 4 0 0),(5,.ref 2 1 0 0),(6,.ref 3 1 0 0),(7,.ref 4 1 0 0),(8,I x90.1),(9,I x9),(10,(.dptr ((I p0.Sites)::(Qj6 p0)::(arrF 144 x90.2.1++arrF 144 x90.2.2)) 0)),(19,(Qrw p0)),(20,(Qto p1)),(21,I x9),(22,I x9),(23,(B ((x9 != 0)))),(25,I p2),(26,B x12),(27,(B ((!x12)))),(28,.any),(29,(Qrw p0)),(30,.any),(31,(.dptr ((I p0.Sites)::(Qj6 p0)::(arrF 144 x90.2.1++arrF 144 x90.2.2)) 0)),(32,I x90.1)]) (own':=[(.own 2 [[I p0.Sites,(Qj6 p0)]]),(Qhh p1),(.own 1 [[I p2]]),(.own 1 [[nilS]]),(.own 1 [[I 0]]),.dead]) 5 [(0,(Qrw p0)),(1,(Qto p1)),(2,I p2),(3,.ref 0 2 0 0),(4,.ref 1 4 0 0),(5,.ref 2 1 0 0),(6,.ref 3 1 0 0),(7,.ref 4 1 0 0),(8,I x90.1),(9,I x9),(10,.ref 5 290 0 0),(19,(Qrw p0)),(20,(Qto p1)),(21,I x9),(22,I x9),(23,(B ((x9 != 0)))),(25,I p2),(26,B x12),(27,(B ((!x12)))),(28,(.tup [.ref 5 290 0 0,I x90.1])),(29,(Qrw p0)),(30,(.tup [.ref 5 290 0 0,I x90.1])),(31,.ref 5 290 0 0),(32,I x90.1)] (by kernel_rfl) (by kernel_rfl) (by kernel_rfl) ⟨rfl,(.same _),rfl,(.same _),rfl,(.same _),rfl,(.same _),rfl,(.same _),rfl,(.same _),rfl,(.same _),rfl,(.same _),rfl,(.same _),rfl,(.same _),rfl,(.ptr _ _ rfl),rfl,(.same _),rfl,(.same _),rfl,(.same _),rfl,(.same _),rfl,(.same _),rfl,(.same _),rfl,(.same _),rfl,(.same _),rfl,(.any _),rfl,(.same _),rfl,(.any _),rfl,(.ptr _ _ rfl),rfl,(.same _),tv⟩ (qc Qhj (qc Qhj (qc Qhj (qc Qhj (qc Qhj (qc .dead qn))))))))<|wxz ?_
     refine bfe h (fun hc91 h=>?_) fun hc91 h=>?_
     ·refine wft hc91<|wxz ?_
      refine wmr (mto (n:=84) (l':=[(6,.ref 0 1 0 0),(7,.ref 1 1 0 0),(8,I x90.1)]) (own':=[(.own 1 [[Qm8]]),(.own 1 [[I 0]])]) [(6,.ref 3 1 0 0),(7,.ref 4 1 0 0),(8,I x90.1)] [3,4] [(.own 1 [[nilS]]),(.own 1 [[I 0]])] hq (prr (prr (pw pn))) (qb (lc (.nil _) ln) (qb (lc rwl ln) qn)))<|Qag<|Qae ?_
      obtain rfl:=osi h
      exact⟨_,Mor.rfl,fie [Qi4,I 0,I x90.1] ⟨Qda (n:=0) (m:=1) (j:=0) (i:=0) (xs:=[[Qi4]]) (by kernel_rfl) (by kernel_rfl) ti26 (by decide) rfl (nle rfl) rfl,Qda (n:=1) (m:=1) (j:=0) (i:=0) (xs:=[[I 0]]) (by kernel_rfl) (by kernel_rfl) ti3 (by decide) rfl (nle rfl) rfl,rot,tv⟩⟩
     ·refine wfn hc91<|Qai<|thn<|wxz ?_
      obtain⟨k93,hk_k93,h⟩:=jko h
      refine wjn (τ:=(List Qaa)) (fun t=>k93 t=some r) (fun y92=>⟨mk 84 [(4,.ref 0 4 0 0),(5,.ref 1 1 0 0),(6,.ref 2 1 0 0),(7,.ref 3 1 0 0),(11,(.gro 4 94 3 y92.length))],[(Qhh p1),(.own 1 [[I p2]]),(.own 1 [[nilS]]),(.own 1 [[I 0]]),(.gro 3 (y92.map Qac))]⟩) (fun y92 h=>?_) ?_
      ·subst hk_k93
       obtain⟨hm94,h⟩:=cko h
       refine wx tbk [(2,rp _ _),(3,⟨[(.tmp 66,(I ((p1.Inlets.length:Int)))),(.tmp 66,(I ((p1.Inlets.length:Int))))],[(5,.unused)],(.own 5 1 (0) ((p1.Inlets.length:Int).toNat)),[(5,(Qj0 p1))],false⟩)] ⟨alq 2 Qa1 p1.Inlets underlying67,Qnk rfl underlying26 te3 tz3 rfl (Q66 hm94) rfl (Q65 hm94) (Q1f hm94) (Qtx Qah rfl),tv⟩ ?_
       refine wx tbk [(0,rp [(.tmp 5,.ref 1 1 0 0),(.tmp 6,.ref 2 1 0 0),(.tmp 7,.ref 3 1 0 0)] Qh5)] ⟨Qfm (fs:=[]) (cs:=[.ref 1 1 0 0,.ref 2 1 0 0,.ref 3 1 0 0]) rfl rfl rfl rfl,tv⟩ ?_
       obtain⟨k98,hk_k98,h⟩:=jko h
       refine wjn (τ:=Int×Int×(List Int)) (fun t=>k98 t=some r) (fun ⟨y95,y96,y97⟩=>⟨mk 84 [(5,.ref 0 1 0 0),(6,.ref 1 1 0 0),(7,.ref 2 1 0 0)],[(.own 1 [[I y95]]),(Qjz p1),(.own 1 [[I y96]]),(.own 1 (y97.map Qah))]⟩) (fun t h=>?_) ?_
       ·subst hk_k98
        obtain⟨y95,y96,y97⟩:=t
        refine wsq<|wxz ?_
        refine bfe h (fun hc99 h=>?_) fun hc99 h=>?_
        ·refine wft hc99<|wxz ?_
         refine wmr (mto (n:=84) (l':=[(6,.ref 0 1 0 0),(7,.ref 1 1 0 0),(8,I 11)]) (own':=[(.own 1 [[Qm8]]),(.own 1 [[I 0]])]) [(6,.ref 1 1 0 0),(7,.ref 2 1 0 0),(8,I 11)] [1,2] [(.own 1 [[nilS]]),(.own 1 [[I 0]])] hq (prr (prr (pw pn))) (qb (lc (.nil _) ln) (qb (lc rwl ln) qn)))<|Qag<|Qae ?_
         obtain rfl:=osi h
         exact⟨_,Mor.rfl,fie [Qi4,I 0,I 11] ⟨Qda (n:=0) (m:=1) (j:=0) (i:=0) (xs:=[[Qi4]]) (by kernel_rfl) (by kernel_rfl) ti26 (by decide) rfl (nle rfl) rfl,Qda (n:=1) (m:=1) (j:=0) (i:=0) (xs:=[[I 0]]) (by kernel_rfl) (by kernel_rfl) ti3 (by decide) rfl (nle rfl) rfl,rot,tv⟩⟩
        ·refine wfn hc99<|Qai<|thn<|wxe ?_
         obtain⟨hz100,h⟩:=cko h
         refine wmr (Qzb (n:=84) (mp:=1) (m:=1) (xs:=y97.map Qah) (c:=[(.own 3 1 (0) ((p1.Inlets.length:Int).toNat))]) (l':=[(6,.ref 1 1 0 0),(7,.ref 2 1 0 0),(8,I 0)]) (c':=[(Qtk y97 p1)]) (own':=[(.own 1 [[I y95]]),(.own 1 [[(Qtk y97 p1)]]),(.own 1 [[I y96]]),.dead]) 3 1 [(6,.ref 1 1 0 0),(7,.ref 2 1 0 0),(8,I 0)] (by kernel_rfl) (by kernel_rfl) (by kernel_rfl) (by kernel_rfl) ⟨(Qq6 hz100),tv⟩ ⟨rfl,(.same _),rfl,(.same _),rfl,(.same _),tv⟩ (by kernel_rfl)) ?_
         refine wmr (mto (n:=84) (l':=[(6,.ref 0 1 0 0),(7,.ref 1 1 0 0),(8,I 0)]) (own':=[(.own 1 [[(Qtj y97 p1)]]),(.own 1 [[I y96]])]) [(6,.ref 1 1 0 0),(7,.ref 2 1 0 0),(8,I 0)] [1,2] [(.own 1 [[(Qtk y97 p1)]]),(.own 1 [[I y96]])] hq (prr (prr (pw pn))) (qb (lc (rnd Qal) ln) (qb (lc rwl ln) qn)))<|Qag ?_
         obtain rfl:=osi h
         exact⟨_,Mor.rfl,fie [(Qtj y97 p1),I y96,I 0] ⟨Qda (n:=0) (m:=1) (j:=0) (i:=0) (xs:=[[(Qtj y97 p1)]]) (by kernel_rfl) (by kernel_rfl) ti26 (by decide) rfl (nle rfl) rfl,Qda (n:=1) (m:=1) (j:=0) (i:=0) (xs:=[[I y96]]) (by kernel_rfl) (by kernel_rfl) ti3 (by decide) rfl (nle rfl) rfl,rot,tv⟩⟩
       ·skip
        refine bfe h (fun hb101 h=>?_) fun hb101 h=>?_
        ·obtain rfl:=List.isEmpty_iff.1 hb101
         refine wmr (Qox [(Qhh p1),(.own 1 [[I p2]]),(Qlb p1),(.own 1 [[I 0]]),Qya,(Qj0 p1)] (Qu9 (n:=84) (m:=3) (xs:=([]:List Qaa).map Qac) (l':=[(4,.ref 0 4 0 0),(5,.ref 1 1 0 0),(6,.ref 2 1 0 0),(7,.ref 3 1 0 0),(11,Qqm),(16,Qh5),(64,.ref 0 4 0 0),(65,(Qif p1)),(66,(I ((p1.Inlets.length:Int)))),(67,(.own 5 1 (0) ((p1.Inlets.length:Int).toNat))),(68,Qh5)]) (own':=[(Qhh p1),(.own 1 [[I p2]]),(Qlb p1),(.own 1 [[I 0]]),.dead,(Qj0 p1)]) 4 [(4,.ref 0 4 0 0),(5,.ref 1 1 0 0),(6,.ref 2 1 0 0),(7,.ref 3 1 0 0),(11,(.gro 4 94 3 (([]).length))),(16,Qh5),(64,.ref 0 4 0 0),(65,(Qif p1)),(66,(I ((p1.Inlets.length:Int)))),(67,(.own 5 1 (0) ((p1.Inlets.length:Int).toNat))),(68,Qh5)] (by kernel_rfl) (by kernel_rfl) (by kernel_rfl) ⟨rfl,(.same _),rfl,(.same _),rfl,(.same _),rfl,(.same _),rfl,(.gro _ _ (Qzi).symm),rfl,(.same _),rfl,(.same _),rfl,(.same _),rfl,(.same _),rfl,(.same _),rfl,(.same _),tv⟩ (qc Qio (qc Qio (qc Qio (qc Qio (qc .dead (qc Qio qn)))))))) ?_
         obtain⟨x103,hf102,h⟩:=bno h
         refine wx tbk [(1,rp _ _),(2,rp _ _)] ⟨acq [Qqm,(.fn (.func 39) [] [])] [] [] (Qog x103) [] Qrc (Qgc N _ hf102) (Qb1 (rnc (pld Qab) (rnc (.plain _ (NLt.fn _ _ _ nl0 nl0)) rn0))) Qak Qak (pld Qab),alq 3 Qac x103 underlying87,tv⟩<|Qaf ?_
         refine wmr (mto (n:=84) (l':=[(5,.ref 0 1 0 0),(6,.ref 1 1 0 0),(7,.ref 2 1 0 0),(16,Qi5),(70,(Qog x103)),(71,(I ((x103.length:Int)))),(72,I 0)]) (own':=[(.own 1 [[I p2]]),(Qjz p1),(.own 1 [[I 0]]),(Qqk p1)]) [(5,.ref 1 1 0 0),(6,.ref 2 1 0 0),(7,.ref 3 1 0 0),(16,Qh5),(70,(Qog x103)),(71,(I ((x103.length:Int)))),(72,I 0)] [1,2,3,5] [(.own 1 [[I p2]]),(Qlb p1),(.own 1 [[I 0]]),(Qj0 p1)] hq (prr (prr (prr (pc (.rn (Qao rn0 (rnc (rqr rfl) (rnc (rqr rfl) (rnc (rqr rfl) rn0))))) (pc (rnd Qab) (pw (pw pn))))))) (qb (lc rwl ln) (qb (lc (.rn (Qbj rfl)) ln) (qb (lc rwl ln) (qc (spr Qal) qn))))) ?_
         refine Qbx (τ:=Int×Int×Int×(List Int)) (fun n t=>Qeh N p1 k98 x103 n t.1 t.2.1 t.2.2.1 t.2.2.2=some r) (fun ⟨y104,y105,y106,y107⟩=>⟨mk 84 [(5,.ref 0 1 0 0),(6,.ref 1 1 0 0),(7,.ref 2 1 0 0),(16,Qi5),(70,(Qog x103)),(71,(I ((x103.length:Int)))),(72,I y104)],[(.own 1 [[I y105]]),(Qjz p1),(.own 1 [[I y106]]),(.own 1 (y107.map Qah))]⟩) (fun t h=>by rw[Qeh] at h;cases h) (fun n112 ih t h=>?_) N (0,p2,0,List.replicate (p1.Inlets.length:Int).toNat 0) h
         obtain⟨y104,y105,y106,y107⟩:=t
         rw[Qeh] at h
         skip
         refine wxz<|wsq ?_
         refine bfe h (fun hc113 h=>?_) fun hc113 h=>?_
         ·refine wft hc113<|Qai<|thn<|wsq<|Qaf ?_
          obtain⟨x114,hg115,h⟩:=bno h
          obtain⟨hi116,hj117⟩:=gsm hg115
          refine wx tbk [(0,rp _ _)] ⟨aiq underlying87 ti94 Qac hi116 hj117,tv⟩ ?_
          obtain⟨x119,hf118,h⟩:=bno h
          refine wx1 tbk [(2,⟨_,_,_,_,false⟩)] ⟨Qei (first:=[]) (cap:=[.ref 0 1 0 0,.ref 1 1 0 0,.ref 2 1 0 0]) (vs:=[(.agg [(I ((⟨(⟨x114.Stair.Amount,x114.Stair.Price⟩:Qap),x114.inlet⟩:Qaa).Stair.Amount)),(I ((⟨(⟨x114.Stair.Amount,x114.Stair.Price⟩:Qap),x114.inlet⟩:Qaa).Stair.Price)),(I ((⟨(⟨x114.Stair.Amount,x114.Stair.Price⟩:Qap),x114.inlet⟩:Qaa).inlet))])]) (σr:=[(.own 1 [[I y105]]),(Qjz p1),(.own 1 [[I y106]]),(.own 1 (y107.map Qah))]) (σr':=[(.own 1 [[I x119.1]]),(Qql p1),(.own 1 [[I x119.2.1]]),(.own 1 (x119.2.2.map Qah))]) (res':=(.tup [])) [0,1,2,3] rfl Qrd (Qgf N (⟨(⟨x114.Stair.Amount,x114.Stair.Price⟩:Qap),x114.inlet⟩:Qaa) y105 ((p1.Inlets.length:Int).toNat) y106 y107 _ hf118) rfl (Qb1 (rnc (.plain _ (NLt.agg _ (nlcc (nlc nll nl0)))) (rnc (Qa4 rfl) (rnc (Qa4 rfl) (rnc (Qa4 rfl) rn0))))) (slc (Qaj (rnc (.plain _ nll) rn0)) (slc (Qaj (rnc (Qgu rfl) rn0)) (slc (Qaj (rnc (.plain _ nll) rn0)) (slc (Qd1 Qal) Qak)))) (slc (Qaj (rnc (.plain _ nll) rn0)) (slc (Qaj (rnc (Qnc rfl) rn0)) (slc (Qaj (rnc (.plain _ nll) rn0)) (slc (Qd1 Qal) Qak)))) (.plain _ (NLt.tup _ nl0)) rfl rfl rfl,tv⟩<|bln<|thn<|wxz1<|thn ?_
          exact arm (mto (n:=84) [(5,.ref 0 1 0 0),(6,.ref 1 1 0 0),(7,.ref 2 1 0 0),(16,Qi5),(70,(Qog x103)),(71,(I ((x103.length:Int)))),(72,(I (w64 (y104+1))))] [0,1,2,3] [(.own 1 [[I x119.1]]),(Qql p1),(.own 1 [[I x119.2.1]]),(.own 1 (x119.2.2.map Qah))] hq (prr (prr (prr (pc (.rn (Qao rn0 (rnc (rqr rfl) (rnc (rqr rfl) (rnc (rqr rfl) rn0))))) (pc (rnd Qab) (pw (pw pn))))))) (qb (lc rwl ln) (qb (lc (.rn (Qbj rfl)) ln) (qb (lc rwl ln) (qc (spr Qal) qn))))) (ih (w64 (y104+1),x119.1,x119.2.1,x119.2.2) h)
         ·exact wfn hc113<|Qa3<|Qan<|Qan<|Qa2 rfl<|thn<|⟨(y105,y106,y107),h,(mto (n:=84) [(5,.ref 0 1 0 0),(6,.ref 1 1 0 0),(7,.ref 2 1 0 0)] [0,1,2,3] [(.own 1 [[I y105]]),(Qjz p1),(.own 1 [[I y106]]),(.own 1 (y107.map Qah))] hq (prr (prr (prr pn))) (qb (lc rwl ln) (qb (lc (.rn (Qbj rfl)) ln) (qb (lc rwl ln) (qc (spr Qal) qn)))))⟩
        ·have hz120:(!y92.isEmpty)=true:=by rw[hb101];rfl
         obtain⟨x122,hf121,h⟩:=bno h
         refine wx tbk [(1,⟨[fu 38,(.tmp 69,(.gro 4 94 3 y92.length)),fu 39],[(4,(.gro 3 (y92.map Qac)))],(.own 4 3 (0) y92.length),[(4,(Qk8 x122))],false⟩),(2,rp [(.tmp 70,(.own 4 3 (0) y92.length))] (I (((y92.length:Nat):Int))))] ⟨Qo9 (bl':=[(4,(.own 3 (y92.map Qac)))]) ⟨rfl,SLess.gro (Qji hz120),tv⟩ (awk (rd':=[fu 38,(.tmp 69,(.own 4 3 (0) y92.length)),fu 39]) ⟨rfl,lrf,rfl,Less.gro,rfl,lrf,tv⟩ (acq [(.own 4 3 (0) y92.length),(.fn (.func 39) [] [])] [(.own 3 (y92.map Qac))] [(Qk8 x122)] (.own 4 3 (0) y92.length) [4] Qrc (Qgb N y92.length y92 _ hf121) (Qb1 (rnc (Qgu rfl) (rnc (.plain _ (NLt.fn _ _ _ nl0 nl0)) rn0))) (slc (Qd1 Qab) Qak) (slc (Qd1 Qab) Qak) (Qnc rfl))),aln rfl underlying87 rfl,tv⟩<|Qaf ?_
         refine wmr (mto (n:=84) (l':=[(5,.ref 0 1 0 0),(6,.ref 1 1 0 0),(7,.ref 2 1 0 0),(16,Qi5),(70,(.own 3 3 (0) y92.length)),(71,(I (((y92.length:Nat):Int)))),(72,I 0)]) (own':=[(.own 1 [[I p2]]),(Qla p1),(.own 1 [[I 0]]),(Qk8 x122),(Qqk p1)]) [(5,.ref 1 1 0 0),(6,.ref 2 1 0 0),(7,.ref 3 1 0 0),(16,Qh5),(70,(.own 4 3 (0) y92.length)),(71,(I (((y92.length:Nat):Int)))),(72,I 0)] [1,2,3,4,5] [(.own 1 [[I p2]]),(Qlb p1),(.own 1 [[I 0]]),(Qk8 x122),(Qj0 p1)] hq (prr (prr (prr (pc (.rn (Qao rn0 (rnc (rqr rfl) (rnc (rqr rfl) (rnc (rqr rfl) rn0))))) (pc (.rn (Qbj rfl)) (pw (pw pn))))))) (qb (lc rwl ln) (qb (lc (.rn (Qbj rfl)) ln) (qb (lc rwl ln) (qc (spr Qab) (qc (spr Qal) qn)))))) ?_
         refine Qbx (τ:=Int×Int×Int×(List Int)) (fun n t=>Qdo N p1 y92 k98 x122 n t.1 t.2.1 t.2.2.1 t.2.2.2=some r) (fun ⟨y123,y124,y125,y126⟩=>⟨mk 84 [(5,.ref 0 1 0 0),(6,.ref 1 1 0 0),(7,.ref 2 1 0 0),(16,Qi5),(70,(.own 3 3 (0) y92.length)),(71,(I (((y92.length:Nat):Int)))),(72,I y123)],[(.own 1 [[I y124]]),(Qla p1),(.own 1 [[I y125]]),(Qk8 x122),(.own 1 (y126.map Qah))]⟩) (fun t h=>by rw[Qdo] at h;cases h) (fun n131 ih t h=>?_) N (0,p2,0,List.replicate (p1.Inlets.length:Int).toNat 0) h
         obtain⟨y123,y124,y125,y126⟩:=t
         rw[Qdo] at h
         skip
         refine wxz<|wsq ?_
         refine bfe h (fun hc132 h=>?_) fun hc132 h=>?_
         ·refine wft hc132<|Qai<|thn<|wsq<|Qaf ?_
          obtain⟨hi133,h⟩:=cko h
          obtain⟨hi133a,hi133b⟩:=Qbp hi133
          obtain⟨x134,hg135,h⟩:=bno h
          refine wx tbk [(0,rb [(.tmp 70,(.own 3 3 (0) y92.length)),(.tmp 72,I y123)] [(3,(Qk8 x122))] (.ref 3 3 y123.toNat 0)),(1,rb [(.tmp 74,(.ref 3 3 y123.toNat 0))] [(3,(Qk8 x122))] (Q4s x134))] ⟨aio rfl underlying87 ti94 (odt hi133a) (odt hi133b) (Nat.zero_add _),ald rfl ti94 (by decide) (mgt Qac hg135) (nle rfl) rfl,tv⟩ ?_
          obtain⟨x137,hf136,h⟩:=bno h
          refine wx1 tbk [(2,⟨_,_,_,_,false⟩)] ⟨Qei (first:=[]) (cap:=[.ref 0 1 0 0,.ref 1 1 0 0,.ref 2 1 0 0]) (vs:=[(.agg [(I ((⟨(⟨x134.Stair.Amount,x134.Stair.Price⟩:Qap),x134.inlet⟩:Qaa).Stair.Amount)),(I ((⟨(⟨x134.Stair.Amount,x134.Stair.Price⟩:Qap),x134.inlet⟩:Qaa).Stair.Price)),(I ((⟨(⟨x134.Stair.Amount,x134.Stair.Price⟩:Qap),x134.inlet⟩:Qaa).inlet))])]) (σr:=[(.own 1 [[I y124]]),(Qla p1),(.own 1 [[I y125]]),(.own 1 (y126.map Qah))]) (σr':=[(.own 1 [[I x137.1]]),(Qqj p1),(.own 1 [[I x137.2.1]]),(.own 1 (x137.2.2.map Qah))]) (res':=(.tup [])) [0,1,2,4] rfl Qrd (Qgf N (⟨(⟨x134.Stair.Amount,x134.Stair.Price⟩:Qap),x134.inlet⟩:Qaa) y124 ((p1.Inlets.length:Int).toNat) y125 y126 _ hf136) rfl (Qb1 (rnc (.plain _ (NLt.agg _ (nlcc (nlc nll nl0)))) (rnc (Qa4 rfl) (rnc (Qa4 rfl) (rnc (Qa4 rfl) rn0))))) (slc (Qaj (rnc (.plain _ nll) rn0)) (slc (Qaj (rnc (Qgu rfl) rn0)) (slc (Qaj (rnc (.plain _ nll) rn0)) (slc (Qd1 Qal) Qak)))) (slc (Qaj (rnc (.plain _ nll) rn0)) (slc (Qaj (rnc (Qnc rfl) rn0)) (slc (Qaj (rnc (.plain _ nll) rn0)) (slc (Qd1 Qal) Qak)))) (.plain _ (NLt.tup _ nl0)) rfl rfl rfl,tv⟩<|bln<|thn<|wxz1<|thn ?_
          exact arm (mto (n:=84) [(5,.ref 0 1 0 0),(6,.ref 1 1 0 0),(7,.ref 2 1 0 0),(16,Qi5),(70,(.own 3 3 (0) y92.length)),(71,(I (((y92.length:Nat):Int)))),(72,(I (w64 (y123+1))))] [0,1,2,3,4] [(.own 1 [[I x137.1]]),(Qqj p1),(.own 1 [[I x137.2.1]]),(Qk8 x122),(.own 1 (x137.2.2.map Qah))] hq (prr (prr (prr (pc (.rn (Qao rn0 (rnc (rqr rfl) (rnc (rqr rfl) (rnc (rqr rfl) rn0))))) (pc (.rn (Qbj rfl)) (pw (pw pn))))))) (qb (lc rwl ln) (qb (lc (.rn (Qbj rfl)) ln) (qb (lc rwl ln) (qc (spr Qab) (qc (spr Qal) qn)))))) (ih (w64 (y123+1),x137.1,x137.2.1,x137.2.2) h)
         ·exact wfn hc132<|Qa3<|Qan<|Qan<|Qa2 rfl<|thn<|⟨(y124,y125,y126),h,(mto (n:=84) [(5,.ref 0 1 0 0),(6,.ref 1 1 0 0),(7,.ref 2 1 0 0)] [0,1,2,4] [(.own 1 [[I y124]]),(Qla p1),(.own 1 [[I y125]]),(.own 1 (y126.map Qah))] hq (prr (prr (prr pn))) (qb (lc rwl ln) (qb (lc (.rn (Qbj rfl)) ln) (qb (lc rwl ln) (qc (spr Qal) qn)))))⟩
      ·skip
       refine wx tbk [(2,rp _ _)] ⟨alq 2 Qa1 p1.Inlets underlying67,tv⟩<|Qaf ?_
       refine wmr (Mor.trans (Qu8 6 94 3 11 (by kernel_rfl) (by kernel_rfl)) (mto (n:=84) (l':=[(4,.ref 0 4 0 0),(5,.ref 1 1 0 0),(6,.ref 2 1 0 0),(7,.ref 3 1 0 0),(10,(.dptr ((I p0.Sites)::(Qj6 p0)::(arrF 144 x90.2.1++arrF 144 x90.2.2)) 0)),(11,(.gro 4 94 3 (([]:List Qaa).length))),(37,(Qif p1)),(38,(I ((p1.Inlets.length:Int)))),(39,I 0)]) (own':=[(Qhh p1),(.own 1 [[I p2]]),(.own 1 [[nilS]]),(.own 1 [[I 0]]),Quy]) [(4,.ref 1 4 0 0),(5,.ref 2 1 0 0),(6,.ref 3 1 0 0),(7,.ref 4 1 0 0),(10,(.dptr ((I p0.Sites)::(Qj6 p0)::(arrF 144 x90.2.1++arrF 144 x90.2.2)) 0)),(11,(.gro 6 94 3 (([]:List Qaa).length))),(37,(Qif p1)),(38,(I ((p1.Inlets.length:Int)))),(39,I 0)] [1,2,3,4,6] [(Qhh p1),(.own 1 [[I p2]]),(.own 1 [[nilS]]),(.own 1 [[I 0]]),Quy] hq (prr (prr (prr (prr (pc (.rn (.plain _ (NLt.dptr _ _ (nlc nll (nlc (nld Qad _) (Qdb Qb2 Qb2)))))) (pc (.rn (Qia rfl)) (pc (rnd Qam) (pw (pw pn))))))))) (qb (lc (rnd Qam) (lc (rnd Qal) (lcc ln))) (qb (lc rwl ln) (qb (lc rwl ln) (qb (lc rwl ln) (qc (Qgy Qab) qn))))))) ?_
       refine Qbx (τ:=Int×(List Qaa)) (fun n t=>Qd4 N p0 p1 x90 k93 n t.1 t.2=some r) (fun ⟨y138,y139⟩=>⟨mk 84 [(4,.ref 0 4 0 0),(5,.ref 1 1 0 0),(6,.ref 2 1 0 0),(7,.ref 3 1 0 0),(10,(.dptr ((I p0.Sites)::(Qj6 p0)::(arrF 144 x90.2.1++arrF 144 x90.2.2)) 0)),(11,(.gro 4 94 3 y139.length)),(37,(Qif p1)),(38,(I ((p1.Inlets.length:Int)))),(39,I y138)],[(Qhh p1),(.own 1 [[I p2]]),(.own 1 [[nilS]]),(.own 1 [[I 0]]),(.gro 3 (y139.map Qac))]⟩) (fun t h=>by rw[Qd4] at h;cases h) (fun n142 ih t h=>?_) N (0,([]:List Qaa)) h
       obtain⟨y138,y139⟩:=t
       rw[Qd4] at h
       skip
       refine wxz<|wsq ?_
       refine bfe h (fun hc143 h=>?_) fun hc143 h=>?_
       ·refine wft hc143<|Qai<|thn ?_
        obtain⟨k145,hk_k145,h⟩:=jko h
        refine wjn (τ:=(List Qaa)) (fun t=>k145 t=some r) (fun y144=>⟨mk 84 [(4,.ref 0 4 0 0),(5,.ref 1 1 0 0),(6,.ref 2 1 0 0),(7,.ref 3 1 0 0),(10,(.dptr ((I p0.Sites)::(Qj6 p0)::(arrF 144 x90.2.1++arrF 144 x90.2.2)) 0)),(11,(.gro 4 94 3 y144.length)),(37,(Qif p1)),(38,(I ((p1.Inlets.length:Int)))),(39,I y138)],[(Qhh p1),(.own 1 [[I p2]]),(.own 1 [[nilS]]),(.own 1 [[I 0]]),(.gro 3 (y144.map Qac))]⟩) (fun y144 h=>?_) ?_
        ·subst hk_k145
         exact wxz1<|thn<|arm (mto (n:=84) [(4,.ref 0 4 0 0),(5,.ref 1 1 0 0),(6,.ref 2 1 0 0),(7,.ref 3 1 0 0),(10,(.dptr ((I p0.Sites)::(Qj6 p0)::(arrF 144 x90.2.1++arrF 144 x90.2.2)) 0)),(11,(.gro 4 94 3 y144.length)),(37,(Qif p1)),(38,(I ((p1.Inlets.length:Int)))),(39,(I (w64 (y138+1))))] [0,1,2,3,4] [(Qhh p1),(.own 1 [[I p2]]),(.own 1 [[nilS]]),(.own 1 [[I 0]]),(.gro 3 (y144.map Qac))] hq (prr (prr (prr (prr (pc (.rn (.plain _ (NLt.dptr _ _ (nlc nll (nlc (nld Qad _) (Qdb Qb2 Qb2)))))) (pc (.rn (Qia rfl)) (pc (rnd Qam) (pw (pw pn))))))))) (qb (lc (rnd Qam) (lc (rnd Qal) (lcc ln))) (qb (lc rwl ln) (qb (lc rwl ln) (qb (lc rwl ln) (qc (Qgy Qab) qn)))))) (ih (w64 (y138+1),y144) h)
        ·skip
         refine Qaf ?_
         obtain⟨x146,hg147,h⟩:=bno h
         obtain⟨hi148,hj149⟩:=gsm hg147
         refine wx tbk [(1,rp _ _)] ⟨aiq underlying67 ti90 Qa1 hi148 hj149,tv⟩ ?_
         refine wx tbk [(2,rp _ _)] ⟨alq 2 Qaz x146.Stairs underlying88,tv⟩<|Qaf ?_
         refine wmr (mto (n:=84) (l':=[(4,.ref 0 4 0 0),(5,.ref 1 1 0 0),(6,.ref 2 1 0 0),(7,.ref 3 1 0 0),(10,(.dptr ((I p0.Sites)::(Qj6 p0)::(arrF 144 x90.2.1++arrF 144 x90.2.2)) 0)),(11,(.gro 4 94 3 y139.length)),(12,I y138),(13,.ref 5 2 0 0),(37,(Qif p1)),(38,(I ((p1.Inlets.length:Int)))),(39,I y138),(45,(Qjv x146)),(46,(I ((x146.Stairs.length:Int)))),(47,I 0)]) (own':=[(Qhh p1),(.own 1 [[I p2]]),(.own 1 [[nilS]]),(.own 1 [[I 0]]),(.gro 3 (y139.map Qac)),(Qmo x146)]) [(4,.ref 0 4 0 0),(5,.ref 1 1 0 0),(6,.ref 2 1 0 0),(7,.ref 3 1 0 0),(10,(.dptr ((I p0.Sites)::(Qj6 p0)::(arrF 144 x90.2.1++arrF 144 x90.2.2)) 0)),(11,(.gro 4 94 3 y139.length)),(12,I y138),(13,.ref 5 2 0 0),(37,(Qif p1)),(38,(I ((p1.Inlets.length:Int)))),(39,I y138),(45,(Qjv x146)),(46,(I ((x146.Stairs.length:Int)))),(47,I 0)] [0,1,2,3,4,5] [(Qhh p1),(.own 1 [[I p2]]),(.own 1 [[nilS]]),(.own 1 [[I 0]]),(.gro 3 (y139.map Qac)),(Qmo x146)] hq (prr (prr (prr (prr (pc (.rn (.plain _ (NLt.dptr _ _ (nlc nll (nlc (nld Qad _) (Qdb Qb2 Qb2)))))) (pc (.rn (Qia rfl)) (pw (prr (pc (rnd Qam) (pw (pw (pc (rnd Qaw) (pw (pw pn)))))))))))))) (qb (lc (rnd Qam) (lc (rnd Qal) (lcc ln))) (qb (lc rwl ln) (qb (lc rwl ln) (qb (lc rwl ln) (qc (Qgy Qab) (qb (lc rwl (lc (rnd Qaw) ln)) qn))))))) ?_
         refine Qbx (τ:=Int×(List Qaa)) (fun n t=>Qd3 N p0 p1 x90 y138 k145 x146 n t.1 t.2=some r) (fun ⟨y150,y151⟩=>⟨mk 84 [(4,.ref 0 4 0 0),(5,.ref 1 1 0 0),(6,.ref 2 1 0 0),(7,.ref 3 1 0 0),(10,(.dptr ((I p0.Sites)::(Qj6 p0)::(arrF 144 x90.2.1++arrF 144 x90.2.2)) 0)),(11,(.gro 4 94 3 y151.length)),(12,I y138),(13,.ref 5 2 0 0),(37,(Qif p1)),(38,(I ((p1.Inlets.length:Int)))),(39,I y138),(45,(Qjv x146)),(46,(I ((x146.Stairs.length:Int)))),(47,I y150)],[(Qhh p1),(.own 1 [[I p2]]),(.own 1 [[nilS]]),(.own 1 [[I 0]]),(.gro 3 (y151.map Qac)),(Qmo x146)]⟩) (fun t h=>by rw[Qd3] at h;cases h) (fun n154 ih t h=>?_) N (0,y139) h
         obtain⟨y150,y151⟩:=t
         rw[Qd3] at h
         skip
         refine wxz<|wsq ?_
         refine bfe h (fun hc155 h=>?_) fun hc155 h=>?_
         ·refine wft hc155<|Qai<|thn<|wsq<|Qaf ?_
          obtain⟨x156,hg157,h⟩:=bno h
          obtain⟨hi158,hj159⟩:=gsm hg157
          refine wx tbk [(0,rp _ _)] ⟨aiq underlying88 ti91 Qaz hi158 hj159,tv⟩ ?_
          obtain⟨x161,hf160,h⟩:=bno h
          refine wx tbk [(3,rp [fu 36,(.tmp 51,(.dptr ((I p0.Sites)::(Qj6 p0)::(arrF 144 x90.2.1++arrF 144 x90.2.2)) 0)),(.tmp 52,(Qto p1)),(.tmp 53,(.agg [I x146.Site,(Qjv x146)]))] (B x161))] ?_ ?_
          ·exact⟨acq [(.dptr ((I p0.Sites)::(Qj6 p0)::(arrF 144 x90.2.1++arrF 144 x90.2.2)) 0),(Qto p1),(.agg [I x146.Site,(Qjv x146)])] [] [] (B x161) [] Q0b (Qj1 N p0.Sites p0.Tests x90.2.1 x90.2.2 p1 x146 _ hf160) (Qb1 (rnc (.plain _ (NLt.dptr _ _ (nlc nll (nlc (nld Qad _) (Qdb Qb2 Qb2))))) (rnc (.plain _ (NLt.agg _ (nlc (nld Qam _) (nlc (nld Qal _) (nlcc nl0))))) (rnc (.plain _ (NLt.agg _ (nlc nll (nlc (nld Qaw _) nl0)))) rn0)))) Qak Qak (.plain _ nll),tv⟩
          refine bfe h (fun hc162 h=>?_) fun hc162 h=>?_
          ·refine wft hc162 ?_
           obtain⟨ha163,h⟩:=cko h
           refine wx1 tbk [(3,rp [(.tmp 57,(.agg [I x156.Amount,I x156.Price])),(.tmp 58,I y138)] (Qqn x156 y138)),(4,rp [(.tmp 59,(Qqn x156 y138))] (.dat 3 (([(⟨x156,y138⟩:Qaa)]:List Qaa).map Qac))),(5,⟨[(.tmp 56,(.gro 4 94 3 y151.length)),(.tmp 60,(.dat 3 (([(⟨x156,y138⟩:Qaa)]:List Qaa).map Qac)))],[(4,(.gro 3 (y151.map Qac))),(7,.unused)],(.gro 7 94 3 ((y151++([(⟨x156,y138⟩:Qaa)])).length)),[(4,.dead),(7,(.gro 3 ((y151++([(⟨x156,y138⟩:Qaa)]):List Qaa).map Qac)))],false⟩)] ?_ ?_
           ·exact⟨Qdz (vs:=[(.agg [I x156.Amount,I x156.Price]),I y138]) rfl ts94 tz94 rfl (by rfl) rfl,Qfj (vs:=[(Qqn x156 y138)]) rfl underlying87 ti94 tz94 rfl (by decide) rfl (by decide) (by rfl) (by rfl) (by rfl) rfl,Qpf (c:=Qac) (a:=y151) (b:=[(⟨x156,y138⟩:Qaa)]) rfl underlying87 te94 rfl (Qji rfl) (by rfl) ha163 (by decide),tv⟩
           exact bln<|thn<|wxz1<|thn<|arm (mto (n:=84) [(4,.ref 0 4 0 0),(5,.ref 1 1 0 0),(6,.ref 2 1 0 0),(7,.ref 3 1 0 0),(10,(.dptr ((I p0.Sites)::(Qj6 p0)::(arrF 144 x90.2.1++arrF 144 x90.2.2)) 0)),(11,(.gro 7 94 3 ((y151++([(⟨x156,y138⟩:Qaa)])).length))),(12,I y138),(13,.ref 5 2 0 0),(37,(Qif p1)),(38,(I ((p1.Inlets.length:Int)))),(39,I y138),(45,(Qjv x146)),(46,(I ((x146.Stairs.length:Int)))),(47,(I (w64 (y150+1))))] [0,1,2,3,7,5] [(Qhh p1),(.own 1 [[I p2]]),(.own 1 [[nilS]]),(.own 1 [[I 0]]),(.gro 3 ((y151++([(⟨x156,y138⟩:Qaa)]):List Qaa).map Qac)),(Qmo x146)] hq (prr (prr (prr (prr (pc (.rn (.plain _ (NLt.dptr _ _ (nlc nll (nlc (nld Qad _) (Qdb Qb2 Qb2)))))) (pc (.rn (Qia rfl)) (pw (prr (pc (rnd Qam) (pw (pw (pc (rnd Qaw) (pw (pw pn)))))))))))))) (qb (lc (rnd Qam) (lc (rnd Qal) (lcc ln))) (qb (lc rwl ln) (qb (lc rwl ln) (qb (lc rwl ln) (qc (Qgy Qab) (qb (lc rwl (lc (rnd Qaw) ln)) qn))))))) (ih (w64 (y150+1),y151++([(⟨x156,y138⟩:Qaa)])) h)
          ·exact wfn hc162<|Qai<|bln<|thn<|wxz1<|thn<|arm (mto (n:=84) [(4,.ref 0 4 0 0),(5,.ref 1 1 0 0),(6,.ref 2 1 0 0),(7,.ref 3 1 0 0),(10,(.dptr ((I p0.Sites)::(Qj6 p0)::(arrF 144 x90.2.1++arrF 144 x90.2.2)) 0)),(11,(.gro 4 94 3 y151.length)),(12,I y138),(13,.ref 5 2 0 0),(37,(Qif p1)),(38,(I ((p1.Inlets.length:Int)))),(39,I y138),(45,(Qjv x146)),(46,(I ((x146.Stairs.length:Int)))),(47,(I (w64 (y150+1))))] [0,1,2,3,4,5] [(Qhh p1),(.own 1 [[I p2]]),(.own 1 [[nilS]]),(.own 1 [[I 0]]),(.gro 3 (y151.map Qac)),(Qmo x146)] hq (prr (prr (prr (prr (pc (.rn (.plain _ (NLt.dptr _ _ (nlc nll (nlc (nld Qad _) (Qdb Qb2 Qb2)))))) (pc (.rn (Qia rfl)) (pw (prr (pc (rnd Qam) (pw (pw (pc (rnd Qaw) (pw (pw pn)))))))))))))) (qb (lc (rnd Qam) (lc (rnd Qal) (lcc ln))) (qb (lc rwl ln) (qb (lc rwl ln) (qb (lc rwl ln) (qc (Qgy Qab) (qb (lc rwl (lc (rnd Qaw) ln)) qn))))))) (ih (w64 (y150+1),y151) h)
         ·exact wfn hc155<|Qa3<|Qan<|Qan<|Qa2 rfl<|bln<|thn<|⟨(y151),h,(mto (n:=84) [(4,.ref 0 4 0 0),(5,.ref 1 1 0 0),(6,.ref 2 1 0 0),(7,.ref 3 1 0 0),(10,(.dptr ((I p0.Sites)::(Qj6 p0)::(arrF 144 x90.2.1++arrF 144 x90.2.2)) 0)),(11,(.gro 4 94 3 y151.length)),(37,(Qif p1)),(38,(I ((p1.Inlets.length:Int)))),(39,I y138)] [0,1,2,3,4] [(Qhh p1),(.own 1 [[I p2]]),(.own 1 [[nilS]]),(.own 1 [[I 0]]),(.gro 3 (y151.map Qac))] hq (prr (prr (prr (prr (pc (.rn (.plain _ (NLt.dptr _ _ (nlc nll (nlc (nld Qad _) (Qdb Qb2 Qb2)))))) (pc (.rn (Qia rfl)) (pc (rnd Qam) (pw (pw pn))))))))) (qb (lc (rnd Qam) (lc (rnd Qal) (lcc ln))) (qb (lc rwl ln) (qb (lc rwl ln) (qb (lc rwl ln) (qc (Qgy Qab) qn))))))⟩
       ·exact wfn hc143<|Qa3<|Qan<|Qan<|Qa2 rfl<|thn<|⟨(y139),h,(mto (n:=84) [(4,.ref 0 4 0 0),(5,.ref 1 1 0 0),(6,.ref 2 1 0 0),(7,.ref 3 1 0 0),(11,(.gro 4 94 3 y139.length))] [0,1,2,3,4] [(Qhh p1),(.own 1 [[I p2]]),(.own 1 [[nilS]]),(.own 1 [[I 0]]),(.gro 3 (y139.map Qac))] hq (prr (prr (prr (prr (pc (.rn (Qia rfl)) pn))))) (qb (lc (rnd Qam) (lc (rnd Qal) (lcc ln))) (qb (lc rwl ln) (qb (lc rwl ln) (qb (lc rwl ln) (qc (Qgy Qab) qn))))))⟩
def Qgs (N:Nat) (p0:Qat) (p1:Qa7) (p2:Int):Option (Int×Bool):=
  (Qhs N p0).bind fun x2=>
  (Qht N p1).bind fun x4=>
  (Qeu N x2 x4 p2).bind fun x6=>
  bif (x6.2.2 != 0) then
   some (0,false)
  else
   (Qhs N p0).bind fun x9=>
   (Qht N p1).bind fun x11=>
   (Qhz N x9 x11 x6.1).bind fun x13=>
   some (x13.1,(x13.2==0))
theorem Qkf (N:Nat) (p0:Qat) (p1:Qa7) (p2:Int) (r:(Int×Bool)) (h:Qgs N p0 p1 p2=some r):Spec prog 10 [(.agg (Qf9 p0)),(.agg (Qhm p1)),(I p2)] [] (.tup [(I r.1),(B r.2)]) []:=by
  refine sA func10 0 fun _ _ _ hq hd0=>?_
  unfold Qgs at h
  refine wxz ?_
  obtain⟨x2,hf1,h⟩:=bno h
  obtain⟨x4,hf3,h⟩:=bno h
  obtain⟨x6,hf5,h⟩:=bno h
  refine wxd tbk [(1,rp _ _),(3,rp _ _),(5,rp _ _)] ⟨apw Q0f (Qlh N p0 _ hf1),apw Q0e (Qli N p1 _ hf3),apw Q6k (Qn5 N x2 x4 p2 _ hf5),tv⟩<|wsq<|wxz ?_
  refine bfe h (fun hc7 h=>?_) fun hc7 h=>?_
  ·refine wft hc7<|wxz<|Qag<|Qae ?_
   obtain rfl:=osi h
   exact fie [I 0,B false] ⟨rot,rot,tv⟩
  ·refine wfn hc7<|Qai<|thn ?_
   obtain⟨x9,hf8,h⟩:=bno h
   obtain⟨x11,hf10,h⟩:=bno h
   obtain⟨x13,hf12,h⟩:=bno h
   refine wxd tbk [(1,rp _ _),(3,rp _ _),(5,rp _ _)] ⟨apw Q0f (Qlh N p0 _ hf8),apw Q0e (Qli N p1 _ hf10),apw Q6j (Qoy N x9 x11 x6.1 _ hf12),tv⟩<|wxz<|Qag ?_
   obtain rfl:=osi h
   exact fie [I x13.1,(B ((x13.2==0)))] ⟨rot,rot,tv⟩
end
section
def Qhi (_N:Nat) (p0 p1 p2:Int):Option Bool:=
  bif (decide (p1≤p0)) then
   some (decide (p0≤p2))
  else
   some false
theorem Qnb (N:Nat) (p0 p1 p2:Int) (r:Bool) (h:Qhi N p0 p1 p2=some r):Spec prog 17 [(I p0),(I p1),(I p2)] [] (B r) []:=by
  refine sA func17 0 fun _ _ _ hq hd0=>?_
  unfold Qhi at h
  refine wxz ?_
  refine bfe h (fun hb1 h=>?_) fun hb1 h=>?_
  ·refine wx tbk [(3,rp [(.tmp 9,(B ((decide (p1≤p0)))))] (B true))] ⟨asb hb1 (amv rfl),tv⟩<|Qag ?_
   obtain rfl:=osi h
   exact fend ⟨[(B ((decide (p0≤p2))))],⟨rot,tv⟩,rfl⟩ nll
  ·exact wx tbk [(3,rp [(.tmp 9,(B ((decide (p1≤p0)))))] (B false))] ⟨asb hb1 (amv rfl),tv⟩<|Qag<|frb h
def Qfy (N:Nat) (p0:Int):Option Bool:=
  (Qhi N p0 0 1000000000).bind fun x2=>
  some x2
theorem Qjf (N:Nat) (p0:Int) (r:Bool) (h:Qfy N p0=some r):Spec prog 16 [(I p0)] [] (B r) []:=by
  refine sA func16 0 fun _ _ _ hq hd0=>?_
  unfold Qfy at h
  refine wxz ?_
  obtain⟨x2,hf1,h⟩:=bno h
  exact wx tbk [(1,rp _ _)] ⟨apw Q6o (Qnb N p0 0 1000000000 _ hf1),tv⟩<|Qag<|frb h
def Qgm (N:Nat) (p0:Int):Option Bool:=
  (Qfy N p0).bind fun x3=>
  some (!x3)
abbrev Q1q:Slot:=.own 1 [[(.fn (.func 16) [] [])]]
theorem Qkx (N:Nat) (p0:Int) (r:Bool) (h:Qgm N p0=some r):Spec prog 30 [(I p0),(.ref 0 1 (0) 0)] [Q1q] (B r) [Q1q]:=by
  refine sF func30 1 fun _ _ _ hq hd0=>?_
  unfold Qgm at h
  refine wxz ?_
  obtain⟨x3,hf2,h⟩:=bno h
  refine wx tbk [(2,rp _ _)] ⟨apw Q0g (Qjf N p0 _ hf2),tv⟩ ?_
  refine wmr (mto (n:=8) (l':=[(3,(B ((!x3))))]) (own':=[Q1q]) [(3,(B ((!x3))))] [0] [Q1q] hq (pw pn) (qb (lc (.rn (Qao rn0 rn0)) ln) qn))<|Qag ?_
  obtain rfl:=osi h
  exact⟨_,Mor.rfl,fio [(B ((!x3)))] ⟨rot,tv⟩⟩
def Qbt (N:Nat) (p0:List Int) (k2:Unit→Option Int):Nat→Int→Option Int
  |0,_=>none
  |n5+1,y3=>
    bif (decide (y3<(p0.length:Int))) then
     (getI p0 y3).bind fun x7=>
     (Qgm N x7).bind fun x12=>
     bif x12 then
      some y3
     else
      Qbt N p0 k2 n5 (w64 (y3+1))
    else
     k2 ()
def Qen (N:Nat) (p0:List Int):Option Int:=
  Qcy (fun _=>
    some (-1)) fun k2:Unit→Option Int=>
  Qbt N p0 k2 N 0
abbrev Qxr:AV:=.fn (.func 30) [] [(.ref 0 1 (0) 0)]
abbrev Qmg:Slot:=.own 1 [[(.fn (.func 16) [] [])]]
theorem Qis (N:Nat) (p0:List Int) (r:Int) (h:Qen N p0=some r):Spec prog 47 [(.dat 1 (p0.map Qah)),Qxr] [Qmg] (I r) [Qmg]:=by
  refine sF func47 1 fun _ _ _ hq hd0=>?_
  unfold Qen at h
  refine wxz ?_
  obtain⟨k2,hk_k2,h⟩:=jko h
  refine wjn (τ:=Unit) (fun t=>k2 t=some r) (fun _=>⟨mk 19 [],[Qmg]⟩) (fun t h=>?_) ?_
  ·subst hk_k2
   refine wxz<|wmr (mto (n:=19) (l':=[(4,(I ((-1))))]) (own':=[Qmg]) [(4,(I ((-1))))] [0] [Qmg] hq (pw pn) (qb (lc (.rn (Qao rn0 rn0)) ln) qn))<|Qag ?_
   obtain rfl:=osi h
   exact⟨_,Mor.rfl,fio [(I ((-1)))] ⟨rot,tv⟩⟩
  ·skip
   refine wx tbk [(1,rp _ _)] ⟨alq 1 Qah p0 underlying26,tv⟩<|Qaf ?_
   refine wmr (mto (n:=19) (l':=[(0,(.dat 1 (p0.map Qah))),(1,Qxr),(7,(I ((p0.length:Int)))),(8,I 0)]) (own':=[Qmg]) [(0,(.dat 1 (p0.map Qah))),(1,Qxr),(7,(I ((p0.length:Int)))),(8,I 0)] [0] [Qmg] hq (pc (rnd Qal) (pc (.rn (Qao rn0 (rnc (rqr rfl) rn0))) (pw (pw pn)))) (qb (lc (.rn (Qao rn0 rn0)) ln) qn)) ?_
   refine Qbx (τ:=Int) (fun n t=>Qbt N p0 k2 n t=some r) (fun y3=>⟨mk 19 [(0,(.dat 1 (p0.map Qah))),(1,Qxr),(7,(I ((p0.length:Int)))),(8,I y3)],[Qmg]⟩) (fun t h=>by rw[Qbt] at h;cases h) (fun n5 ih y3 h=>?_) N (0) h
   rw[Qbt] at h
   skip
   refine wxz<|wsq ?_
   refine bfe h (fun hc6 h=>?_) fun hc6 h=>?_
   ·refine wft hc6<|Qai<|thn<|wsq<|Qaf<|wxz ?_
    obtain⟨x7,hg8,h⟩:=bno h
    obtain⟨hi9,hj10⟩:=gsm hg8
    obtain⟨x12,hf11,h⟩:=bno h
    refine wx tbk [(3,rp _ _),(5,⟨_,_,_,_,false⟩)] ⟨aiq underlying26 ti3 Qah hi9 hj10,Qei (first:=[]) (cap:=[.ref 0 1 0 0]) (vs:=[I x7]) (σr:=[Qmg]) (σr':=[Qmg]) (res':=(B x12)) [0] rfl Q6i (Qkx N x7 _ hf11) rfl (Qb1 (rnc (.plain _ nll) (rnc (Qa4 rfl) rn0))) (slc (Qaj (rnc (.plain _ (NLt.fn _ _ _ nl0 nl0)) rn0)) Qak) (slc (Qaj (rnc (.plain _ (NLt.fn _ _ _ nl0 nl0)) rn0)) Qak) (.plain _ nll) rfl rfl rfl,tv⟩ ?_
    refine bfe h (fun hc13 h=>?_) fun hc13 h=>?_
    ·refine wft hc13<|wxz ?_
     refine wmr (mto (n:=19) (l':=[(4,I y3)]) (own':=[Qmg]) [(4,I y3)] [0] [Qmg] hq (pw pn) (qb (lc (.rn (Qao rn0 rn0)) ln) qn))<|Qag<|Qaq<|Qae<|Qae<|Qaq<|Qae ?_
     obtain rfl:=osi h
     exact⟨_,Mor.rfl,fio [I y3] ⟨rot,tv⟩⟩
    ·exact wfn hc13<|Qai<|bln<|thn<|wxz1<|thn<|arm (mto (n:=19) [(0,(.dat 1 (p0.map Qah))),(1,Qxr),(7,(I ((p0.length:Int)))),(8,(I (w64 (y3+1))))] [0] [Qmg] hq (pc (rnd Qal) (pc (.rn (Qao rn0 (rnc (rqr rfl) rn0))) (pw (pw pn)))) (qb (lc (.rn (Qao rn0 rn0)) ln) qn)) (ih (w64 (y3+1)) h)
   ·exact wfn hc6<|Qa3<|Qan<|Qan<|Qa2 rfl<|thn<|⟨(),h,(mto (n:=19) [] [0] [Qmg] hq pn (qb (lc (.rn (Qao rn0 rn0)) ln) qn))⟩
def Qd9 (N:Nat) (p0:List Int):Option Bool:=
  (Qen N p0).bind fun x3=>
  some (decide (x3≥0))
abbrev Q7m:AV:=.fn (.func 30) [] [(.ref 0 1 (0) 0)]
abbrev Qvr:Slot:=.own 1 [[(.fn (.func 16) [] [])]]
theorem Qh7 (N:Nat) (p0:List Int) (r:Bool) (h:Qd9 N p0=some r):Spec prog 29 [(.dat 1 (p0.map Qah)),Q7m] [Qvr] (B r) [Qvr]:=by
  refine sF func29 1 fun _ _ _ hq hd0=>?_
  unfold Qd9 at h
  refine wxz ?_
  obtain⟨x3,hf2,h⟩:=bno h
  refine wx tbk [(2,⟨_,_,_,_,false⟩)] ⟨acq [(.dat 1 (p0.map Qah)),Q7m] [Qvr] [Qvr] (I x3) [0] Qub (Qis N p0 _ hf2) (Qb1 (rnc (pld Qal) (rnc (Qao rn0 (rnc (Qa4 rfl) rn0)) rn0))) (slc (Qaj (rnc (.plain _ (NLt.fn _ _ _ nl0 nl0)) rn0)) Qak) (slc (Qaj (rnc (.plain _ (NLt.fn _ _ _ nl0 nl0)) rn0)) Qak) (.plain _ nll),tv⟩ ?_
  refine wmr (mto (n:=9) (l':=[(4,(B ((decide (x3≥0)))))]) (own':=[Qvr]) [(4,(B ((decide (x3≥0)))))] [0] [Qvr] hq (pw pn) (qb (lc (.rn (Qao rn0 rn0)) ln) qn))<|Qag ?_
  obtain rfl:=osi h
  exact⟨_,Mor.rfl,fio [(B ((decide (x3≥0))))] ⟨rot,tv⟩⟩
def Qgg (N:Nat) (p0:List Int):Option Bool:=
  (Qd9 N p0).bind fun x2=>
  some (!x2)
def Q7n:AV:=.fn (.func 30) [] [(.ref 0 1 (0) 0)]
def Q7o:Slot:=.own 1 [[(.fn (.func 16) [] [])]]
theorem Qlu (N:Nat) (p0:List Int) (r:Bool) (h:Qgg N p0=some r):Spec prog 18 [(.dat 1 (p0.map Qah)),(.fn (.func 16) [] [])] [] (B r) []:=by
  refine sA func18 0 fun _ _ _ hq hd0=>?_
  unfold Qgg at h
  refine wxz ?_
  obtain⟨x2,hf1,h⟩:=bno h
  refine wx tbk [(1,rp [(.tmp 3,.ref 0 1 0 0)] Q7n),(2,⟨_,_,_,_,false⟩)] ⟨Qfm (fs:=[]) (cs:=[.ref 0 1 0 0]) rfl rfl rfl rfl,acq [(.dat 1 (p0.map Qah)),Q7n] [Q7o] [Q7o] (B x2) [0] Quc (Qh7 N p0 _ hf1) (Qb1 (rnc (pld Qal) (rnc (Qao rn0 (rnc (Qa4 rfl) rn0)) rn0))) (slc (Qaj (rnc (.plain _ (NLt.fn _ _ _ nl0 nl0)) rn0)) Qak) (slc (Qaj (rnc (.plain _ (NLt.fn _ _ _ nl0 nl0)) rn0)) Qak) (.plain _ nll),tv⟩<|Qag ?_
  obtain rfl:=osi h
  exact fend ⟨[(B ((!x2)))],⟨rot,tv⟩,rfl⟩ nll
def Qhl (_N:Nat) (p0:Int):Option Bool:=
  some (decide (p0≤2))
theorem Ql4 (N:Nat) (p0:Int) (r:Bool) (h:Qhl N p0=some r):Spec prog 20 [(K .u8 p0)] [] (B r) []:=by
  refine sA func20 0 fun _ _ _ hq hd0=>?_
  unfold Qhl at h
  refine wxz<|wxz<|Qag ?_
  obtain rfl:=osi h
  exact fend ⟨[(B ((decide (p0≤2))))],⟨rot,tv⟩,rfl⟩ nll
def Qfz (N:Nat) (p0:Int):Option Bool:=
  (Qhl N p0).bind fun x3=>
  some (!x3)
abbrev Q1p:Slot:=.own 1 [[(.fn (.func 20) [] [])]]
theorem Qj7 (N:Nat) (p0:Int) (r:Bool) (h:Qfz N p0=some r):Spec prog 32 [(K .u8 p0),(.ref 0 1 (0) 0)] [Q1p] (B r) [Q1p]:=by
  refine sF func32 1 fun _ _ _ hq hd0=>?_
  unfold Qfz at h
  refine wxz ?_
  obtain⟨x3,hf2,h⟩:=bno h
  refine wx tbk [(2,rp _ _)] ⟨apw Q6l (Ql4 N p0 _ hf2),tv⟩ ?_
  refine wmr (mto (n:=8) (l':=[(3,(B ((!x3))))]) (own':=[Q1p]) [(3,(B ((!x3))))] [0] [Q1p] hq (pw pn) (qb (lc (.rn (Qao rn0 rn0)) ln) qn))<|Qag ?_
  obtain rfl:=osi h
  exact⟨_,Mor.rfl,fio [(B ((!x3)))] ⟨rot,tv⟩⟩
def Qbk (N:Nat) (p0:List Int) (k2:Unit→Option Int):Nat→Int→Option Int
  |0,_=>none
  |n5+1,y3=>
    bif (decide (y3<(p0.length:Int))) then
     (getI p0 y3).bind fun x7=>
     (Qfz N x7).bind fun x12=>
     bif x12 then
      some y3
     else
      Qbk N p0 k2 n5 (w64 (y3+1))
    else
     k2 ()
def Qd5 (N:Nat) (p0:List Int):Option Int:=
  Qcy (fun _=>
    some (-1)) fun k2:Unit→Option Int=>
  Qbk N p0 k2 N 0
abbrev Qxq:AV:=.fn (.func 32) [] [(.ref 0 1 (0) 0)]
abbrev Qmf:Slot:=.own 1 [[(.fn (.func 20) [] [])]]
theorem Qh2 (N:Nat) (p0:List Int) (r:Int) (h:Qd5 N p0=some r):Spec prog 48 [(.dat 1 (p0.map c_u8)),Qxq] [Qmf] (I r) [Qmf]:=by
  refine sF func48 1 fun _ _ _ hq hd0=>?_
  unfold Qd5 at h
  refine wxz ?_
  obtain⟨k2,hk_k2,h⟩:=jko h
  refine wjn (τ:=Unit) (fun t=>k2 t=some r) (fun _=>⟨mk 19 [],[Qmf]⟩) (fun t h=>?_) ?_
  ·subst hk_k2
   refine wxz<|wmr (mto (n:=19) (l':=[(4,(I ((-1))))]) (own':=[Qmf]) [(4,(I ((-1))))] [0] [Qmf] hq (pw pn) (qb (lc (.rn (Qao rn0 rn0)) ln) qn))<|Qag ?_
   obtain rfl:=osi h
   exact⟨_,Mor.rfl,fio [(I ((-1)))] ⟨rot,tv⟩⟩
  ·skip
   refine wx tbk [(1,rp _ _)] ⟨alq 1 c_u8 p0 underlying29,tv⟩<|Qaf ?_
   refine wmr (mto (n:=19) (l':=[(0,(.dat 1 (p0.map c_u8))),(1,Qxq),(7,(I ((p0.length:Int)))),(8,I 0)]) (own':=[Qmf]) [(0,(.dat 1 (p0.map c_u8))),(1,Qxq),(7,(I ((p0.length:Int)))),(8,I 0)] [0] [Qmf] hq (pc (rnd Qig) (pc (.rn (Qao rn0 (rnc (rqr rfl) rn0))) (pw (pw pn)))) (qb (lc (.rn (Qao rn0 rn0)) ln) qn)) ?_
   refine Qbx (τ:=Int) (fun n t=>Qbk N p0 k2 n t=some r) (fun y3=>⟨mk 19 [(0,(.dat 1 (p0.map c_u8))),(1,Qxq),(7,(I ((p0.length:Int)))),(8,I y3)],[Qmf]⟩) (fun t h=>by rw[Qbk] at h;cases h) (fun n5 ih y3 h=>?_) N (0) h
   rw[Qbk] at h
   skip
   refine wxz<|wsq ?_
   refine bfe h (fun hc6 h=>?_) fun hc6 h=>?_
   ·refine wft hc6<|Qai<|thn<|wsq<|Qaf<|wxz ?_
    obtain⟨x7,hg8,h⟩:=bno h
    obtain⟨hi9,hj10⟩:=gsm hg8
    obtain⟨x12,hf11,h⟩:=bno h
    refine wx tbk [(3,rp _ _),(5,⟨_,_,_,_,false⟩)] ⟨aiq underlying29 ti5 c_u8 hi9 hj10,Qei (first:=[]) (cap:=[.ref 0 1 0 0]) (vs:=[(K .u8 x7)]) (σr:=[Qmf]) (σr':=[Qmf]) (res':=(B x12)) [0] rfl Q6g (Qj7 N x7 _ hf11) rfl (Qb1 (rnc (.plain _ nll) (rnc (Qa4 rfl) rn0))) (slc (Qaj (rnc (.plain _ (NLt.fn _ _ _ nl0 nl0)) rn0)) Qak) (slc (Qaj (rnc (.plain _ (NLt.fn _ _ _ nl0 nl0)) rn0)) Qak) (.plain _ nll) rfl rfl rfl,tv⟩ ?_
    refine bfe h (fun hc13 h=>?_) fun hc13 h=>?_
    ·refine wft hc13<|wxz ?_
     refine wmr (mto (n:=19) (l':=[(4,I y3)]) (own':=[Qmf]) [(4,I y3)] [0] [Qmf] hq (pw pn) (qb (lc (.rn (Qao rn0 rn0)) ln) qn))<|Qag<|Qaq<|Qae<|Qae<|Qaq<|Qae ?_
     obtain rfl:=osi h
     exact⟨_,Mor.rfl,fio [I y3] ⟨rot,tv⟩⟩
    ·exact wfn hc13<|Qai<|bln<|thn<|wxz1<|thn<|arm (mto (n:=19) [(0,(.dat 1 (p0.map c_u8))),(1,Qxq),(7,(I ((p0.length:Int)))),(8,(I (w64 (y3+1))))] [0] [Qmf] hq (pc (rnd Qig) (pc (.rn (Qao rn0 (rnc (rqr rfl) rn0))) (pw (pw pn)))) (qb (lc (.rn (Qao rn0 rn0)) ln) qn)) (ih (w64 (y3+1)) h)
   ·exact wfn hc6<|Qa3<|Qan<|Qan<|Qa2 rfl<|thn<|⟨(),h,(mto (n:=19) [] [0] [Qmf] hq pn (qb (lc (.rn (Qao rn0 rn0)) ln) qn))⟩
def Qdt (N:Nat) (p0:List Int):Option Bool:=
  (Qd5 N p0).bind fun x3=>
  some (decide (x3≥0))
abbrev Q7j:AV:=.fn (.func 32) [] [(.ref 0 1 (0) 0)]
abbrev Qvq:Slot:=.own 1 [[(.fn (.func 20) [] [])]]
theorem Qhe (N:Nat) (p0:List Int) (r:Bool) (h:Qdt N p0=some r):Spec prog 31 [(.dat 1 (p0.map c_u8)),Q7j] [Qvq] (B r) [Qvq]:=by
  refine sF func31 1 fun _ _ _ hq hd0=>?_
  unfold Qdt at h
  refine wxz ?_
  obtain⟨x3,hf2,h⟩:=bno h
  refine wx tbk [(2,⟨_,_,_,_,false⟩)] ⟨acq [(.dat 1 (p0.map c_u8)),Q7j] [Qvq] [Qvq] (I x3) [0] Q6c (Qh2 N p0 _ hf2) (Qb1 (rnc (pld Qig) (rnc (Qao rn0 (rnc (Qa4 rfl) rn0)) rn0))) (slc (Qaj (rnc (.plain _ (NLt.fn _ _ _ nl0 nl0)) rn0)) Qak) (slc (Qaj (rnc (.plain _ (NLt.fn _ _ _ nl0 nl0)) rn0)) Qak) (.plain _ nll),tv⟩ ?_
  refine wmr (mto (n:=9) (l':=[(4,(B ((decide (x3≥0)))))]) (own':=[Qvq]) [(4,(B ((decide (x3≥0)))))] [0] [Qvq] hq (pw pn) (qb (lc (.rn (Qao rn0 rn0)) ln) qn))<|Qag ?_
  obtain rfl:=osi h
  exact⟨_,Mor.rfl,fio [(B ((decide (x3≥0))))] ⟨rot,tv⟩⟩
def Qfn (N:Nat) (p0:List Int):Option Bool:=
  (Qdt N p0).bind fun x2=>
  some (!x2)
def Q7k:AV:=.fn (.func 32) [] [(.ref 0 1 (0) 0)]
def Q7l:Slot:=.own 1 [[(.fn (.func 20) [] [])]]
theorem Qkw (N:Nat) (p0:List Int) (r:Bool) (h:Qfn N p0=some r):Spec prog 19 [(.dat 1 (p0.map c_u8)),(.fn (.func 20) [] [])] [] (B r) []:=by
  refine sA func19 0 fun _ _ _ hq hd0=>?_
  unfold Qfn at h
  refine wxz ?_
  obtain⟨x2,hf1,h⟩:=bno h
  refine wx tbk [(1,rp [(.tmp 3,.ref 0 1 0 0)] Q7k),(2,⟨_,_,_,_,false⟩)] ⟨Qfm (fs:=[]) (cs:=[.ref 0 1 0 0]) rfl rfl rfl rfl,acq [(.dat 1 (p0.map c_u8)),Q7k] [Q7l] [Q7l] (B x2) [0] Q6h (Qhe N p0 _ hf1) (Qb1 (rnc (pld Qig) (rnc (Qao rn0 (rnc (Qa4 rfl) rn0)) rn0))) (slc (Qaj (rnc (.plain _ (NLt.fn _ _ _ nl0 nl0)) rn0)) Qak) (slc (Qaj (rnc (.plain _ (NLt.fn _ _ _ nl0 nl0)) rn0)) Qak) (.plain _ nll),tv⟩<|Qag ?_
  obtain rfl:=osi h
  exact fend ⟨[(B ((!x2)))],⟨rot,tv⟩,rfl⟩ nll
def Qbl (N:Nat) (p0 p1:List Int) (p2:Qe8) (p3:Int) (k7:(List Int)→Option ((List Int)×Int)):Nat→Int→(List Int)→Option ((List Int)×Int)
  |0,_,_=>none
  |n13+1,y9,y10=>
    bif (decide (y9<(p0.length:Int))) then
     (getI p0 y9).bind fun x15=>
     (getI p1 y9).bind fun x19=>
     bif (x19==0) then
      chk (decide (0≤y9)&&decide (y9.toNat<(p0.length:Int).toNat))<|
      (y10[y9.toNat]?).bind fun _=>
      bif (decide (y9>0)) then
       chk (decide (0≤y9)&&decide (y9.toNat<(p0.length:Int).toNat))<|
       ((y10.set y9.toNat (w64 ((w64 (x15*p2.a0)).tdiv 1000)))[y9.toNat]?).bind fun x29=>
       chk (decide (0≤w64 (y9-1))&&decide ((w64 (y9-1)).toNat<(p0.length:Int).toNat))<|
       ((y10.set y9.toNat (w64 ((w64 (x15*p2.a0)).tdiv 1000)))[(w64 (y9-1)).toNat]?).bind fun x32=>
       chk (decide (0≤y9)&&decide (y9.toNat<(p0.length:Int).toNat))<|
       ((y10.set y9.toNat (w64 ((w64 (x15*p2.a0)).tdiv 1000)))[y9.toNat]?).bind fun _=>
       Qbl N p0 p1 p2 p3 k7 n13 (w64 (y9+1)) ((y10.set y9.toNat (w64 ((w64 (x15*p2.a0)).tdiv 1000))).set y9.toNat (if (w64 (x32+p3))<x29 then w64 (x32+p3) else x29))
      else
       Qbl N p0 p1 p2 p3 k7 n13 (w64 (y9+1)) (y10.set y9.toNat (w64 ((w64 (x15*p2.a0)).tdiv 1000)))
     else
      bif (x19==1) then
       chk (decide (0≤y9)&&decide (y9.toNat<(p0.length:Int).toNat))<|
       (y10[y9.toNat]?).bind fun _=>
       bif (decide (y9>0)) then
        chk (decide (0≤y9)&&decide (y9.toNat<(p0.length:Int).toNat))<|
        ((y10.set y9.toNat (w64 ((w64 (x15*p2.a1)).tdiv 1000)))[y9.toNat]?).bind fun x43=>
        chk (decide (0≤w64 (y9-1))&&decide ((w64 (y9-1)).toNat<(p0.length:Int).toNat))<|
        ((y10.set y9.toNat (w64 ((w64 (x15*p2.a1)).tdiv 1000)))[(w64 (y9-1)).toNat]?).bind fun x46=>
        chk (decide (0≤y9)&&decide (y9.toNat<(p0.length:Int).toNat))<|
        ((y10.set y9.toNat (w64 ((w64 (x15*p2.a1)).tdiv 1000)))[y9.toNat]?).bind fun _=>
        Qbl N p0 p1 p2 p3 k7 n13 (w64 (y9+1)) ((y10.set y9.toNat (w64 ((w64 (x15*p2.a1)).tdiv 1000))).set y9.toNat (if (w64 (x46+p3))<x43 then w64 (x46+p3) else x43))
       else
        Qbl N p0 p1 p2 p3 k7 n13 (w64 (y9+1)) (y10.set y9.toNat (w64 ((w64 (x15*p2.a1)).tdiv 1000)))
      else
       bif (x19==2) then
        chk (decide (0≤y9)&&decide (y9.toNat<(p0.length:Int).toNat))<|
        (y10[y9.toNat]?).bind fun _=>
        bif (decide (y9>0)) then
         chk (decide (0≤y9)&&decide (y9.toNat<(p0.length:Int).toNat))<|
         ((y10.set y9.toNat (w64 ((w64 (x15*p2.a2)).tdiv 1000)))[y9.toNat]?).bind fun x57=>
         chk (decide (0≤w64 (y9-1))&&decide ((w64 (y9-1)).toNat<(p0.length:Int).toNat))<|
         ((y10.set y9.toNat (w64 ((w64 (x15*p2.a2)).tdiv 1000)))[(w64 (y9-1)).toNat]?).bind fun x60=>
         chk (decide (0≤y9)&&decide (y9.toNat<(p0.length:Int).toNat))<|
         ((y10.set y9.toNat (w64 ((w64 (x15*p2.a2)).tdiv 1000)))[y9.toNat]?).bind fun _=>
         Qbl N p0 p1 p2 p3 k7 n13 (w64 (y9+1)) ((y10.set y9.toNat (w64 ((w64 (x15*p2.a2)).tdiv 1000))).set y9.toNat (if (w64 (x60+p3))<x57 then w64 (x60+p3) else x57))
        else
         Qbl N p0 p1 p2 p3 k7 n13 (w64 (y9+1)) (y10.set y9.toNat (w64 ((w64 (x15*p2.a2)).tdiv 1000)))
       else
        none
    else
     k7 (y10)
def Qga (N:Nat) (p0 p1:List Int) (p2:Qe8) (p3:Int):Option ((List Int)×Int):=
  Qcy (fun _=>
    chk (decide (0≤(p0.length:Int))&&decide (8*(p0.length:Int)≤281474976710656)&&decide ((p0.length:Int)≤9223372036854775807))<|
    Qcy (fun y6=>
      chk (decide ((p0.length:Int).toNat≤y6.length))<|
      some (y6.take ((p0.length:Int).toNat),0)) fun k7:(List Int)→Option ((List Int)×Int)=>
    Qbl N p0 p1 p2 p3 k7 N 0 (List.replicate (p0.length:Int).toNat 0)) fun k4:Unit→Option ((List Int)×Int)=>
  bif (decide ((p0.length:Int)>500)) then
   some ([],3)
  else
   Qcy (fun y66=>
     bif y66 then
      some ([],1)
     else
      bif (decide (p2.a0>1000)) then
       some ([],1)
      else
       bif (decide (p2.a1>p2.a0)) then
        some ([],1)
       else
        bif (decide (p2.a2>p2.a1)) then
         some ([],1)
        else
         bif (decide (p2.a2<0)) then
          some ([],1)
         else
          k4 ()) fun k67:Bool→Option ((List Int)×Int)=>
   (Qgg N p0).bind fun x74=>
   bif (!x74) then
    k67 (true)
   else
    bif ((p1.length:Int) != (p0.length:Int)) then
     k67 (true)
    else
     (Qfn N p1).bind fun x78=>
     bif (!x78) then
      k67 (true)
     else
      (Qfy N p3).bind fun x81=>
      k67 ((!x81))
def Qi3 (p2:Qe8):Slot:=.own 3 [[(I p2.a0),(I p2.a1),(I p2.a2)]]
def Q7p (p0:List Int):Slot:=.own 1 ((List.replicate (p0.length:Int).toNat 0:List Int).map Qah)
def Quw (y6 p0:List Int):AV:=.dat 1 ((y6.take ((p0.length:Int).toNat):List Int).map Qah)
def Quv (p1:List Int) (y9 x19:Int):List (Nat×Rec):=[(5,rp [((.tmp 77),(.dat 1 (p1.map c_u8))),((.tmp 78),(I y9))] (.dptr (c_u8 x19) 0))]
def Qnq (y10:List Int) (y9 x15:Int) (p2:Qe8):Slot:=.own 1 ((y10.set y9.toNat (w64 ((w64 (x15*p2.a0)).tdiv 1000)):List Int).map Qah)
def Qnp (y10:List Int) (y9 x15:Int) (p2:Qe8):Slot:=.own 1 ((y10.set y9.toNat (w64 ((w64 (x15*p2.a1)).tdiv 1000)):List Int).map Qah)
def Qno (y10:List Int) (y9 x15:Int) (p2:Qe8):Slot:=.own 1 ((y10.set y9.toNat (w64 ((w64 (x15*p2.a2)).tdiv 1000)):List Int).map Qah)
def Qkt:AV:=.dat 1 (([]:List Int).map Qah)
def Qxx (p2:Qe8):List (Nat×Rec):=[(0,rb [((.tmp 6),(.ref 0 3 (0) 0)),((.const (.int .u8 0)),(K .u8 (0)))] [(0,(Qi3 p2))] (.ref 0 3 (0) 0))]
def Qxw p2:=hcat (Qxx p2) [(3,rp [((.tmp 44),(B ((decide (p2.a0>1000)))))] (B false)),(4,rb [((.tmp 45),(B false)),((.tmp 6),(.ref 0 3 (0) 0)),((.const (.int .u8 1)),(K .u8 (1)))] [(0,(Qi3 p2))] (.ref 0 3 (0) 1)),(6,rb [((.tmp 45),(B false)),((.tmp 6),(.ref 0 3 (0) 0)),((.const (.int .u8 0)),(K .u8 (0)))] [(0,(Qi3 p2))] (.ref 0 3 (0) 0))]
def Qxv p2:=hcat (Qxw p2) [(10,rp [((.tmp 51),(B ((decide (p2.a1>p2.a0)))))] (B false)),(11,rb [((.tmp 52),(B false)),((.tmp 6),(.ref 0 3 (0) 0)),((.const (.int .u8 2)),(K .u8 (2)))] [(0,(Qi3 p2))] (.ref 0 3 (0) 2)),(13,rb [((.tmp 52),(B false)),((.tmp 6),(.ref 0 3 (0) 0)),((.const (.int .u8 1)),(K .u8 (1)))] [(0,(Qi3 p2))] (.ref 0 3 (0) 1))]
def Qxu (p0:List Int) (x74:Bool):List (Nat×Rec):=[(2,rp [fu 18,((.tmp 19),(.dat 1 (p0.map Qah))),((.tmp 20),(.fn (.func 16) [] []))] (B x74))]
def Qxt p0 x74 (p1:List Int):=hcat (Qxu p0 x74) [(4,rp [((.tmp 22),(B ((!x74))))] (B false)),(6,rp [((.tmp 23),(B false)),((.tmp 24),(.dat 1 (p1.map c_u8)))] (I ((p1.length:Int)))),(8,rp [((.tmp 23),(B false)),((.tmp 26),(.dat 1 (p0.map Qah)))] (I ((p0.length:Int))))]
def Qxs p0 x74 p1 (x78:Bool):=hcat (Qxt p0 x74 p1) [(11,rp [((.tmp 29),(B (((p1.length:Int) != (p0.length:Int)))))] (B false)),(13,rp [((.tmp 30),(B false)),fu 19,((.tmp 31),(.dat 1 (p1.map c_u8))),fu 20] (B x78))]
theorem Qik (N:Nat) (p0 p1:List Int) (p2:Qe8) (p3:Int) (r:((List Int)×Int)) (h:Qga N p0 p1 p2 p3=some r):Spec prog 9 [(.dat 1 (p0.map Qah)),(.dat 1 (p1.map c_u8)),(.agg (Qlq p2)),(I p3)] [] (.tup [(.dat 1 (r.1.map Qah)),(I r.2)]) []:=by
  refine sF func9 0 fun _ _ _ hq hd0=>?_
  unfold Qga at h
  refine wxz<|wxz ?_
  obtain⟨k4,hk_k4,h⟩:=jko h
  refine wjn (τ:=Unit) (fun t=>k4 t=some r) (fun _=>⟨mk 105 [(0,(.dat 1 (p0.map Qah))),(1,(.dat 1 (p1.map c_u8))),(3,I p3),(6,.ref 0 3 0 0)],[(Qi3 p2)]⟩) (fun t h=>?_) ?_
  ·subst hk_k4
   obtain⟨hm5,h⟩:=cko h
   refine wx tbk [(1,rp _ _),(2,⟨[(.tmp 65,(I ((p0.length:Int)))),(.tmp 65,(I ((p0.length:Int))))],[(1,.unused)],(.own 1 1 (0) ((p0.length:Int).toNat)),[(1,(Q7p p0))],false⟩)] ⟨alq 1 Qah p0 underlying26,Qnk rfl underlying26 te3 tz3 rfl (Q66 hm5) rfl (Q65 hm5) (Q1f hm5) (Qtx Qah rfl),tv⟩ ?_
   obtain⟨k7,hk_k7,h⟩:=jko h
   refine wjn (τ:=(List Int)) (fun t=>k7 t=some r) (fun y6=>⟨mk 105 [(11,(.own 0 1 (0) ((p0.length:Int).toNat)))],[(.own 1 (y6.map Qah))]⟩) (fun y6 h=>?_) ?_
   ·subst hk_k7
    refine wxz ?_
    obtain⟨hz8,h⟩:=cko h
    refine wmr (Q8v (n:=105) (l':=[(8,(Quw y6 p0)),(9,I 0)]) 0 [(8,(.own 0 1 (0) ((p0.length:Int).toNat))),(9,I 0)] (by kernel_rfl) (by kernel_rfl) (by kernel_rfl) ⟨rfl,(Qq6 hz8),rfl,(.same _),tv⟩ rfl) ?_
    refine wmr (mto (n:=105) (l':=[(8,(Quw y6 p0)),(9,I 0)]) (own':=[]) [(8,(Quw y6 p0)),(9,I 0)] [] [] hq (pc (rnd Qal) (pw pn)) qn)<|Qag ?_
    obtain rfl:=osi h
    exact⟨_,Mor.rfl,fio [(Quw y6 p0),I 0] ⟨rot,rot,tv⟩⟩
   ·skip
    refine wx tbk [(1,rp _ _)] ⟨alq 1 Qah p0 underlying26,tv⟩<|Qaf ?_
    refine wmr (mto (n:=105) (l':=[(1,(.dat 1 (p1.map c_u8))),(3,I p3),(6,.ref 0 3 0 0),(11,(.own 1 1 (0) ((p0.length:Int).toNat))),(67,(.dat 1 (p0.map Qah))),(68,(I ((p0.length:Int)))),(69,I 0)]) (own':=[(Qi3 p2),(.own 1 (((List.replicate (p0.length:Int).toNat 0):List Int).map Qah))]) [(1,(.dat 1 (p1.map c_u8))),(3,I p3),(6,.ref 0 3 0 0),(11,(.own 1 1 (0) ((p0.length:Int).toNat))),(67,(.dat 1 (p0.map Qah))),(68,(I ((p0.length:Int)))),(69,I 0)] [0,1] [(Qi3 p2),(Q7p p0)] hq (pc (rnd Qig) (pw (prr (pc (.rn (Qbj rfl)) (pc (rnd Qal) (pw (pw pn))))))) (qb (lcc (lc rwl ln)) (qc (spr Qal) qn))) ?_
    refine Qbx (τ:=Int×(List Int)) (fun n t=>Qbl N p0 p1 p2 p3 k7 n t.1 t.2=some r) (fun ⟨y9,y10⟩=>⟨mk 105 [(1,(.dat 1 (p1.map c_u8))),(3,I p3),(6,.ref 0 3 0 0),(11,(.own 1 1 (0) ((p0.length:Int).toNat))),(67,(.dat 1 (p0.map Qah))),(68,(I ((p0.length:Int)))),(69,I y9)],[(Qi3 p2),(.own 1 (y10.map Qah))]⟩) (fun t h=>by rw[Qbl] at h;cases h) (fun n13 ih t h=>?_) N (0,List.replicate (p0.length:Int).toNat 0) h
    obtain⟨y9,y10⟩:=t
    rw[Qbl] at h
    skip
    refine wxz<|wsq ?_
    refine bfe h (fun hc14 h=>?_) fun hc14 h=>?_
    ·refine wft hc14<|Qai<|thn<|wsq<|Qaf ?_
     obtain⟨x15,hg16,h⟩:=bno h
     obtain⟨hi17,hj18⟩:=gsm hg16
     refine wx tbk [(1,rp _ _)] ⟨aiq underlying26 ti3 Qah hi17 hj18,tv⟩ ?_
     obtain⟨x19,hg20,h⟩:=bno h
     obtain⟨hi21,hj22⟩:=gsm hg20
     refine hpre (A:=(Quv p1 y9 x19)) ⟨aiq underlying29 ti5 c_u8 hi21 hj22,tv⟩ fun q1_=>?_
     refine bfe h (fun hb23 h=>?_) fun hb23 h=>?_
     ·obtain⟨hi24,h⟩:=cko h
      obtain⟨hi24a,hi24b⟩:=Qbp hi24
      obtain⟨x25,hg26,h⟩:=bno h
      refine wx tbk (hcat (Quv p1 y9 x19) [(7,rb [(.tmp 6,.ref 0 3 0 0),(.tmp 80,(K .u8 x19))] [(0,(Qi3 p2))] (.ref 0 3 0 0)),(10,rp [(.tmp 83,(I (w64 (x15*p2.a0)))),ci 1000] (I (w64 ((w64 (x15*p2.a0)).tdiv 1000)))),(11,rb [(.tmp 74,(.own 1 1 (0) ((p0.length:Int).toNat))),(.tmp 75,I y9)] [(1,(.own 1 (y10.map Qah)))] (.ref 1 1 y9.toNat 0)),(12,⟨[(.tmp 85,(.ref 1 1 y9.toNat 0)),(.tmp 84,(I (w64 ((w64 (x15*p2.a0)).tdiv 1000))))],[(1,(.own 1 (y10.map Qah)))],.any,[(1,(Qnq y10 y9 x15 p2))],false⟩)]) (hap q1_ ⟨Qnl hb23 (Qcb rfl underlying30 ti3 (by decide) (by decide) rfl),Qll rfl (by decide),aio rfl underlying26 ti3 (odt hi24a) (odt hi24b) (Nat.zero_add _),ast rfl ti3 (by rfl) (mgt Qah hg26) (nle rfl) (Qhf Qah rfl),tv⟩)<|wxz ?_
      refine bfe h (fun hc27 h=>?_) fun hc27 h=>?_
      ·refine wft hc27 ?_
       obtain⟨hi28,h⟩:=cko h
       obtain⟨hi28a,hi28b⟩:=Qbp hi28
       obtain⟨x29,hg30,h⟩:=bno h
       obtain⟨hi31,h⟩:=cko h
       obtain⟨hi31a,hi31b⟩:=Qbp hi31
       obtain⟨x32,hg33,h⟩:=bno h
       obtain⟨hi34,h⟩:=cko h
       obtain⟨hi34a,hi34b⟩:=Qbp hi34
       obtain⟨x35,hg36,h⟩:=bno h
       refine wy1 tbk [(4,rb [(.tmp 90,(.own 1 1 (0) ((p0.length:Int).toNat))),(.tmp 91,I y9)] [(1,(Qnq y10 y9 x15 p2))] (.ref 1 1 y9.toNat 0)),(5,rb [(.tmp 92,(.ref 1 1 y9.toNat 0))] [(1,(Qnq y10 y9 x15 p2))] (I x29)),(9,rb [(.tmp 94,(.own 1 1 (0) ((p0.length:Int).toNat))),(.tmp 96,(I (w64 (y9-1))))] [(1,(Qnq y10 y9 x15 p2))] (.ref 1 1 ((w64 (y9-1)).toNat) 0)),(10,rb [(.tmp 97,(.ref 1 1 ((w64 (y9-1)).toNat) 0))] [(1,(Qnq y10 y9 x15 p2))] (I x32)),(13,rp [(.tmp 93,I x29),(.tmp 100,(I (w64 (x32+p3))))] (I ((if (w64 (x32+p3))<x29 then w64 (x32+p3) else x29)))),(14,rb [(.tmp 88,(.own 1 1 (0) ((p0.length:Int).toNat))),(.tmp 89,I y9)] [(1,(Qnq y10 y9 x15 p2))] (.ref 1 1 y9.toNat 0)),(15,⟨[(.tmp 102,(.ref 1 1 y9.toNat 0)),(.tmp 101,(I ((if (w64 (x32+p3))<x29 then w64 (x32+p3) else x29))))],[(1,(Qnq y10 y9 x15 p2))],.any,[(1,(.own 1 (((y10.set y9.toNat (w64 ((w64 (x15*p2.a0)).tdiv 1000))).set y9.toNat (if (w64 (x32+p3))<x29 then w64 (x32+p3) else x29):List Int).map Qah)))],false⟩)] ⟨aio rfl underlying26 ti3 (odt hi28a) (odt hi28b) (Nat.zero_add _),ald rfl ti3 (by decide) (mgt Qah hg30) (nle rfl) rfl,aio rfl underlying26 ti3 (odt hi31a) (odt hi31b) (Nat.zero_add _),ald rfl ti3 (by decide) (mgt Qah hg33) (nle rfl) rfl,Qke rfl,aio rfl underlying26 ti3 (odt hi34a) (odt hi34b) (Nat.zero_add _),ast rfl ti3 (by rfl) (mgt Qah hg36) (nle rfl) (Qhf Qah rfl),tv⟩<|bln<|thn<|wxz1<|thn ?_
       exact arm (mto (n:=105) [(1,(.dat 1 (p1.map c_u8))),(3,I p3),(6,.ref 0 3 0 0),(11,(.own 1 1 (0) ((p0.length:Int).toNat))),(67,(.dat 1 (p0.map Qah))),(68,(I ((p0.length:Int)))),(69,(I (w64 (y9+1))))] [0,1] [(Qi3 p2),(.own 1 (((y10.set y9.toNat (w64 ((w64 (x15*p2.a0)).tdiv 1000))).set y9.toNat (if (w64 (x32+p3))<x29 then w64 (x32+p3) else x29):List Int).map Qah))] hq (pc (rnd Qig) (pw (prr (pc (.rn (Qbj rfl)) (pc (rnd Qal) (pw (pw pn))))))) (qb (lcc (lc rwl ln)) (qc (spr Qal) qn))) (ih (w64 (y9+1),(y10.set y9.toNat (w64 ((w64 (x15*p2.a0)).tdiv 1000))).set y9.toNat (if (w64 (x32+p3))<x29 then w64 (x32+p3) else x29)) h)
      ·exact wfn hc27<|Qai<|bln<|thn<|wxz1<|thn<|arm (mto (n:=105) [(1,(.dat 1 (p1.map c_u8))),(3,I p3),(6,.ref 0 3 0 0),(11,(.own 1 1 (0) ((p0.length:Int).toNat))),(67,(.dat 1 (p0.map Qah))),(68,(I ((p0.length:Int)))),(69,(I (w64 (y9+1))))] [0,1] [(Qi3 p2),(Qnq y10 y9 x15 p2)] hq (pc (rnd Qig) (pw (prr (pc (.rn (Qbj rfl)) (pc (rnd Qal) (pw (pw pn))))))) (qb (lcc (lc rwl ln)) (qc (spr Qal) qn))) (ih (w64 (y9+1),y10.set y9.toNat (w64 ((w64 (x15*p2.a0)).tdiv 1000))) h)
     ·refine bfe h (fun hb37 h=>?_) fun hb37 h=>?_
      ·obtain⟨hi38,h⟩:=cko h
       obtain⟨hi38a,hi38b⟩:=Qbp hi38
       obtain⟨x39,hg40,h⟩:=bno h
       refine wx tbk (hcat (Quv p1 y9 x19) [(7,rb [(.tmp 6,.ref 0 3 0 0),(.tmp 80,(K .u8 x19))] [(0,(Qi3 p2))] (.ref 0 3 0 1)),(10,rp [(.tmp 83,(I (w64 (x15*p2.a1)))),ci 1000] (I (w64 ((w64 (x15*p2.a1)).tdiv 1000)))),(11,rb [(.tmp 74,(.own 1 1 (0) ((p0.length:Int).toNat))),(.tmp 75,I y9)] [(1,(.own 1 (y10.map Qah)))] (.ref 1 1 y9.toNat 0)),(12,⟨[(.tmp 85,(.ref 1 1 y9.toNat 0)),(.tmp 84,(I (w64 ((w64 (x15*p2.a1)).tdiv 1000))))],[(1,(.own 1 (y10.map Qah)))],.any,[(1,(Qnp y10 y9 x15 p2))],false⟩)]) (hap q1_ ⟨Qnl hb37 (Qcb rfl underlying30 ti3 (by decide) (by decide) rfl),Qll rfl (by decide),aio rfl underlying26 ti3 (odt hi38a) (odt hi38b) (Nat.zero_add _),ast rfl ti3 (by rfl) (mgt Qah hg40) (nle rfl) (Qhf Qah rfl),tv⟩)<|wxz ?_
       refine bfe h (fun hc41 h=>?_) fun hc41 h=>?_
       ·refine wft hc41 ?_
        obtain⟨hi42,h⟩:=cko h
        obtain⟨hi42a,hi42b⟩:=Qbp hi42
        obtain⟨x43,hg44,h⟩:=bno h
        obtain⟨hi45,h⟩:=cko h
        obtain⟨hi45a,hi45b⟩:=Qbp hi45
        obtain⟨x46,hg47,h⟩:=bno h
        obtain⟨hi48,h⟩:=cko h
        obtain⟨hi48a,hi48b⟩:=Qbp hi48
        obtain⟨x49,hg50,h⟩:=bno h
        refine wy1 tbk [(4,rb [(.tmp 90,(.own 1 1 (0) ((p0.length:Int).toNat))),(.tmp 91,I y9)] [(1,(Qnp y10 y9 x15 p2))] (.ref 1 1 y9.toNat 0)),(5,rb [(.tmp 92,(.ref 1 1 y9.toNat 0))] [(1,(Qnp y10 y9 x15 p2))] (I x43)),(9,rb [(.tmp 94,(.own 1 1 (0) ((p0.length:Int).toNat))),(.tmp 96,(I (w64 (y9-1))))] [(1,(Qnp y10 y9 x15 p2))] (.ref 1 1 ((w64 (y9-1)).toNat) 0)),(10,rb [(.tmp 97,(.ref 1 1 ((w64 (y9-1)).toNat) 0))] [(1,(Qnp y10 y9 x15 p2))] (I x46)),(13,rp [(.tmp 93,I x43),(.tmp 100,(I (w64 (x46+p3))))] (I ((if (w64 (x46+p3))<x43 then w64 (x46+p3) else x43)))),(14,rb [(.tmp 88,(.own 1 1 (0) ((p0.length:Int).toNat))),(.tmp 89,I y9)] [(1,(Qnp y10 y9 x15 p2))] (.ref 1 1 y9.toNat 0)),(15,⟨[(.tmp 102,(.ref 1 1 y9.toNat 0)),(.tmp 101,(I ((if (w64 (x46+p3))<x43 then w64 (x46+p3) else x43))))],[(1,(Qnp y10 y9 x15 p2))],.any,[(1,(.own 1 (((y10.set y9.toNat (w64 ((w64 (x15*p2.a1)).tdiv 1000))).set y9.toNat (if (w64 (x46+p3))<x43 then w64 (x46+p3) else x43):List Int).map Qah)))],false⟩)] ⟨aio rfl underlying26 ti3 (odt hi42a) (odt hi42b) (Nat.zero_add _),ald rfl ti3 (by decide) (mgt Qah hg44) (nle rfl) rfl,aio rfl underlying26 ti3 (odt hi45a) (odt hi45b) (Nat.zero_add _),ald rfl ti3 (by decide) (mgt Qah hg47) (nle rfl) rfl,Qke rfl,aio rfl underlying26 ti3 (odt hi48a) (odt hi48b) (Nat.zero_add _),ast rfl ti3 (by rfl) (mgt Qah hg50) (nle rfl) (Qhf Qah rfl),tv⟩<|bln<|thn<|wxz1<|thn ?_
        exact arm (mto (n:=105) [(1,(.dat 1 (p1.map c_u8))),(3,I p3),(6,.ref 0 3 0 0),(11,(.own 1 1 (0) ((p0.length:Int).toNat))),(67,(.dat 1 (p0.map Qah))),(68,(I ((p0.length:Int)))),(69,(I (w64 (y9+1))))] [0,1] [(Qi3 p2),(.own 1 (((y10.set y9.toNat (w64 ((w64 (x15*p2.a1)).tdiv 1000))).set y9.toNat (if (w64 (x46+p3))<x43 then w64 (x46+p3) else x43):List Int).map Qah))] hq (pc (rnd Qig) (pw (prr (pc (.rn (Qbj rfl)) (pc (rnd Qal) (pw (pw pn))))))) (qb (lcc (lc rwl ln)) (qc (spr Qal) qn))) (ih (w64 (y9+1),(y10.set y9.toNat (w64 ((w64 (x15*p2.a1)).tdiv 1000))).set y9.toNat (if (w64 (x46+p3))<x43 then w64 (x46+p3) else x43)) h)
       ·exact wfn hc41<|Qai<|bln<|thn<|wxz1<|thn<|arm (mto (n:=105) [(1,(.dat 1 (p1.map c_u8))),(3,I p3),(6,.ref 0 3 0 0),(11,(.own 1 1 (0) ((p0.length:Int).toNat))),(67,(.dat 1 (p0.map Qah))),(68,(I ((p0.length:Int)))),(69,(I (w64 (y9+1))))] [0,1] [(Qi3 p2),(Qnp y10 y9 x15 p2)] hq (pc (rnd Qig) (pw (prr (pc (.rn (Qbj rfl)) (pc (rnd Qal) (pw (pw pn))))))) (qb (lcc (lc rwl ln)) (qc (spr Qal) qn))) (ih (w64 (y9+1),y10.set y9.toNat (w64 ((w64 (x15*p2.a1)).tdiv 1000))) h)
      ·refine bfe h (fun hb51 h=>?_) fun hb51 h=>?_
       ·obtain⟨hi52,h⟩:=cko h
        obtain⟨hi52a,hi52b⟩:=Qbp hi52
        obtain⟨x53,hg54,h⟩:=bno h
        refine wx tbk (hcat (Quv p1 y9 x19) [(7,rb [(.tmp 6,.ref 0 3 0 0),(.tmp 80,(K .u8 x19))] [(0,(Qi3 p2))] (.ref 0 3 0 2)),(10,rp [(.tmp 83,(I (w64 (x15*p2.a2)))),ci 1000] (I (w64 ((w64 (x15*p2.a2)).tdiv 1000)))),(11,rb [(.tmp 74,(.own 1 1 (0) ((p0.length:Int).toNat))),(.tmp 75,I y9)] [(1,(.own 1 (y10.map Qah)))] (.ref 1 1 y9.toNat 0)),(12,⟨[(.tmp 85,(.ref 1 1 y9.toNat 0)),(.tmp 84,(I (w64 ((w64 (x15*p2.a2)).tdiv 1000))))],[(1,(.own 1 (y10.map Qah)))],.any,[(1,(Qno y10 y9 x15 p2))],false⟩)]) (hap q1_ ⟨Qnl hb51 (Qcb rfl underlying30 ti3 (by decide) (by decide) rfl),Qll rfl (by decide),aio rfl underlying26 ti3 (odt hi52a) (odt hi52b) (Nat.zero_add _),ast rfl ti3 (by rfl) (mgt Qah hg54) (nle rfl) (Qhf Qah rfl),tv⟩)<|wxz ?_
        refine bfe h (fun hc55 h=>?_) fun hc55 h=>?_
        ·refine wft hc55 ?_
         obtain⟨hi56,h⟩:=cko h
         obtain⟨hi56a,hi56b⟩:=Qbp hi56
         obtain⟨x57,hg58,h⟩:=bno h
         obtain⟨hi59,h⟩:=cko h
         obtain⟨hi59a,hi59b⟩:=Qbp hi59
         obtain⟨x60,hg61,h⟩:=bno h
         obtain⟨hi62,h⟩:=cko h
         obtain⟨hi62a,hi62b⟩:=Qbp hi62
         obtain⟨x63,hg64,h⟩:=bno h
         refine wy1 tbk [(4,rb [(.tmp 90,(.own 1 1 (0) ((p0.length:Int).toNat))),(.tmp 91,I y9)] [(1,(Qno y10 y9 x15 p2))] (.ref 1 1 y9.toNat 0)),(5,rb [(.tmp 92,(.ref 1 1 y9.toNat 0))] [(1,(Qno y10 y9 x15 p2))] (I x57)),(9,rb [(.tmp 94,(.own 1 1 (0) ((p0.length:Int).toNat))),(.tmp 96,(I (w64 (y9-1))))] [(1,(Qno y10 y9 x15 p2))] (.ref 1 1 ((w64 (y9-1)).toNat) 0)),(10,rb [(.tmp 97,(.ref 1 1 ((w64 (y9-1)).toNat) 0))] [(1,(Qno y10 y9 x15 p2))] (I x60)),(13,rp [(.tmp 93,I x57),(.tmp 100,(I (w64 (x60+p3))))] (I ((if (w64 (x60+p3))<x57 then w64 (x60+p3) else x57)))),(14,rb [(.tmp 88,(.own 1 1 (0) ((p0.length:Int).toNat))),(.tmp 89,I y9)] [(1,(Qno y10 y9 x15 p2))] (.ref 1 1 y9.toNat 0)),(15,⟨[(.tmp 102,(.ref 1 1 y9.toNat 0)),(.tmp 101,(I ((if (w64 (x60+p3))<x57 then w64 (x60+p3) else x57))))],[(1,(Qno y10 y9 x15 p2))],.any,[(1,(.own 1 (((y10.set y9.toNat (w64 ((w64 (x15*p2.a2)).tdiv 1000))).set y9.toNat (if (w64 (x60+p3))<x57 then w64 (x60+p3) else x57):List Int).map Qah)))],false⟩)] ⟨aio rfl underlying26 ti3 (odt hi56a) (odt hi56b) (Nat.zero_add _),ald rfl ti3 (by decide) (mgt Qah hg58) (nle rfl) rfl,aio rfl underlying26 ti3 (odt hi59a) (odt hi59b) (Nat.zero_add _),ald rfl ti3 (by decide) (mgt Qah hg61) (nle rfl) rfl,Qke rfl,aio rfl underlying26 ti3 (odt hi62a) (odt hi62b) (Nat.zero_add _),ast rfl ti3 (by rfl) (mgt Qah hg64) (nle rfl) (Qhf Qah rfl),tv⟩<|bln<|thn<|wxz1<|thn ?_
         exact arm (mto (n:=105) [(1,(.dat 1 (p1.map c_u8))),(3,I p3),(6,.ref 0 3 0 0),(11,(.own 1 1 (0) ((p0.length:Int).toNat))),(67,(.dat 1 (p0.map Qah))),(68,(I ((p0.length:Int)))),(69,(I (w64 (y9+1))))] [0,1] [(Qi3 p2),(.own 1 (((y10.set y9.toNat (w64 ((w64 (x15*p2.a2)).tdiv 1000))).set y9.toNat (if (w64 (x60+p3))<x57 then w64 (x60+p3) else x57):List Int).map Qah))] hq (pc (rnd Qig) (pw (prr (pc (.rn (Qbj rfl)) (pc (rnd Qal) (pw (pw pn))))))) (qb (lcc (lc rwl ln)) (qc (spr Qal) qn))) (ih (w64 (y9+1),(y10.set y9.toNat (w64 ((w64 (x15*p2.a2)).tdiv 1000))).set y9.toNat (if (w64 (x60+p3))<x57 then w64 (x60+p3) else x57)) h)
        ·exact wfn hc55<|Qai<|bln<|thn<|wxz1<|thn<|arm (mto (n:=105) [(1,(.dat 1 (p1.map c_u8))),(3,I p3),(6,.ref 0 3 0 0),(11,(.own 1 1 (0) ((p0.length:Int).toNat))),(67,(.dat 1 (p0.map Qah))),(68,(I ((p0.length:Int)))),(69,(I (w64 (y9+1))))] [0,1] [(Qi3 p2),(Qno y10 y9 x15 p2)] hq (pc (rnd Qig) (pw (prr (pc (.rn (Qbj rfl)) (pc (rnd Qal) (pw (pw pn))))))) (qb (lcc (lc rwl ln)) (qc (spr Qal) qn))) (ih (w64 (y9+1),y10.set y9.toNat (w64 ((w64 (x15*p2.a2)).tdiv 1000))) h)
       ·cases h
    ·exact wfn hc14<|Qa3<|Qan<|Qan<|Qa2 rfl<|thn<|⟨(y10),h,(mto (n:=105) [(11,(.own 1 1 (0) ((p0.length:Int).toNat)))] [1] [(.own 1 (y10.map Qah))] hq (pc (.rn (Qbj rfl)) pn) (qc (spr Qal) qn))⟩
  ·skip
   refine Qaf<|wx tbk [(1,rp _ _)] ⟨alq 1 Qah p0 underlying26,tv⟩ ?_
   refine bfe h (fun hc65 h=>?_) fun hc65 h=>?_
   ·refine wft hc65<|wxz ?_
    refine wmr (mto (n:=105) (l':=[(8,Qkt),(9,I 3)]) (own':=[]) [(8,nilS),(9,I 3)] [] [] hq (pc (.nil _) (pw pn)) qn)<|Qag<|Qaq<|Qae ?_
    obtain rfl:=osi h
    exact⟨_,Mor.rfl,fio [Qkt,I 3] ⟨rot,rot,tv⟩⟩
   ·refine wfn hc65 ?_
    obtain⟨k67,hk_k67,h⟩:=jko h
    refine wjn (τ:=Bool) (fun t=>k67 t=some r) (fun y66=>⟨mk 105 [(0,(.dat 1 (p0.map Qah))),(1,(.dat 1 (p1.map c_u8))),(3,I p3),(6,.ref 0 3 0 0),(18,B y66)],[(Qi3 p2)]⟩) (fun y66 h=>?_) ?_
    ·subst hk_k67
     refine bfe h (fun hc68 h=>?_) fun hc68 h=>?_
     ·refine wft hc68<|wxz ?_
      refine wmr (mto (n:=105) (l':=[(8,Qkt),(9,I 1)]) (own':=[]) [(8,nilS),(9,I 1)] [] [] hq (pc (.nil _) (pw pn)) qn)<|Qag<|Qaq<|Qae ?_
      obtain rfl:=osi h
      exact⟨_,Mor.rfl,fio [Qkt,I 1] ⟨rot,rot,tv⟩⟩
     ·refine wfn hc68<|hpre (A:=(Qxx p2)) ⟨Qcb rfl underlying30 ti3 (by decide) (by decide) rfl,tv⟩ fun q2_=>?_
      refine bfe h (fun hb69 h=>?_) fun hb69 h=>?_
      ·refine wx tbk (hcat (Qxx p2) [(3,rp [(.tmp 44,(B ((decide (p2.a0>1000)))))] (B true))]) (hap q2_ ⟨asb hb69 (amv rfl),tv⟩)<|wtr<|wxz ?_
       refine wmr (mto (n:=105) (l':=[(8,Qkt),(9,I 1)]) (own':=[]) [(8,nilS),(9,I 1)] [] [] hq (pc (.nil _) (pw pn)) qn)<|Qag<|Qaq<|Qae ?_
       obtain rfl:=osi h
       exact⟨_,Mor.rfl,fio [Qkt,I 1] ⟨rot,rot,tv⟩⟩
      ·refine hpre (A:=(Qxw p2)) (hap q2_ ⟨asb hb69 (amv rfl),ag_ (Qcb rfl underlying30 ti3 (by decide) (by decide) rfl),ag_ (Qcb rfl underlying30 ti3 (by decide) (by decide) rfl),tv⟩) fun q3_=>?_
       refine bfe h (fun hb70 h=>?_) fun hb70 h=>?_
       ·refine wx tbk (hcat (Qxw p2) [(10,rp [(.tmp 51,(B ((decide (p2.a1>p2.a0)))))] (B true))]) (hap q3_ ⟨asb hb70 (amv rfl),tv⟩)<|wtr<|wxz ?_
        refine wmr (mto (n:=105) (l':=[(8,Qkt),(9,I 1)]) (own':=[]) [(8,nilS),(9,I 1)] [] [] hq (pc (.nil _) (pw pn)) qn)<|Qag<|Qaq<|Qae ?_
        obtain rfl:=osi h
        exact⟨_,Mor.rfl,fio [Qkt,I 1] ⟨rot,rot,tv⟩⟩
       ·refine hpre (A:=(Qxv p2)) (hap q3_ ⟨asb hb70 (amv rfl),ag_ (Qcb rfl underlying30 ti3 (by decide) (by decide) rfl),ag_ (Qcb rfl underlying30 ti3 (by decide) (by decide) rfl),tv⟩) fun q4_=>?_
        refine bfe h (fun hb71 h=>?_) fun hb71 h=>?_
        ·refine wx tbk (hcat (Qxv p2) [(17,rp [(.tmp 58,(B ((decide (p2.a2>p2.a1)))))] (B true))]) (hap q4_ ⟨asb hb71 (amv rfl),tv⟩)<|wtr<|wxz ?_
         refine wmr (mto (n:=105) (l':=[(8,Qkt),(9,I 1)]) (own':=[]) [(8,nilS),(9,I 1)] [] [] hq (pc (.nil _) (pw pn)) qn)<|Qag<|Qaq<|Qae ?_
         obtain rfl:=osi h
         exact⟨_,Mor.rfl,fio [Qkt,I 1] ⟨rot,rot,tv⟩⟩
        ·refine wx tbk (hcat (Qxv p2) [(17,rp [(.tmp 58,(B ((decide (p2.a2>p2.a1)))))] (B false)),(18,rb [(.tmp 59,B false),(.tmp 6,.ref 0 3 0 0),(.const (.int .u8 2),(K .u8 (2)))] [(0,(Qi3 p2))] (.ref 0 3 0 2))]) (hap q4_ ⟨asb hb71 (amv rfl),ag_ (Qcb rfl underlying30 ti3 (by decide) (by decide) rfl),tv⟩) ?_
         refine bfe h (fun hc72 h=>?_) fun hc72 h=>?_
         ·refine wft hc72<|wxz ?_
          refine wmr (mto (n:=105) (l':=[(8,Qkt),(9,I 1)]) (own':=[]) [(8,nilS),(9,I 1)] [] [] hq (pc (.nil _) (pw pn)) qn)<|Qag<|Qaq<|Qae ?_
          obtain rfl:=osi h
          exact⟨_,Mor.rfl,fio [Qkt,I 1] ⟨rot,rot,tv⟩⟩
         ·exact wfn hc72<|Qai<|bln<|thn<|⟨(),h,(mto (n:=105) [(0,(.dat 1 (p0.map Qah))),(1,(.dat 1 (p1.map c_u8))),(3,I p3),(6,.ref 0 3 0 0)] [0] [(Qi3 p2)] hq (pc (rnd Qal) (pc (rnd Qig) (pw (prr pn)))) (qb (lcc (lc rwl ln)) qn))⟩
    ·skip
     obtain⟨x74,hf73,h⟩:=bno h
     refine Q5v (A:=(Qxu p0 x74)) ⟨acq [(.dat 1 (p0.map Qah)),(.fn (.func 16) [] [])] [] [] (B x74) [] Q6n (Qlu N p0 _ hf73) (Qb1 (rnc (pld Qal) (rnc (.plain _ (NLt.fn _ _ _ nl0 nl0)) rn0))) Qak Qak (.plain _ nll),tv⟩ fun q5_=>?_
     refine bfe h (fun hb75 h=>?_) fun hb75 h=>?_
     ·exact wx1 tbk (hcat (Qxu p0 x74) [(4,rp [(.tmp 22,(B ((!x74))))] (B true))]) (hap q5_ ⟨asb hb75 (amv rfl),tv⟩)<|thn<|⟨(true),h,(mto (n:=105) [(0,(.dat 1 (p0.map Qah))),(1,(.dat 1 (p1.map c_u8))),(3,I p3),(6,.ref 0 3 0 0),(18,B true)] [0] [(Qi3 p2)] hq (pc (rnd Qal) (pc (rnd Qig) (pw (prr (pw pn))))) (qb (lcc (lc rwl ln)) qn))⟩
     ·refine Q5v (A:=(Qxt p0 x74 p1)) (hap q5_ ⟨asb hb75 (amv rfl),ag_ (alq 1 c_u8 p1 underlying29),ag_ (alq 1 Qah p0 underlying26),tv⟩) fun q6_=>?_
      refine bfe h (fun hb76 h=>?_) fun hb76 h=>?_
      ·exact wx1 tbk (hcat (Qxt p0 x74 p1) [(11,rp [(.tmp 29,(B (((p1.length:Int) != (p0.length:Int)))))] (B true))]) (hap q6_ ⟨asb hb76 (amv rfl),tv⟩)<|thn<|⟨(true),h,(mto (n:=105) [(0,(.dat 1 (p0.map Qah))),(1,(.dat 1 (p1.map c_u8))),(3,I p3),(6,.ref 0 3 0 0),(18,B true)] [0] [(Qi3 p2)] hq (pc (rnd Qal) (pc (rnd Qig) (pw (prr (pw pn))))) (qb (lcc (lc rwl ln)) qn))⟩
      ·obtain⟨x78,hf77,h⟩:=bno h
       refine Q5v (A:=(Qxs p0 x74 p1 x78)) (hap q6_ ⟨asb hb76 (amv rfl),ag_ (acq [(.dat 1 (p1.map c_u8)),(.fn (.func 20) [] [])] [] [] (B x78) [] Q6m (Qkw N p1 _ hf77) (Qb1 (rnc (pld Qig) (rnc (.plain _ (NLt.fn _ _ _ nl0 nl0)) rn0))) Qak Qak (.plain _ nll)),tv⟩) fun q7_=>?_
       refine bfe h (fun hb79 h=>?_) fun hb79 h=>?_
       ·exact wx1 tbk (hcat (Qxs p0 x74 p1 x78) [(16,rp [(.tmp 34,(B ((!x78))))] (B true))]) (hap q7_ ⟨asb hb79 (amv rfl),tv⟩)<|thn<|⟨(true),h,(mto (n:=105) [(0,(.dat 1 (p0.map Qah))),(1,(.dat 1 (p1.map c_u8))),(3,I p3),(6,.ref 0 3 0 0),(18,B true)] [0] [(Qi3 p2)] hq (pc (rnd Qal) (pc (rnd Qig) (pw (prr (pw pn))))) (qb (lcc (lc rwl ln)) qn))⟩
       ·obtain⟨x81,hf80,h⟩:=bno h
        exact wx1 tbk (hcat (Qxs p0 x74 p1 x78) [(16,rp [(.tmp 34,(B ((!x78))))] (B false)),(19,rp [(.tmp 35,B false),(.tmp 36,(.fn (.func 16) [] [])),(.tmp 37,I p3)] (B x81))]) (hap q7_ ⟨asb hb79 (amv rfl),ag_ (apv Q0g (Qjf N p3 _ hf80) (nlc nll nl0) nll),tv⟩)<|thn<|⟨((!x81)),h,(mto (n:=105) [(0,(.dat 1 (p0.map Qah))),(1,(.dat 1 (p1.map c_u8))),(3,I p3),(6,.ref 0 3 0 0),(18,(B ((!x81))))] [0] [(Qi3 p2)] hq (pc (rnd Qal) (pc (rnd Qig) (pw (prr (pw pn))))) (qb (lcc (lc rwl ln)) qn))⟩
def Qg2 (N:Nat):Option Bool:=
  (Qga N ([5]) ([1]) (⟨1000,400,0⟩:Qe8) 9).bind fun x2=>
  bif (x2.2==0) then
   bif ((x2.1.length:Int)==1) then
    (getI x2.1 0).bind fun x5=>
    some (x5==2)
   else
    some false
  else
   some false
def Q9g:AV:=.dat 1 (([5]:List Int).map Qah)
def Q9f:AV:=.dat 1 (([1]:List Int).map c_u8)
def Q9e:AV:=.agg [(I (1000)),(I (400)),(I (0))]
def Q4h (x2:((List Int)×Int)):List (Nat×Rec):=[(2,rp [((.tmp 11),(B ((x2.2==0))))] (B true)),(4,rp [((.tmp 12),(B true)),((.tmp 13),(.dat 1 (x2.1.map Qah)))] (I ((x2.1.length:Int))))]
theorem Qgl (N:Nat) (r:Bool) (h:Qg2 N=some r):Spec prog 8 [] [] (B r) []:=by
  refine sA func8 0 fun _ _ _ hq hd0=>?_
  unfold Qg2 at h
  refine wxz ?_
  obtain⟨x2,hf1,h⟩:=bno h
  refine wx tbk [(0,rp [ci 5] Q9g),(1,rp [(.const (.int .u8 1),(K .u8 (1)))] Q9f),(2,rp [ci 1000,ci 400,ci 0] Q9e),(3,rp _ _)] ⟨Qfj (vs:=[I 5]) rfl underlying26 ti3 tz3 rfl (by decide) rfl (by decide) (by rfl) (by rfl) (by rfl) rfl,Qfj (vs:=[(K .u8 (1))]) rfl underlying29 ti5 tz5 rfl (by decide) rfl (by decide) (by rfl) (by rfl) (by rfl) rfl,Qs6 (vs:=[I 1000,I 400,I 0]) rfl underlying30 ti3 tz30 rfl (by rfl) rfl,apw Qzz (Qik N ([5]) ([1]) (⟨1000,400,0⟩:Qe8) 9 _ hf1),tv⟩ ?_
  refine bfe h (fun hb3 h=>?_) fun hb3 h=>?_
  ·refine hpre (A:=(Q4h x2)) ⟨asb hb3 (amv rfl),ag_ (alq 1 Qah x2.1 underlying26),tv⟩ fun q1_=>?_
   refine bfe h (fun hb4 h=>?_) fun hb4 h=>?_
   ·obtain⟨x5,hg6,h⟩:=bno h
    obtain⟨hi7,hj8⟩:=gsm hg6
    refine wx tbk (hcat (Q4h x2) [(7,rp [(.tmp 16,(B (((x2.1.length:Int)==1))))] (B true)),(9,rp [(.tmp 17,B true),(.tmp 18,(.dat 1 (x2.1.map Qah))),ci 0] (.dptr (Qah x5) 0))]) (hap q1_ ⟨asb hb4 (amv rfl),ag_ (aiq underlying26 ti3 Qah hi7 hj8),tv⟩)<|Qag ?_
    obtain rfl:=osi h
    exact fend ⟨[(B ((x5==2)))],⟨rot,tv⟩,rfl⟩ nll
   ·exact wx tbk (hcat (Q4h x2) [(7,rp [(.tmp 16,(B (((x2.1.length:Int)==1))))] (B false))]) (hap q1_ ⟨asb hb4 (amv rfl),tv⟩)<|Qag<|frb h
  ·exact wx tbk [(2,rp [(.tmp 11,(B ((x2.2==0))))] (B false))] ⟨asb hb3 (amv rfl),tv⟩<|Qag<|frb h
end
end Go.Proofs.Ytcoojdacfknboac
