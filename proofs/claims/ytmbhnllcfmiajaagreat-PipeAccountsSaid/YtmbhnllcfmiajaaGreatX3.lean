/-
  Functions of the program: what they compute, as plain functions, and that they do. No conditions.
-/
import Derived.Test.YtmbhnllcfmiajaaGreatX2
namespace Go.Proofs.YtmbhnllcfmiajaaGreat
set_option maxRecDepth 100000
set_option maxHeartbeats 4000000
open Go.RowKit
def Qjn (N:Nat) (p0:Int):Option Bool:=
  (Qcq N p0 0 1000000000000).bind fun x2=>
  some x2
theorem Qrb (N:Nat) (p0:Int) (r:Bool) (h:Qjn N p0=some r):Spec Tryz.prog 109 [(I p0)] [] (B r) []:=by
  refine Qah Tryz.func109 rfl 0 (nle rfl) (fun X φ0 w0 hφ0 hd0=>?_)
  unfold Qjn at h
  refine wxz ?_
  obtain ⟨x2,hf1,h⟩:=bno h
  exact wx tbk [(1,rp [fu 65,(.tmp 3,I p0),ci 0,ci 1000000000000] (B x2))] ⟨apv Qlv (Qds N p0 0 1000000000000 _ hf1) (nlcc (nlc nll nl0)) nll,tv⟩<|Qaf<|frb h
def Qg0 (N:Nat) (p0:Int):Option Bool:=
  (Qjn N p0).bind fun x3=>
  some (!x3)
def Zfp:Slot:=.own 1 [[(.fn (.func 109) [] [])]]
theorem Qoj (N:Nat) (p0:Int) (r:Bool) (h:Qg0 N p0=some r):Spec Tryz.prog 128 [(I (p0)),(.ref 0 1 (0) 0)] [Zfp] (B (r)) [Zfp]:=by
  refine Qah Tryz.func128 rfl 1 (nle rfl) (fun X φ0 w0 hφ0 hd0=>?_)
  unfold Qg0 at h
  refine Qb0<|wxz ?_
  obtain ⟨x3,hf2,h⟩:=bno h
  refine wx tbk [(2,rp [(.tmp 4,(.fn (.func 109) [] [])),(.tmp 5,I p0)] (B x3))] ⟨apv Zh8 (Qrb N p0 _ hf2) (nlc nll nl0) nll,tv⟩ ?_
  refine wmr (mto (n:=8) (l':=[(3,(B ((!x3))))]) (own':=[Zfp]) [(3,(B ((!x3))))] [0] [Zfp] hφ0 (pw pn) (qb (lc (.rn (Qbp rn0 rn0)) ln) qn))<|Qaf ?_
  obtain rfl:=osi h
  exact ⟨_,Mor.rfl,Qdf (vs:=[(B ((!x3)))]) ⟨rot,tv⟩ rfl (NLt.of0 nll) (by kernel_rfl) (Qao (Qbi (nlc (NLt.of0 (NLt.fn _ _ _ nl0 nl0)) nl0)) Qby)⟩
def Qb6 (N:Nat) (p0:(List Int)) (k2:Unit→Option Int):Nat→Int→Option Int
  | 0,_=>none
  | n5+1,y3=>
    bif (decide (y3<(p0.length:Int))) then
     (getI p0 y3).bind fun x7=>
     (Qg0 N x7).bind fun x12=>
     bif x12 then
      some y3
     else
      Qb6 N p0 k2 n5 (w64 (y3+1))
    else
     k2 ()
def Qee (N:Nat) (p0:(List Int)):Option Int:=
  Qbb (fun _=>
    some (-1)) fun k2:Unit→Option Int=>
  Qb6 N p0 k2 N 0
def Q2g (p0:(List Int)):AV:=.dat 1 ((p0:List Int).map Qal)
def Q7f:AV:=.fn (.func 128) [] [(.ref 0 1 (0) 0)]
def Qob:Slot:=.own 1 [[(.fn (.func 109) [] [])]]
theorem Qjz (N:Nat) (p0:(List Int)) (r:Int) (h:Qee N p0=some r):Spec Tryz.prog 141 [(Q2g p0),Q7f] [Qob] (I (r)) [Qob]:=by
  refine Qah Tryz.func141 rfl 1 (nle rfl) (fun X φ0 w0 hφ0 hd0=>?_)
  unfold Qee at h
  refine Qb0<|wxz ?_
  obtain ⟨k2,hk_k2,h⟩:=jko h
  refine wjn (τ:=Unit) (fun t=>k2 t=some r) (fun _=>⟨mk 19 [],[Qob]⟩) (fun t h=>?_) ?_
  ·subst hk_k2
   refine wxz<|wmr (mto (n:=19) (l':=[(4,(I ((-1))))]) (own':=[Qob]) [(4,(I ((-1))))] [0] [Qob] hφ0 (pw pn) (qb (lc (.rn (Qbp rn0 rn0)) ln) qn))<|Qaf ?_
   obtain rfl:=osi h
   exact ⟨_,Mor.rfl,Qdf (vs:=[(I ((-1)))]) ⟨rot,tv⟩ rfl (NLt.of0 nll) (by kernel_rfl) (Qao (Qbi (nlc (NLt.of0 (NLt.fn _ _ _ nl0 nl0)) nl0)) Qby)⟩
  ·skip
   refine wx tbk [(1,rp [(.tmp 6,(Q2g p0))] (I ((p0.length:Int))))] ⟨alm (c:=Qal) (l:=p0) (aln rfl Tryz.underlying27 rfl),tv⟩<|Qaj ?_
   refine wmr (mto (n:=19) (l':=[(0,(Q2g p0)),(1,Q7f),(7,(I ((p0.length:Int)))),(8,I 0)]) (own':=[Qob]) [(0,(Q2g p0)),(1,Q7f),(7,(I ((p0.length:Int)))),(8,I 0)] [0] [Qob] hφ0 (pc (rnd Qae) (pc (.rn (Qbp rn0 (rnc (rqr rfl) rn0))) (pw (pw pn)))) (qb (lc (.rn (Qbp rn0 rn0)) ln) qn)) ?_
   refine Qbt (τ:=Int) (fun n t=>Qb6 N p0 k2 n t=some r) (fun y3=>⟨mk 19 [(0,(Q2g p0)),(1,Q7f),(7,(I ((p0.length:Int)))),(8,I y3)],[Qob]⟩) (fun t h=>by rw [Qb6] at h; cases h) (fun n5 ih y3 h=>?_) N (0) h
   rw [Qb6] at h
   skip
   refine wxz<|wsq ?_
   refine bfe h (fun hc6 h=>?_) fun hc6 h=>?_
   ·refine wft hc6<|Qan<|thn<|wsq<|Qaj<|wxz ?_
    obtain ⟨x7,hg8,h⟩:=bno h
    obtain ⟨hi9,hj10⟩:=gsm hg8
    obtain ⟨x12,hf11,h⟩:=bno h
    refine wx tbk [(3,rp [(.tmp 12,(Q2g p0)),(.tmp 13,I y3)] (.dptr (Qal (x7)) 0)),(5,⟨[(.tmp 11,Q7f),(.tmp 15,I x7)],[(0,Qob)],B x12,[(0,Qob)],false⟩)] ⟨aid rfl Tryz.underlying27 ti3 rfl rfl hi9 (mgt Qal hj10) rfl,Qav (first:=[]) (cap:=[.ref 0 1 0 0]) (vs:=[I x7]) (σr:=[Qob]) (σr':=[Qob]) (res':=(B x12)) [0] rfl Q6c (Qoj N x7 _ hf11) rfl (Qbv (rnc (.plain _ nll) (rnc (Qbo rfl) rn0))) (slc (Qar (rnc (.plain _ (NLt.fn _ _ _ nl0 nl0)) rn0)) Qat) (slc (Qar (rnc (.plain _ (NLt.fn _ _ _ nl0 nl0)) rn0)) Qat) (.plain _ nll) rfl rfl rfl,tv⟩ ?_
    refine bfe h (fun hc13 h=>?_) fun hc13 h=>?_
    ·refine wft hc13<|wxz ?_
     refine wmr (mto (n:=19) (l':=[(4,I y3)]) (own':=[Qob]) [(4,I y3)] [0] [Qob] hφ0 (pw pn) (qb (lc (.rn (Qbp rn0 rn0)) ln) qn))<|Qaf<|Qaq<|Qag<|Qag<|Qaq<|Qag ?_
     obtain rfl:=osi h
     exact ⟨_,Mor.rfl,Qdf (vs:=[I y3]) ⟨rot,tv⟩ rfl (NLt.of0 nll) (by kernel_rfl) (Qao (Qbi (nlc (NLt.of0 (NLt.fn _ _ _ nl0 nl0)) nl0)) Qby)⟩
    ·exact wfn hc13<|Qan<|bln<|thn<|wxz1<|thn<|arm (mto (n:=19) [(0,(Q2g p0)),(1,Q7f),(7,(I ((p0.length:Int)))),(8,(I (w64 (y3+1))))] [0] [Qob] hφ0 (pc (rnd Qae) (pc (.rn (Qbp rn0 (rnc (rqr rfl) rn0))) (pw (pw pn)))) (qb (lc (.rn (Qbp rn0 rn0)) ln) qn)) (ih (w64 (y3+1)) h)
   ·exact wfn hc6<|Qbd<|Qax<|Qax<|Qbc rfl<|thn<|⟨(),h,(mto (n:=19) [] [0] [Qob] hφ0 pn (qb (lc (.rn (Qbp rn0 rn0)) ln) qn))⟩
def Qcx (N:Nat) (p0:(List Int)):Option Bool:=
  (Qee N p0).bind fun x3=>
  some (decide (x3≥0))
def Zll (p0:(List Int)):AV:=.dat 1 ((p0:List Int).map Qal)
def Zlk:AV:=.fn (.func 128) [] [(.ref 0 1 (0) 0)]
def Qzf:Slot:=.own 1 [[(.fn (.func 109) [] [])]]
theorem Qit (N:Nat) (p0:(List Int)) (r:Bool) (h:Qcx N p0=some r):Spec Tryz.prog 126 [(Zll p0),Zlk] [Qzf] (B (r)) [Qzf]:=by
  refine Qah Tryz.func126 rfl 1 (nle rfl) (fun X φ0 w0 hφ0 hd0=>?_)
  unfold Qcx at h
  refine Qb0<|wxz ?_
  obtain ⟨x3,hf2,h⟩:=bno h
  refine wx tbk [(2,⟨[fu 141,(.tmp 5,(Zll p0)),(.tmp 6,Zlk)],[(0,Qzf)],I x3,[(0,Qzf)],false⟩)] ⟨Qav (first:=[]) (cap:=[]) (vs:=[(Zll p0),Zlk]) (σr:=[Qzf]) (σr':=[Qzf]) (res':=(I x3)) [0] rfl Qqi (Qjz N p0 _ hf2) rfl (Qbv (rnc (pld Qae) (rnc (Qbp rn0 (rnc (Qbo rfl) rn0)) rn0))) (slc (Qar (rnc (.plain _ (NLt.fn _ _ _ nl0 nl0)) rn0)) Qat) (slc (Qar (rnc (.plain _ (NLt.fn _ _ _ nl0 nl0)) rn0)) Qat) (.plain _ nll) rfl rfl rfl,tv⟩ ?_
  refine wmr (mto (n:=9) (l':=[(4,(B ((decide (x3≥0)))))]) (own':=[Qzf]) [(4,(B ((decide (x3≥0)))))] [0] [Qzf] hφ0 (pw pn) (qb (lc (.rn (Qbp rn0 rn0)) ln) qn))<|Qaf ?_
  obtain rfl:=osi h
  exact ⟨_,Mor.rfl,Qdf (vs:=[(B ((decide (x3≥0))))]) ⟨rot,tv⟩ rfl (NLt.of0 nll) (by kernel_rfl) (Qao (Qbi (nlc (NLt.of0 (NLt.fn _ _ _ nl0 nl0)) nl0)) Qby)⟩
def Qi0 (N:Nat) (p0:(List Int)):Option Bool:=
  (Qcx N p0).bind fun x2=>
  some (!x2)
def Zln (p0:(List Int)):AV:=.dat 1 ((p0:List Int).map Qal)
def Zlm:AV:=.fn (.func 128) [] [(.ref 0 1 (0) 0)]
def Zfq:Slot:=.own 1 [[(.fn (.func 109) [] [])]]
theorem Qp6 (N:Nat) (p0:(List Int)) (r:Bool) (h:Qi0 N p0=some r):Spec Tryz.prog 108 [(Zln p0),(.fn (.func 109) [] [])] [] (B (r)) []:=by
  refine Qah Tryz.func108 rfl 0 (nle rfl) (fun X φ0 w0 hφ0 hd0=>?_)
  unfold Qi0 at h
  refine wxz ?_
  obtain ⟨x2,hf1,h⟩:=bno h
  refine wx tbk [(1,rp [(.tmp 3,.ref 0 1 0 0)] Zlm),(2,⟨[fu 126,(.tmp 5,(Zln p0)),(.tmp 6,Zlm)],[(0,Zfq)],B x2,[(0,Zfq)],false⟩)] ⟨Qf7 (fs:=[]) (cs:=[.ref 0 1 0 0]) rfl rfl rfl rfl,Qav (first:=[]) (cap:=[]) (vs:=[(Zln p0),Zlm]) (σr:=[Zfq]) (σr':=[Zfq]) (res':=(B x2)) [0] rfl Qqj (Qit N p0 _ hf1) rfl (Qbv (rnc (pld Qae) (rnc (Qbp rn0 (rnc (Qbo rfl) rn0)) rn0))) (slc (Qar (rnc (.plain _ (NLt.fn _ _ _ nl0 nl0)) rn0)) Qat) (slc (Qar (rnc (.plain _ (NLt.fn _ _ _ nl0 nl0)) rn0)) Qat) (.plain _ nll) rfl rfl rfl,tv⟩<|Qaf ?_
  obtain rfl:=osi h
  exact fend ⟨[(B ((!x2)))],⟨rot,tv⟩,rfl⟩ nll
def Qj9 (N:Nat) (p0:GNet) (p1:(List Int)):Option Int:=
  (Qg3 N p0).bind fun x2=>
  bif (!x2) then
   some 1
  else
   bif ((p1.length:Int) != (p0.Elements.length:Int)) then
    some 1
   else
    (Qi0 N p1).bind fun x6=>
    bif (!x6) then
     some 1
    else
     some 0
def Zqs (p0:GNet):AV:=.dat 5 ((p0.Table:List GRow).map Qa4)
def Zo9 (p0:GNet):AV:=.dat 7 ((p0.Elements:List GElement).map Qad)
def Zlp (p0:GNet) (x2:Bool):List (Nat×Rec):=[(1,rp [fu 66,((.tmp 5),(.agg [(Zqs p0),(Zo9 p0)]))] (B (x2)))]
def Zlq (p1:(List Int)):AV:=.dat 1 ((p1:List Int).map Qal)
def Zlo (p0) (x2) (p1:(List Int)):=hcat (Zlp p0 x2) [(3,rp [((.tmp 7),(B ((!x2))))] (B (false))),(5,rp [((.tmp 8),(B (false))),((.tmp 9),(Zlq p1))] (I ((p1.length:Int)))),(8,rp [((.tmp 8),(B (false))),((.tmp 12),(Zo9 p0))] (I ((p0.Elements.length:Int))))]
theorem Qtx (N:Nat) (p0:GNet) (p1:(List Int)) (r:Int) (h:Qj9 N p0 p1=some r):Spec Tryz.prog 73 [(.agg (Qhz p0)),(.dat 1 (p1.map Qal))] [] (I r) []:=by
  refine Qah Tryz.func73 rfl 0 (nle rfl) (fun X φ0 w0 hφ0 hd0=>?_)
  unfold Qj9 at h
  refine wxz<|wsq ?_
  obtain ⟨x2,hf1,h⟩:=bno h
  refine hpre (A:=(Zlp p0 x2)) ⟨apv Zdz (Qlm N p0 _ hf1) (nlc (NLt.agg _ (nlc (nld Qai _) (nlc (nld Qab _) nl0))) nl0) nll,tv⟩ fun q1_=>?_
  refine bfe h (fun hb3 h=>?_) fun hb3 h=>?_
  ·refine wx tbk (hcat (Zlp p0 x2) [(3,rp [(.tmp 7,(B ((!x2))))] (B true))]) (hap q1_ ⟨asb hb3 (amv rfl),tv⟩)<|wtr<|wxz<|Qaf<|Qag ?_
   obtain rfl:=osi h
   exact fend ⟨[I 1],⟨rot,tv⟩,rfl⟩ nll
  ·refine hpre (A:=(Zlo p0 x2 p1)) (hap q1_ ⟨asb hb3 (amv rfl),ag_ (alm (c:=Qal) (l:=p1) (aln rfl Tryz.underlying27 rfl)),ag_ (alm (c:=Qad) (l:=p0.Elements) (aln rfl Tryz.underlying40 rfl)),tv⟩) fun q2_=>?_
   refine bfe h (fun hb4 h=>?_) fun hb4 h=>?_
   ·refine wx tbk (hcat (Zlo p0 x2 p1) [(11,rp [(.tmp 15,(B (((p1.length:Int) != (p0.Elements.length:Int)))))] (B true))]) (hap q2_ ⟨asb hb4 (amv rfl),tv⟩)<|wtr<|wxz<|Qaf<|Qag ?_
    obtain rfl:=osi h
    exact fend ⟨[I 1],⟨rot,tv⟩,rfl⟩ nll
   ·obtain ⟨x6,hf5,h⟩:=bno h
    refine wx tbk (hcat (Zlo p0 x2 p1) [(11,rp [(.tmp 15,(B (((p1.length:Int) != (p0.Elements.length:Int)))))] (B false)),(13,rp [(.tmp 16,B false),fu 108,(.tmp 17,(Zlq p1)),fu 109] (B x6))]) (hap q2_ ⟨asb hb4 (amv rfl),ag_ (Qav (first:=[]) (cap:=[]) (vs:=[(Zlq p1),(.fn (.func 109) [] [])]) (σr:=[]) (σr':=[]) (res':=(B x6)) [] rfl Q6f (Qp6 N p1 _ hf5) rfl (Qbv (rnc (pld Qae) (rnc (.plain _ (NLt.fn _ _ _ nl0 nl0)) rn0))) Qat Qat (.plain _ nll) rfl rfl rfl),tv⟩) ?_
    refine bfe h (fun hc7 h=>?_) fun hc7 h=>?_
    ·refine wft hc7<|wxz<|Qaf<|Qag ?_
     obtain rfl:=osi h
     exact fend ⟨[I 1],⟨rot,tv⟩,rfl⟩ nll
    ·refine wfn hc7<|Qan<|thn<|wxz<|Qaf ?_
     obtain rfl:=osi h
     exact fend ⟨[I 0],⟨rot,tv⟩,rfl⟩ nll
def Qdq (N:Nat) (p0:GNet) (p1:Int) (k2:(List Int)→Option (List Int)):Nat→(List Int)→Int→Option (List Int)
  | 0,_,_=>none
  | n7+1,y3,y4=>
    bif (decide (y4<(p0.Elements.length:Int))) then
     (getI p0.Elements y4).bind fun x9=>
     bif (x9.Kind==p1) then
      chk (decide ((y3.length+([y4]).length) * 8≤140737488355328))<|
      Qdq N p0 p1 k2 n7 (y3++([y4])) (w64 (y4+1))
     else
      Qdq N p0 p1 k2 n7 y3 (w64 (y4+1))
    else
     k2 (y3)
def Qii (N:Nat) (p0:GNet) (p1:Int):Option (List Int):=
  Qbb (fun y1=>
    some y1) fun k2:(List Int)→Option (List Int)=>
  Qdq N p0 p1 k2 N ([]) 0
def Q2f (p0:GNet):AV:=.dat 7 ((p0.Elements:List GElement).map Qad)
def Q5b (y3:(List Int)):AV:=.acc 0 3 1 ((y3:List Int).map Qal)
theorem Qk9 (N:Nat) (p0:GNet) (p1:Int) (r:(List Int)) (h:Qii N p0 p1=some r):Spec Tryz.prog 67 [(.agg (Qhz p0)),(K .u8 p1)] [] (.dat 1 (r.map Qal)) []:=by
  refine Qah Tryz.func67 rfl 0 (nle rfl) (fun X φ0 w0 hφ0 hd0=>?_)
  unfold Qii at h
  refine wxz ?_
  obtain ⟨k2,hk_k2,h⟩:=jko h
  refine wjn (τ:=(List Int)) (fun t=>k2 t=some r) (fun y1=>⟨mk 25 [(4,(.acc 0 3 1 ((y1:List Int).map Qal)))],[.tok]⟩) (fun y1 h=>?_) ?_
  ·subst hk_k2
   refine wxz<|Qaf ?_
   obtain rfl:=osi h
   exact fend ⟨[(.dat 1 ((y1:List Int).map Qal))],⟨Qd2 (v:=(.acc 0 3 1 ((y1:List Int).map Qal))) (rot) Less.acc,tv⟩,rfl⟩ (nld Qae _)
  ·skip
   refine wx tbk [(2,rp [(.tmp 8,(Q2f p0))] (I ((p0.Elements.length:Int))))] ⟨alm (c:=Qad) (l:=p0.Elements) (aln rfl Tryz.underlying40 rfl),tv⟩<|Qaj ?_
   refine wmr (Mor.trans (Qlu 1 3 1 4 (by kernel_rfl) (by kernel_rfl)) (mto (n:=25) (l':=[(1,(K .u8 (p1))),(4,(.acc 0 3 1 ((([]):List Int).map Qal))),(8,(Q2f p0)),(9,(I ((p0.Elements.length:Int)))),(10,I 0)]) (own':=[.tok]) [(1,(K .u8 (p1))),(4,(.acc 1 3 1 (([]:List Int).map Qal))),(8,(Q2f p0)),(9,(I ((p0.Elements.length:Int)))),(10,I 0)] [1] [.tok] hφ0 (pw (pc (.rn (Qaw rfl (Qas Qae _))) (pc (rnd Qab) (pw (pw pn))))) (qc .tok qn))) ?_
   refine Qbt (τ:=(List Int)×Int) (fun n t=>Qdq N p0 p1 k2 n t.1 t.2=some r) (fun ⟨y3,y4⟩=>⟨mk 25 [(1,(K .u8 (p1))),(4,(Q5b y3)),(8,(Q2f p0)),(9,(I ((p0.Elements.length:Int)))),(10,I y4)],[.tok]⟩) (fun t h=>by rw [Qdq] at h; cases h) (fun n7 ih t h=>?_) N ([],0) h
   obtain ⟨y3,y4⟩:=t
   rw [Qdq] at h
   skip
   refine wxz<|wsq ?_
   refine bfe h (fun hc8 h=>?_) fun hc8 h=>?_
   ·refine wft hc8<|Qan<|thn<|wsq<|Qaj ?_
    obtain ⟨x9,hg10,h⟩:=bno h
    obtain ⟨hi11,hj12⟩:=gsm hg10
    refine wx tbk [(1,rp [(.tmp 8,(Q2f p0)),(.tmp 10,I y4)] (.dptr (Qad (x9)) 0))] ⟨aid rfl Tryz.underlying40 Qk0 rfl rfl hi11 (mgt Qad hj12) rfl,tv⟩<|wxz ?_
    refine bfe h (fun hc13 h=>?_) fun hc13 h=>?_
    ·refine wft hc13 ?_
     obtain ⟨ha14,h⟩:=cko h
     refine wx1 tbk [(2,rp [(.tmp 20,I y4)] (.dat 1 (([y4]:List Int).map Qal))),(3,⟨[(.tmp 19,(Q5b y3)),(.tmp 21,(.dat 1 (([y4]:List Int).map Qal)))],[(0,.tok),(2,.unused)],(.acc 2 3 1 ((y3++([y4]):List Int).map Qal)),[(0,.dead),(2,.tok)],false⟩)] ⟨Qbe (vs:=[I y4]) rfl Tryz.underlying27 ti3 tz3 rfl (by decide) rfl (by decide) (by rfl) (by rfl) (by rfl) rfl,Qdj rfl Tryz.underlying27 te3 (Base.acc _ _) rfl rfl (by rfl) (Qf4 Qal ha14) (Qf3 Qal ha14 (by decide)) (Qf2 Qal) rfl rfl,tv⟩<|bln<|thn<|wxz1<|thn ?_
     exact arm (mto (n:=25) [(1,(K .u8 (p1))),(4,(.acc 2 3 1 ((y3++([y4]):List Int).map Qal))),(8,(Q2f p0)),(9,(I ((p0.Elements.length:Int)))),(10,(I (w64 (y4+1))))] [2] [.tok] hφ0 (pw (pc (.rn (Qaw rfl (Qas Qae _))) (pc (rnd Qab) (pw (pw pn))))) (qc .tok qn)) (ih (y3++([y4]),w64 (y4+1)) h)
    ·exact wfn hc13<|Qan<|bln<|thn<|wxz1<|thn<|arm (mto (n:=25) [(1,(K .u8 (p1))),(4,(Q5b y3)),(8,(Q2f p0)),(9,(I ((p0.Elements.length:Int)))),(10,(I (w64 (y4+1))))] [0] [.tok] hφ0 (pw (pc (.rn (Qaw rfl (Qas Qae _))) (pc (rnd Qab) (pw (pw pn))))) (qc .tok qn)) (ih (y3,w64 (y4+1)) h)
   ·exact wfn hc8<|Qbd<|Qax<|Qax<|Qbc rfl<|thn<|⟨(y3),h,(mto (n:=25) [(4,(Q5b y3))] [0] [.tok] hφ0 (pc (.rn (Qaw rfl (Qas Qae _))) pn) (qc .tok qn))⟩
def Qdy (N:Nat) (p0:GStream):Option Bool:=
  (Qc1 N p0.Mass 0 1000000).bind fun x2=>
  bif x2 then
   (Qc1 N p0.Heat 0 (w64 (4000 * p0.Mass))).bind fun x5=>
   bif x5 then
    (Qc1 N p0.Silica 0 (w64 (10000 * p0.Mass))).bind fun x8=>
    bif x8 then
     (Qc1 N p0.Gas 0 1000000000).bind fun x11=>
     some x11
    else
     some false
   else
    some false
  else
   some false
def Zlf (p0:GStream) (x2:Bool):List (Nat×Rec):=[(2,rp [fu 137,((.tmp 4),(I (p0.Mass))),ci 0,ci 1000000] (B (x2)))]
def Zle (p0) (x2) (x5:Bool):=hcat (Zlf p0 x2) [(3,rp [((.tmp 5),(B (x2)))] (B (true))),(9,rp [((.tmp 6),(B (true))),fu 137,((.tmp 8),(I (p0.Heat))),ci 0,((.tmp 11),(I (w64 (4000 * p0.Mass))))] (B (x5)))]
def Zld (p0) (x2) (x5) (x8:Bool):=hcat (Zle p0 x2 x5) [(11,rp [((.tmp 13),(B (x5)))] (B (true))),(17,rp [((.tmp 14),(B (true))),fu 137,((.tmp 16),(I (p0.Silica))),ci 0,((.tmp 19),(I (w64 (10000 * p0.Mass))))] (B (x8)))]
theorem Qhh (N:Nat) (p0:GStream) (r:Bool) (h:Qdy N p0=some r):Spec Tryz.prog 131 [(.agg (Qaa p0))] [] (B r) []:=by
  refine Qah Tryz.func131 rfl 0 (nle rfl) (fun X φ0 w0 hφ0 hd0=>?_)
  unfold Qdy at h
  refine wxz ?_
  obtain ⟨x2,hf1,h⟩:=bno h
  refine hpre (A:=(Zlf p0 x2)) ⟨apv Qi9 (Qc5 N p0.Mass 0 1000000 _ hf1) (nlcc (nlc nll nl0)) nll,tv⟩ fun q1_=>?_
  refine bfe h (fun hb3 h=>?_) fun hb3 h=>?_
  ·obtain ⟨x5,hf4,h⟩:=bno h
   refine hpre (A:=(Zle p0 x2 x5)) (hap q1_ ⟨asb hb3 (amv rfl),ag_ (apv Qi9 (Qc5 N p0.Heat 0 (w64 (4000 * p0.Mass)) _ hf4) (nlcc (nlc nll nl0)) nll),tv⟩) fun q2_=>?_
   refine bfe h (fun hb6 h=>?_) fun hb6 h=>?_
   ·obtain ⟨x8,hf7,h⟩:=bno h
    refine hpre (A:=(Zld p0 x2 x5 x8)) (hap q2_ ⟨asb hb6 (amv rfl),ag_ (apv Qi9 (Qc5 N p0.Silica 0 (w64 (10000 * p0.Mass)) _ hf7) (nlcc (nlc nll nl0)) nll),tv⟩) fun q3_=>?_
    refine bfe h (fun hb9 h=>?_) fun hb9 h=>?_
    ·obtain ⟨x11,hf10,h⟩:=bno h
     exact wx tbk (hcat (Zld p0 x2 x5 x8) [(19,rp [(.tmp 21,B x8)] (B true)),(22,rp [(.tmp 22,B true),fu 137,(.tmp 24,I p0.Gas),ci 0,ci 1000000000] (B x11))]) (hap q3_ ⟨asb hb9 (amv rfl),ag_ (apv Qi9 (Qc5 N p0.Gas 0 1000000000 _ hf10) (nlcc (nlc nll nl0)) nll),tv⟩)<|Qaf<|frb h
    ·exact wx tbk (hcat (Zld p0 x2 x5 x8) [(19,rp [(.tmp 21,B x8)] (B false))]) (hap q3_ ⟨asb hb9 (amv rfl),tv⟩)<|Qaf<|frb h
   ·exact wx tbk (hcat (Zle p0 x2 x5) [(11,rp [(.tmp 13,B x5)] (B false))]) (hap q2_ ⟨asb hb6 (amv rfl),tv⟩)<|Qaf<|frb h
  ·exact wx tbk (hcat (Zlf p0 x2) [(3,rp [(.tmp 5,B x2)] (B false))]) (hap q1_ ⟨asb hb3 (amv rfl),tv⟩)<|Qaf<|frb h
def Qgb (N:Nat) (p0:GStream):Option Int:=
  (Qdy N p0).bind fun x2=>
  bif (!x2) then
   some 1
  else
   some 0
def Zqo (p0:GStream):AV:=.agg [(I (p0.Mass)),(I (p0.Heat)),(I (p0.Silica)),(I (p0.Gas))]
theorem Qnh (N:Nat) (p0:GStream) (r:Int) (h:Qgb N p0=some r):Spec Tryz.prog 114 [(.agg (Qaa p0))] [] (I r) []:=by
  refine Qah Tryz.func114 rfl 0 (nle rfl) (fun X φ0 w0 hφ0 hd0=>?_)
  unfold Qgb at h
  refine wxz<|wsq ?_
  obtain ⟨x2,hf1,h⟩:=bno h
  refine wx tbk [(1,rp [fu 131,(.tmp 3,(Zqo p0))] (B x2))] ⟨apv Qyq (Qhh N p0 _ hf1) (nlc (NLt.agg _ (nlcc (nlcc nl0))) nl0) nll,tv⟩ ?_
  refine bfe h (fun hc3 h=>?_) fun hc3 h=>?_
  ·refine wft hc3<|wxz<|Qaf<|Qag ?_
   obtain rfl:=osi h
   exact fend ⟨[I 1],⟨rot,tv⟩,rfl⟩ nll
  ·refine wfn hc3<|Qan<|thn<|wxz<|Qaf ?_
   obtain rfl:=osi h
   exact fend ⟨[I 0],⟨rot,tv⟩,rfl⟩ nll
def Qi1 (N:Nat) (p0:GStream):Option Bool:=
  (Qgb N p0).bind fun x2=>
  some (x2==0)
def Zqp (p0:GStream):AV:=.agg [(I (p0.Mass)),(I (p0.Heat)),(I (p0.Silica)),(I (p0.Gas))]
theorem Qp8 (N:Nat) (p0:GStream) (r:Bool) (h:Qi1 N p0=some r):Spec Tryz.prog 113 [(.agg (Qaa p0))] [] (B r) []:=by
  refine Qah Tryz.func113 rfl 0 (nle rfl) (fun X φ0 w0 hφ0 hd0=>?_)
  unfold Qi1 at h
  refine wxz ?_
  obtain ⟨x2,hf1,h⟩:=bno h
  refine wx tbk [(1,rp [fu 114,(.tmp 3,(Zqp p0))] (I x2))] ⟨apv Zh4 (Qnh N p0 _ hf1) (nlc (NLt.agg _ (nlcc (nlcc nl0))) nl0) nll,tv⟩<|Qaf ?_
  obtain rfl:=osi h
  exact fend ⟨[(B ((x2==0)))],⟨rot,tv⟩,rfl⟩ nll
def Qdi (N:Nat) (p0:GStream):Option Bool:=
  (Qi1 N p0).bind fun x3=>
  some (!x3)
def Zo7 (p0:GStream):AV:=.agg [(I (p0.Mass)),(I (p0.Heat)),(I (p0.Silica)),(I (p0.Gas))]
def Zfn:Slot:=.own 1 [[(.fn (.func 113) [] [])]]
theorem Qki (N:Nat) (p0:GStream) (r:Bool) (h:Qdi N p0=some r):Spec Tryz.prog 130 [(Zo7 p0),(.ref 0 1 (0) 0)] [Zfn] (B (r)) [Zfn]:=by
  refine Qah Tryz.func130 rfl 1 (nle rfl) (fun X φ0 w0 hφ0 hd0=>?_)
  unfold Qdi at h
  refine Qb0<|wxz ?_
  obtain ⟨x3,hf2,h⟩:=bno h
  refine wx tbk [(2,rp [(.tmp 4,(.fn (.func 113) [] [])),(.tmp 5,(Zo7 p0))] (B x3))] ⟨apv Zh5 (Qp8 N p0 _ hf2) (nlc (NLt.agg _ (nlcc (nlcc nl0))) nl0) nll,tv⟩ ?_
  refine wmr (mto (n:=8) (l':=[(3,(B ((!x3))))]) (own':=[Zfn]) [(3,(B ((!x3))))] [0] [Zfn] hφ0 (pw pn) (qb (lc (.rn (Qbp rn0 rn0)) ln) qn))<|Qaf ?_
  obtain rfl:=osi h
  exact ⟨_,Mor.rfl,Qdf (vs:=[(B ((!x3)))]) ⟨rot,tv⟩ rfl (NLt.of0 nll) (by kernel_rfl) (Qao (Qbi (nlc (NLt.of0 (NLt.fn _ _ _ nl0 nl0)) nl0)) Qby)⟩
def Qa8 (N:Nat) (p0:(List GStream)) (k2:Unit→Option Int):Nat→Int→Option Int
  | 0,_=>none
  | n5+1,y3=>
    bif (decide (y3<(p0.length:Int))) then
     (getI p0 y3).bind fun x7=>
     (Qdi N x7).bind fun x12=>
     bif x12 then
      some y3
     else
      Qa8 N p0 k2 n5 (w64 (y3+1))
    else
     k2 ()
def Qb2 (N:Nat) (p0:(List GStream)):Option Int:=
  Qbb (fun _=>
    some (-1)) fun k2:Unit→Option Int=>
  Qa8 N p0 k2 N 0
def Q2e (p0:(List GStream)):AV:=.dat 4 ((p0:List GStream).map Qaa)
def Q7d:AV:=.fn (.func 130) [] [(.ref 0 1 (0) 0)]
def Qoa:Slot:=.own 1 [[(.fn (.func 113) [] [])]]
def Zo8 (x7:GStream):AV:=.agg [(I (x7.Mass)),(I (x7.Heat)),(I (x7.Silica)),(I (x7.Gas))]
theorem Qgc (N:Nat) (p0:(List GStream)) (r:Int) (h:Qb2 N p0=some r):Spec Tryz.prog 142 [(Q2e p0),Q7d] [Qoa] (I (r)) [Qoa]:=by
  refine Qah Tryz.func142 rfl 1 (nle rfl) (fun X φ0 w0 hφ0 hd0=>?_)
  unfold Qb2 at h
  refine Qb0<|wxz ?_
  obtain ⟨k2,hk_k2,h⟩:=jko h
  refine wjn (τ:=Unit) (fun t=>k2 t=some r) (fun _=>⟨mk 19 [],[Qoa]⟩) (fun t h=>?_) ?_
  ·subst hk_k2
   refine wxz<|wmr (mto (n:=19) (l':=[(4,(I ((-1))))]) (own':=[Qoa]) [(4,(I ((-1))))] [0] [Qoa] hφ0 (pw pn) (qb (lc (.rn (Qbp rn0 rn0)) ln) qn))<|Qaf ?_
   obtain rfl:=osi h
   exact ⟨_,Mor.rfl,Qdf (vs:=[(I ((-1)))]) ⟨rot,tv⟩ rfl (NLt.of0 nll) (by kernel_rfl) (Qao (Qbi (nlc (NLt.of0 (NLt.fn _ _ _ nl0 nl0)) nl0)) Qby)⟩
  ·skip
   refine wx tbk [(1,rp [(.tmp 6,(Q2e p0))] (I ((p0.length:Int))))] ⟨alm (c:=Qaa) (l:=p0) (aln rfl Tryz.underlying45 rfl),tv⟩<|Qaj ?_
   refine wmr (mto (n:=19) (l':=[(0,(Q2e p0)),(1,Q7d),(7,(I ((p0.length:Int)))),(8,I 0)]) (own':=[Qoa]) [(0,(Q2e p0)),(1,Q7d),(7,(I ((p0.length:Int)))),(8,I 0)] [0] [Qoa] hφ0 (pc (rnd Qac) (pc (.rn (Qbp rn0 (rnc (rqr rfl) rn0))) (pw (pw pn)))) (qb (lc (.rn (Qbp rn0 rn0)) ln) qn)) ?_
   refine Qbt (τ:=Int) (fun n t=>Qa8 N p0 k2 n t=some r) (fun y3=>⟨mk 19 [(0,(Q2e p0)),(1,Q7d),(7,(I ((p0.length:Int)))),(8,I y3)],[Qoa]⟩) (fun t h=>by rw [Qa8] at h; cases h) (fun n5 ih y3 h=>?_) N (0) h
   rw [Qa8] at h
   skip
   refine wxz<|wsq ?_
   refine bfe h (fun hc6 h=>?_) fun hc6 h=>?_
   ·refine wft hc6<|Qan<|thn<|wsq<|Qaj<|wxz ?_
    obtain ⟨x7,hg8,h⟩:=bno h
    obtain ⟨hi9,hj10⟩:=gsm hg8
    obtain ⟨x12,hf11,h⟩:=bno h
    refine wx tbk [(3,rp [(.tmp 12,(Q2e p0)),(.tmp 13,I y3)] (.dptr (Qaa (x7)) 0)),(5,⟨[(.tmp 11,Q7d),(.tmp 15,(Zo8 x7))],[(0,Qoa)],B x12,[(0,Qoa)],false⟩)] ⟨aid rfl Tryz.underlying45 ti63 rfl rfl hi9 (mgt Qaa hj10) rfl,Qav (first:=[]) (cap:=[.ref 0 1 0 0]) (vs:=[(Zo8 x7)]) (σr:=[Qoa]) (σr':=[Qoa]) (res':=(B x12)) [0] rfl Zhs (Qki N x7 _ hf11) rfl (Qbv (rnc (.plain _ (NLt.agg _ (nlcc (nlcc nl0)))) (rnc (Qbo rfl) rn0))) (slc (Qar (rnc (.plain _ (NLt.fn _ _ _ nl0 nl0)) rn0)) Qat) (slc (Qar (rnc (.plain _ (NLt.fn _ _ _ nl0 nl0)) rn0)) Qat) (.plain _ nll) rfl rfl rfl,tv⟩ ?_
    refine bfe h (fun hc13 h=>?_) fun hc13 h=>?_
    ·refine wft hc13<|wxz ?_
     refine wmr (mto (n:=19) (l':=[(4,I y3)]) (own':=[Qoa]) [(4,I y3)] [0] [Qoa] hφ0 (pw pn) (qb (lc (.rn (Qbp rn0 rn0)) ln) qn))<|Qaf<|Qaq<|Qag<|Qag<|Qaq<|Qag ?_
     obtain rfl:=osi h
     exact ⟨_,Mor.rfl,Qdf (vs:=[I y3]) ⟨rot,tv⟩ rfl (NLt.of0 nll) (by kernel_rfl) (Qao (Qbi (nlc (NLt.of0 (NLt.fn _ _ _ nl0 nl0)) nl0)) Qby)⟩
    ·exact wfn hc13<|Qan<|bln<|thn<|wxz1<|thn<|arm (mto (n:=19) [(0,(Q2e p0)),(1,Q7d),(7,(I ((p0.length:Int)))),(8,(I (w64 (y3+1))))] [0] [Qoa] hφ0 (pc (rnd Qac) (pc (.rn (Qbp rn0 (rnc (rqr rfl) rn0))) (pw (pw pn)))) (qb (lc (.rn (Qbp rn0 rn0)) ln) qn)) (ih (w64 (y3+1)) h)
   ·exact wfn hc6<|Qbd<|Qax<|Qax<|Qbc rfl<|thn<|⟨(),h,(mto (n:=19) [] [0] [Qoa] hφ0 pn (qb (lc (.rn (Qbp rn0 rn0)) ln) qn))⟩
def Qbm (N:Nat) (p0:(List GStream)):Option Bool:=
  (Qb2 N p0).bind fun x3=>
  some (decide (x3≥0))
def Zlh (p0:(List GStream)):AV:=.dat 4 ((p0:List GStream).map Qaa)
def Zlg:AV:=.fn (.func 130) [] [(.ref 0 1 (0) 0)]
def Qze:Slot:=.own 1 [[(.fn (.func 113) [] [])]]
theorem Qfo (N:Nat) (p0:(List GStream)) (r:Bool) (h:Qbm N p0=some r):Spec Tryz.prog 129 [(Zlh p0),Zlg] [Qze] (B (r)) [Qze]:=by
  refine Qah Tryz.func129 rfl 1 (nle rfl) (fun X φ0 w0 hφ0 hd0=>?_)
  unfold Qbm at h
  refine Qb0<|wxz ?_
  obtain ⟨x3,hf2,h⟩:=bno h
  refine wx tbk [(2,⟨[fu 142,(.tmp 5,(Zlh p0)),(.tmp 6,Zlg)],[(0,Qze)],I x3,[(0,Qze)],false⟩)] ⟨Qav (first:=[]) (cap:=[]) (vs:=[(Zlh p0),Zlg]) (σr:=[Qze]) (σr':=[Qze]) (res':=(I x3)) [0] rfl Zhl (Qgc N p0 _ hf2) rfl (Qbv (rnc (pld Qac) (rnc (Qbp rn0 (rnc (Qbo rfl) rn0)) rn0))) (slc (Qar (rnc (.plain _ (NLt.fn _ _ _ nl0 nl0)) rn0)) Qat) (slc (Qar (rnc (.plain _ (NLt.fn _ _ _ nl0 nl0)) rn0)) Qat) (.plain _ nll) rfl rfl rfl,tv⟩ ?_
  refine wmr (mto (n:=9) (l':=[(4,(B ((decide (x3≥0)))))]) (own':=[Qze]) [(4,(B ((decide (x3≥0)))))] [0] [Qze] hφ0 (pw pn) (qb (lc (.rn (Qbp rn0 rn0)) ln) qn))<|Qaf ?_
  obtain rfl:=osi h
  exact ⟨_,Mor.rfl,Qdf (vs:=[(B ((decide (x3≥0))))]) ⟨rot,tv⟩ rfl (NLt.of0 nll) (by kernel_rfl) (Qao (Qbi (nlc (NLt.of0 (NLt.fn _ _ _ nl0 nl0)) nl0)) Qby)⟩
def Qe6 (N:Nat) (p0:(List GStream)):Option Bool:=
  (Qbm N p0).bind fun x2=>
  some (!x2)
def Zlj (p0:(List GStream)):AV:=.dat 4 ((p0:List GStream).map Qaa)
def Zli:AV:=.fn (.func 130) [] [(.ref 0 1 (0) 0)]
def Zfo:Slot:=.own 1 [[(.fn (.func 113) [] [])]]
theorem Qk7 (N:Nat) (p0:(List GStream)) (r:Bool) (h:Qe6 N p0=some r):Spec Tryz.prog 112 [(Zlj p0),(.fn (.func 113) [] [])] [] (B (r)) []:=by
  refine Qah Tryz.func112 rfl 0 (nle rfl) (fun X φ0 w0 hφ0 hd0=>?_)
  unfold Qe6 at h
  refine wxz ?_
  obtain ⟨x2,hf1,h⟩:=bno h
  refine wx tbk [(1,rp [(.tmp 3,.ref 0 1 0 0)] Zli),(2,⟨[fu 129,(.tmp 5,(Zlj p0)),(.tmp 6,Zli)],[(0,Zfo)],B x2,[(0,Zfo)],false⟩)] ⟨Qf7 (fs:=[]) (cs:=[.ref 0 1 0 0]) rfl rfl rfl rfl,Qav (first:=[]) (cap:=[]) (vs:=[(Zlj p0),Zli]) (σr:=[Zfo]) (σr':=[Zfo]) (res':=(B x2)) [0] rfl Zht (Qfo N p0 _ hf1) rfl (Qbv (rnc (pld Qac) (rnc (Qbp rn0 (rnc (Qbo rfl) rn0)) rn0))) (slc (Qar (rnc (.plain _ (NLt.fn _ _ _ nl0 nl0)) rn0)) Qat) (slc (Qar (rnc (.plain _ (NLt.fn _ _ _ nl0 nl0)) rn0)) Qat) (.plain _ nll) rfl rfl rfl,tv⟩<|Qaf ?_
  obtain rfl:=osi h
  exact fend ⟨[(B ((!x2)))],⟨rot,tv⟩,rfl⟩ nll
def Qew (N:Nat) (p0:(List GStream)) (k5:Int×Int×Int×Int→Option GStream):Nat→Int→Int→Int→Int→Int→Option GStream
  | 0,_,_,_,_,_=>none
  | n16+1,y6,y7,y8,y9,y10=>
    bif (decide (y6<(p0.length:Int))) then
     (getI p0 y6).bind fun x18=>
     Qew N p0 k5 n16 (w64 (y6+1)) (w64 (y7+x18.Mass)) (w64 (y8+x18.Heat)) (w64 (y9+x18.Silica)) (w64 (y10+x18.Gas))
    else
     k5 (y7,y8,y9,y10)
def Qen (N:Nat) (p0:(List GStream)):Option GStream:=
  Qbb (fun ⟨y1,y2,y3,y4⟩=>
    some (⟨y1,y2,y3,y4⟩:GStream)) fun k5:Int×Int×Int×Int→Option GStream=>
  Qew N p0 k5 N 0 0 0 0 0
def Q7c (p0:(List GStream)):AV:=.dat 4 ((p0:List GStream).map Qaa)
def Zo6:Slot:=.own 4 [[(I (0)),(I (0)),(I (0)),(I (0))]]
theorem Qh6 (N:Nat) (p0:(List GStream)) (r:GStream) (h:Qen N p0=some r):Spec Tryz.prog 76 [(.dat 4 (p0.map Qaa))] [] (.agg (Qaa r)) []:=by
  refine Qah Tryz.func76 rfl 0 (nle rfl) (fun X φ0 w0 hφ0 hd0=>?_)
  unfold Qen at h
  refine wxz ?_
  obtain ⟨k5,hk_k5,h⟩:=jko h
  refine wjn (τ:=Int×Int×Int×Int) (fun t=>k5 t=some r) (fun ⟨y1,y2,y3,y4⟩=>⟨mk 34 [(2,.ref 0 4 0 0)],[(.own 4 [[I y1,I y2,I y3,I y4]])]⟩) (fun t h=>?_) ?_
  ·subst hk_k5
   obtain ⟨y1,y2,y3,y4⟩:=t
   refine wxz<|Qaf ?_
   obtain rfl:=osi h
   exact fend ⟨[(.agg [I y1,I y2,I y3,I y4])],⟨Qbj (n:=0) (m:=4) (j:=0) (i:=0) (xs:=[[I y1,I y2,I y3,I y4]]) (by kernel_rfl) (by kernel_rfl) ti63 (by decide) rfl (nle rfl) rfl,tv⟩,rfl⟩ (NLt.agg _ (nlcc (nlcc nl0)))
  ·skip
   refine wx tbk [(1,rp [(.tmp 5,(Q7c p0))] (I ((p0.length:Int))))] ⟨alm (c:=Qaa) (l:=p0) (aln rfl Tryz.underlying45 rfl),tv⟩<|Qaj ?_
   refine wmr (mto (n:=34) (l':=[(2,.ref 0 4 0 0),(5,(Q7c p0)),(6,(I ((p0.length:Int)))),(7,I 0)]) (own':=[Zo6]) [(2,.ref 0 4 0 0),(5,(Q7c p0)),(6,(I ((p0.length:Int)))),(7,I 0)] [0] [Zo6] hφ0 (prr (pc (rnd Qac) (pw (pw pn)))) (qb (lcc (lcc ln)) qn)) ?_
   refine Qbt (τ:=Int×Int×Int×Int×Int) (fun n t=>Qew N p0 k5 n t.1 t.2.1 t.2.2.1 t.2.2.2.1 t.2.2.2.2=some r) (fun ⟨y6,y7,y8,y9,y10⟩=>⟨mk 34 [(2,.ref 0 4 0 0),(5,(Q7c p0)),(6,(I ((p0.length:Int)))),(7,I y6)],[(.own 4 [[I y7,I y8,I y9,I y10]])]⟩) (fun t h=>by rw [Qew] at h; cases h) (fun n16 ih t h=>?_) N (0,0,0,0,0) h
   obtain ⟨y6,y7,y8,y9,y10⟩:=t
   rw [Qew] at h
   skip
   refine wxz<|wsq ?_
   refine bfe h (fun hc17 h=>?_) fun hc17 h=>?_
   ·refine wft hc17<|Qan<|thn<|wsq<|Qaj ?_
    obtain ⟨x18,hg19,h⟩:=bno h
    obtain ⟨hi20,hj21⟩:=gsm hg19
    refine wx tbk [(0,rp [(.tmp 5,(Q7c p0)),(.tmp 7,I y6)] (.dptr (Qaa (x18)) 0))] ⟨aid rfl Tryz.underlying45 ti63 rfl rfl hi20 (mgt Qaa hj21) rfl,tv⟩ ?_
    refine wx1 tbk [(20,rp [(.tmp 15,(I (w64 (y7+x18.Mass)))),(.tmp 20,(I (w64 (y8+x18.Heat)))),(.tmp 25,(I (w64 (y9+x18.Silica)))),(.tmp 30,(I (w64 (y10+x18.Gas))))] (.agg [(I (w64 (y7+x18.Mass))),(I (w64 (y8+x18.Heat))),(I (w64 (y9+x18.Silica))),(I (w64 (y10+x18.Gas)))]))] ⟨Qaz (vs:=[(I (w64 (y7+x18.Mass))),(I (w64 (y8+x18.Heat))),(I (w64 (y9+x18.Silica))),(I (w64 (y10+x18.Gas)))]) rfl ts63 tz63 rfl (by rfl) rfl,tv⟩<|bln<|thn<|wxz1<|thn ?_
    exact arm (mto (n:=34) [(2,.ref 0 4 0 0),(5,(Q7c p0)),(6,(I ((p0.length:Int)))),(7,(I (w64 (y6+1))))] [0] [(.own 4 [[(I (w64 (y7+x18.Mass))),(I (w64 (y8+x18.Heat))),(I (w64 (y9+x18.Silica))),(I (w64 (y10+x18.Gas)))]])] hφ0 (prr (pc (rnd Qac) (pw (pw pn)))) (qb (lcc (lcc ln)) qn)) (ih (w64 (y6+1),w64 (y7+x18.Mass),w64 (y8+x18.Heat),w64 (y9+x18.Silica),w64 (y10+x18.Gas)) h)
   ·exact wfn hc17<|Qbd<|Qax<|Qax<|Qbc rfl<|thn<|⟨(y7,y8,y9,y10),h,(mto (n:=34) [(2,.ref 0 4 0 0)] [0] [(.own 4 [[I y7,I y8,I y9,I y10]])] hφ0 (prr pn) (qb (lcc (lcc ln)) qn))⟩
def Qi2 (N:Nat) (p0:GNet) (p1:(List GStream)):Option Int:=
  Qbb (fun _=>
    (Qen N p1).bind fun x3=>
    bif (decide (x3.Mass>1000000)) then
     some 3
    else
     bif (decide (x3.Gas>1000000000)) then
      some 3
     else
      some 0) fun k1:Unit→Option Int=>
  (Qii N p0 1).bind fun x7=>
  bif ((p1.length:Int) != (x7.length:Int)) then
   some 1
  else
   (Qe6 N p1).bind fun x10=>
   bif (!x10) then
    some 1
   else
    k1 ()
def Q7e (p1:(List GStream)):AV:=.dat 4 ((p1:List GStream).map Qaa)
def Zqr (p0:GNet):AV:=.dat 5 ((p0.Table:List GRow).map Qa4)
def Zqq (p0:GNet):AV:=.dat 7 ((p0.Elements:List GElement).map Qad)
def Za0 (p1:(List GStream)) (p0:GNet) (x7:(List Int)):List (Nat×Rec):=[(1,rp [((.tmp 6),(Q7e p1))] (I ((p1.length:Int)))),(3,rp [fu 67,((.tmp 8),(.agg [(Zqr p0),(Zqq p0)])),((.const (.int .u8 1)),(K .u8 (1)))] (.dat 1 ((x7:List Int).map Qal))),(4,rp [((.tmp 9),(.dat 1 ((x7:List Int).map Qal)))] (I ((x7.length:Int))))]
theorem Qsd (N:Nat) (p0:GNet) (p1:(List GStream)) (r:Int) (h:Qi2 N p0 p1=some r):Spec Tryz.prog 94 [(.agg (Qhz p0)),(.dat 4 (p1.map Qaa))] [] (I r) []:=by
  refine Qah Tryz.func94 rfl 0 (nle rfl) (fun X φ0 w0 hφ0 hd0=>?_)
  unfold Qi2 at h
  refine wxz ?_
  obtain ⟨k1,hk_k1,h⟩:=jko h
  refine wjn (τ:=Unit) (fun t=>k1 t=some r) (fun _=>⟨mk 27 [(1,(Q7e p1))],[]⟩) (fun t h=>?_) ?_
  ·subst hk_k1
   refine wsq ?_
   obtain ⟨x3,hf2,h⟩:=bno h
   refine wx tbk [(1,rp [fu 76,(.tmp 17,(Q7e p1))] (.agg [I x3.Mass,I x3.Heat,I x3.Silica,I x3.Gas]))] ⟨apv Quk (Qh6 N p1 _ hf2) (nlc (nld Qac _) nl0) (NLt.agg _ (nlcc (nlcc nl0))),tv⟩ ?_
   refine bfe h (fun hb4 h=>?_) fun hb4 h=>?_
   ·refine wx tbk [(3,rp [(.tmp 21,(B ((decide (x3.Mass>1000000)))))] (B true))] ⟨asb hb4 (amv rfl),tv⟩<|wtr<|wxz<|Qaf<|Qag ?_
    obtain rfl:=osi h
    exact fend ⟨[I 3],⟨rot,tv⟩,rfl⟩ nll
   ·refine wx tbk [(3,rp [(.tmp 21,(B ((decide (x3.Mass>1000000)))))] (B false))] ⟨asb hb4 (amv rfl),tv⟩ ?_
    refine bfe h (fun hc5 h=>?_) fun hc5 h=>?_
    ·refine wft hc5<|wxz<|Qaf<|Qag ?_
     obtain rfl:=osi h
     exact fend ⟨[I 3],⟨rot,tv⟩,rfl⟩ nll
    ·refine wfn hc5<|Qan<|thn<|wxz<|Qaf ?_
     obtain rfl:=osi h
     exact fend ⟨[I 0],⟨rot,tv⟩,rfl⟩ nll
  ·skip
   obtain ⟨x7,hf6,h⟩:=bno h
   refine hpre (A:=(Za0 p1 p0 x7)) ⟨alm (c:=Qaa) (l:=p1) (aln rfl Tryz.underlying45 rfl),apv Q3r (Qk9 N p0 1 _ hf6) (nlc (NLt.agg _ (nlc (nld Qai _) (nlc (nld Qab _) nl0))) (nlc nll nl0)) (nld Qae _),alm (c:=Qal) (l:=x7) (aln rfl Tryz.underlying27 rfl),tv⟩ fun q1_=>?_
   refine bfe h (fun hb8 h=>?_) fun hb8 h=>?_
   ·refine wx tbk (hcat (Za0 p1 p0 x7) [(6,rp [(.tmp 11,(B (((p1.length:Int) != (x7.length:Int)))))] (B true))]) (hap q1_ ⟨asb hb8 (amv rfl),tv⟩)<|wtr<|wxz<|Qaf<|Qag ?_
    obtain rfl:=osi h
    exact fend ⟨[I 1],⟨rot,tv⟩,rfl⟩ nll
   ·obtain ⟨x10,hf9,h⟩:=bno h
    refine wx tbk (hcat (Za0 p1 p0 x7) [(6,rp [(.tmp 11,(B (((p1.length:Int) != (x7.length:Int)))))] (B false)),(8,rp [(.tmp 12,B false),fu 112,(.tmp 13,(Q7e p1)),fu 113] (B x10))]) (hap q1_ ⟨asb hb8 (amv rfl),ag_ (Qav (first:=[]) (cap:=[]) (vs:=[(Q7e p1),(.fn (.func 113) [] [])]) (σr:=[]) (σr':=[]) (res':=(B x10)) [] rfl Zh6 (Qk7 N p1 _ hf9) rfl (Qbv (rnc (pld Qac) (rnc (.plain _ (NLt.fn _ _ _ nl0 nl0)) rn0))) Qat Qat (.plain _ nll) rfl rfl rfl),tv⟩) ?_
    refine bfe h (fun hc11 h=>?_) fun hc11 h=>?_
    ·refine wft hc11<|wxz<|Qaf<|Qag ?_
     obtain rfl:=osi h
     exact fend ⟨[I 1],⟨rot,tv⟩,rfl⟩ nll
    ·exact wfn hc11<|Qan<|thn<|⟨(),h,(mto (n:=27) [(1,(Q7e p1))] [] [] hφ0 (pc (rnd Qac) pn) qn)⟩
def Qk6 (N:Nat) (p0:GNet) (p1:(List Int)) (p2:(List GStream)):Option Int:=
  (Qj9 N p0 p1).bind fun x2=>
  bif (x2 != 0) then
   some x2
  else
   (Qi2 N p0 p2).bind fun x5=>
   some x5
def Zqt (p0:GNet):AV:=.dat 7 ((p0.Elements:List GElement).map Qad)
def Zpa (p0:GNet):AV:=.agg [(.dat 5 ((p0.Table:List GRow).map Qa4)),(Zqt p0)]
theorem Qve (N:Nat) (p0:GNet) (p1:(List Int)) (p2:(List GStream)) (r:Int) (h:Qk6 N p0 p1 p2=some r):Spec Tryz.prog 57 [(.agg (Qhz p0)),(.dat 1 (p1.map Qal)),(.dat 4 (p2.map Qaa))] [] (I r) []:=by
  refine Qah Tryz.func57 rfl 0 (nle rfl) (fun X φ0 w0 hφ0 hd0=>?_)
  unfold Qk6 at h
  refine wxz<|wsq ?_
  obtain ⟨x2,hf1,h⟩:=bno h
  refine wx tbk [(2,rp [fu 73,(.tmp 8,(Zpa p0)),(.tmp 9,(.dat 1 ((p1:List Int).map Qal)))] (I x2))] ⟨apv Znj (Qtx N p0 p1 _ hf1) (nlc (NLt.agg _ (nlc (nld Qai _) (nlc (nld Qab _) nl0))) (nlc (nld Qae _) nl0)) nll,tv⟩<|wxz ?_
  refine bfe h (fun hc3 h=>?_) fun hc3 h=>?_
  ·refine wft hc3<|wxz<|Qaf<|Qag ?_
   obtain rfl:=osi h
   exact fend ⟨[I x2],⟨rot,tv⟩,rfl⟩ nll
  ·refine wfn hc3<|Qan<|thn ?_
   obtain ⟨x5,hf4,h⟩:=bno h
   refine wx tbk [(2,rp [fu 94,(.tmp 14,(Zpa p0)),(.tmp 15,(.dat 4 ((p2:List GStream).map Qaa)))] (I x5))] ⟨apv Znh (Qsd N p0 p2 _ hf4) (nlc (NLt.agg _ (nlc (nld Qai _) (nlc (nld Qab _) nl0))) (nlc (nld Qac _) nl0)) nll,tv⟩<|Qaf ?_
   obtain rfl:=osi h
   exact fend ⟨[I x5],⟨rot,tv⟩,rfl⟩ nll
def Qjm (N:Nat) (p0:Int):Option Bool:=
  (Qc1 N p0 0 1000).bind fun x2=>
  some x2
theorem Qq7 (N:Nat) (p0:Int) (r:Bool) (h:Qjm N p0=some r):Spec Tryz.prog 150 [(I p0)] [] (B r) []:=by
  refine Qah Tryz.func150 rfl 0 (nle rfl) (fun X φ0 w0 hφ0 hd0=>?_)
  unfold Qjm at h
  refine wxz ?_
  obtain ⟨x2,hf1,h⟩:=bno h
  exact wx tbk [(1,rp [fu 137,(.tmp 3,I p0),ci 0,ci 1000] (B x2))] ⟨apv Qi9 (Qc5 N p0 0 1000 _ hf1) (nlcc (nlc nll nl0)) nll,tv⟩<|Qaf<|frb h
def Qga (N:Nat) (p0:Int):Option Bool:=
  (Qjm N p0).bind fun x3=>
  some (!x3)
def Zfl:Slot:=.own 1 [[(.fn (.func 150) [] [])]]
theorem Qng (N:Nat) (p0:Int) (r:Bool) (h:Qga N p0=some r):Spec Tryz.prog 157 [(I (p0)),(.ref 0 1 (0) 0)] [Zfl] (B (r)) [Zfl]:=by
  refine Qah Tryz.func157 rfl 1 (nle rfl) (fun X φ0 w0 hφ0 hd0=>?_)
  unfold Qga at h
  refine Qb0<|wxz ?_
  obtain ⟨x3,hf2,h⟩:=bno h
  refine wx tbk [(2,rp [(.tmp 4,(.fn (.func 150) [] [])),(.tmp 5,I p0)] (B x3))] ⟨apv Zhd (Qq7 N p0 _ hf2) (nlc nll nl0) nll,tv⟩ ?_
  refine wmr (mto (n:=8) (l':=[(3,(B ((!x3))))]) (own':=[Zfl]) [(3,(B ((!x3))))] [0] [Zfl] hφ0 (pw pn) (qb (lc (.rn (Qbp rn0 rn0)) ln) qn))<|Qaf ?_
  obtain rfl:=osi h
  exact ⟨_,Mor.rfl,Qdf (vs:=[(B ((!x3)))]) ⟨rot,tv⟩ rfl (NLt.of0 nll) (by kernel_rfl) (Qao (Qbi (nlc (NLt.of0 (NLt.fn _ _ _ nl0 nl0)) nl0)) Qby)⟩
def Qb5 (N:Nat) (p0:(List Int)) (k2:Unit→Option Int):Nat→Int→Option Int
  | 0,_=>none
  | n5+1,y3=>
    bif (decide (y3<(p0.length:Int))) then
     (getI p0 y3).bind fun x7=>
     (Qga N x7).bind fun x12=>
     bif x12 then
      some y3
     else
      Qb5 N p0 k2 n5 (w64 (y3+1))
    else
     k2 ()
def Qed (N:Nat) (p0:(List Int)):Option Int:=
  Qbb (fun _=>
    some (-1)) fun k2:Unit→Option Int=>
  Qb5 N p0 k2 N 0
def Q2d (p0:(List Int)):AV:=.dat 1 ((p0:List Int).map Qal)
def Q7b:AV:=.fn (.func 157) [] [(.ref 0 1 (0) 0)]
def Qn9:Slot:=.own 1 [[(.fn (.func 150) [] [])]]
theorem Qjy (N:Nat) (p0:(List Int)) (r:Int) (h:Qed N p0=some r):Spec Tryz.prog 141 [(Q2d p0),Q7b] [Qn9] (I (r)) [Qn9]:=by
  refine Qah Tryz.func141 rfl 1 (nle rfl) (fun X φ0 w0 hφ0 hd0=>?_)
  unfold Qed at h
  refine Qb0<|wxz ?_
  obtain ⟨k2,hk_k2,h⟩:=jko h
  refine wjn (τ:=Unit) (fun t=>k2 t=some r) (fun _=>⟨mk 19 [],[Qn9]⟩) (fun t h=>?_) ?_
  ·subst hk_k2
   refine wxz<|wmr (mto (n:=19) (l':=[(4,(I ((-1))))]) (own':=[Qn9]) [(4,(I ((-1))))] [0] [Qn9] hφ0 (pw pn) (qb (lc (.rn (Qbp rn0 rn0)) ln) qn))<|Qaf ?_
   obtain rfl:=osi h
   exact ⟨_,Mor.rfl,Qdf (vs:=[(I ((-1)))]) ⟨rot,tv⟩ rfl (NLt.of0 nll) (by kernel_rfl) (Qao (Qbi (nlc (NLt.of0 (NLt.fn _ _ _ nl0 nl0)) nl0)) Qby)⟩
  ·skip
   refine wx tbk [(1,rp [(.tmp 6,(Q2d p0))] (I ((p0.length:Int))))] ⟨alm (c:=Qal) (l:=p0) (aln rfl Tryz.underlying27 rfl),tv⟩<|Qaj ?_
   refine wmr (mto (n:=19) (l':=[(0,(Q2d p0)),(1,Q7b),(7,(I ((p0.length:Int)))),(8,I 0)]) (own':=[Qn9]) [(0,(Q2d p0)),(1,Q7b),(7,(I ((p0.length:Int)))),(8,I 0)] [0] [Qn9] hφ0 (pc (rnd Qae) (pc (.rn (Qbp rn0 (rnc (rqr rfl) rn0))) (pw (pw pn)))) (qb (lc (.rn (Qbp rn0 rn0)) ln) qn)) ?_
   refine Qbt (τ:=Int) (fun n t=>Qb5 N p0 k2 n t=some r) (fun y3=>⟨mk 19 [(0,(Q2d p0)),(1,Q7b),(7,(I ((p0.length:Int)))),(8,I y3)],[Qn9]⟩) (fun t h=>by rw [Qb5] at h; cases h) (fun n5 ih y3 h=>?_) N (0) h
   rw [Qb5] at h
   skip
   refine wxz<|wsq ?_
   refine bfe h (fun hc6 h=>?_) fun hc6 h=>?_
   ·refine wft hc6<|Qan<|thn<|wsq<|Qaj<|wxz ?_
    obtain ⟨x7,hg8,h⟩:=bno h
    obtain ⟨hi9,hj10⟩:=gsm hg8
    obtain ⟨x12,hf11,h⟩:=bno h
    refine wx tbk [(3,rp [(.tmp 12,(Q2d p0)),(.tmp 13,I y3)] (.dptr (Qal (x7)) 0)),(5,⟨[(.tmp 11,Q7b),(.tmp 15,I x7)],[(0,Qn9)],B x12,[(0,Qn9)],false⟩)] ⟨aid rfl Tryz.underlying27 ti3 rfl rfl hi9 (mgt Qal hj10) rfl,Qav (first:=[]) (cap:=[.ref 0 1 0 0]) (vs:=[I x7]) (σr:=[Qn9]) (σr':=[Qn9]) (res':=(B x12)) [0] rfl Zg7 (Qng N x7 _ hf11) rfl (Qbv (rnc (.plain _ nll) (rnc (Qbo rfl) rn0))) (slc (Qar (rnc (.plain _ (NLt.fn _ _ _ nl0 nl0)) rn0)) Qat) (slc (Qar (rnc (.plain _ (NLt.fn _ _ _ nl0 nl0)) rn0)) Qat) (.plain _ nll) rfl rfl rfl,tv⟩ ?_
    refine bfe h (fun hc13 h=>?_) fun hc13 h=>?_
    ·refine wft hc13<|wxz ?_
     refine wmr (mto (n:=19) (l':=[(4,I y3)]) (own':=[Qn9]) [(4,I y3)] [0] [Qn9] hφ0 (pw pn) (qb (lc (.rn (Qbp rn0 rn0)) ln) qn))<|Qaf<|Qaq<|Qag<|Qag<|Qaq<|Qag ?_
     obtain rfl:=osi h
     exact ⟨_,Mor.rfl,Qdf (vs:=[I y3]) ⟨rot,tv⟩ rfl (NLt.of0 nll) (by kernel_rfl) (Qao (Qbi (nlc (NLt.of0 (NLt.fn _ _ _ nl0 nl0)) nl0)) Qby)⟩
    ·exact wfn hc13<|Qan<|bln<|thn<|wxz1<|thn<|arm (mto (n:=19) [(0,(Q2d p0)),(1,Q7b),(7,(I ((p0.length:Int)))),(8,(I (w64 (y3+1))))] [0] [Qn9] hφ0 (pc (rnd Qae) (pc (.rn (Qbp rn0 (rnc (rqr rfl) rn0))) (pw (pw pn)))) (qb (lc (.rn (Qbp rn0 rn0)) ln) qn)) (ih (w64 (y3+1)) h)
   ·exact wfn hc6<|Qbd<|Qax<|Qax<|Qbc rfl<|thn<|⟨(),h,(mto (n:=19) [] [0] [Qn9] hφ0 pn (qb (lc (.rn (Qbp rn0 rn0)) ln) qn))⟩
def Qcw (N:Nat) (p0:(List Int)):Option Bool:=
  (Qed N p0).bind fun x3=>
  some (decide (x3≥0))
def Zla (p0:(List Int)):AV:=.dat 1 ((p0:List Int).map Qal)
def Zk9:AV:=.fn (.func 157) [] [(.ref 0 1 (0) 0)]
def Qza:Slot:=.own 1 [[(.fn (.func 150) [] [])]]
theorem Qis (N:Nat) (p0:(List Int)) (r:Bool) (h:Qcw N p0=some r):Spec Tryz.prog 126 [(Zla p0),Zk9] [Qza] (B (r)) [Qza]:=by
  refine Qah Tryz.func126 rfl 1 (nle rfl) (fun X φ0 w0 hφ0 hd0=>?_)
  unfold Qcw at h
  refine Qb0<|wxz ?_
  obtain ⟨x3,hf2,h⟩:=bno h
  refine wx tbk [(2,⟨[fu 141,(.tmp 5,(Zla p0)),(.tmp 6,Zk9)],[(0,Qza)],I x3,[(0,Qza)],false⟩)] ⟨Qav (first:=[]) (cap:=[]) (vs:=[(Zla p0),Zk9]) (σr:=[Qza]) (σr':=[Qza]) (res':=(I x3)) [0] rfl Qqi (Qjy N p0 _ hf2) rfl (Qbv (rnc (pld Qae) (rnc (Qbp rn0 (rnc (Qbo rfl) rn0)) rn0))) (slc (Qar (rnc (.plain _ (NLt.fn _ _ _ nl0 nl0)) rn0)) Qat) (slc (Qar (rnc (.plain _ (NLt.fn _ _ _ nl0 nl0)) rn0)) Qat) (.plain _ nll) rfl rfl rfl,tv⟩ ?_
  refine wmr (mto (n:=9) (l':=[(4,(B ((decide (x3≥0)))))]) (own':=[Qza]) [(4,(B ((decide (x3≥0)))))] [0] [Qza] hφ0 (pw pn) (qb (lc (.rn (Qbp rn0 rn0)) ln) qn))<|Qaf ?_
  obtain rfl:=osi h
  exact ⟨_,Mor.rfl,Qdf (vs:=[(B ((decide (x3≥0))))]) ⟨rot,tv⟩ rfl (NLt.of0 nll) (by kernel_rfl) (Qao (Qbi (nlc (NLt.of0 (NLt.fn _ _ _ nl0 nl0)) nl0)) Qby)⟩
def Qg8 (N:Nat) (p0:(List Int)):Option Bool:=
  (Qcw N p0).bind fun x2=>
  some (!x2)
def Zlc (p0:(List Int)):AV:=.dat 1 ((p0:List Int).map Qal)
def Zlb:AV:=.fn (.func 157) [] [(.ref 0 1 (0) 0)]
def Zfm:Slot:=.own 1 [[(.fn (.func 150) [] [])]]
theorem Qo0 (N:Nat) (p0:(List Int)) (r:Bool) (h:Qg8 N p0=some r):Spec Tryz.prog 151 [(Zlc p0),(.fn (.func 150) [] [])] [] (B (r)) []:=by
  refine Qah Tryz.func151 rfl 0 (nle rfl) (fun X φ0 w0 hφ0 hd0=>?_)
  unfold Qg8 at h
  refine wxz ?_
  obtain ⟨x2,hf1,h⟩:=bno h
  refine wx tbk [(1,rp [(.tmp 3,.ref 0 1 0 0)] Zlb),(2,⟨[fu 126,(.tmp 5,(Zlc p0)),(.tmp 6,Zlb)],[(0,Zfm)],B x2,[(0,Zfm)],false⟩)] ⟨Qf7 (fs:=[]) (cs:=[.ref 0 1 0 0]) rfl rfl rfl rfl,Qav (first:=[]) (cap:=[]) (vs:=[(Zlc p0),Zlb]) (σr:=[Zfm]) (σr':=[Zfm]) (res':=(B x2)) [0] rfl Qqj (Qis N p0 _ hf1) rfl (Qbv (rnc (pld Qae) (rnc (Qbp rn0 (rnc (Qbo rfl) rn0)) rn0))) (slc (Qar (rnc (.plain _ (NLt.fn _ _ _ nl0 nl0)) rn0)) Qat) (slc (Qar (rnc (.plain _ (NLt.fn _ _ _ nl0 nl0)) rn0)) Qat) (.plain _ nll) rfl rfl rfl,tv⟩<|Qaf ?_
  obtain rfl:=osi h
  exact fend ⟨[(B ((!x2)))],⟨rot,tv⟩,rfl⟩ nll
def Qjl (_N:Nat) (p0:Int):Option Bool:=
  some (decide (p0>0))
theorem Qq6 (N:Nat) (p0:Int) (r:Bool) (h:Qjl N p0=some r):Spec Tryz.prog 152 [(I p0)] [] (B r) []:=by
  refine Qah Tryz.func152 rfl 0 (nle rfl) (fun X φ0 w0 hφ0 hd0=>?_)
  unfold Qjl at h
  refine wxz<|wxz<|Qaf ?_
  obtain rfl:=osi h
  exact fend ⟨[(B ((decide (p0>0))))],⟨rot,tv⟩,rfl⟩ nll
def Qb4 (N:Nat) (p0:(List Int)) (k1:Unit→Option Int):Nat→Int→Option Int
  | 0,_=>none
  | n4+1,y2=>
    bif (decide (y2<(p0.length:Int))) then
     (getI p0 y2).bind fun x6=>
     (Qjl N x6).bind fun x11=>
     bif x11 then
      some y2
     else
      Qb4 N p0 k1 n4 (w64 (y2+1))
    else
     k1 ()
def Qec (N:Nat) (p0:(List Int)):Option Int:=
  Qbb (fun _=>
    some (-1)) fun k1:Unit→Option Int=>
  Qb4 N p0 k1 N 0
def Q2c (p0:(List Int)):AV:=.dat 1 ((p0:List Int).map Qal)
theorem Qjx (N:Nat) (p0:(List Int)) (r:Int) (h:Qec N p0=some r):Spec Tryz.prog 141 [(Q2c p0),(.fn (.func 152) [] [])] [] (I (r)) []:=by
  refine Qah Tryz.func141 rfl 0 (nle rfl) (fun X φ0 w0 hφ0 hd0=>?_)
  unfold Qec at h
  refine wxz ?_
  obtain ⟨k1,hk_k1,h⟩:=jko h
  refine wjn (τ:=Unit) (fun t=>k1 t=some r) (fun _=>⟨mk 19 [],[]⟩) (fun t h=>?_) ?_
  ·subst hk_k1
   refine wxz<|Qaf ?_
   obtain rfl:=osi h
   exact fend ⟨[(I ((-1)))],⟨rot,tv⟩,rfl⟩ nll
  ·skip
   refine wx tbk [(1,rp [(.tmp 6,(Q2c p0))] (I ((p0.length:Int))))] ⟨alm (c:=Qal) (l:=p0) (aln rfl Tryz.underlying27 rfl),tv⟩<|Qaj ?_
   refine wmr (mto (n:=19) (l':=[(0,(Q2c p0)),(1,(.fn (.func 152) [] [])),(7,(I ((p0.length:Int)))),(8,I 0)]) (own':=[]) [(0,(Q2c p0)),(1,(.fn (.func 152) [] [])),(7,(I ((p0.length:Int)))),(8,I 0)] [] [] hφ0 (pc (rnd Qae) (pc (.rn (Qbp rn0 rn0)) (pw (pw pn)))) qn) ?_
   refine Qbt (τ:=Int) (fun n t=>Qb4 N p0 k1 n t=some r) (fun y2=>⟨mk 19 [(0,(Q2c p0)),(1,(.fn (.func 152) [] [])),(7,(I ((p0.length:Int)))),(8,I y2)],[]⟩) (fun t h=>by rw [Qb4] at h; cases h) (fun n4 ih y2 h=>?_) N (0) h
   rw [Qb4] at h
   skip
   refine wxz<|wsq ?_
   refine bfe h (fun hc5 h=>?_) fun hc5 h=>?_
   ·refine wft hc5<|Qan<|thn<|wsq<|Qaj<|wxz ?_
    obtain ⟨x6,hg7,h⟩:=bno h
    obtain ⟨hi8,hj9⟩:=gsm hg7
    obtain ⟨x11,hf10,h⟩:=bno h
    refine wx tbk [(3,rp [(.tmp 12,(Q2c p0)),(.tmp 13,I y2)] (.dptr (Qal (x6)) 0)),(5,rp [(.tmp 11,(.fn (.func 152) [] [])),(.tmp 15,I x6)] (B x11))] ⟨aid rfl Tryz.underlying27 ti3 rfl rfl hi8 (mgt Qal hj9) rfl,apv Zhb (Qq6 N x6 _ hf10) (nlc nll nl0) nll,tv⟩ ?_
    refine bfe h (fun hc12 h=>?_) fun hc12 h=>?_
    ·refine wft hc12<|wxz<|Qaf<|Qaq<|Qag<|Qag<|Qaq<|Qag ?_
     obtain rfl:=osi h
     exact fend ⟨[I y2],⟨rot,tv⟩,rfl⟩ nll
    ·exact wfn hc12<|Qan<|bln<|thn<|wxz1<|thn<|arm (mto (n:=19) [(0,(Q2c p0)),(1,(.fn (.func 152) [] [])),(7,(I ((p0.length:Int)))),(8,(I (w64 (y2+1))))] [] [] hφ0 (pc (rnd Qae) (pc (.rn (Qbp rn0 rn0)) (pw (pw pn)))) qn) (ih (w64 (y2+1)) h)
   ·exact wfn hc5<|Qbd<|Qax<|Qax<|Qbc rfl<|thn<|⟨(),h,(mto (n:=19) [] [] [] hφ0 pn qn)⟩
def Qcg (N:Nat) (p0:(List Int)):Option Bool:=
  (Qec N p0).bind fun x2=>
  some (decide (x2≥0))
def Zk8 (p0:(List Int)):AV:=.dat 1 ((p0:List Int).map Qal)
theorem Qir (N:Nat) (p0:(List Int)) (r:Bool) (h:Qcg N p0=some r):Spec Tryz.prog 126 [(Zk8 p0),(.fn (.func 152) [] [])] [] (B (r)) []:=by
  refine Qah Tryz.func126 rfl 0 (nle rfl) (fun X φ0 w0 hφ0 hd0=>?_)
  unfold Qcg at h
  refine wxz ?_
  obtain ⟨x2,hf1,h⟩:=bno h
  refine wx tbk [(2,rp [fu 141,(.tmp 5,(Zk8 p0)),(.tmp 6,(.fn (.func 152) [] []))] (I x2))] ⟨Qav (first:=[]) (cap:=[]) (vs:=[(Zk8 p0),(.fn (.func 152) [] [])]) (σr:=[]) (σr':=[]) (res':=(I x2)) [] rfl Qqi (Qjx N p0 _ hf1) rfl (Qbv (rnc (pld Qae) (rnc (.plain _ (NLt.fn _ _ _ nl0 nl0)) rn0))) Qat Qat (.plain _ nll) rfl rfl rfl,tv⟩<|Qaf ?_
  obtain rfl:=osi h
  exact fend ⟨[(B ((decide (x2≥0))))],⟨rot,tv⟩,rfl⟩ nll
def Qfj (_N:Nat) (p0:Int) (p1:Int) (p2:Int):Option Int:=
  chk (p2 != 0)<|
  some ((w64 (p1 * p0)).tmod p2)
theorem Qkm (N:Nat) (p0:Int) (p1:Int) (p2:Int) (r:Int) (h:Qfj N p0 p1 p2=some r):Spec Tryz.prog 159 [(I (p0)),(.ref 0 1 (0) 0),(.ref 1 1 (0) 0)] [(.own 1 [[(I (p1))]]),(.own 1 [[(I (p2))]])] (I (r)) [(.own 1 [[(I (p1))]]),(.own 1 [[(I (p2))]])]:=by
  refine Qah Tryz.func159 rfl 2 (nle rfl) (fun X φ0 w0 hφ0 hd0=>?_)
  unfold Qfj at h
  refine Qb0<|wxz ?_
  obtain ⟨hz2,h⟩:=cko h
  refine wx tbk [(4,rp [(.tmp 7,(I (w64 (p1 * p0)))),(.tmp 8,I p2)] (I ((w64 (p1 * p0)).tmod p2)))] ⟨Qux rfl (Qlf hz2),tv⟩ ?_
  refine wmr (mto (n:=10) (l':=[(4,(I ((w64 (p1 * p0)).tmod p2)))]) (own':=[(.own 1 [[I p1]]),(.own 1 [[I p2]])]) [(4,(I ((w64 (p1 * p0)).tmod p2)))] [0,1] [(.own 1 [[I p1]]),(.own 1 [[I p2]])] hφ0 (pw pn) (qb (lc rwl ln) (qb (lc rwl ln) qn)))<|Qaf ?_
  obtain rfl:=osi h
  exact ⟨_,Mor.rfl,Qdf (vs:=[(I ((w64 (p1 * p0)).tmod p2))]) ⟨rot,tv⟩ rfl (NLt.of0 nll) (by kernel_rfl) (Qao (Qbi (nlc (NLt.of0 nll) nl0)) (Qao (Qbi (nlc (NLt.of0 nll) nl0)) Qby))⟩
def Qez (N:Nat) (p0:Int) (p1:Int) (p2:(List Int)) (p3:Int) (p4:Int):Option Int:=
  (getI p2 p1).bind fun x2=>
  (Qfj N x2 p3 p4).bind fun x7=>
  (getI p2 p0).bind fun x8=>
  (Qfj N x8 p3 p4).bind fun x13=>
  some (w64 (x7 - x13))
def Q7a:AV:=.fn (.func 159) [] [(.ref 2 1 (0) 0),(.ref 3 1 (0) 0)]
def Q69 (p2:(List Int)):AV:=.dat 1 ((p2:List Int).map Qal)
theorem Ql1 (N:Nat) (p0:Int) (p1:Int) (p2:(List Int)) (p3:Int) (p4:Int) (r:Int) (h:Qez N p0 p1 p2 p3 p4=some r):Spec Tryz.prog 163 [(I (p0)),(I (p1)),(.ref 0 1 (0) 0),(.ref 1 1 (0) 0)] [(.own 1 [[Q7a]]),(.own 1 [[(Q69 p2)]]),(.own 1 [[(I (p3))]]),(.own 1 [[(I (p4))]])] (I (r)) [(.own 1 [[Q7a]]),(.own 1 [[(Q69 p2)]]),(.own 1 [[(I (p3))]]),(.own 1 [[(I (p4))]])]:=by
  refine Qah Tryz.func163 rfl 4 (nle rfl) (fun X φ0 w0 hφ0 hd0=>?_)
  unfold Qez at h
  refine Qb0<|wxz ?_
  obtain ⟨x2,hg3,h⟩:=bno h
  obtain ⟨hi4,hj5⟩:=gsm hg3
  obtain ⟨x7,hf6,h⟩:=bno h
  obtain ⟨x8,hg9,h⟩:=bno h
  obtain ⟨hi10,hj11⟩:=gsm hg9
  obtain ⟨x13,hf12,h⟩:=bno h
  refine wxd tbk [(3,rp [(.tmp 8,(Q69 p2)),(.tmp 9,I p1)] (.dptr (Qal (x2)) 0)),(5,⟨[(.tmp 7,Q7a),(.tmp 11,I x2)],[(2,.own 1 [[I p3]]),(3,.own 1 [[I p4]])],I x7,[(2,.own 1 [[I p3]]),(3,.own 1 [[I p4]])],false⟩),(9,rp [(.tmp 14,(Q69 p2)),(.tmp 15,I p0)] (.dptr (Qal (x8)) 0)),(11,⟨[(.tmp 13,Q7a),(.tmp 17,I x8)],[(2,.own 1 [[I p3]]),(3,.own 1 [[I p4]])],I x13,[(2,.own 1 [[I p3]]),(3,.own 1 [[I p4]])],false⟩)] ⟨aid rfl Tryz.underlying27 ti3 rfl rfl hi4 (mgt Qal hj5) rfl,Qav (first:=[]) (cap:=[.ref 2 1 0 0,.ref 3 1 0 0]) (vs:=[I x2]) (σr:=[(.own 1 [[I p3]]),(.own 1 [[I p4]])]) (σr':=[(.own 1 [[I p3]]),(.own 1 [[I p4]])]) (res':=(I x7)) [2,3] rfl Q59 (Qkm N x2 p3 p4 _ hf6) rfl (Qbv (rnc (.plain _ nll) (rnc (Qbo rfl) (rnc (Qbo rfl) rn0)))) (slc (Qar (rnc (.plain _ nll) rn0)) (slc (Qar (rnc (.plain _ nll) rn0)) Qat)) (slc (Qar (rnc (.plain _ nll) rn0)) (slc (Qar (rnc (.plain _ nll) rn0)) Qat)) (.plain _ nll) rfl rfl rfl,aid rfl Tryz.underlying27 ti3 rfl rfl hi10 (mgt Qal hj11) rfl,Qav (first:=[]) (cap:=[.ref 2 1 0 0,.ref 3 1 0 0]) (vs:=[I x8]) (σr:=[(.own 1 [[I p3]]),(.own 1 [[I p4]])]) (σr':=[(.own 1 [[I p3]]),(.own 1 [[I p4]])]) (res':=(I x13)) [2,3] rfl Q59 (Qkm N x8 p3 p4 _ hf12) rfl (Qbv (rnc (.plain _ nll) (rnc (Qbo rfl) (rnc (Qbo rfl) rn0)))) (slc (Qar (rnc (.plain _ nll) rn0)) (slc (Qar (rnc (.plain _ nll) rn0)) Qat)) (slc (Qar (rnc (.plain _ nll) rn0)) (slc (Qar (rnc (.plain _ nll) rn0)) Qat)) (.plain _ nll) rfl rfl rfl,tv⟩ ?_
  refine wmr (mto (n:=20) (l':=[(6,(I (w64 (x7 - x13))))]) (own':=[(.own 1 [[Q7a]]),(.own 1 [[(Q69 p2)]]),(.own 1 [[I p3]]),(.own 1 [[I p4]])]) [(6,(I (w64 (x7 - x13))))] [0,1,2,3] [(.own 1 [[Q7a]]),(.own 1 [[(Q69 p2)]]),(.own 1 [[I p3]]),(.own 1 [[I p4]])] hφ0 (pw pn) (qb (lc (.rn (Qbp rn0 (rnc (rqr rfl) (rnc (rqr rfl) rn0)))) ln) (qb (lc (rnd Qae) ln) (qb (lc rwl ln) (qb (lc rwl ln) qn)))))<|Qaf ?_
  obtain rfl:=osi h
  exact ⟨_,Mor.rfl,Qdf (vs:=[(I (w64 (x7 - x13)))]) ⟨rot,tv⟩ rfl (NLt.of0 nll) (by kernel_rfl) (Qao (Qbi (nlc (NLt.fn _ _ _ nl0 (nlc (NLt.ref _ _ _ _ (by decide)) (nlc (NLt.ref _ _ _ _ (by decide)) nl0))) nl0)) (Qao (Qbi (nlc (NLt.of0 (nld Qae _)) nl0)) (Qao (Qbi (nlc (NLt.of0 nll) nl0)) (Qao (Qbi (nlc (NLt.of0 nll) nl0)) Qby))))⟩
def Qbg (N:Nat) (p0:Nat) (p1:Int) (p4:(List Int)) (p5:Int) (p6:Int) (k9:(List Int)→Option (List Int)):Nat→Int→(List Int)→Option (List Int)
  | 0,_,_=>none
  | n14+1,y10,y11=>
    Qbb (fun _=>
      chk (decide (0≤w64 (y10 - 1))&&decide ((w64 (y10 - 1)).toNat<p0))<|
      (y11[(w64 (y10 - 1)).toNat]?).bind fun x17=>
      chk (decide (0≤y10)&&decide (y10.toNat<p0))<|
      (y11[y10.toNat]?).bind fun x20=>
      chk (decide (0≤y10)&&decide (y10.toNat<p0))<|
      (y11[y10.toNat]?).bind fun _=>
      chk (decide (0≤w64 (y10 - 1))&&decide ((w64 (y10 - 1)).toNat<p0))<|
      ((y11.set y10.toNat x17)[(w64 (y10 - 1)).toNat]?).bind fun _=>
      Qbg N p0 p1 p4 p5 p6 k9 n14 (w64 (y10 - 1)) ((y11.set y10.toNat x17).set ((w64 (y10 - 1)).toNat) x20)) fun k15:Unit→Option (List Int)=>
    bif (decide (y10>p1)) then
     chk (decide (0≤y10)&&decide (y10.toNat<p0))<|
     (y11[y10.toNat]?).bind fun x30=>
     chk (decide (0≤w64 (y10 - 1))&&decide ((w64 (y10 - 1)).toNat<p0))<|
     (y11[(w64 (y10 - 1)).toNat]?).bind fun x33=>
     (Qez N x30 x33 p4 p5 p6).bind fun x36=>
     bif (decide (x36<0)) then
      k15 ()
     else
      k9 (y11)
    else
     k9 (y11)
def Qa6 (N:Nat) (p0:Nat) (p1:Int) (p2:Int) (p4:(List Int)) (p5:Int) (p6:Int):Nat→Int→(List Int)→Option (List Int)
  | 0,_,_=>none
  | n6+1,y2,y3=>
    bif (decide (y2<p2)) then
     Qbb (fun y8=>
       Qa6 N p0 p1 p2 p4 p5 p6 n6 (w64 (y2+1)) y8) fun k9:(List Int)→Option (List Int)=>
     Qbg N p0 p1 p4 p5 p6 k9 N y2 y3
    else
     some y3
def Qbk (N:Nat) (p0:Nat) (p1:Int) (p2:Int) (p3:(List Int)) (p4:(List Int)) (p5:Int) (p6:Int):Option (List Int):=
  Qa6 N p0 p1 p2 p4 p5 p6 N (w64 (p1+1)) p3
def Qow:AV:=.fn (.func 163) [] [(.ref 1 1 (0) 0),(.ref 2 1 (0) 0)]
def Zk3 (p3:(List Int)):Slot:=.own 1 ((p3:List Int).map Qal)
def Qlq:AV:=.fn (.func 159) [] [(.ref 3 1 (0) 0),(.ref 4 1 (0) 0)]
def Qlp (p4:(List Int)):AV:=.dat 1 ((p4:List Int).map Qal)
def Zaq (y3:(List Int)):Slot:=.own 1 ((y3:List Int).map Qal)
def Qkx (y11:(List Int)):Slot:=.own 1 ((y11:List Int).map Qal)
theorem Qfe (N:Nat) (p0:Nat) (p1:Int) (p2:Int) (p3:(List Int)) (p4:(List Int)) (p5:Int) (p6:Int) (r:(List Int)) (h:Qbk N p0 p1 p2 p3 p4 p5 p6=some r):Spec Tryz.prog 165 [(.own 0 1 (0) (p0)),(I (p1)),(I (p2)),Qow] [(Zk3 p3),(.own 1 [[Qlq]]),(.own 1 [[(Qlp p4)]]),(.own 1 [[(I (p5))]]),(.own 1 [[(I (p6))]])] (.tup []) [(.own 1 ((r:List Int).map Qal)),(.own 1 [[Qlq]]),(.own 1 [[(Qlp p4)]]),(.own 1 [[(I (p5))]]),(.own 1 [[(I (p6))]])]:=by
  refine Qah Tryz.func165 rfl 5 (nle rfl) (fun X φ0 w0 hφ0 hd0=>?_)
  unfold Qbk at h
  refine Qb0<|wxz<|Qaj ?_
  refine wmr (mto (n:=53) (l':=[(0,(.own 0 1 (0) (p0))),(1,I p1),(2,I p2),(3,Qow),(8,(I ((w64 (p1+1)))))]) (own':=[(Zk3 p3),(.own 1 [[Qlq]]),(.own 1 [[(Qlp p4)]]),(.own 1 [[I p5]]),(.own 1 [[I p6]])]) [(0,(.own 0 1 (0) (p0))),(1,I p1),(2,I p2),(3,Qow),(8,(I (w64 (p1+1))))] [0,1,2,3,4] [(Zk3 p3),(.own 1 [[Qlq]]),(.own 1 [[(Qlp p4)]]),(.own 1 [[I p5]]),(.own 1 [[I p6]])] hφ0 (pc (.rn (Qa3 rfl)) (pw (pw (pc (.rn (Qbp rn0 (rnc (rqr rfl) (rnc (rqr rfl) rn0)))) (pw pn))))) (qc (spr Qae) (qb (lc (.rn (Qbp rn0 (rnc (rqr rfl) (rnc (rqr rfl) rn0)))) ln) (qb (lc (rnd Qae) ln) (qb (lc rwl ln) (qb (lc rwl ln) qn)))))) ?_
  refine Qbt (τ:=Int×(List Int)) (fun n t=>Qa6 N p0 p1 p2 p4 p5 p6 n t.1 t.2=some r) (fun ⟨y2,y3⟩=>⟨mk 53 [(0,(.own 0 1 (0) (p0))),(1,I p1),(2,I p2),(3,Qow),(8,I y2)],[(Zaq y3),(.own 1 [[Qlq]]),(.own 1 [[(Qlp p4)]]),(.own 1 [[I p5]]),(.own 1 [[I p6]])]⟩) (fun t h=>by rw [Qa6] at h; cases h) (fun n6 ih t h=>?_) N (w64 (p1+1),p3) h
  obtain ⟨y2,y3⟩:=t
  rw [Qa6] at h
  skip
  refine wsq<|wxz ?_
  refine bfe h (fun hc7 h=>?_) fun hc7 h=>?_
  ·refine wft hc7<|Qan<|thn ?_
   obtain ⟨k9,hk_k9,h⟩:=jko h
   refine wjn (τ:=(List Int)) (fun t=>k9 t=some r) (fun y8=>⟨mk 53 [(0,(.own 0 1 (0) (p0))),(1,I p1),(2,I p2),(3,Qow),(8,I y2)],[(.own 1 ((y8:List Int).map Qal)),(.own 1 [[Qlq]]),(.own 1 [[(Qlp p4)]]),(.own 1 [[I p5]]),(.own 1 [[I p6]])]⟩) (fun y8 h=>?_) ?_
   ·subst hk_k9
    exact wxz1<|thn<|arm (mto (n:=53) [(0,(.own 0 1 (0) (p0))),(1,I p1),(2,I p2),(3,Qow),(8,(I (w64 (y2+1))))] [0,1,2,3,4] [(.own 1 ((y8:List Int).map Qal)),(.own 1 [[Qlq]]),(.own 1 [[(Qlp p4)]]),(.own 1 [[I p5]]),(.own 1 [[I p6]])] hφ0 (pc (.rn (Qa3 rfl)) (pw (pw (pc (.rn (Qbp rn0 (rnc (rqr rfl) (rnc (rqr rfl) rn0)))) (pw pn))))) (qc (spr Qae) (qb (lc (.rn (Qbp rn0 (rnc (rqr rfl) (rnc (rqr rfl) rn0)))) ln) (qb (lc (rnd Qae) ln) (qb (lc rwl ln) (qb (lc rwl ln) qn)))))) (ih (w64 (y2+1),y8) h)
   ·skip
    refine Qaj<|wxz<|Qaj ?_
    refine wmr (mto (n:=53) (l':=[(0,(.own 0 1 (0) (p0))),(1,I p1),(2,I p2),(3,Qow),(8,I y2),(9,I y2)]) (own':=[(Zaq y3),(.own 1 [[Qlq]]),(.own 1 [[(Qlp p4)]]),(.own 1 [[I p5]]),(.own 1 [[I p6]])]) [(0,(.own 0 1 (0) (p0))),(1,I p1),(2,I p2),(3,Qow),(8,I y2),(9,I y2)] [0,1,2,3,4] [(Zaq y3),(.own 1 [[Qlq]]),(.own 1 [[(Qlp p4)]]),(.own 1 [[I p5]]),(.own 1 [[I p6]])] hφ0 (pc (.rn (Qa3 rfl)) (pw (pw (pc (.rn (Qbp rn0 (rnc (rqr rfl) (rnc (rqr rfl) rn0)))) (pw (pw pn)))))) (qc (spr Qae) (qb (lc (.rn (Qbp rn0 (rnc (rqr rfl) (rnc (rqr rfl) rn0)))) ln) (qb (lc (rnd Qae) ln) (qb (lc rwl ln) (qb (lc rwl ln) qn)))))) ?_
    refine Qbt (τ:=Int×(List Int)) (fun n t=>Qbg N p0 p1 p4 p5 p6 k9 n t.1 t.2=some r) (fun ⟨y10,y11⟩=>⟨mk 53 [(0,(.own 0 1 (0) (p0))),(1,I p1),(2,I p2),(3,Qow),(8,I y2),(9,I y10)],[(Qkx y11),(.own 1 [[Qlq]]),(.own 1 [[(Qlp p4)]]),(.own 1 [[I p5]]),(.own 1 [[I p6]])]⟩) (fun t h=>by rw [Qbg] at h; cases h) (fun n14 ih t h=>?_) N (y2,y3) h
    obtain ⟨y10,y11⟩:=t
    rw [Qbg] at h
    skip
    obtain ⟨k15,hk_k15,h⟩:=jko h
    refine wjn (τ:=Unit) (fun t=>k15 t=some r) (fun _=>⟨mk 53 [(0,(.own 0 1 (0) (p0))),(1,I p1),(2,I p2),(3,Qow),(8,I y2),(9,I y10)],[(Qkx y11),(.own 1 [[Qlq]]),(.own 1 [[(Qlp p4)]]),(.own 1 [[I p5]]),(.own 1 [[I p6]])]⟩) (fun t h=>?_) ?_
    ·subst hk_k15
     refine wsq<|Qaj ?_
     obtain ⟨hi16,h⟩:=cko h
     obtain ⟨hi16a,hi16b⟩:=Qd0 hi16
     obtain ⟨x17,hg18,h⟩:=bno h
     obtain ⟨hi19,h⟩:=cko h
     obtain ⟨hi19a,hi19b⟩:=Qd0 hi19
     obtain ⟨x20,hg21,h⟩:=bno h
     obtain ⟨hi22,h⟩:=cko h
     obtain ⟨hi22a,hi22b⟩:=Qd0 hi22
     obtain ⟨x23,hg24,h⟩:=bno h
     obtain ⟨hi25,h⟩:=cko h
     obtain ⟨hi25a,hi25b⟩:=Qd0 hi25
     obtain ⟨x26,hg27,h⟩:=bno h
     refine wy1 tbk [(8,rb [(.tmp 42,(.own 0 1 (0) (p0))),(.tmp 44,(I (w64 (y10 - 1))))] [(0,(Qkx y11))] (.ref 0 1 ((w64 (y10 - 1)).toNat) 0)),(9,rb [(.tmp 45,(.ref 0 1 ((w64 (y10 - 1)).toNat) 0))] [(0,(Qkx y11))] (I x17)),(12,rb [(.tmp 47,(.own 0 1 (0) (p0))),(.tmp 48,I y10)] [(0,(Qkx y11))] (.ref 0 1 (y10.toNat) 0)),(13,rb [(.tmp 49,(.ref 0 1 (y10.toNat) 0))] [(0,(Qkx y11))] (I x20)),(14,rb [(.tmp 37,(.own 0 1 (0) (p0))),(.tmp 38,I y10)] [(0,(Qkx y11))] (.ref 0 1 (y10.toNat) 0)),(15,⟨[(.tmp 51,(.ref 0 1 (y10.toNat) 0)),(.tmp 46,I x17)],[(0,(Qkx y11))],.any,[(0,(.own 1 ((y11.set y10.toNat x17:List Int).map Qal)))],false⟩),(16,rb [(.tmp 39,(.own 0 1 (0) (p0))),(.tmp 41,(I (w64 (y10 - 1))))] [(0,(.own 1 ((y11.set y10.toNat x17:List Int).map Qal)))] (.ref 0 1 ((w64 (y10 - 1)).toNat) 0)),(17,⟨[(.tmp 52,(.ref 0 1 ((w64 (y10 - 1)).toNat) 0)),(.tmp 50,I x20)],[(0,(.own 1 ((y11.set y10.toNat x17:List Int).map Qal)))],.any,[(0,(.own 1 (((y11.set y10.toNat x17).set ((w64 (y10 - 1)).toNat) x20:List Int).map Qal)))],false⟩)] ⟨aio rfl Tryz.underlying27 ti3 (odt hi16a) (odt hi16b) (Nat.zero_add _),ald rfl ti3 (by decide) (mgt Qal hg18) (nle rfl) rfl,aio rfl Tryz.underlying27 ti3 (odt hi19a) (odt hi19b) (Nat.zero_add _),ald rfl ti3 (by decide) (mgt Qal hg21) (nle rfl) rfl,aio rfl Tryz.underlying27 ti3 (odt hi22a) (odt hi22b) (Nat.zero_add _),ast rfl ti3 (by rfl) (mgt Qal hg24) (nle rfl) (Qgv Qal rfl),aio rfl Tryz.underlying27 ti3 (odt hi25a) (odt hi25b) (Nat.zero_add _),ast rfl ti3 (by rfl) (mgt Qal hg27) (nle rfl) (Qgv Qal rfl),tv⟩<|bln<|thn<|wxz1<|thn ?_
     exact arm (mto (n:=53) [(0,(.own 0 1 (0) (p0))),(1,I p1),(2,I p2),(3,Qow),(8,I y2),(9,(I (w64 (y10 - 1))))] [0,1,2,3,4] [(.own 1 (((y11.set y10.toNat x17).set ((w64 (y10 - 1)).toNat) x20:List Int).map Qal)),(.own 1 [[Qlq]]),(.own 1 [[(Qlp p4)]]),(.own 1 [[I p5]]),(.own 1 [[I p6]])] hφ0 (pc (.rn (Qa3 rfl)) (pw (pw (pc (.rn (Qbp rn0 (rnc (rqr rfl) (rnc (rqr rfl) rn0)))) (pw (pw pn)))))) (qc (spr Qae) (qb (lc (.rn (Qbp rn0 (rnc (rqr rfl) (rnc (rqr rfl) rn0)))) ln) (qb (lc (rnd Qae) ln) (qb (lc rwl ln) (qb (lc rwl ln) qn)))))) (ih (w64 (y10 - 1),(y11.set y10.toNat x17).set ((w64 (y10 - 1)).toNat) x20) h)
    ·skip
     refine bfe h (fun hb28 h=>?_) fun hb28 h=>?_
     ·obtain ⟨hi29,h⟩:=cko h
      obtain ⟨hi29a,hi29b⟩:=Qd0 hi29
      obtain ⟨x30,hg31,h⟩:=bno h
      obtain ⟨hi32,h⟩:=cko h
      obtain ⟨hi32a,hi32b⟩:=Qd0 hi32
      obtain ⟨x33,hg34,h⟩:=bno h
      obtain ⟨x36,hf35,h⟩:=bno h
      refine wxd tbk [(3,rp [(.tmp 20,(B ((decide (y10>p1)))))] (B true)),(7,rb [(.tmp 21,B true),(.tmp 23,(.own 0 1 (0) (p0))),(.tmp 24,I y10)] [(0,(Qkx y11))] (.ref 0 1 (y10.toNat) 0)),(8,rb [(.tmp 21,B true),(.tmp 25,(.ref 0 1 (y10.toNat) 0))] [(0,(Qkx y11))] (I x30)),(12,rb [(.tmp 21,B true),(.tmp 27,(.own 0 1 (0) (p0))),(.tmp 29,(I (w64 (y10 - 1))))] [(0,(Qkx y11))] (.ref 0 1 ((w64 (y10 - 1)).toNat) 0)),(13,rb [(.tmp 21,B true),(.tmp 30,(.ref 0 1 ((w64 (y10 - 1)).toNat) 0))] [(0,(Qkx y11))] (I x33)),(14,⟨[(.tmp 21,B true),(.tmp 22,Qow),(.tmp 26,I x30),(.tmp 31,I x33)],[(1,.own 1 [[Qlq]]),(2,(.own 1 [[(Qlp p4)]])),(3,.own 1 [[I p5]]),(4,.own 1 [[I p6]])],I x36,[(1,.own 1 [[Qlq]]),(2,(.own 1 [[(Qlp p4)]])),(3,.own 1 [[I p5]]),(4,.own 1 [[I p6]])],false⟩)] ⟨asb hb28 (amv rfl),ag_ (aio rfl Tryz.underlying27 ti3 (odt hi29a) (odt hi29b) (Nat.zero_add _)),ag_ (ald rfl ti3 (by decide) (mgt Qal hg31) (nle rfl) rfl),ag_ (aio rfl Tryz.underlying27 ti3 (odt hi32a) (odt hi32b) (Nat.zero_add _)),ag_ (ald rfl ti3 (by decide) (mgt Qal hg34) (nle rfl) rfl),ag_ (Qav (first:=[]) (cap:=[.ref 1 1 0 0,.ref 2 1 0 0]) (vs:=[I x30,I x33]) (σr:=[(.own 1 [[Qlq]]),(.own 1 [[(Qlp p4)]]),(.own 1 [[I p5]]),(.own 1 [[I p6]])]) (σr':=[(.own 1 [[Qlq]]),(.own 1 [[(Qlp p4)]]),(.own 1 [[I p5]]),(.own 1 [[I p6]])]) (res':=(I x36)) [1,2,3,4] rfl Zg3 (Ql1 N x30 x33 p4 p5 p6 _ hf35) rfl (Qbv (rncc (rnc (Qbo rfl) (rnc (Qbo rfl) rn0)))) (slc (Qar (rnc (Qbp rn0 (rnc (Qbo rfl) (rnc (Qbo rfl) rn0))) rn0)) (slc (Qar (rnc (pld Qae) rn0)) (slc (Qar (rnc (.plain _ nll) rn0)) (slc (Qar (rnc (.plain _ nll) rn0)) Qat)))) (slc (Qar (rnc (Qbp rn0 (rnc (Qbr rfl) (rnc (Qbr rfl) rn0))) rn0)) (slc (Qar (rnc (pld Qae) rn0)) (slc (Qar (rnc (.plain _ nll) rn0)) (slc (Qar (rnc (.plain _ nll) rn0)) Qat)))) (.plain _ nll) rfl rfl rfl),tv⟩ ?_
      refine bfe h (fun hc37 h=>?_) fun hc37 h=>?_
      ·exact wft hc37<|Qan<|thn<|⟨(),h,(mto (n:=53) [(0,(.own 0 1 (0) (p0))),(1,I p1),(2,I p2),(3,Qow),(8,I y2),(9,I y10)] [0,1,2,3,4] [(Qkx y11),(.own 1 [[Qlq]]),(.own 1 [[(Qlp p4)]]),(.own 1 [[I p5]]),(.own 1 [[I p6]])] hφ0 (pc (.rn (Qa3 rfl)) (pw (pw (pc (.rn (Qbp rn0 (rnc (rqr rfl) (rnc (rqr rfl) rn0)))) (pw (pw pn)))))) (qc (spr Qae) (qb (lc (.rn (Qbp rn0 (rnc (rqr rfl) (rnc (rqr rfl) rn0)))) ln) (qb (lc (rnd Qae) ln) (qb (lc rwl ln) (qb (lc rwl ln) qn))))))⟩
      ·exact wfn hc37<|Qbd<|Qax<|Qax<|Qbc rfl<|bln<|thn<|⟨(y11),h,(mto (n:=53) [(0,(.own 0 1 (0) (p0))),(1,I p1),(2,I p2),(3,Qow),(8,I y2)] [0,1,2,3,4] [(Qkx y11),(.own 1 [[Qlq]]),(.own 1 [[(Qlp p4)]]),(.own 1 [[I p5]]),(.own 1 [[I p6]])] hφ0 (pc (.rn (Qa3 rfl)) (pw (pw (pc (.rn (Qbp rn0 (rnc (rqr rfl) (rnc (rqr rfl) rn0)))) (pw pn))))) (qc (spr Qae) (qb (lc (.rn (Qbp rn0 (rnc (rqr rfl) (rnc (rqr rfl) rn0)))) ln) (qb (lc (rnd Qae) ln) (qb (lc rwl ln) (qb (lc rwl ln) qn))))))⟩
     ·exact wxd tbk [(3,rp [(.tmp 20,(B ((decide (y10>p1)))))] (B false))] ⟨asb hb28 (amv rfl),tv⟩<|wfa<|Qbd<|Qax<|Qax<|Qbc rfl<|bln<|thn<|⟨(y11),h,(mto (n:=53) [(0,(.own 0 1 (0) (p0))),(1,I p1),(2,I p2),(3,Qow),(8,I y2)] [0,1,2,3,4] [(Qkx y11),(.own 1 [[Qlq]]),(.own 1 [[(Qlp p4)]]),(.own 1 [[I p5]]),(.own 1 [[I p6]])] hφ0 (pc (.rn (Qa3 rfl)) (pw (pw (pc (.rn (Qbp rn0 (rnc (rqr rfl) (rnc (rqr rfl) rn0)))) (pw pn))))) (qc (spr Qae) (qb (lc (.rn (Qbp rn0 (rnc (rqr rfl) (rnc (rqr rfl) rn0)))) ln) (qb (lc (rnd Qae) ln) (qb (lc rwl ln) (qb (lc rwl ln) qn))))))⟩
  ·refine wfn hc7<|Qbd<|Qax<|Qax<|Qbc rfl ?_
   obtain rfl:=osi h
   exact ⟨_,(mto (n:=53) (l':=[]) (own':=[(Zaq y3),(.own 1 [[Qlq]]),(.own 1 [[(Qlp p4)]]),(.own 1 [[I p5]]),(.own 1 [[I p6]])]) [] [0,1,2,3,4] [(Zaq y3),(.own 1 [[Qlq]]),(.own 1 [[(Qlp p4)]]),(.own 1 [[I p5]]),(.own 1 [[I p6]])] hφ0 pn (qc (spr Qae) (qb (lc (.rn (Qbp rn0 (rnc (rqr rfl) (rnc (rqr rfl) rn0)))) ln) (qb (lc (rnd Qae) ln) (qb (lc rwl ln) (qb (lc rwl ln) qn)))))),Qdf (vs:=[]) tv rfl (NLt.tup _ nl0) (by kernel_rfl) (Qao (Qci Qae _) (Qao (Qbi (nlc (NLt.fn _ _ _ nl0 (nlc (NLt.ref _ _ _ _ (by decide)) (nlc (NLt.ref _ _ _ _ (by decide)) nl0))) nl0)) (Qao (Qbi (nlc (NLt.of0 (nld Qae _)) nl0)) (Qao (Qbi (nlc (NLt.of0 nll) nl0)) (Qao (Qbi (nlc (NLt.of0 nll) nl0)) Qby)))))⟩
def Qda (N:Nat) (p1:Int) (k9:Unit→Option (List Int)):Nat→Option (List Int)
  | 0=>none
  | n10+1=>
    bif (decide (40≤p1)) then
     none
    else
     k9 ()
def Qb1 (N:Nat) (p1:Int) (x6:(List Int)):Nat→Option (List Int)
  | 0=>none
  | n7+1=>
    bif (decide (20<p1)) then
     Qbb (fun _=>
       none) fun k9:Unit→Option (List Int)=>
     Qda N p1 k9 N
    else
     some x6
def Qbs (N:Nat) (p0:Nat) (p1:Int) (p3:(List Int)) (k4:Int×(List Int)→Option (List Int)) (p4:Int) (p5:Int):Nat→Int→Int→(List Int)→Option (List Int)
  | 0,_,_,_=>none
  | n18+1,y12,y13,y14=>
    bif (decide (y13≤p1)) then
     (Qbk N p0 y12 y13 y14 p3 p4 p5).bind fun x21=>
     Qbs N p0 p1 p3 k4 p4 p5 n18 y13 (w64 (y13+20)) x21
    else
     k4 (y12,y14)
def Qeb (N:Nat) (p0:Nat) (p1:Int) (p2:(List Int)) (p3:(List Int)) (p4:Int) (p5:Int):Option (List Int):=
  Qbb (fun ⟨y2,y3⟩=>
    (Qbk N p0 y2 p1 y3 p3 p4 p5).bind fun x6=>
    Qb1 N p1 x6 N) fun k4:Int×(List Int)→Option (List Int)=>
  Qbs N p0 p1 p3 k4 p4 p5 N 0 20 p2
def Qmh:AV:=.fn (.func 163) [] [(.ref 1 1 (0) 0),(.ref 2 1 (0) 0)]
def Zk5 (p2:(List Int)):Slot:=.own 1 ((p2:List Int).map Qal)
def Qjq:AV:=.fn (.func 159) [] [(.ref 3 1 (0) 0),(.ref 4 1 (0) 0)]
def Qjp (p3:(List Int)):AV:=.dat 1 ((p3:List Int).map Qal)
def Zk4 (y3:(List Int)):Slot:=.own 1 ((y3:List Int).map Qal)
def Qr7 (x6:(List Int)):Slot:=.own 1 ((x6:List Int).map Qal)
def Q43 (y14:(List Int)):Slot:=.own 1 ((y14:List Int).map Qal)
theorem Qjw (N:Nat) (p0:Nat) (p1:Int) (p2:(List Int)) (p3:(List Int)) (p4:Int) (p5:Int) (r:(List Int)) (h:Qeb N p0 p1 p2 p3 p4 p5=some r):Spec Tryz.prog 164 [(.own 0 1 (0) (p0)),(I (p1)),Qmh] [(Zk5 p2),(.own 1 [[Qjq]]),(.own 1 [[(Qjp p3)]]),(.own 1 [[(I (p4))]]),(.own 1 [[(I (p5))]])] (.tup []) [(.own 1 ((r:List Int).map Qal)),(.own 1 [[Qjq]]),(.own 1 [[(Qjp p3)]]),(.own 1 [[(I (p4))]]),(.own 1 [[(I (p5))]])]:=by
  refine Qah Tryz.func164 rfl 5 (nle rfl) (fun X φ0 w0 hφ0 hd0=>?_)
  unfold Qeb at h
  refine Qb0<|wxz<|wxz ?_
  obtain ⟨k4,hk_k4,h⟩:=jko h
  refine wjn (τ:=Int×(List Int)) (fun t=>k4 t=some r) (fun ⟨y2,y3⟩=>⟨mk 63 [(0,(.own 0 1 (0) (p0))),(1,I p1),(2,Qmh),(6,I 20),(7,I y2)],[(Zk4 y3),(.own 1 [[Qjq]]),(.own 1 [[(Qjp p3)]]),(.own 1 [[I p4]]),(.own 1 [[I p5]])]⟩) (fun t h=>?_) ?_
  ·subst hk_k4
   obtain ⟨y2,y3⟩:=t
   obtain ⟨x6,hf5,h⟩:=bno h
   refine wx tbk [(4,⟨[fu 165,(.tmp 23,(.own 0 1 (0) (p0))),(.tmp 24,I y2),(.tmp 25,I p1),(.tmp 26,Qmh)],[(0,(Zk4 y3)),(1,.own 1 [[Qjq]]),(2,(.own 1 [[(Qjp p3)]])),(3,.own 1 [[I p4]]),(4,.own 1 [[I p5]])],(.tup []),[(0,(Qr7 x6)),(1,.own 1 [[Qjq]]),(2,(.own 1 [[(Qjp p3)]])),(3,.own 1 [[I p4]]),(4,.own 1 [[I p5]])],false⟩)] ⟨Qav (first:=[]) (cap:=[]) (vs:=[(.own 0 1 (0) (p0)),I y2,I p1,Qmh]) (σr:=[(Zk4 y3),(.own 1 [[Qjq]]),(.own 1 [[(Qjp p3)]]),(.own 1 [[I p4]]),(.own 1 [[I p5]])]) (σr':=[(Qr7 x6),(.own 1 [[Qjq]]),(.own 1 [[(Qjp p3)]]),(.own 1 [[I p4]]),(.own 1 [[I p5]])]) (res':=(.tup [])) [0,1,2,3,4] rfl Q58 (Qfe N p0 y2 p1 y3 p3 p4 p5 _ hf5) rfl (Qbv (rnc (Qc7 rfl) (rncc (rnc (Qbp rn0 (rnc (Qbo rfl) (rnc (Qbo rfl) rn0))) rn0)))) (slc (Qbf Qae) (slc (Qar (rnc (Qbp rn0 (rnc (Qbo rfl) (rnc (Qbo rfl) rn0))) rn0)) (slc (Qar (rnc (pld Qae) rn0)) (slc (Qar (rnc (.plain _ nll) rn0)) (slc (Qar (rnc (.plain _ nll) rn0)) Qat))))) (slc (Qbf Qae) (slc (Qar (rnc (Qbp rn0 (rnc (Qbr rfl) (rnc (Qbr rfl) rn0))) rn0)) (slc (Qar (rnc (pld Qae) rn0)) (slc (Qar (rnc (.plain _ nll) rn0)) (slc (Qar (rnc (.plain _ nll) rn0)) Qat))))) (.plain _ (NLt.tup _ nl0)) rfl rfl rfl,tv⟩<|Qaj ?_
   refine wmr (mto (n:=63) (l':=[(0,(.own 0 1 (0) (p0))),(1,I p1),(2,Qmh),(6,I 20)]) (own':=[(Qr7 x6),(.own 1 [[Qjq]]),(.own 1 [[(Qjp p3)]]),(.own 1 [[I p4]]),(.own 1 [[I p5]])]) [(0,(.own 0 1 (0) (p0))),(1,I p1),(2,Qmh),(6,I 20)] [0,1,2,3,4] [(Qr7 x6),(.own 1 [[Qjq]]),(.own 1 [[(Qjp p3)]]),(.own 1 [[I p4]]),(.own 1 [[I p5]])] hφ0 (pc (.rn (Qa3 rfl)) (pw (pc (.rn (Qbp rn0 (rnc (rqr rfl) (rnc (rqr rfl) rn0)))) (pw pn)))) (qc (spr Qae) (qb (lc (.rn (Qbp rn0 (rnc (rqr rfl) (rnc (rqr rfl) rn0)))) ln) (qb (lc (rnd Qae) ln) (qb (lc rwl ln) (qb (lc rwl ln) qn)))))) ?_
   refine Qbt (τ:=Unit) (fun n t=>Qb1 N p1 x6 n=some r) (fun _=>⟨mk 63 [(0,(.own 0 1 (0) (p0))),(1,I p1),(2,Qmh),(6,I 20)],[(Qr7 x6),(.own 1 [[Qjq]]),(.own 1 [[(Qjp p3)]]),(.own 1 [[I p4]]),(.own 1 [[I p5]])]⟩) (fun t h=>by rw [Qb1] at h; cases h) (fun n7 ih t h=>?_) N () h
   rw [Qb1] at h
   skip
   refine wsq<|wxz ?_
   refine bfe h (fun hc8 h=>?_) fun hc8 h=>?_
   ·refine wft hc8<|Qan<|thn<|Qaj<|wxz ?_
    obtain ⟨k9,hk_k9,h⟩:=jko h
    refine wjn (τ:=Unit) (fun t=>k9 t=some r) (fun _=>⟨mk 63 [(0,(.own 0 1 (0) (p0))),(1,I p1),(2,Qmh),(6,I 20),(7,I 0)],[(Qr7 x6),(.own 1 [[Qjq]]),(.own 1 [[(Qjp p3)]]),(.own 1 [[I p4]]),(.own 1 [[I p5]])]⟩) (fun t h=>?_) ?_
    ·subst hk_k9
     refine wsq<|wxz<|wxz<|wft hc8 ?_
     cases h
    ·skip
     refine Qaj<|wmr (mto (n:=63) (l':=[(0,(.own 0 1 (0) (p0))),(1,I p1),(2,Qmh),(6,I 20),(7,I 0),(8,I 40)]) (own':=[(Qr7 x6),(.own 1 [[Qjq]]),(.own 1 [[(Qjp p3)]]),(.own 1 [[I p4]]),(.own 1 [[I p5]])]) [(0,(.own 0 1 (0) (p0))),(1,I p1),(2,Qmh),(6,I 20),(7,I 0),(8,I 40)] [0,1,2,3,4] [(Qr7 x6),(.own 1 [[Qjq]]),(.own 1 [[(Qjp p3)]]),(.own 1 [[I p4]]),(.own 1 [[I p5]])] hφ0 (pc (.rn (Qa3 rfl)) (pw (pc (.rn (Qbp rn0 (rnc (rqr rfl) (rnc (rqr rfl) rn0)))) (pw (pw (pw pn)))))) (qc (spr Qae) (qb (lc (.rn (Qbp rn0 (rnc (rqr rfl) (rnc (rqr rfl) rn0)))) ln) (qb (lc (rnd Qae) ln) (qb (lc rwl ln) (qb (lc rwl ln) qn)))))) ?_
     refine Qbt (τ:=Unit) (fun n t=>Qda N p1 k9 n=some r) (fun _=>⟨mk 63 [(0,(.own 0 1 (0) (p0))),(1,I p1),(2,Qmh),(6,I 20),(7,I 0),(8,I 40)],[(Qr7 x6),(.own 1 [[Qjq]]),(.own 1 [[(Qjp p3)]]),(.own 1 [[I p4]]),(.own 1 [[I p5]])]⟩) (fun t h=>by rw [Qda] at h; cases h) (fun n10 ih t h=>?_) N () h
     rw [Qda] at h
     skip
     refine wsq<|wxz ?_
     refine bfe h (fun hc11 h=>?_) fun hc11 h=>?_
     ·refine wft hc11<|Qan<|thn<|Qaj ?_
      cases h
     ·exact wfn hc11<|Qbd<|Qax<|Qax<|Qbc rfl<|thn<|⟨(),h,(mto (n:=63) [(0,(.own 0 1 (0) (p0))),(1,I p1),(2,Qmh),(6,I 20),(7,I 0)] [0,1,2,3,4] [(Qr7 x6),(.own 1 [[Qjq]]),(.own 1 [[(Qjp p3)]]),(.own 1 [[I p4]]),(.own 1 [[I p5]])] hφ0 (pc (.rn (Qa3 rfl)) (pw (pc (.rn (Qbp rn0 (rnc (rqr rfl) (rnc (rqr rfl) rn0)))) (pw (pw pn))))) (qc (spr Qae) (qb (lc (.rn (Qbp rn0 (rnc (rqr rfl) (rnc (rqr rfl) rn0)))) ln) (qb (lc (rnd Qae) ln) (qb (lc rwl ln) (qb (lc rwl ln) qn))))))⟩
   ·refine wfn hc8<|Qbd<|Qax<|Qax<|Qbc rfl ?_
    obtain rfl:=osi h
    exact ⟨_,(mto (n:=63) (l':=[]) (own':=[(Qr7 x6),(.own 1 [[Qjq]]),(.own 1 [[(Qjp p3)]]),(.own 1 [[I p4]]),(.own 1 [[I p5]])]) [] [0,1,2,3,4] [(Qr7 x6),(.own 1 [[Qjq]]),(.own 1 [[(Qjp p3)]]),(.own 1 [[I p4]]),(.own 1 [[I p5]])] hφ0 pn (qc (spr Qae) (qb (lc (.rn (Qbp rn0 (rnc (rqr rfl) (rnc (rqr rfl) rn0)))) ln) (qb (lc (rnd Qae) ln) (qb (lc rwl ln) (qb (lc rwl ln) qn)))))),Qdf (vs:=[]) tv rfl (NLt.tup _ nl0) (by kernel_rfl) (Qao (Qci Qae _) (Qao (Qbi (nlc (NLt.fn _ _ _ nl0 (nlc (NLt.ref _ _ _ _ (by decide)) (nlc (NLt.ref _ _ _ _ (by decide)) nl0))) nl0)) (Qao (Qbi (nlc (NLt.of0 (nld Qae _)) nl0)) (Qao (Qbi (nlc (NLt.of0 nll) nl0)) (Qao (Qbi (nlc (NLt.of0 nll) nl0)) Qby)))))⟩
  ·skip
   refine Qaj<|wmr (mto (n:=63) (l':=[(0,(.own 0 1 (0) (p0))),(1,I p1),(2,Qmh),(6,I 20),(7,I 0),(8,I 20)]) (own':=[(Zk5 p2),(.own 1 [[Qjq]]),(.own 1 [[(Qjp p3)]]),(.own 1 [[I p4]]),(.own 1 [[I p5]])]) [(0,(.own 0 1 (0) (p0))),(1,I p1),(2,Qmh),(6,I 20),(7,I 0),(8,I 20)] [0,1,2,3,4] [(Zk5 p2),(.own 1 [[Qjq]]),(.own 1 [[(Qjp p3)]]),(.own 1 [[I p4]]),(.own 1 [[I p5]])] hφ0 (pc (.rn (Qa3 rfl)) (pw (pc (.rn (Qbp rn0 (rnc (rqr rfl) (rnc (rqr rfl) rn0)))) (pw (pw (pw pn)))))) (qc (spr Qae) (qb (lc (.rn (Qbp rn0 (rnc (rqr rfl) (rnc (rqr rfl) rn0)))) ln) (qb (lc (rnd Qae) ln) (qb (lc rwl ln) (qb (lc rwl ln) qn)))))) ?_
   refine Qbt (τ:=Int×Int×(List Int)) (fun n t=>Qbs N p0 p1 p3 k4 p4 p5 n t.1 t.2.1 t.2.2=some r) (fun ⟨y12,y13,y14⟩=>⟨mk 63 [(0,(.own 0 1 (0) (p0))),(1,I p1),(2,Qmh),(6,I 20),(7,I y12),(8,I y13)],[(Q43 y14),(.own 1 [[Qjq]]),(.own 1 [[(Qjp p3)]]),(.own 1 [[I p4]]),(.own 1 [[I p5]])]⟩) (fun t h=>by rw [Qbs] at h; cases h) (fun n18 ih t h=>?_) N (0,20,p2) h
   obtain ⟨y12,y13,y14⟩:=t
   rw [Qbs] at h
   skip
   refine wsq<|wxz ?_
   refine bfe h (fun hc19 h=>?_) fun hc19 h=>?_
   ·refine wft hc19<|Qan<|thn<|Qaj ?_
    obtain ⟨x21,hf20,h⟩:=bno h
    refine wx tbk [(4,⟨[fu 165,(.tmp 14,(.own 0 1 (0) (p0))),(.tmp 15,I y12),(.tmp 16,I y13),(.tmp 17,Qmh)],[(0,(Q43 y14)),(1,.own 1 [[Qjq]]),(2,(.own 1 [[(Qjp p3)]])),(3,.own 1 [[I p4]]),(4,.own 1 [[I p5]])],(.tup []),[(0,(.own 1 ((x21:List Int).map Qal))),(1,.own 1 [[Qjq]]),(2,(.own 1 [[(Qjp p3)]])),(3,.own 1 [[I p4]]),(4,.own 1 [[I p5]])],false⟩)] ⟨Qav (first:=[]) (cap:=[]) (vs:=[(.own 0 1 (0) (p0)),I y12,I y13,Qmh]) (σr:=[(Q43 y14),(.own 1 [[Qjq]]),(.own 1 [[(Qjp p3)]]),(.own 1 [[I p4]]),(.own 1 [[I p5]])]) (σr':=[(.own 1 ((x21:List Int).map Qal)),(.own 1 [[Qjq]]),(.own 1 [[(Qjp p3)]]),(.own 1 [[I p4]]),(.own 1 [[I p5]])]) (res':=(.tup [])) [0,1,2,3,4] rfl Q58 (Qfe N p0 y12 y13 y14 p3 p4 p5 _ hf20) rfl (Qbv (rnc (Qc7 rfl) (rncc (rnc (Qbp rn0 (rnc (Qbo rfl) (rnc (Qbo rfl) rn0))) rn0)))) (slc (Qbf Qae) (slc (Qar (rnc (Qbp rn0 (rnc (Qbo rfl) (rnc (Qbo rfl) rn0))) rn0)) (slc (Qar (rnc (pld Qae) rn0)) (slc (Qar (rnc (.plain _ nll) rn0)) (slc (Qar (rnc (.plain _ nll) rn0)) Qat))))) (slc (Qbf Qae) (slc (Qar (rnc (Qbp rn0 (rnc (Qbr rfl) (rnc (Qbr rfl) rn0))) rn0)) (slc (Qar (rnc (pld Qae) rn0)) (slc (Qar (rnc (.plain _ nll) rn0)) (slc (Qar (rnc (.plain _ nll) rn0)) Qat))))) (.plain _ (NLt.tup _ nl0)) rfl rfl rfl,tv⟩<|wxz<|wxz1<|bln<|thn ?_
    exact arm (mto (n:=63) [(0,(.own 0 1 (0) (p0))),(1,I p1),(2,Qmh),(6,I 20),(7,I y13),(8,(I (w64 (y13+20))))] [0,1,2,3,4] [(.own 1 ((x21:List Int).map Qal)),(.own 1 [[Qjq]]),(.own 1 [[(Qjp p3)]]),(.own 1 [[I p4]]),(.own 1 [[I p5]])] hφ0 (pc (.rn (Qa3 rfl)) (pw (pc (.rn (Qbp rn0 (rnc (rqr rfl) (rnc (rqr rfl) rn0)))) (pw (pw (pw pn)))))) (qc (spr Qae) (qb (lc (.rn (Qbp rn0 (rnc (rqr rfl) (rnc (rqr rfl) rn0)))) ln) (qb (lc (rnd Qae) ln) (qb (lc rwl ln) (qb (lc rwl ln) qn)))))) (ih (y13,w64 (y13+20),x21) h)
   ·exact wfn hc19<|Qbd<|Qax<|Qax<|Qbc rfl<|thn<|⟨(y12,y14),h,(mto (n:=63) [(0,(.own 0 1 (0) (p0))),(1,I p1),(2,Qmh),(6,I 20),(7,I y12)] [0,1,2,3,4] [(Q43 y14),(.own 1 [[Qjq]]),(.own 1 [[(Qjp p3)]]),(.own 1 [[I p4]]),(.own 1 [[I p5]])] hφ0 (pc (.rn (Qa3 rfl)) (pw (pc (.rn (Qbp rn0 (rnc (rqr rfl) (rnc (rqr rfl) rn0)))) (pw (pw pn))))) (qc (spr Qae) (qb (lc (.rn (Qbp rn0 (rnc (rqr rfl) (rnc (rqr rfl) rn0)))) ln) (qb (lc (rnd Qae) ln) (qb (lc rwl ln) (qb (lc rwl ln) qn))))))⟩
def Qcc (N:Nat) (p0:Nat) (p1:(List Int)) (p2:(List Int)) (p3:Int) (p4:Int):Option (List Int):=
  (Qeb N p0 ((p0:Nat):Int) p1 p2 p3 p4).bind fun x3=>
  some x3
def Zk7:AV:=.fn (.func 163) [] [(.ref 1 1 (0) 0),(.ref 2 1 (0) 0)]
def Zk6 (p1:(List Int)):Slot:=.own 1 ((p1:List Int).map Qal)
def Qy9:AV:=.fn (.func 159) [] [(.ref 3 1 (0) 0),(.ref 4 1 (0) 0)]
def Qy8 (p2:(List Int)):AV:=.dat 1 ((p2:List Int).map Qal)
def Zfk (x3:(List Int)):Slot:=.own 1 ((x3:List Int).map Qal)
theorem Qia (N:Nat) (p0:Nat) (p1:(List Int)) (p2:(List Int)) (p3:Int) (p4:Int) (r:(List Int)) (h:Qcc N p0 p1 p2 p3 p4=some r):Spec Tryz.prog 162 [(.own 0 1 (0) (p0)),Zk7] [(Zk6 p1),(.own 1 [[Qy9]]),(.own 1 [[(Qy8 p2)]]),(.own 1 [[(I (p3))]]),(.own 1 [[(I (p4))]])] (.tup []) [(.own 1 ((r:List Int).map Qal)),(.own 1 [[Qy9]]),(.own 1 [[(Qy8 p2)]]),(.own 1 [[(I (p3))]]),(.own 1 [[(I (p4))]])]:=by
  refine Qah Tryz.func162 rfl 5 (nle rfl) (fun X φ0 w0 hφ0 hd0=>?_)
  unfold Qcc at h
  refine Qb0 ?_
  obtain ⟨x3,hf2,h⟩:=bno h
  refine wx1 tbk [(2,rp [(.tmp 5,(.own 0 1 (0) (p0)))] (I (((p0:Nat):Int)))),(4,⟨[fu 164,(.tmp 4,(.own 0 1 (0) (p0))),(.tmp 6,(I (((p0:Nat):Int)))),(.tmp 7,Zk7)],[(0,(Zk6 p1)),(1,.own 1 [[Qy9]]),(2,(.own 1 [[(Qy8 p2)]])),(3,.own 1 [[I p3]]),(4,.own 1 [[I p4]])],(.tup []),[(0,(Zfk x3)),(1,.own 1 [[Qy9]]),(2,(.own 1 [[(Qy8 p2)]])),(3,.own 1 [[I p3]]),(4,.own 1 [[I p4]])],false⟩)] ⟨aln rfl Tryz.underlying27 rfl,Qav (first:=[]) (cap:=[]) (vs:=[(.own 0 1 (0) (p0)),(I (((p0:Nat):Int))),Zk7]) (σr:=[(Zk6 p1),(.own 1 [[Qy9]]),(.own 1 [[(Qy8 p2)]]),(.own 1 [[I p3]]),(.own 1 [[I p4]])]) (σr':=[(Zfk x3),(.own 1 [[Qy9]]),(.own 1 [[(Qy8 p2)]]),(.own 1 [[I p3]]),(.own 1 [[I p4]])]) (res':=(.tup [])) [0,1,2,3,4] rfl Zg2 (Qjw N p0 ((p0:Nat):Int) p1 p2 p3 p4 _ hf2) rfl (Qbv (rnc (Qc7 rfl) (rnc (.plain _ nll) (rnc (Qbp rn0 (rnc (Qbo rfl) (rnc (Qbo rfl) rn0))) rn0)))) (slc (Qbf Qae) (slc (Qar (rnc (Qbp rn0 (rnc (Qbo rfl) (rnc (Qbo rfl) rn0))) rn0)) (slc (Qar (rnc (pld Qae) rn0)) (slc (Qar (rnc (.plain _ nll) rn0)) (slc (Qar (rnc (.plain _ nll) rn0)) Qat))))) (slc (Qbf Qae) (slc (Qar (rnc (Qbp rn0 (rnc (Qbr rfl) (rnc (Qbr rfl) rn0))) rn0)) (slc (Qar (rnc (pld Qae) rn0)) (slc (Qar (rnc (.plain _ nll) rn0)) (slc (Qar (rnc (.plain _ nll) rn0)) Qat))))) (.plain _ (NLt.tup _ nl0)) rfl rfl rfl,tv⟩ ?_
  obtain rfl:=osi h
  exact ⟨_,(mto (n:=9) (l':=[]) (own':=[(Zfk x3),(.own 1 [[Qy9]]),(.own 1 [[(Qy8 p2)]]),(.own 1 [[I p3]]),(.own 1 [[I p4]])]) [] [0,1,2,3,4] [(Zfk x3),(.own 1 [[Qy9]]),(.own 1 [[(Qy8 p2)]]),(.own 1 [[I p3]]),(.own 1 [[I p4]])] hφ0 pn (qc (spr Qae) (qb (lc (.rn (Qbp rn0 (rnc (rqr rfl) (rnc (rqr rfl) rn0)))) ln) (qb (lc (rnd Qae) ln) (qb (lc rwl ln) (qb (lc rwl ln) qn)))))),Qdf (vs:=[]) tv rfl (NLt.tup _ nl0) (by kernel_rfl) (Qao (Qci Qae _) (Qao (Qbi (nlc (NLt.fn _ _ _ nl0 (nlc (NLt.ref _ _ _ _ (by decide)) (nlc (NLt.ref _ _ _ _ (by decide)) nl0))) nl0)) (Qao (Qbi (nlc (NLt.of0 (nld Qae _)) nl0)) (Qao (Qbi (nlc (NLt.of0 nll) nl0)) (Qao (Qbi (nlc (NLt.of0 nll) nl0)) Qby)))))⟩
def Qcn (N:Nat) (p0:(List Int)) (k4:(List Int)→Option (List Int)):Nat→Int→(List Int)→Option (List Int)
  | 0,_,_=>none
  | n13+1,y9,y10=>
    bif (decide (y9<(p0.length:Int))) then
     chk (decide ((y10.length+([y9]).length) * 8≤140737488355328))<|
     Qcn N p0 k4 n13 (w64 (y9+1)) (y10++([y9]))
    else
     k4 (y10)
def Qfn (N:Nat) (p0:(List Int)) (p1:Int) (p2:Int):Option (List Int):=
  Qbb (fun y3=>
    chk (!y3.isEmpty)<|
    (Qcc N y3.length y3 p0 p1 p2).bind fun x7=>
    chk (decide (y3.length≤x7.length))<|
    some (x7.take y3.length)) fun k4:(List Int)→Option (List Int)=>
  Qcn N p0 k4 N 0 ([]:List Int)
def Qq0 (p0:(List Int)):AV:=.dat 1 ((p0:List Int).map Qal)
def Qr8:AV:=.fn (.func 159) [] [(.ref 0 1 (0) 0),(.ref 1 1 (0) 0)]
def Q45:AV:=.fn (.func 163) [] [(.ref 3 1 (0) 0),(.ref 2 1 (0) 0)]
def Q44 (x7:(List Int)) (y3:(List Int)):AV:=.dat 1 ((x7.take y3.length:List Int).map Qal)
def Zo4:Slot:=.gro 1 ((([]:List Int):List Int).map Qal)
theorem Qm4 (N:Nat) (p0:(List Int)) (p1:Int) (p2:Int) (r:(List Int)) (h:Qfn N p0 p1 p2=some r):Spec Tryz.prog 158 [(Qq0 p0),Qr8] [(.own 1 [[(I (p1))]]),(.own 1 [[(I (p2))]])] (.dat 1 ((r:List Int).map Qal)) [(.own 1 [[(I (p1))]]),(.own 1 [[(I (p2))]])]:=by
  refine Qah Tryz.func158 rfl 2 (nle rfl) (fun X φ0 w0 hφ0 hd0=>?_)
  unfold Qfn at h
  refine Qb0<|wxz<|wxz ?_
  obtain ⟨k4,hk_k4,h⟩:=jko h
  refine wjn (τ:=(List Int)) (fun t=>k4 t=some r) (fun y3=>⟨mk 21 [(2,.ref 2 1 0 0),(3,.ref 3 1 0 0),(5,(.gro 4 3 1 (y3.length)))],[(.own 1 [[I p1]]),(.own 1 [[I p2]]),(.own 1 [[(Qq0 p0)]]),(.own 1 [[Qr8]]),(.gro 1 ((y3:List Int).map Qal))]⟩) (fun y3 h=>?_) ?_
  ·subst hk_k4
   obtain ⟨hz5,h⟩:=cko h
   obtain ⟨x7,hf6,h⟩:=bno h
   refine wx tbk [(1,rp [(.tmp 3,.ref 3 1 0 0),(.tmp 2,.ref 2 1 0 0)] Q45),(2,⟨[fu 162,(.tmp 17,(.gro 4 3 1 (y3.length))),(.tmp 18,Q45)],[(4,(.gro 1 ((y3:List Int).map Qal))),(3,.own 1 [[Qr8]]),(2,(.own 1 [[(Qq0 p0)]])),(0,.own 1 [[I p1]]),(1,.own 1 [[I p2]])],(.tup []),[(4,(.own 1 ((x7:List Int).map Qal))),(3,.own 1 [[Qr8]]),(2,(.own 1 [[(Qq0 p0)]])),(0,.own 1 [[I p1]]),(1,.own 1 [[I p2]])],false⟩)] ⟨Qf7 (fs:=[]) (cs:=[.ref 3 1 0 0,.ref 2 1 0 0]) rfl rfl rfl rfl,Q32 (bl':=[(4,(.own 1 ((y3:List Int).map Qal))),(3,.own 1 [[Qr8]]),(2,(.own 1 [[(Qq0 p0)]])),(0,.own 1 [[I p1]]),(1,.own 1 [[I p2]])]) ⟨rfl,SLess.gro (Qms hz5),rfl,SLess.rfl,rfl,SLess.rfl,rfl,SLess.rfl,rfl,SLess.rfl,tv⟩ (awk (rd':=[fu 162,(.tmp 17,(.own 4 1 (0) (y3.length))),(.tmp 18,Q45)]) ⟨rfl,lrf,rfl,Less.gro,rfl,lrf,tv⟩ (Qav (first:=[]) (cap:=[]) (vs:=[(.own 4 1 (0) (y3.length)),Q45]) (σr:=[(.own 1 ((y3:List Int).map Qal)),(.own 1 [[Qr8]]),(.own 1 [[(Qq0 p0)]]),(.own 1 [[I p1]]),(.own 1 [[I p2]])]) (σr':=[(.own 1 ((x7:List Int).map Qal)),(.own 1 [[Qr8]]),(.own 1 [[(Qq0 p0)]]),(.own 1 [[I p1]]),(.own 1 [[I p2]])]) (res':=(.tup [])) [4,3,2,0,1] rfl Zg4 (Qia N y3.length y3 p0 p1 p2 _ hf6) rfl (Qbv (rnc (Qc7 rfl) (rnc (Qbp rn0 (rnc (Qbo rfl) (rnc (Qbo rfl) rn0))) rn0))) (slc (Qbf Qae) (slc (Qar (rnc (Qbp rn0 (rnc (Qbo rfl) (rnc (Qbo rfl) rn0))) rn0)) (slc (Qar (rnc (pld Qae) rn0)) (slc (Qar (rnc (.plain _ nll) rn0)) (slc (Qar (rnc (.plain _ nll) rn0)) Qat))))) (slc (Qbf Qae) (slc (Qar (rnc (Qbp rn0 (rnc (Qbr rfl) (rnc (Qbr rfl) rn0))) rn0)) (slc (Qar (rnc (pld Qae) rn0)) (slc (Qar (rnc (.plain _ nll) rn0)) (slc (Qar (rnc (.plain _ nll) rn0)) Qat))))) (.plain _ (NLt.tup _ nl0)) rfl rfl rfl)),tv⟩<|wxz ?_
   obtain ⟨hz8,h⟩:=cko h
   refine wmr (Zgp (n:=21) (l':=[(4,(.own 4 1 (0) (y3.length)))]) [(4,(.gro 4 3 1 (y3.length)))] (by kernel_rfl) (by kernel_rfl) ⟨rfl,Less.gro,tv⟩) ?_
   refine wmr (Zc6 (n:=21) (l':=[(4,(Q44 x7 y3))]) 4 [(4,(.own 4 1 (0) (y3.length)))] (by kernel_rfl) (by kernel_rfl) (by kernel_rfl) ⟨rfl,(Qrk hz8),tv⟩ rfl) ?_
   refine wmr (mto (n:=21) (l':=[(4,(Q44 x7 y3))]) (own':=[(.own 1 [[I p1]]),(.own 1 [[I p2]])]) [(4,(Q44 x7 y3))] [0,1] [(.own 1 [[I p1]]),(.own 1 [[I p2]])] hφ0 (pc (rnd Qae) pn) (qb (lc rwl ln) (qb (lc rwl ln) qn)))<|Qaf ?_
   obtain rfl:=osi h
   exact ⟨_,Mor.rfl,Qdf (vs:=[(Q44 x7 y3)]) ⟨rot,tv⟩ rfl (NLt.of0 (nld Qae _)) (by kernel_rfl) (Qao (Qbi (nlc (NLt.of0 nll) nl0)) (Qao (Qbi (nlc (NLt.of0 nll) nl0)) Qby))⟩
  ·skip
   refine wx tbk [(1,rp [(.tmp 7,(Qq0 p0))] (I ((p0.length:Int))))] ⟨alm (c:=Qal) (l:=p0) (aln rfl Tryz.underlying27 rfl),tv⟩<|Qaj ?_
   refine wmr (Mor.trans (Zgo 4 3 1 5 (by kernel_rfl) (by kernel_rfl)) (mto (n:=21) (l':=[(2,.ref 2 1 0 0),(3,.ref 3 1 0 0),(5,(.gro 4 3 1 (([]:List Int).length))),(8,(I ((p0.length:Int)))),(9,I 0)]) (own':=[(.own 1 [[I p1]]),(.own 1 [[I p2]]),(.own 1 [[(Qq0 p0)]]),(.own 1 [[Qr8]]),Zo4]) [(2,.ref 2 1 0 0),(3,.ref 3 1 0 0),(5,(.gro 4 3 1 (([]:List Int).length))),(8,(I ((p0.length:Int)))),(9,I 0)] [0,1,2,3,4] [(.own 1 [[I p1]]),(.own 1 [[I p2]]),(.own 1 [[(Qq0 p0)]]),(.own 1 [[Qr8]]),Zo4] hφ0 (prr (prr (pc (.rn (Q28 rfl)) (pw (pw pn))))) (qb (lc rwl ln) (qb (lc rwl ln) (qb (lc (rnd Qae) ln) (qb (lc (.rn (Qbp rn0 (rnc (rqr rfl) (rnc (rqr rfl) rn0)))) ln) (qc (Qx0 Qae) qn))))))) ?_
   refine Qbt (τ:=Int×(List Int)) (fun n t=>Qcn N p0 k4 n t.1 t.2=some r) (fun ⟨y9,y10⟩=>⟨mk 21 [(2,.ref 2 1 0 0),(3,.ref 3 1 0 0),(5,(.gro 4 3 1 (y10.length))),(8,(I ((p0.length:Int)))),(9,I y9)],[(.own 1 [[I p1]]),(.own 1 [[I p2]]),(.own 1 [[(Qq0 p0)]]),(.own 1 [[Qr8]]),(.gro 1 ((y10:List Int).map Qal))]⟩) (fun t h=>by rw [Qcn] at h; cases h) (fun n13 ih t h=>?_) N (0,([]:List Int)) h
   obtain ⟨y9,y10⟩:=t
   rw [Qcn] at h
   skip
   refine wxz<|wsq ?_
   refine bfe h (fun hc14 h=>?_) fun hc14 h=>?_
   ·refine wft hc14<|Qan<|thn<|wsq<|Qaj<|wxz ?_
    obtain ⟨ha15,h⟩:=cko h
    refine wx1 tbk [(2,rp [(.tmp 13,I y9)] (.dat 1 (([y9]:List Int).map Qal))),(3,⟨[(.tmp 12,(.gro 4 3 1 (y10.length))),(.tmp 14,(.dat 1 (([y9]:List Int).map Qal)))],[(4,(.gro 1 ((y10:List Int).map Qal))),(5,.unused)],(.gro 5 3 1 ((y10++([y9])).length)),[(4,.dead),(5,(.gro 1 ((y10++([y9]):List Int).map Qal)))],false⟩)] ?_ ?_
    ·exact ⟨Qbe (vs:=[I y9]) rfl Tryz.underlying27 ti3 tz3 rfl (by decide) rfl (by decide) (by rfl) (by rfl) (by rfl) rfl,Q39 (c:=Qal) (a:=y10) (b:=[y9]) rfl Tryz.underlying27 te3 rfl (Qms rfl) (by rfl) ha15 (by decide),tv⟩
    exact bln<|thn<|wxz1<|thn<|arm (mto (n:=21) [(2,.ref 2 1 0 0),(3,.ref 3 1 0 0),(5,(.gro 5 3 1 ((y10++([y9])).length))),(8,(I ((p0.length:Int)))),(9,(I (w64 (y9+1))))] [0,1,2,3,5] [(.own 1 [[I p1]]),(.own 1 [[I p2]]),(.own 1 [[(Qq0 p0)]]),(.own 1 [[Qr8]]),(.gro 1 ((y10++([y9]):List Int).map Qal))] hφ0 (prr (prr (pc (.rn (Q28 rfl)) (pw (pw pn))))) (qb (lc rwl ln) (qb (lc rwl ln) (qb (lc (rnd Qae) ln) (qb (lc (.rn (Qbp rn0 (rnc (rqr rfl) (rnc (rqr rfl) rn0)))) ln) (qc (Qx0 Qae) qn)))))) (ih (w64 (y9+1),y10++([y9])) h)
   ·exact wfn hc14<|Qbd<|Qax<|Qax<|Qbc rfl<|thn<|⟨(y10),h,(mto (n:=21) [(2,.ref 2 1 0 0),(3,.ref 3 1 0 0),(5,(.gro 4 3 1 (y10.length)))] [0,1,2,3,4] [(.own 1 [[I p1]]),(.own 1 [[I p2]]),(.own 1 [[(Qq0 p0)]]),(.own 1 [[Qr8]]),(.gro 1 ((y10:List Int).map Qal))] hφ0 (prr (prr (pc (.rn (Q28 rfl)) pn))) (qb (lc rwl ln) (qb (lc rwl ln) (qb (lc (rnd Qae) ln) (qb (lc (.rn (Qbp rn0 (rnc (rqr rfl) (rnc (rqr rfl) rn0)))) ln) (qc (Qx0 Qae) qn))))))⟩
def Qdx (N:Nat) (p1:(List Int)) (y6:Int) (k10:(List Int)→Option (List Int)) (x13:(List Int)):Nat→Int→(List Int)→Option (List Int)
  | 0,_,_=>none
  | n19+1,y15,y16=>
    bif (decide (y15<(((x13).take (y6.toNat - 0)).length:Int))) then
     (getI ((x13).take (y6.toNat - 0)) y15).bind fun x21=>
     chk (decide (0≤x21)&&decide (x21.toNat<(p1.length:Int).toNat))<|
     (y16[x21.toNat]?).bind fun x26=>
     chk (decide (0≤x21)&&decide (x21.toNat<(p1.length:Int).toNat))<|
     (y16[x21.toNat]?).bind fun _=>
     Qdx N p1 y6 k10 x13 n19 (w64 (y15+1)) (y16.set x21.toNat (w64 (x26+1)))
    else
     k10 (y16)
def Qdw (N:Nat) (p0:Int) (p1:(List Int)) (y3:Int) (k8:Int×(List Int)→Option (List Int)):Nat→Int→Int→(List Int)→Option (List Int)
  | 0,_,_,_=>none
  | n37+1,y31,y32,y33=>
    bif (decide (y32<(p1.length:Int))) then
     (getI p1 y32).bind fun x39=>
     chk (y3 != 0)<|
     chk (decide (0≤y32)&&decide (y32.toNat<(p1.length:Int).toNat))<|
     (y33[y32.toNat]?).bind fun _=>
     chk (decide (0≤y32)&&decide (y32.toNat<(p1.length:Int).toNat))<|
     ((y33.set y32.toNat (w64 ((w64 (p0 * x39)).tdiv y3)))[y32.toNat]?).bind fun x48=>
     Qdw N p0 p1 y3 k8 n37 (w64 (y31 - x48)) (w64 (y32+1)) (y33.set y32.toNat (w64 ((w64 (p0 * x39)).tdiv y3)))
    else
     k8 (y31,y33)
def Qdv (N:Nat) (p1:(List Int)) (k4:Int→Option (List Int)):Nat→Int→Int→Option (List Int)
  | 0,_,_=>none
  | n54+1,y50,y51=>
    bif (decide (y50<(p1.length:Int))) then
     (getI p1 y50).bind fun x56=>
     Qdv N p1 k4 n54 (w64 (y50+1)) (w64 (y51+x56))
    else
     k4 (y51)
def Qip (N:Nat) (p0:Int) (p1:(List Int)):Option (List Int):=
  Qbb (fun y3=>
    chk (decide (0≤(p1.length:Int))&&decide (8 * (p1.length:Int)≤281474976710656)&&decide ((p1.length:Int)≤9223372036854775807))<|
    Qbb (fun ⟨y6,y7⟩=>
      Qbb (fun y9=>
        chk (decide ((p1.length:Int).toNat≤y9.length))<|
        some (y9.take ((p1.length:Int).toNat))) fun k10:(List Int)→Option (List Int)=>
      (Qfn N p1 p0 y3).bind fun x13=>
      chk (decide (0≤0)&&decide (0≤y6)&&decide (y6≤(x13.length:Int)))<|
      Qdx N p1 y6 k10 x13 N 0 y7) fun k8:Int×(List Int)→Option (List Int)=>
    Qdw N p0 p1 y3 k8 N p0 0 (List.replicate (p1.length:Int).toNat 0)) fun k4:Int→Option (List Int)=>
  Qdv N p1 k4 N 0 0
def Qje (p1:(List Int)):AV:=.dat 1 ((p1:List Int).map Qal)
def Zo5 (p1:(List Int)):Slot:=.own 1 ((List.replicate (p1.length:Int).toNat 0:List Int).map Qal)
def Zas (y7:(List Int)):Slot:=.own 1 ((y7:List Int).map Qal)
def Q48 (y9:(List Int)) (p1:(List Int)):AV:=.dat 1 ((y9.take ((p1.length:Int).toNat):List Int).map Qal)
def Zat:AV:=.fn (.func 159) [] [(.ref 0 1 (0) 0),(.ref 1 1 (0) 0)]
def Zar (x13:(List Int)):AV:=.dat 1 ((x13:List Int).map Qal)
def Qsv (x13:(List Int)) (y6:Int):AV:=.dat 1 (((x13).take (y6.toNat - 0):List Int).map Qal)
def Qvm (y16:(List Int)):Slot:=.own 1 ((y16:List Int).map Qal)
def Q47 (y33:(List Int)):Slot:=.own 1 ((y33:List Int).map Qal)
def Q46 (y33:(List Int)) (y32:Int) (p0:Int) (x39:Int) (y3:Int):Slot:=.own 1 ((y33.set y32.toNat (w64 ((w64 (p0 * x39)).tdiv y3)):List Int).map Qal)
theorem Qsc (N:Nat) (p0:Int) (p1:(List Int)) (r:(List Int)) (h:Qip N p0 p1=some r):Spec Tryz.prog 153 [(I p0),(.dat 1 (p1.map Qal))] [] (.dat 1 ((r:List Int).map Qal)) []:=by
  refine Qah Tryz.func153 rfl 0 (nle rfl) (fun X φ0 w0 hφ0 hd0=>?_)
  unfold Qip at h
  refine Qb0<|wxz<|wxz ?_
  obtain ⟨k4,hk_k4,h⟩:=jko h
  refine wjn (τ:=Int) (fun t=>k4 t=some r) (fun y3=>⟨mk 68 [(1,(Qje p1)),(2,.ref 0 1 0 0),(5,.ref 1 1 0 0)],[(.own 1 [[I p0]]),(.own 1 [[I y3]])]⟩) (fun y3 h=>?_) ?_
  ·subst hk_k4
   obtain ⟨hm5,h⟩:=cko h
   refine wxd tbk [(1,rp [(.tmp 24,(Qje p1))] (I ((p1.length:Int)))),(2,⟨[(.tmp 25,(I ((p1.length:Int)))),(.tmp 25,(I ((p1.length:Int))))],[(2,.unused)],(.own 2 1 (0) ((p1.length:Int).toNat)),[(2,(Zo5 p1))],false⟩)] ⟨alm (c:=Qal) (l:=p1) (aln rfl Tryz.underlying27 rfl),Qmg rfl Tryz.underlying27 te3 tz3 rfl (Q1q hm5) rfl (Q1p hm5) (Q1o hm5) (Qx4 Qal rfl),tv⟩ ?_
   obtain ⟨k8,hk_k8,h⟩:=jko h
   refine wjn (τ:=Int×(List Int)) (fun t=>k8 t=some r) (fun ⟨y6,y7⟩=>⟨mk 68 [(1,(Qje p1)),(2,.ref 0 1 0 0),(5,.ref 1 1 0 0),(8,(.own 2 1 (0) ((p1.length:Int).toNat))),(9,I y6)],[(.own 1 [[I p0]]),(.own 1 [[I y3]]),(Zas y7)]⟩) (fun t h=>?_) ?_
   ·subst hk_k8
    obtain ⟨y6,y7⟩:=t
    obtain ⟨k10,hk_k10,h⟩:=jko h
    refine wjn (τ:=(List Int)) (fun t=>k10 t=some r) (fun y9=>⟨mk 68 [(8,(.own 0 1 (0) ((p1.length:Int).toNat)))],[(.own 1 ((y9:List Int).map Qal))]⟩) (fun y9 h=>?_) ?_
    ·subst hk_k10
     refine wxz ?_
     obtain ⟨hz11,h⟩:=cko h
     refine wmr (Zc6 (n:=68) (l':=[(4,(Q48 y9 p1))]) 0 [(4,(.own 0 1 (0) ((p1.length:Int).toNat)))] (by kernel_rfl) (by kernel_rfl) (by kernel_rfl) ⟨rfl,(Qrk hz11),tv⟩ rfl) ?_
     refine wmr (mto (n:=68) (l':=[(4,(Q48 y9 p1))]) (own':=[]) [(4,(Q48 y9 p1))] [] [] hφ0 (pc (rnd Qae) pn) qn)<|Qaf ?_
     obtain rfl:=osi h
     exact ⟨_,Mor.rfl,Qdf (vs:=[(Q48 y9 p1)]) ⟨rot,tv⟩ rfl (nld Qae _) (by kernel_rfl) Qby⟩
    ·skip
     obtain ⟨x13,hf12,h⟩:=bno h
     obtain ⟨hs14,h⟩:=cko h
     refine wx tbk [(1,rp [(.tmp 2,.ref 0 1 0 0),(.tmp 5,.ref 1 1 0 0)] Zat),(2,⟨[fu 158,(.tmp 50,(Qje p1)),(.tmp 51,Zat)],[(0,.own 1 [[I p0]]),(1,.own 1 [[I y3]])],(Zar x13),[(0,.own 1 [[I p0]]),(1,.own 1 [[I y3]])],false⟩),(4,rp [(.tmp 52,(Zar x13)),(.tmp 53,I y6)] (Qsv x13 y6)),(5,rp [(.tmp 54,(Qsv x13 y6))] (I ((((x13).take (y6.toNat - 0)).length:Int))))] ⟨Qf7 (fs:=[]) (cs:=[.ref 0 1 0 0,.ref 1 1 0 0]) rfl rfl rfl rfl,Qav (first:=[]) (cap:=[]) (vs:=[(Qje p1),Zat]) (σr:=[(.own 1 [[I p0]]),(.own 1 [[I y3]])]) (σr':=[(.own 1 [[I p0]]),(.own 1 [[I y3]])]) (res':=(Zar x13)) [0,1] rfl Zg6 (Qm4 N p1 p0 y3 _ hf12) rfl (Qbv (rnc (pld Qae) (rnc (Qbp rn0 (rnc (Qbo rfl) (rnc (Qbo rfl) rn0))) rn0))) (slc (Qar (rnc (.plain _ nll) rn0)) (slc (Qar (rnc (.plain _ nll) rn0)) Qat)) (slc (Qar (rnc (.plain _ nll) rn0)) (slc (Qar (rnc (.plain _ nll) rn0)) Qat)) (pld Qae) rfl rfl rfl,Qnx (k:=.i64) (k':=.i64) (lo:=none) (hi:=some (.tmp 53)) (l:=0) (hh:=y6) rfl Tryz.underlying27 ti3 rfl (fun _=>rfl) (fun e=>nomatch e) (Q1q hs14) (Q1p hs14) (Zoe (Qal) hs14) (Zrc Qal),alm (c:=Qal) (l:=(x13).take (y6.toNat - 0)) (aln rfl Tryz.underlying27 rfl),tv⟩<|Qaj ?_
     refine wmr (mto (n:=68) (l':=[(8,(.own 0 1 (0) ((p1.length:Int).toNat))),(54,(Qsv x13 y6)),(55,(I ((((x13).take (y6.toNat - 0)).length:Int)))),(56,I 0)]) (own':=[(Zas y7)]) [(8,(.own 2 1 (0) ((p1.length:Int).toNat))),(54,(Qsv x13 y6)),(55,(I ((((x13).take (y6.toNat - 0)).length:Int)))),(56,I 0)] [2] [(Zas y7)] hφ0 (pc (.rn (Qa3 rfl)) (pc (rnd Qae) (pw (pw pn)))) (qc (spr Qae) qn)) ?_
     refine Qbt (τ:=Int×(List Int)) (fun n t=>Qdx N p1 y6 k10 x13 n t.1 t.2=some r) (fun ⟨y15,y16⟩=>⟨mk 68 [(8,(.own 0 1 (0) ((p1.length:Int).toNat))),(54,(Qsv x13 y6)),(55,(I ((((x13).take (y6.toNat - 0)).length:Int)))),(56,I y15)],[(Qvm y16)]⟩) (fun t h=>by rw [Qdx] at h; cases h) (fun n19 ih t h=>?_) N (0,y7) h
     obtain ⟨y15,y16⟩:=t
     rw [Qdx] at h
     skip
     refine wxz<|wsq ?_
     refine bfe h (fun hc20 h=>?_) fun hc20 h=>?_
     ·refine wft hc20<|Qan<|thn<|wsq<|Qaj ?_
      obtain ⟨x21,hg22,h⟩:=bno h
      obtain ⟨hi23,hj24⟩:=gsm hg22
      refine wx tbk [(0,rp [(.tmp 54,(Qsv x13 y6)),(.tmp 56,I y15)] (.dptr (Qal (x21)) 0))] ⟨aid rfl Tryz.underlying27 ti3 rfl rfl hi23 (mgt Qal hj24) rfl,tv⟩ ?_
      obtain ⟨hi25,h⟩:=cko h
      obtain ⟨hi25a,hi25b⟩:=Qd0 hi25
      obtain ⟨x26,hg27,h⟩:=bno h
      obtain ⟨hi28,h⟩:=cko h
      obtain ⟨hi28a,hi28b⟩:=Qd0 hi28
      obtain ⟨x29,hg30,h⟩:=bno h
      refine wx1 tbk [(2,rb [(.tmp 60,(.own 0 1 (0) ((p1.length:Int).toNat))),(.tmp 61,I x21)] [(0,(Qvm y16))] (.ref 0 1 (x21.toNat) 0)),(3,rb [(.tmp 62,(.ref 0 1 (x21.toNat) 0))] [(0,(Qvm y16))] (I x26)),(5,rb [(.tmp 60,(.own 0 1 (0) ((p1.length:Int).toNat))),(.tmp 61,I x21)] [(0,(Qvm y16))] (.ref 0 1 (x21.toNat) 0)),(6,⟨[(.tmp 65,(.ref 0 1 (x21.toNat) 0)),(.tmp 64,(I (w64 (x26+1))))],[(0,(Qvm y16))],.any,[(0,(.own 1 ((y16.set x21.toNat (w64 (x26+1)):List Int).map Qal)))],false⟩)] ⟨aio rfl Tryz.underlying27 ti3 (odt hi25a) (odt hi25b) (Nat.zero_add _),ald rfl ti3 (by decide) (mgt Qal hg27) (nle rfl) rfl,aio rfl Tryz.underlying27 ti3 (odt hi28a) (odt hi28b) (Nat.zero_add _),ast rfl ti3 (by rfl) (mgt Qal hg30) (nle rfl) (Qgv Qal rfl),tv⟩<|bln<|thn<|wxz1<|thn ?_
      exact arm (mto (n:=68) [(8,(.own 0 1 (0) ((p1.length:Int).toNat))),(54,(Qsv x13 y6)),(55,(I ((((x13).take (y6.toNat - 0)).length:Int)))),(56,(I (w64 (y15+1))))] [0] [(.own 1 ((y16.set x21.toNat (w64 (x26+1)):List Int).map Qal))] hφ0 (pc (.rn (Qa3 rfl)) (pc (rnd Qae) (pw (pw pn)))) (qc (spr Qae) qn)) (ih (w64 (y15+1),y16.set x21.toNat (w64 (x26+1))) h)
     ·exact wfn hc20<|Qbd<|Qax<|Qax<|Qbc rfl<|thn<|⟨(y16),h,(mto (n:=68) [(8,(.own 0 1 (0) ((p1.length:Int).toNat)))] [0] [(Qvm y16)] hφ0 (pc (.rn (Qa3 rfl)) pn) (qc (spr Qae) qn))⟩
   ·skip
    refine wx tbk [(1,rp [(.tmp 28,(Qje p1))] (I ((p1.length:Int))))] ⟨alm (c:=Qal) (l:=p1) (aln rfl Tryz.underlying27 rfl),tv⟩<|Qaj ?_
    refine wmr (mto (n:=68) (l':=[(1,(Qje p1)),(2,.ref 0 1 0 0),(5,.ref 1 1 0 0),(8,(.own 2 1 (0) ((p1.length:Int).toNat))),(9,I p0),(28,(Qje p1)),(29,(I ((p1.length:Int)))),(30,I 0)]) (own':=[(.own 1 [[I p0]]),(.own 1 [[I y3]]),(.own 1 (((List.replicate (p1.length:Int).toNat 0):List Int).map Qal))]) [(1,(Qje p1)),(2,.ref 0 1 0 0),(5,.ref 1 1 0 0),(8,(.own 2 1 (0) ((p1.length:Int).toNat))),(9,I p0),(28,(Qje p1)),(29,(I ((p1.length:Int)))),(30,I 0)] [0,1,2] [(.own 1 [[I p0]]),(.own 1 [[I y3]]),(Zo5 p1)] hφ0 (pc (rnd Qae) (prr (prr (pc (.rn (Qa3 rfl)) (pw (pc (rnd Qae) (pw (pw pn)))))))) (qb (lc rwl ln) (qb (lc rwl ln) (qc (spr Qae) qn)))) ?_
    refine Qbt (τ:=Int×Int×(List Int)) (fun n t=>Qdw N p0 p1 y3 k8 n t.1 t.2.1 t.2.2=some r) (fun ⟨y31,y32,y33⟩=>⟨mk 68 [(1,(Qje p1)),(2,.ref 0 1 0 0),(5,.ref 1 1 0 0),(8,(.own 2 1 (0) ((p1.length:Int).toNat))),(9,I y31),(28,(Qje p1)),(29,(I ((p1.length:Int)))),(30,I y32)],[(.own 1 [[I p0]]),(.own 1 [[I y3]]),(Q47 y33)]⟩) (fun t h=>by rw [Qdw] at h; cases h) (fun n37 ih t h=>?_) N (p0,0,List.replicate (p1.length:Int).toNat 0) h
    obtain ⟨y31,y32,y33⟩:=t
    rw [Qdw] at h
    skip
    refine wxz<|wsq ?_
    refine bfe h (fun hc38 h=>?_) fun hc38 h=>?_
    ·refine wft hc38<|Qan<|thn<|wsq<|Qaj ?_
     obtain ⟨x39,hg40,h⟩:=bno h
     obtain ⟨hi41,hj42⟩:=gsm hg40
     refine wx tbk [(1,rp [(.tmp 28,(Qje p1)),(.tmp 30,I y32)] (.dptr (Qal (x39)) 0))] ⟨aid rfl Tryz.underlying27 ti3 rfl rfl hi41 (mgt Qal hj42) rfl,tv⟩ ?_
     obtain ⟨hz43,h⟩:=cko h
     obtain ⟨hi44,h⟩:=cko h
     obtain ⟨hi44a,hi44b⟩:=Qd0 hi44
     obtain ⟨x45,hg46,h⟩:=bno h
     refine wx tbk [(6,rp [(.tmp 39,(I (w64 (p0 * x39)))),(.tmp 40,I y3)] (I (w64 ((w64 (p0 * x39)).tdiv y3)))),(7,rb [(.tmp 35,(.own 2 1 (0) ((p1.length:Int).toNat))),(.tmp 36,I y32)] [(2,(Q47 y33))] (.ref 2 1 (y32.toNat) 0)),(8,⟨[(.tmp 42,(.ref 2 1 (y32.toNat) 0)),(.tmp 41,(I (w64 ((w64 (p0 * x39)).tdiv y3))))],[(2,(Q47 y33))],.any,[(2,(Q46 y33 y32 p0 x39 y3))],false⟩)] ⟨Qkd rfl (Qlf hz43),aio rfl Tryz.underlying27 ti3 (odt hi44a) (odt hi44b) (Nat.zero_add _),ast rfl ti3 (by rfl) (mgt Qal hg46) (nle rfl) (Qgv Qal rfl),tv⟩ ?_
     obtain ⟨hi47,h⟩:=cko h
     obtain ⟨hi47a,hi47b⟩:=Qd0 hi47
     obtain ⟨x48,hg49,h⟩:=bno h
     refine wx1 tbk [(3,rb [(.tmp 44,(.own 2 1 (0) ((p1.length:Int).toNat))),(.tmp 45,I y32)] [(2,(Q46 y33 y32 p0 x39 y3))] (.ref 2 1 (y32.toNat) 0)),(4,rb [(.tmp 46,(.ref 2 1 (y32.toNat) 0))] [(2,(Q46 y33 y32 p0 x39 y3))] (I x48))] ⟨aio rfl Tryz.underlying27 ti3 (odt hi47a) (odt hi47b) (Nat.zero_add _),ald rfl ti3 (by decide) (mgt Qal hg49) (nle rfl) rfl,tv⟩<|bln<|thn<|wxz1<|thn ?_
     exact arm (mto (n:=68) [(1,(Qje p1)),(2,.ref 0 1 0 0),(5,.ref 1 1 0 0),(8,(.own 2 1 (0) ((p1.length:Int).toNat))),(9,(I (w64 (y31 - x48)))),(28,(Qje p1)),(29,(I ((p1.length:Int)))),(30,(I (w64 (y32+1))))] [0,1,2] [(.own 1 [[I p0]]),(.own 1 [[I y3]]),(Q46 y33 y32 p0 x39 y3)] hφ0 (pc (rnd Qae) (prr (prr (pc (.rn (Qa3 rfl)) (pw (pc (rnd Qae) (pw (pw pn)))))))) (qb (lc rwl ln) (qb (lc rwl ln) (qc (spr Qae) qn)))) (ih (w64 (y31 - x48),w64 (y32+1),y33.set y32.toNat (w64 ((w64 (p0 * x39)).tdiv y3))) h)
    ·exact wfn hc38<|Qbd<|Qax<|Qax<|Qbc rfl<|thn<|⟨(y31,y33),h,(mto (n:=68) [(1,(Qje p1)),(2,.ref 0 1 0 0),(5,.ref 1 1 0 0),(8,(.own 2 1 (0) ((p1.length:Int).toNat))),(9,I y31)] [0,1,2] [(.own 1 [[I p0]]),(.own 1 [[I y3]]),(Q47 y33)] hφ0 (pc (rnd Qae) (prr (prr (pc (.rn (Qa3 rfl)) (pw pn))))) (qb (lc rwl ln) (qb (lc rwl ln) (qc (spr Qae) qn))))⟩
  ·skip
   refine wx tbk [(1,rp [(.tmp 14,(Qje p1))] (I ((p1.length:Int))))] ⟨alm (c:=Qal) (l:=p1) (aln rfl Tryz.underlying27 rfl),tv⟩<|Qaj ?_
   refine wmr (mto (n:=68) (l':=[(1,(Qje p1)),(2,.ref 0 1 0 0),(5,.ref 1 1 0 0),(14,(Qje p1)),(15,(I ((p1.length:Int)))),(16,I 0)]) (own':=[(.own 1 [[I p0]]),(.own 1 [[I 0]])]) [(1,(Qje p1)),(2,.ref 0 1 0 0),(5,.ref 1 1 0 0),(14,(Qje p1)),(15,(I ((p1.length:Int)))),(16,I 0)] [0,1] [(.own 1 [[I p0]]),(.own 1 [[I 0]])] hφ0 (pc (rnd Qae) (prr (prr (pc (rnd Qae) (pw (pw pn)))))) (qb (lc rwl ln) (qb (lc rwl ln) qn))) ?_
   refine Qbt (τ:=Int×Int) (fun n t=>Qdv N p1 k4 n t.1 t.2=some r) (fun ⟨y50,y51⟩=>⟨mk 68 [(1,(Qje p1)),(2,.ref 0 1 0 0),(5,.ref 1 1 0 0),(14,(Qje p1)),(15,(I ((p1.length:Int)))),(16,I y50)],[(.own 1 [[I p0]]),(.own 1 [[I y51]])]⟩) (fun t h=>by rw [Qdv] at h; cases h) (fun n54 ih t h=>?_) N (0,0) h
   obtain ⟨y50,y51⟩:=t
   rw [Qdv] at h
   skip
   refine wxz<|wsq ?_
   refine bfe h (fun hc55 h=>?_) fun hc55 h=>?_
   ·refine wft hc55<|Qan<|thn<|wsq<|Qaj ?_
    obtain ⟨x56,hg57,h⟩:=bno h
    obtain ⟨hi58,hj59⟩:=gsm hg57
    exact wx tbk [(0,rp [(.tmp 14,(Qje p1)),(.tmp 16,I y50)] (.dptr (Qal (x56)) 0))] ⟨aid rfl Tryz.underlying27 ti3 rfl rfl hi58 (mgt Qal hj59) rfl,tv⟩<|wxz1<|bln<|thn<|wxz1<|thn<|arm (mto (n:=68) [(1,(Qje p1)),(2,.ref 0 1 0 0),(5,.ref 1 1 0 0),(14,(Qje p1)),(15,(I ((p1.length:Int)))),(16,(I (w64 (y50+1))))] [0,1] [(.own 1 [[I p0]]),(.own 1 [[(I (w64 (y51+x56)))]])] hφ0 (pc (rnd Qae) (prr (prr (pc (rnd Qae) (pw (pw pn)))))) (qb (lc rwl ln) (qb (lc rwl ln) qn))) (ih (w64 (y50+1),w64 (y51+x56)) h)
   ·exact wfn hc55<|Qbd<|Qax<|Qax<|Qbc rfl<|thn<|⟨(y51),h,(mto (n:=68) [(1,(Qje p1)),(2,.ref 0 1 0 0),(5,.ref 1 1 0 0)] [0,1] [(.own 1 [[I p0]]),(.own 1 [[I y51]])] hφ0 (pc (rnd Qae) (prr (prr pn))) (qb (lc rwl ln) (qb (lc rwl ln) qn)))⟩
def Qe8 (_N:Nat) (p0:Int) (p1:Int) (p2:Int) (_p3:Int) (_p4:Int) (_p5:Int):Option Int:=
  chk ((if p2>1 then p2 else 1) != 0)<|
  (some (w64 ((w64 (p0 * p1)).tdiv (if p2>1 then p2 else 1)))).bind fun x2=>
  some x2
theorem Qh9 (N:Nat) (p0:Int) (p1:Int) (p2:Int) (p3:Int) (p4:Int) (p5:Int) (r:Int) (h:Qe8 N p0 p1 p2 p3 p4 p5=some r):Spec Tryz.prog 154 [(I (p0)),(.dptr [(I (p1))] 0),(.dptr [(I (p2)),(I (p3)),(I (p4)),(I (p5))] 0)] [] (I (r)) []:=by
  refine Qah Tryz.func154 rfl 0 (nle rfl) (fun X φ0 w0 hφ0 hd0=>?_)
  unfold Qe8 at h
  refine wxz ?_
  obtain ⟨hz1,h⟩:=cko h
  obtain ⟨x2,hl3,h⟩:=bno h
  refine wx tbk [(5,rp [ci 1,(.tmp 9,I p2)] (I ((if p2>1 then p2 else 1)))),(6,rp [(.tmp 7,(I (w64 (p0 * p1)))),(.tmp 10,(I ((if p2>1 then p2 else 1))))] (I (w64 ((w64 (p0 * p1)).tdiv (if p2>1 then p2 else 1))))),(7,rp [(.tmp 11,(I (w64 ((w64 (p0 * p1)).tdiv (if p2>1 then p2 else 1)))))] (I x2))] ⟨Qmf rfl,Qkd rfl (Qlf hz1),Qhj hl3 (aas rfl),tv⟩<|Qaf ?_
  obtain rfl:=osi h
  exact fend ⟨[I x2],⟨rot,tv⟩,rfl⟩ nll
def Qcl (_N:Nat) (_p0:Int) (_p1:Int) (_p2:Int) (_p3:Int):Option Unit:=
  some ()
def Qy5 (p0:Int) (p1:Int) (p2:Int) (p3:Int):Slot:=.own 4 [[(I (p0)),(I (p1)),(I (p2)),(I (p3))]]
def Zk2:AV:=.agg [(.ref 0 4 (0) 0),(.ref 0 4 (0) 1),(.ref 0 4 (0) 2),(.ref 0 4 (0) 3)]
def Zk1:Slot:=.own 4 [[(.ref 0 4 (0) 0),(.ref 0 4 (0) 1),(.ref 0 4 (0) 2),(.ref 0 4 (0) 3)]]
theorem Qdh (N:Nat) (p0:Int) (p1:Int) (p2:Int) (p3:Int) (r:Unit) (h:Qcl N p0 p1 p2 p3=some r):Spec Tryz.prog 161 [(.ref 0 4 (0) 0)] [(Qy5 p0 p1 p2 p3)] Zk2 [(Qy5 p0 p1 p2 p3),Zk1]:=by
  refine Qah Tryz.func161 rfl 2 (nle rfl) (fun X φ0 w0 hφ0 hd0=>?_)
  unfold Qcl at h
  refine Qb0<|wxz ?_
  refine wxd tbk [(1,rb [(.tmp 3,.ref 0 4 0 0)] [(0,(Qy5 p0 p1 p2 p3))] (.ref 0 4 0 0)),(4,rb [(.tmp 6,.ref 0 4 0 0)] [(0,(Qy5 p0 p1 p2 p3))] (.ref 0 4 0 0)),(7,rb [(.tmp 9,.ref 0 4 0 0)] [(0,(Qy5 p0 p1 p2 p3))] (.ref 0 4 0 0)),(10,rb [(.tmp 12,.ref 0 4 0 0)] [(0,(Qy5 p0 p1 p2 p3))] (.ref 0 4 0 0)),(12,rp [(.tmp 5,.ref 0 4 0 0),(.tmp 8,.ref 0 4 0 1),(.tmp 11,.ref 0 4 0 2),(.tmp 14,.ref 0 4 0 3)] Zk2)] ⟨Qbh rfl,Qbh rfl,Qbh rfl,Qbh rfl,Qr3 (vs:=[.ref 0 4 0 0,.ref 0 4 0 1,.ref 0 4 0 2,.ref 0 4 0 3]) rfl Tryz.underlying235 Qu9 Zpm rfl (by rfl) rfl,tv⟩ ?_
  refine wmr (mto (n:=16) (l':=[(2,.ref 1 4 0 0)]) (own':=[(Qy5 p0 p1 p2 p3),Zk1]) [(2,.ref 1 4 0 0)] [0,1] [(Qy5 p0 p1 p2 p3),Zk1] hφ0 (prr pn) (qb (lcc (lcc ln)) (qb (lc (.rn (rqr rfl)) (lc (.rn (rqr rfl)) (lc (.rn (rqr rfl)) (lc (.rn (rqr rfl)) ln)))) qn)))<|Qaf ?_
  obtain rfl:=osi h
  exact ⟨_,Mor.rfl,Qdf (vs:=[Zk2]) ⟨Qbj (n:=1) (m:=4) (j:=0) (i:=0) (xs:=[[.ref 0 4 0 0,.ref 0 4 0 1,.ref 0 4 0 2,.ref 0 4 0 3]]) (by kernel_rfl) (by kernel_rfl) Zps (by decide) rfl (nle rfl) rfl,tv⟩ rfl (NLt.agg _ (nlc (NLt.ref _ _ _ _ (by decide)) (nlc (NLt.ref _ _ _ _ (by decide)) (nlc (NLt.ref _ _ _ _ (by decide)) (nlc (NLt.ref _ _ _ _ (by decide)) nl0))))) (by kernel_rfl) (Qao (Qbi (nlc (NLt.of0 nll) (nlc (NLt.of0 nll) (nlc (NLt.of0 nll) (nlc (NLt.of0 nll) nl0))))) (Qao (Qbi (nlc (NLt.ref _ _ _ _ (by decide)) (nlc (NLt.ref _ _ _ _ (by decide)) (nlc (NLt.ref _ _ _ _ (by decide)) (nlc (NLt.ref _ _ _ _ (by decide)) nl0))))) Qby))⟩
def Qjk (N:Nat) (p0:GStream) (p1:Int) (p2:Int) (p3:Int) (p4:Int):Option Unit:=
  (Qcl N p0.Mass p0.Heat p0.Silica p0.Gas).bind fun _=>
  (Qcl N p1 p2 p3 p4).bind fun _=>
  (Qcl N (w64 (p1+p0.Mass)) p2 p3 p4).bind fun _=>
  (Qcl N (w64 (p1+p0.Mass)) (w64 (p2+p0.Heat)) p3 p4).bind fun _=>
  (Qcl N (w64 (p1+p0.Mass)) (w64 (p2+p0.Heat)) (w64 (p3+p0.Silica)) p4).bind fun _=>
  some ()
def Q2b (p1:Int) (p2:Int) (p3:Int) (p4:Int):Slot:=.own 4 [[(I (p1)),(I (p2)),(I (p3)),(I (p4))]]
def Zao (p1:Int) (p0:GStream) (p2:Int) (p3:Int) (p4:Int):Slot:=.own 4 [[(I (w64 (p1+p0.Mass))),(I (w64 (p2+p0.Heat))),(I (w64 (p3+p0.Silica))),(I (w64 (p4+p0.Gas)))]]
def Qy7 (p0:GStream):Slot:=.own 4 [[(I (p0.Mass)),(I (p0.Heat)),(I (p0.Silica)),(I (p0.Gas))]]
def Q66:AV:=.agg [(.ref 1 4 (0) 0),(.ref 1 4 (0) 1),(.ref 1 4 (0) 2),(.ref 1 4 (0) 3)]
def Zo2:Slot:=.own 4 [[(.ref 1 4 (0) 0),(.ref 1 4 (0) 1),(.ref 1 4 (0) 2),(.ref 1 4 (0) 3)]]
def Qr6:AV:=.agg [(.ref 0 4 (0) 0),(.ref 0 4 (0) 1),(.ref 0 4 (0) 2),(.ref 0 4 (0) 3)]
def Qy6:Slot:=.own 4 [[(.ref 0 4 (0) 0),(.ref 0 4 (0) 1),(.ref 0 4 (0) 2),(.ref 0 4 (0) 3)]]
def Q65 (p1:Int) (p0:GStream) (p2:Int) (p3:Int) (p4:Int):Slot:=.own 4 [[(I (w64 (p1+p0.Mass))),(I (p2)),(I (p3)),(I (p4))]]
def Q64 (p1:Int) (p0:GStream) (p2:Int) (p3:Int) (p4:Int):Slot:=.own 4 [[(I (w64 (p1+p0.Mass))),(I (w64 (p2+p0.Heat))),(I (p3)),(I (p4))]]
def Q63 (p1:Int) (p0:GStream) (p2:Int) (p3:Int) (p4:Int):Slot:=.own 4 [[(I (w64 (p1+p0.Mass))),(I (w64 (p2+p0.Heat))),(I (w64 (p3+p0.Silica))),(I (p4))]]
theorem Qq5 (N:Nat) (p0:GStream) (p1:Int) (p2:Int) (p3:Int) (p4:Int) (r:Unit) (h:Qjk N p0 p1 p2 p3 p4=some r):Spec Tryz.prog 160 [(.agg [(I (p0.Mass)),(I (p0.Heat)),(I (p0.Silica)),(I (p0.Gas))]),(.ref 0 4 (0) 0)] [(Q2b p1 p2 p3 p4)] (.tup []) [(Zao p1 p0 p2 p3 p4)]:=by
  refine Qah Tryz.func160 rfl 1 (nle rfl) (fun X φ0 w0 hφ0 hd0=>?_)
  unfold Qjk at h
  refine Qb0<|wxz ?_
  obtain ⟨x2,hf1,h⟩:=bno h
  refine wx tbk [(0,⟨[fu 161,(.tmp 2,.ref 1 4 0 0)],[(1,(Qy7 p0)),(2,.unused)],Q66,[(1,(Qy7 p0)),(2,Zo2)],false⟩)] ⟨Qav (first:=[]) (cap:=[]) (vs:=[.ref 1 4 0 0]) (σr:=[(Qy7 p0)]) (σr':=[(Qy7 p0),Zo2]) (res':=Q66) [1,2] rfl Qqh (Qdh N p0.Mass p0.Heat p0.Silica p0.Gas _ hf1) rfl (Qbv (rnc (Qbo rfl) rn0)) (slc (Qar (rncc (rncc rn0))) Qat) (slc (Qar (rncc (rncc rn0))) (slc (Qar (rnc (Qbr rfl) (rnc (Qbr rfl) (rnc (Qbr rfl) (rnc (Qbr rfl) rn0))))) Qat)) (Qbv (rnc (Qbr rfl) (rnc (Qbr rfl) (rnc (Qbr rfl) (rnc (Qbr rfl) rn0))))) rfl rfl rfl,tv⟩<|Qaj<|Q6l 17<|Qwo<|wxz<|wsq<|wtr<|Qan<|thn<|wsq ?_
  refine Qaj<|wx tbk [(1,rp [(.tmp 5,Q66),(.tmp 6,I 0)] (.ref 1 4 0 0))] ⟨Qht rfl Tryz.underlying235 Qu9 (by decide) (by decide) (nle rfl) (by decide) rfl,tv⟩ ?_
  obtain ⟨x4,hf3,h⟩:=bno h
  refine wy1 tbk [(0,⟨[fu 161,(.tmp 1,.ref 0 4 0 0)],[(0,(Q2b p1 p2 p3 p4)),(3,.unused)],Qr6,[(0,(Q2b p1 p2 p3 p4)),(3,Qy6)],false⟩),(2,rp [(.tmp 10,Qr6),(.tmp 11,I 0)] (.ref 0 4 0 0)),(3,rb [(.tmp 12,.ref 0 4 0 0)] [(0,(Q2b p1 p2 p3 p4))] (.ref 0 4 0 0)),(6,rb [(.tmp 15,.ref 1 4 0 0)] [(1,(Qy7 p0))] (.ref 1 4 0 0)),(9,rb [(.tmp 12,.ref 0 4 0 0)] [(0,(Q2b p1 p2 p3 p4))] (.ref 0 4 0 0))] ⟨Qav (first:=[]) (cap:=[]) (vs:=[.ref 0 4 0 0]) (σr:=[(Q2b p1 p2 p3 p4)]) (σr':=[(Q2b p1 p2 p3 p4),Qy6]) (res':=Qr6) [0,3] rfl Qqh (Qdh N p1 p2 p3 p4 _ hf3) rfl (Qbv (rnc (Qbo rfl) rn0)) (slc (Qar (rncc (rncc rn0))) Qat) (slc (Qar (rncc (rncc rn0))) (slc (Qar (rnc (Qbr rfl) (rnc (Qbr rfl) (rnc (Qbr rfl) (rnc (Qbr rfl) rn0))))) Qat)) (Qbv (rnc (Qbr rfl) (rnc (Qbr rfl) (rnc (Qbr rfl) (rnc (Qbr rfl) rn0))))) rfl rfl rfl,Qht rfl Tryz.underlying235 Qu9 (by decide) (by decide) (nle rfl) (by decide) rfl,Qbh rfl,Qbh rfl,Qbh rfl,tv⟩<|bln<|thn<|wxz1<|thn<|Qwo<|wxz<|wsq<|wtr<|Qan ?_
  refine thn<|wsq<|Qaj ?_
  refine wx tbk [(1,rp [(.tmp 5,Q66),(.tmp 6,I 1)] (.ref 1 4 0 1))] ⟨Qht rfl Tryz.underlying235 Qu9 (by decide) (by decide) (nle rfl) (by decide) rfl,tv⟩ ?_
  obtain ⟨x6,hf5,h⟩:=bno h
  refine wy1 tbk [(0,⟨[fu 161,(.tmp 1,.ref 0 4 0 0)],[(0,(Q65 p1 p0 p2 p3 p4)),(4,.unused)],Qr6,[(0,(Q65 p1 p0 p2 p3 p4)),(4,Qy6)],false⟩),(2,rp [(.tmp 10,Qr6),(.tmp 11,I 1)] (.ref 0 4 0 1)),(3,rb [(.tmp 12,.ref 0 4 0 1)] [(0,(Q65 p1 p0 p2 p3 p4))] (.ref 0 4 0 1)),(6,rb [(.tmp 15,.ref 1 4 0 1)] [(1,(Qy7 p0))] (.ref 1 4 0 1)),(9,rb [(.tmp 12,.ref 0 4 0 1)] [(0,(Q65 p1 p0 p2 p3 p4))] (.ref 0 4 0 1))] ⟨Qav (first:=[]) (cap:=[]) (vs:=[.ref 0 4 0 0]) (σr:=[(Q65 p1 p0 p2 p3 p4)]) (σr':=[(Q65 p1 p0 p2 p3 p4),Qy6]) (res':=Qr6) [0,4] rfl Qqh (Qdh N (w64 (p1+p0.Mass)) p2 p3 p4 _ hf5) rfl (Qbv (rnc (Qbo rfl) rn0)) (slc (Qar (rncc (rncc rn0))) Qat) (slc (Qar (rncc (rncc rn0))) (slc (Qar (rnc (Qbr rfl) (rnc (Qbr rfl) (rnc (Qbr rfl) (rnc (Qbr rfl) rn0))))) Qat)) (Qbv (rnc (Qbr rfl) (rnc (Qbr rfl) (rnc (Qbr rfl) (rnc (Qbr rfl) rn0))))) rfl rfl rfl,Qht rfl Tryz.underlying235 Qu9 (by decide) (by decide) (nle rfl) (by decide) rfl,Qbh rfl,Qbh rfl,Qbh rfl,tv⟩<|bln<|thn<|wxz1<|thn<|Qwo<|wxz<|wsq<|wtr<|Qan ?_
  refine thn<|wsq<|Qaj ?_
  refine wx tbk [(1,rp [(.tmp 5,Q66),(.tmp 6,I 2)] (.ref 1 4 0 2))] ⟨Qht rfl Tryz.underlying235 Qu9 (by decide) (by decide) (nle rfl) (by decide) rfl,tv⟩ ?_
  obtain ⟨x8,hf7,h⟩:=bno h
  refine wy1 tbk [(0,⟨[fu 161,(.tmp 1,.ref 0 4 0 0)],[(0,(Q64 p1 p0 p2 p3 p4)),(5,.unused)],Qr6,[(0,(Q64 p1 p0 p2 p3 p4)),(5,Qy6)],false⟩),(2,rp [(.tmp 10,Qr6),(.tmp 11,I 2)] (.ref 0 4 0 2)),(3,rb [(.tmp 12,.ref 0 4 0 2)] [(0,(Q64 p1 p0 p2 p3 p4))] (.ref 0 4 0 2)),(6,rb [(.tmp 15,.ref 1 4 0 2)] [(1,(Qy7 p0))] (.ref 1 4 0 2)),(9,rb [(.tmp 12,.ref 0 4 0 2)] [(0,(Q64 p1 p0 p2 p3 p4))] (.ref 0 4 0 2))] ⟨Qav (first:=[]) (cap:=[]) (vs:=[.ref 0 4 0 0]) (σr:=[(Q64 p1 p0 p2 p3 p4)]) (σr':=[(Q64 p1 p0 p2 p3 p4),Qy6]) (res':=Qr6) [0,5] rfl Qqh (Qdh N (w64 (p1+p0.Mass)) (w64 (p2+p0.Heat)) p3 p4 _ hf7) rfl (Qbv (rnc (Qbo rfl) rn0)) (slc (Qar (rncc (rncc rn0))) Qat) (slc (Qar (rncc (rncc rn0))) (slc (Qar (rnc (Qbr rfl) (rnc (Qbr rfl) (rnc (Qbr rfl) (rnc (Qbr rfl) rn0))))) Qat)) (Qbv (rnc (Qbr rfl) (rnc (Qbr rfl) (rnc (Qbr rfl) (rnc (Qbr rfl) rn0))))) rfl rfl rfl,Qht rfl Tryz.underlying235 Qu9 (by decide) (by decide) (nle rfl) (by decide) rfl,Qbh rfl,Qbh rfl,Qbh rfl,tv⟩<|bln<|thn<|wxz1<|thn<|Qwo<|wxz<|wsq<|wtr<|Qan ?_
  refine thn<|wsq<|Qaj ?_
  refine wx tbk [(1,rp [(.tmp 5,Q66),(.tmp 6,I 3)] (.ref 1 4 0 3))] ⟨Qht rfl Tryz.underlying235 Qu9 (by decide) (by decide) (nle rfl) (by decide) rfl,tv⟩ ?_
  obtain ⟨x10,hf9,h⟩:=bno h
  refine wy1 tbk [(0,⟨[fu 161,(.tmp 1,.ref 0 4 0 0)],[(0,(Q63 p1 p0 p2 p3 p4)),(6,.unused)],Qr6,[(0,(Q63 p1 p0 p2 p3 p4)),(6,Qy6)],false⟩),(2,rp [(.tmp 10,Qr6),(.tmp 11,I 3)] (.ref 0 4 0 3)),(3,rb [(.tmp 12,.ref 0 4 0 3)] [(0,(Q63 p1 p0 p2 p3 p4))] (.ref 0 4 0 3)),(6,rb [(.tmp 15,.ref 1 4 0 3)] [(1,(Qy7 p0))] (.ref 1 4 0 3)),(9,rb [(.tmp 12,.ref 0 4 0 3)] [(0,(Q63 p1 p0 p2 p3 p4))] (.ref 0 4 0 3))] ⟨Qav (first:=[]) (cap:=[]) (vs:=[.ref 0 4 0 0]) (σr:=[(Q63 p1 p0 p2 p3 p4)]) (σr':=[(Q63 p1 p0 p2 p3 p4),Qy6]) (res':=Qr6) [0,6] rfl Qqh (Qdh N (w64 (p1+p0.Mass)) (w64 (p2+p0.Heat)) (w64 (p3+p0.Silica)) p4 _ hf9) rfl (Qbv (rnc (Qbo rfl) rn0)) (slc (Qar (rncc (rncc rn0))) Qat) (slc (Qar (rncc (rncc rn0))) (slc (Qar (rnc (Qbr rfl) (rnc (Qbr rfl) (rnc (Qbr rfl) (rnc (Qbr rfl) rn0))))) Qat)) (Qbv (rnc (Qbr rfl) (rnc (Qbr rfl) (rnc (Qbr rfl) (rnc (Qbr rfl) rn0))))) rfl rfl rfl,Qht rfl Tryz.underlying235 Qu9 (by decide) (by decide) (nle rfl) (by decide) rfl,Qbh rfl,Qbh rfl,Qbh rfl,tv⟩<|bln<|thn<|wxz1<|thn<|Qwo<|wxz<|wsq<|wfa<|Qbd ?_
  refine Qax<|Qax<|Qbc rfl ?_
  obtain rfl:=osi h
  exact ⟨_,(mto (n:=21) (l':=[]) (own':=[(Zao p1 p0 p2 p3 p4)]) [] [0] [(Zao p1 p0 p2 p3 p4)] hφ0 pn (qb (lcc (lcc ln)) qn)),Qdf (vs:=[]) tv rfl (NLt.tup _ nl0) (by kernel_rfl) (Qao (Qbi (nlc (NLt.of0 nll) (nlc (NLt.of0 nll) (nlc (NLt.of0 nll) (nlc (NLt.of0 nll) nl0))))) Qby)⟩
def Qe7 (N:Nat) (p0:(List GStream)) (k5:Int×Int×Int×Int→Option GStream):Nat→Int→Int→Int→Int→Int→Option GStream
  | 0,_,_,_,_,_=>none
  | n16+1,y6,y7,y8,y9,y10=>
    bif (decide (y6<(p0.length:Int))) then
     (getI p0 y6).bind fun x18=>
     (Qjk N x18 y7 y8 y9 y10).bind fun _=>
     Qe7 N p0 k5 n16 (w64 (y6+1)) (w64 (y7+x18.Mass)) (w64 (y8+x18.Heat)) (w64 (y9+x18.Silica)) (w64 (y10+x18.Gas))
    else
     k5 (y7,y8,y9,y10)
def Qkr (N:Nat) (p0:(List GStream)):Option GStream:=
  Qbb (fun ⟨y1,y2,y3,y4⟩=>
    some (⟨y1,y2,y3,y4⟩:GStream)) fun k5:Int×Int×Int×Int→Option GStream=>
  Qe7 N p0 k5 N 0 0 0 0 0
def Q68:AV:=.fn (.func 160) [] [(.ref 0 4 (0) 0)]
def Q67 (p0:(List GStream)):AV:=.dat 4 ((p0:List GStream).map Qaa)
def Zo3:Slot:=.own 4 [[(I (0)),(I (0)),(I (0)),(I (0))]]
def Q42 (y7:Int) (y8:Int) (y9:Int) (y10:Int):Slot:=.own 4 [[(I (y7)),(I (y8)),(I (y9)),(I (y10))]]
def Zjg (x18:GStream):AV:=.agg [(I (x18.Mass)),(I (x18.Heat)),(I (x18.Silica)),(I (x18.Gas))]
def Zap (y7:Int) (x18:GStream) (y8:Int) (y9:Int) (y10:Int):Slot:=.own 4 [[(I (w64 (y7+x18.Mass))),(I (w64 (y8+x18.Heat))),(I (w64 (y9+x18.Silica))),(I (w64 (y10+x18.Gas)))]]
theorem Qxy (N:Nat) (p0:(List GStream)) (r:GStream) (h:Qkr N p0=some r):Spec Tryz.prog 155 [(.dat 4 (p0.map Qaa))] [] (.agg (Qaa r)) []:=by
  refine Qah Tryz.func155 rfl 0 (nle rfl) (fun X φ0 w0 hφ0 hd0=>?_)
  unfold Qkr at h
  refine wxz<|wx tbk [(0,rp [(.tmp 2,.ref 0 4 0 0)] Q68)] ⟨Qf7 (fs:=[]) (cs:=[.ref 0 4 0 0]) rfl rfl rfl rfl,tv⟩ ?_
  obtain ⟨k5,hk_k5,h⟩:=jko h
  refine wjn (τ:=Int×Int×Int×Int) (fun t=>k5 t=some r) (fun ⟨y1,y2,y3,y4⟩=>⟨mk 18 [(2,.ref 0 4 0 0)],[(.own 4 [[I y1,I y2,I y3,I y4]])]⟩) (fun t h=>?_) ?_
  ·subst hk_k5
   obtain ⟨y1,y2,y3,y4⟩:=t
   refine wxz<|Qaf ?_
   obtain rfl:=osi h
   exact fend ⟨[(.agg [I y1,I y2,I y3,I y4])],⟨Qbj (n:=0) (m:=4) (j:=0) (i:=0) (xs:=[[I y1,I y2,I y3,I y4]]) (by kernel_rfl) (by kernel_rfl) ti63 (by decide) rfl (nle rfl) rfl,tv⟩,rfl⟩ (NLt.agg _ (nlcc (nlcc nl0)))
  ·skip
   refine wx tbk [(1,rp [(.tmp 7,(Q67 p0))] (I ((p0.length:Int))))] ⟨alm (c:=Qaa) (l:=p0) (aln rfl Tryz.underlying45 rfl),tv⟩<|Qaj ?_
   refine wmr (mto (n:=18) (l':=[(2,.ref 0 4 0 0),(3,Q68),(7,(Q67 p0)),(8,(I ((p0.length:Int)))),(9,I 0)]) (own':=[Zo3]) [(2,.ref 0 4 0 0),(3,Q68),(7,(Q67 p0)),(8,(I ((p0.length:Int)))),(9,I 0)] [0] [Zo3] hφ0 (prr (pc (.rn (Qbp rn0 (rnc (rqr rfl) rn0))) (pc (rnd Qac) (pw (pw pn))))) (qb (lcc (lcc ln)) qn)) ?_
   refine Qbt (τ:=Int×Int×Int×Int×Int) (fun n t=>Qe7 N p0 k5 n t.1 t.2.1 t.2.2.1 t.2.2.2.1 t.2.2.2.2=some r) (fun ⟨y6,y7,y8,y9,y10⟩=>⟨mk 18 [(2,.ref 0 4 0 0),(3,Q68),(7,(Q67 p0)),(8,(I ((p0.length:Int)))),(9,I y6)],[(Q42 y7 y8 y9 y10)]⟩) (fun t h=>by rw [Qe7] at h; cases h) (fun n16 ih t h=>?_) N (0,0,0,0,0) h
   obtain ⟨y6,y7,y8,y9,y10⟩:=t
   rw [Qe7] at h
   skip
   refine wxz<|wsq ?_
   refine bfe h (fun hc17 h=>?_) fun hc17 h=>?_
   ·refine wft hc17<|Qan<|thn<|wsq<|Qaj ?_
    obtain ⟨x18,hg19,h⟩:=bno h
    obtain ⟨hi20,hj21⟩:=gsm hg19
    refine wx tbk [(0,rp [(.tmp 7,(Q67 p0)),(.tmp 9,I y6)] (.dptr (Qaa (x18)) 0))] ⟨aid rfl Tryz.underlying45 ti63 rfl rfl hi20 (mgt Qaa hj21) rfl,tv⟩ ?_
    obtain ⟨x23,hf22,h⟩:=bno h
    refine wx1 tbk [(2,⟨[(.tmp 13,Q68),(.tmp 14,(Zjg x18))],[(0,(Q42 y7 y8 y9 y10))],(.tup []),[(0,(Zap y7 x18 y8 y9 y10))],false⟩)] ⟨Qav (first:=[]) (cap:=[.ref 0 4 0 0]) (vs:=[(Zjg x18)]) (σr:=[(Q42 y7 y8 y9 y10)]) (σr':=[(Zap y7 x18 y8 y9 y10)]) (res':=(.tup [])) [0] rfl Zg5 (Qq5 N x18 y7 y8 y9 y10 _ hf22) rfl (Qbv (rnc (.plain _ (NLt.agg _ (nlcc (nlcc nl0)))) (rnc (Qbo rfl) rn0))) (slc (Qar (rncc (rncc rn0))) Qat) (slc (Qar (rncc (rncc rn0))) Qat) (.plain _ (NLt.tup _ nl0)) rfl rfl rfl,tv⟩<|bln<|thn<|wxz1<|thn ?_
    exact arm (mto (n:=18) [(2,.ref 0 4 0 0),(3,Q68),(7,(Q67 p0)),(8,(I ((p0.length:Int)))),(9,(I (w64 (y6+1))))] [0] [(Zap y7 x18 y8 y9 y10)] hφ0 (prr (pc (.rn (Qbp rn0 (rnc (rqr rfl) rn0))) (pc (rnd Qac) (pw (pw pn))))) (qb (lcc (lcc ln)) qn)) (ih (w64 (y6+1),w64 (y7+x18.Mass),w64 (y8+x18.Heat),w64 (y9+x18.Silica),w64 (y10+x18.Gas)) h)
   ·exact wfn hc17<|Qbd<|Qax<|Qax<|Qbc rfl<|thn<|⟨(y7,y8,y9,y10),h,(mto (n:=18) [(2,.ref 0 4 0 0)] [0] [(Q42 y7 y8 y9 y10)] hφ0 (prr pn) (qb (lcc (lcc ln)) qn))⟩
def Qea (N:Nat) (p0:GStream) (k3:(List GStream)→Option ((List GStream)×GLoss×Int)) (x7:(List Int)):Nat→(List GStream)→Int→Option ((List GStream)×GLoss×Int)
  | 0,_,_=>none
  | n12+1,y8,y9=>
    bif (decide (y9<(x7.length:Int))) then
     (getI x7 y9).bind fun x14=>
     (Qe8 N p0.Heat x14 p0.Mass p0.Heat p0.Silica p0.Gas).bind fun x19=>
     (Qe8 N p0.Silica x14 p0.Mass p0.Heat p0.Silica p0.Gas).bind fun x21=>
     (Qe8 N p0.Gas x14 p0.Mass p0.Heat p0.Silica p0.Gas).bind fun x23=>
     chk (decide ((y8.length+([(⟨x14,x19,x21,x23⟩:GStream)]).length) * 32≤140737488355328))<|
     Qea N p0 k3 x7 n12 (y8++([(⟨x14,x19,x21,x23⟩:GStream)])) (w64 (y9+1))
    else
     k3 (y8)
def Qju (N:Nat) (p0:GStream) (p1:(List Int)):Option ((List GStream)×GLoss×Int):=
  Qbb (fun _=>
    Qbb (fun y2=>
      (Qkr N y2).bind fun x5=>
      some (y2,(⟨w64 (p0.Heat - x5.Heat),w64 (p0.Silica - x5.Silica),w64 (p0.Gas - x5.Gas)⟩:GLoss),0)) fun k3:(List GStream)→Option ((List GStream)×GLoss×Int)=>
    (Qip N p0.Mass p1).bind fun x7=>
    Qea N p0 k3 x7 N ([]) 0) fun k1:Unit→Option ((List GStream)×GLoss×Int)=>
  (Qdy N p0).bind fun x26=>
  bif (!x26) then
   some ([],(⟨0,0,0⟩:GLoss),1)
  else
   bif (decide ((p1.length:Int)>20)) then
    some ([],(⟨0,0,0⟩:GLoss),1)
   else
    (Qg8 N p1).bind fun x30=>
    bif (!x30) then
     some ([],(⟨0,0,0⟩:GLoss),1)
    else
     (Qcg N p1).bind fun x33=>
     bif (!x33) then
      some ([],(⟨0,0,0⟩:GLoss),1)
     else
      k1 ()
def Qzb (p1:(List Int)):AV:=.dat 1 ((p1:List Int).map Qal)
def Qsx (p0:GStream):Slot:=.own 4 [[(I (p0.Mass)),(I (p0.Heat)),(I (p0.Silica)),(I (p0.Gas))]]
def Qzd:Slot:=.own 3 [[(I (0)),(I (0)),(I (0))]]
def Zaz (y2:(List GStream)):AV:=.acc 1 63 4 ((y2:List GStream).map Qaa)
def Zji (y2:(List GStream)):AV:=.dat 4 ((y2:List GStream).map Qaa)
def Zjh (p0:GStream) (x5:GStream):AV:=.agg [(I (w64 (p0.Heat - x5.Heat))),(I (w64 (p0.Silica - x5.Silica))),(I (w64 (p0.Gas - x5.Gas)))]
def Qsw (x7:(List Int)):AV:=.dat 1 ((x7:List Int).map Qal)
def Zay (y8:(List GStream)):AV:=.acc 1 63 4 ((y8:List GStream).map Qaa)
def Q5a:AV:=.fn (.func 154) [] [(.ref 3 1 (0) 0),(.ref 0 4 (0) 0)]
def Zax (x14:Int) (p0:GStream):AV:=.fn (.func 154) [] [(.dptr [(I (x14))] 0),(.dptr [(I (p0.Mass)),(I (p0.Heat)),(I (p0.Silica)),(I (p0.Gas))] 0)]
def Zqn (p0:GStream):AV:=.agg [(I (p0.Mass)),(I (p0.Heat)),(I (p0.Silica)),(I (p0.Gas))]
def Zaw (p0:GStream) (x26:Bool):List (Nat×Rec):=[(1,rp [fu 131,((.tmp 12),(Zqn p0))] (B (x26)))]
def Qzc:AV:=.agg [(I (0)),(I (0)),(I (0))]
def Q49:AV:=.dat 4 (([]:List GStream).map Qaa)
def Zav (p0) (x26) (p1:(List Int)):=hcat (Zaw p0 x26) [(3,rp [((.tmp 14),(B ((!x26))))] (B (false))),(5,rp [((.tmp 15),(B (false))),((.tmp 16),(Qzb p1))] (I ((p1.length:Int))))]
def Zau (p0) (x26) (p1) (x30:Bool):=hcat (Zav p0 x26 p1) [(8,rp [((.tmp 19),(B ((decide ((p1.length:Int)>20)))))] (B (false))),(11,rp [((.tmp 20),(B (false))),fu 151,((.tmp 21),(Qzb p1)),((.tmp 22),(.fn (.func 150) [] []))] (B (x30)))]
theorem Qti (N:Nat) (p0:GStream) (p1:(List Int)) (r:((List GStream)×GLoss×Int)) (h:Qju N p0 p1=some r):Spec Tryz.prog 146 [(.agg (Qaa p0)),(.dat 1 (p1.map Qal))] [] (.tup [(.dat 4 (r.1.map Qaa)),(.agg (Zeg r.2.1)),(I r.2.2)]) []:=by
  refine Qah Tryz.func146 rfl 0 (nle rfl) (fun X φ0 w0 hφ0 hd0=>?_)
  unfold Qju at h
  refine wxz<|wxz ?_
  obtain ⟨k1,hk_k1,h⟩:=jko h
  refine wjn (τ:=Unit) (fun t=>k1 t=some r) (fun _=>⟨mk 79 [(1,(Qzb p1)),(2,.ref 0 4 0 0),(4,nilS),(5,.ref 1 3 0 0)],[(Qsx p0),Qzd]⟩) (fun t h=>?_) ?_
  ·subst hk_k1
   obtain ⟨k3,hk_k3,h⟩:=jko h
   refine wjn (τ:=(List GStream)) (fun t=>k3 t=some r) (fun y2=>⟨mk 79 [(2,.ref 0 4 0 0),(4,(Zaz y2)),(5,.ref 2 3 0 0)],[(Qsx p0),.tok,Qzd]⟩) (fun y2 h=>?_) ?_
   ·subst hk_k3
    obtain ⟨x5,hf4,h⟩:=bno h
    refine wx tbk [(1,rp [fu 155,(.tmp 60,(Zaz y2))] (.agg [I x5.Mass,I x5.Heat,I x5.Silica,I x5.Gas]))] ⟨awk (rd':=(.func 155,(.fn (.func 155) [] []))::[(.tmp 60,(Zji y2))]) ⟨rfl,lrf,rfl,Less.acc,tv⟩ (apv Zg9 (Qxy N y2 _ hf4) (nlc (nld Qac _) nl0) (NLt.agg _ (nlcc (nlcc nl0)))),tv⟩ ?_
    refine wxd tbk [(16,rp [(.tmp 67,(I (w64 (p0.Heat - x5.Heat)))),(.tmp 72,(I (w64 (p0.Silica - x5.Silica)))),(.tmp 77,(I (w64 (p0.Gas - x5.Gas))))] (Zjh p0 x5))] ⟨Qaz (vs:=[(I (w64 (p0.Heat - x5.Heat))),(I (w64 (p0.Silica - x5.Silica))),(I (w64 (p0.Gas - x5.Gas)))]) rfl Zb1 Q7m rfl (by rfl) rfl,tv⟩<|Qaf ?_
    obtain rfl:=osi h
    exact fend ⟨[(Zji y2),(Zjh p0 x5),I 0],⟨Qd2 (v:=(Zaz y2)) (rot) Less.acc,Qbj (n:=2) (m:=3) (j:=0) (i:=0) (xs:=[[(I (w64 (p0.Heat - x5.Heat))),(I (w64 (p0.Silica - x5.Silica))),(I (w64 (p0.Gas - x5.Gas)))]]) (by kernel_rfl) (by kernel_rfl) Q7o (by decide) rfl (nle rfl) rfl,rot,tv⟩,rfl⟩ (NLt.tup _ (nlc (nld Qac _) (nlc (NLt.agg _ (nlcc (nlc nll nl0))) (nlc nll nl0))))
   ·skip
    obtain ⟨x7,hf6,h⟩:=bno h
    refine wx tbk [(3,rp [fu 153,(.tmp 33,I p0.Mass),(.tmp 34,(Qzb p1))] (Qsw x7)),(4,rp [(.tmp 35,(Qsw x7))] (I ((x7.length:Int))))] ⟨apv Zha (Qsc N p0.Mass p1 _ hf6) (nlc nll (nlc (nld Qae _) nl0)) (nld Qae _),alm (c:=Qal) (l:=x7) (aln rfl Tryz.underlying27 rfl),tv⟩<|Qaj ?_
    refine wmr (Mor.trans (Qlu 2 63 4 4 (by kernel_rfl) (by kernel_rfl)) (mto (n:=79) (l':=[(2,.ref 0 4 0 0),(4,(.acc 1 63 4 ((([]):List GStream).map Qaa))),(5,.ref 2 3 0 0),(35,(Qsw x7)),(36,(I ((x7.length:Int)))),(37,I 0)]) (own':=[(Qsx p0),.tok,Qzd]) [(2,.ref 0 4 0 0),(4,(.acc 2 63 4 (([]:List GStream).map Qaa))),(5,.ref 1 3 0 0),(35,(Qsw x7)),(36,(I ((x7.length:Int)))),(37,I 0)] [0,2,1] [(Qsx p0),.tok,Qzd] hφ0 (prr (pc (.rn (Qaw rfl (Qas Qac _))) (prr (pc (rnd Qae) (pw (pw pn)))))) (qb (lcc (lcc ln)) (qc .tok (qb (lcc (lc rwl ln)) qn))))) ?_
    refine Qbt (τ:=(List GStream)×Int) (fun n t=>Qea N p0 k3 x7 n t.1 t.2=some r) (fun ⟨y8,y9⟩=>⟨mk 79 [(2,.ref 0 4 0 0),(4,(Zay y8)),(5,.ref 2 3 0 0),(35,(Qsw x7)),(36,(I ((x7.length:Int)))),(37,I y9)],[(Qsx p0),.tok,Qzd]⟩) (fun t h=>by rw [Qea] at h; cases h) (fun n12 ih t h=>?_) N ([],0) h
    obtain ⟨y8,y9⟩:=t
    rw [Qea] at h
    skip
    refine wxz<|wsq ?_
    refine bfe h (fun hc13 h=>?_) fun hc13 h=>?_
    ·refine wft hc13<|Qan<|thn<|wsq<|Qaj ?_
     obtain ⟨x14,hg15,h⟩:=bno h
     obtain ⟨hi16,hj17⟩:=gsm hg15
     refine wx tbk [(0,rp [(.tmp 35,(Qsw x7)),(.tmp 37,I y9)] (.dptr (Qal (x14)) 0))] ⟨aid rfl Tryz.underlying27 ti3 rfl rfl hi16 (mgt Qal hj17) rfl,tv⟩ ?_
     refine wx tbk [(0,rp [(.tmp 9,.ref 3 1 0 0),(.tmp 2,.ref 0 4 0 0)] Q5a)] ⟨Qf7 (fs:=[]) (cs:=[.ref 3 1 0 0,.ref 0 4 0 0]) rfl rfl rfl rfl,tv⟩ ?_
     obtain ⟨x19,hf18,h⟩:=bno h
     obtain ⟨x21,hf20,h⟩:=bno h
     obtain ⟨x23,hf22,h⟩:=bno h
     obtain ⟨ha24,h⟩:=cko h
     refine wy1 tbk [(5,rb [(.tmp 44,Q5a),(.tmp 46,I p0.Heat)] [(3,.own 1 [[I x14]]),(0,(Qsx p0))] (I x19)),(9,rb [(.tmp 48,Q5a),(.tmp 50,I p0.Silica)] [(3,.own 1 [[I x14]]),(0,(Qsx p0))] (I x21)),(13,rb [(.tmp 52,Q5a),(.tmp 54,I p0.Gas)] [(3,.own 1 [[I x14]]),(0,(Qsx p0))] (I x23)),(14,rp [(.tmp 43,I x14),(.tmp 47,I x19),(.tmp 51,I x21),(.tmp 55,I x23)] (.agg [I x14,I x19,I x21,I x23])),(15,rp [(.tmp 56,(.agg [I x14,I x19,I x21,I x23]))] (.dat 4 (([(⟨x14,x19,x21,x23⟩:GStream)]:List GStream).map Qaa))),(16,⟨[(.tmp 42,(Zay y8)),(.tmp 57,(.dat 4 (([(⟨x14,x19,x21,x23⟩:GStream)]:List GStream).map Qaa)))],[(1,.tok),(4,.unused)],(.acc 4 63 4 ((y8++([(⟨x14,x19,x21,x23⟩:GStream)]):List GStream).map Qaa)),[(1,.dead),(4,.tok)],false⟩)] ⟨Qhy (rd':=[(.tmp 44,(Zax x14 p0)),(.tmp 46,I p0.Heat)]) [(3,1,[[I x14]]),(0,4,[[I p0.Mass,I p0.Heat,I p0.Silica,I p0.Gas]])] ⟨rfl,(Zie tv ⟨(Qql 0 rfl (lc (.same _) ln)),(Qql 1 rfl (lc (.same _) (lc (.same _) (lc (.same _) (lc (.same _) ln))))),tv⟩),rfl,.same _,tv⟩ (by rfl) (.lit _) Qq8 (Qav (first:=[]) (cap:=[(.dptr [I x14] 0),(.dptr [I p0.Mass,I p0.Heat,I p0.Silica,I p0.Gas] 0)]) (vs:=[I p0.Heat]) (σr:=[]) (σr':=[]) (res':=(I x19)) [] rfl Qyo (Qh9 N p0.Heat x14 p0.Mass p0.Heat p0.Silica p0.Gas _ hf18) rfl (Qbv (rnc (.plain _ nll) (rnc (.plain _ (NLt.dptr _ _ (nlc nll nl0))) (rnc (.plain _ (NLt.dptr _ _ (nlcc (nlcc nl0)))) rn0)))) Qat Qat (.plain _ nll) rfl rfl rfl),Qhy (rd':=[(.tmp 48,(Zax x14 p0)),(.tmp 50,I p0.Silica)]) [(3,1,[[I x14]]),(0,4,[[I p0.Mass,I p0.Heat,I p0.Silica,I p0.Gas]])] ⟨rfl,(Zie tv ⟨(Qql 0 rfl (lc (.same _) ln)),(Qql 1 rfl (lc (.same _) (lc (.same _) (lc (.same _) (lc (.same _) ln))))),tv⟩),rfl,.same _,tv⟩ (by rfl) (.lit _) Qq8 (Qav (first:=[]) (cap:=[(.dptr [I x14] 0),(.dptr [I p0.Mass,I p0.Heat,I p0.Silica,I p0.Gas] 0)]) (vs:=[I p0.Silica]) (σr:=[]) (σr':=[]) (res':=(I x21)) [] rfl Qyo (Qh9 N p0.Silica x14 p0.Mass p0.Heat p0.Silica p0.Gas _ hf20) rfl (Qbv (rnc (.plain _ nll) (rnc (.plain _ (NLt.dptr _ _ (nlc nll nl0))) (rnc (.plain _ (NLt.dptr _ _ (nlcc (nlcc nl0)))) rn0)))) Qat Qat (.plain _ nll) rfl rfl rfl),Qhy (rd':=[(.tmp 52,(Zax x14 p0)),(.tmp 54,I p0.Gas)]) [(3,1,[[I x14]]),(0,4,[[I p0.Mass,I p0.Heat,I p0.Silica,I p0.Gas]])] ⟨rfl,(Zie tv ⟨(Qql 0 rfl (lc (.same _) ln)),(Qql 1 rfl (lc (.same _) (lc (.same _) (lc (.same _) (lc (.same _) ln))))),tv⟩),rfl,.same _,tv⟩ (by rfl) (.lit _) Qq8 (Qav (first:=[]) (cap:=[(.dptr [I x14] 0),(.dptr [I p0.Mass,I p0.Heat,I p0.Silica,I p0.Gas] 0)]) (vs:=[I p0.Gas]) (σr:=[]) (σr':=[]) (res':=(I x23)) [] rfl Qyo (Qh9 N p0.Gas x14 p0.Mass p0.Heat p0.Silica p0.Gas _ hf22) rfl (Qbv (rnc (.plain _ nll) (rnc (.plain _ (NLt.dptr _ _ (nlc nll nl0))) (rnc (.plain _ (NLt.dptr _ _ (nlcc (nlcc nl0)))) rn0)))) Qat Qat (.plain _ nll) rfl rfl rfl),Qaz (vs:=[I x14,I x19,I x21,I x23]) rfl ts63 tz63 rfl (by rfl) rfl,Qbe (vs:=[(.agg [I x14,I x19,I x21,I x23])]) rfl Tryz.underlying45 ti63 tz63 rfl (by decide) rfl (by decide) (by rfl) (by rfl) (by rfl) rfl,Qdj rfl Tryz.underlying45 te63 (Base.acc _ _) rfl rfl (by rfl) (Qf4 Qaa ha24) (Qf3 Qaa ha24 (by decide)) (Qf2 Qaa) rfl rfl,tv⟩<|bln<|thn<|wxz1<|thn ?_
     exact arm (mto (n:=79) [(2,.ref 0 4 0 0),(4,(.acc 4 63 4 ((y8++([(⟨x14,x19,x21,x23⟩:GStream)]):List GStream).map Qaa))),(5,.ref 2 3 0 0),(35,(Qsw x7)),(36,(I ((x7.length:Int)))),(37,(I (w64 (y9+1))))] [0,4,2] [(Qsx p0),.tok,Qzd] hφ0 (prr (pc (.rn (Qaw rfl (Qas Qac _))) (prr (pc (rnd Qae) (pw (pw pn)))))) (qb (lcc (lcc ln)) (qc .tok (qb (lcc (lc rwl ln)) qn)))) (ih (y8++([(⟨x14,x19,x21,x23⟩:GStream)]),w64 (y9+1)) h)
    ·exact wfn hc13<|Qbd<|Qax<|Qax<|Qbc rfl<|thn<|⟨(y8),h,(mto (n:=79) [(2,.ref 0 4 0 0),(4,(Zay y8)),(5,.ref 2 3 0 0)] [0,1,2] [(Qsx p0),.tok,Qzd] hφ0 (prr (pc (.rn (Qaw rfl (Qas Qac _))) (prr pn))) (qb (lcc (lcc ln)) (qc .tok (qb (lcc (lc rwl ln)) qn))))⟩
  ·skip
   obtain ⟨x26,hf25,h⟩:=bno h
   refine hpre (A:=(Zaw p0 x26)) ⟨apv Qyq (Qhh N p0 _ hf25) (nlc (NLt.agg _ (nlcc (nlcc nl0))) nl0) nll,tv⟩ fun q1_=>?_
   refine bfe h (fun hb27 h=>?_) fun hb27 h=>?_
   ·refine wx tbk (hcat (Zaw p0 x26) [(3,rp [(.tmp 14,(B ((!x26))))] (B true))]) (hap q1_ ⟨asb hb27 (amv rfl),tv⟩)<|wtr ?_
    refine wx tbk [(0,rp [] Qzc)] ⟨Qaz (vs:=[]) rfl Zb1 Q7m rfl (by rfl) rfl,tv⟩<|Qaf<|Qag ?_
    obtain rfl:=osi h
    exact fend ⟨[Q49,Qzc,I 1],⟨Qd2 (v:=nilS) (rot) Less.nil,Qbj (n:=1) (m:=3) (j:=0) (i:=0) (xs:=[[I 0,I 0,I 0]]) (by kernel_rfl) (by kernel_rfl) Q7o (by decide) rfl (nle rfl) rfl,rot,tv⟩,rfl⟩ (NLt.tup _ (nlc (nld Qac _) (nlc (NLt.agg _ (nlcc (nlc nll nl0))) (nlc nll nl0))))
   ·refine hpre (A:=(Zav p0 x26 p1)) (hap q1_ ⟨asb hb27 (amv rfl),ag_ (alm (c:=Qal) (l:=p1) (aln rfl Tryz.underlying27 rfl)),tv⟩) fun q2_=>?_
    refine bfe h (fun hb28 h=>?_) fun hb28 h=>?_
    ·refine wx tbk (hcat (Zav p0 x26 p1) [(8,rp [(.tmp 19,(B ((decide ((p1.length:Int)>20)))))] (B true))]) (hap q2_ ⟨asb hb28 (amv rfl),tv⟩)<|wtr ?_
     refine wx tbk [(0,rp [] Qzc)] ⟨Qaz (vs:=[]) rfl Zb1 Q7m rfl (by rfl) rfl,tv⟩<|Qaf<|Qag ?_
     obtain rfl:=osi h
     exact fend ⟨[Q49,Qzc,I 1],⟨Qd2 (v:=nilS) (rot) Less.nil,Qbj (n:=1) (m:=3) (j:=0) (i:=0) (xs:=[[I 0,I 0,I 0]]) (by kernel_rfl) (by kernel_rfl) Q7o (by decide) rfl (nle rfl) rfl,rot,tv⟩,rfl⟩ (NLt.tup _ (nlc (nld Qac _) (nlc (NLt.agg _ (nlcc (nlc nll nl0))) (nlc nll nl0))))
    ·obtain ⟨x30,hf29,h⟩:=bno h
     refine hpre (A:=(Zau p0 x26 p1 x30)) (hap q2_ ⟨asb hb28 (amv rfl),ag_ (Qav (first:=[]) (cap:=[]) (vs:=[(Qzb p1),(.fn (.func 150) [] [])]) (σr:=[]) (σr':=[]) (res':=(B x30)) [] rfl Zhc (Qo0 N p1 _ hf29) rfl (Qbv (rnc (pld Qae) (rnc (.plain _ (NLt.fn _ _ _ nl0 nl0)) rn0))) Qat Qat (.plain _ nll) rfl rfl rfl),tv⟩) fun q3_=>?_
     refine bfe h (fun hb31 h=>?_) fun hb31 h=>?_
     ·refine wx tbk (hcat (Zau p0 x26 p1 x30) [(14,rp [(.tmp 25,(B ((!x30))))] (B true))]) (hap q3_ ⟨asb hb31 (amv rfl),tv⟩)<|wtr ?_
      refine wx tbk [(0,rp [] Qzc)] ⟨Qaz (vs:=[]) rfl Zb1 Q7m rfl (by rfl) rfl,tv⟩<|Qaf<|Qag ?_
      obtain rfl:=osi h
      exact fend ⟨[Q49,Qzc,I 1],⟨Qd2 (v:=nilS) (rot) Less.nil,Qbj (n:=1) (m:=3) (j:=0) (i:=0) (xs:=[[I 0,I 0,I 0]]) (by kernel_rfl) (by kernel_rfl) Q7o (by decide) rfl (nle rfl) rfl,rot,tv⟩,rfl⟩ (NLt.tup _ (nlc (nld Qac _) (nlc (NLt.agg _ (nlcc (nlc nll nl0))) (nlc nll nl0))))
     ·obtain ⟨x33,hf32,h⟩:=bno h
      refine wx tbk (hcat (Zau p0 x26 p1 x30) [(14,rp [(.tmp 25,(B ((!x30))))] (B false)),(16,rp [(.tmp 26,B false),fu 126,(.tmp 27,(Qzb p1)),fu 152] (B x33))]) (hap q3_ ⟨asb hb31 (amv rfl),ag_ (Qav (first:=[]) (cap:=[]) (vs:=[(Qzb p1),(.fn (.func 152) [] [])]) (σr:=[]) (σr':=[]) (res':=(B x33)) [] rfl Qqj (Qir N p1 _ hf32) rfl (Qbv (rnc (pld Qae) (rnc (.plain _ (NLt.fn _ _ _ nl0 nl0)) rn0))) Qat Qat (.plain _ nll) rfl rfl rfl),tv⟩) ?_
      refine bfe h (fun hc34 h=>?_) fun hc34 h=>?_
      ·refine wft hc34<|wx tbk [(0,rp [] Qzc)] ⟨Qaz (vs:=[]) rfl Zb1 Q7m rfl (by rfl) rfl,tv⟩<|Qaf<|Qag ?_
       obtain rfl:=osi h
       exact fend ⟨[Q49,Qzc,I 1],⟨Qd2 (v:=nilS) (rot) Less.nil,Qbj (n:=1) (m:=3) (j:=0) (i:=0) (xs:=[[I 0,I 0,I 0]]) (by kernel_rfl) (by kernel_rfl) Q7o (by decide) rfl (nle rfl) rfl,rot,tv⟩,rfl⟩ (NLt.tup _ (nlc (nld Qac _) (nlc (NLt.agg _ (nlcc (nlc nll nl0))) (nlc nll nl0))))
      ·exact wfn hc34<|Qan<|thn<|⟨(),h,(mto (n:=79) [(1,(Qzb p1)),(2,.ref 0 4 0 0),(4,nilS),(5,.ref 1 3 0 0)] [0,1] [(Qsx p0),Qzd] hφ0 (pc (rnd Qae) (prr (pw (prr pn)))) (qb (lcc (lcc ln)) (qb (lcc (lc rwl ln)) qn)))⟩
end Go.Proofs.YtmbhnllcfmiajaaGreat
