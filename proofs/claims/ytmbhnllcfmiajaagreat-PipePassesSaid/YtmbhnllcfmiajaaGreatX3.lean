/-
  Functions of the program: what they compute, as plain functions, and that they do. No conditions.
-/
import Derived.Test.YtmbhnllcfmiajaaGreatX2
namespace Go.Proofs.YtmbhnllcfmiajaaGreat
set_option maxRecDepth 100000
set_option maxHeartbeats 4000000
open Go.RowKit
def Qig (N:Nat) (p0:Int):Option Bool:=
  (Qcq N p0 0 1000000000000).bind fun x2=>
  some x2
theorem Qo8 (N:Nat) (p0:Int) (r:Bool) (h:Qig N p0=some r):Spec Tryz.prog 109 [(I p0)] [] (B r) []:=by
  refine Qah Tryz.func109 rfl 0 (nle rfl) (fun X φ0 w0 hφ0 hd0=>?_)
  unfold Qig at h
  refine wxz ?_
  obtain ⟨x2,hf1,h⟩:=bno h
  exact wx tbk [(1,rp [fu 65,(.tmp 3,I p0),ci 0,ci 1000000000000] (B x2))] ⟨apv Qkk (Qdo N p0 0 1000000000000 _ hf1) (nlcc (nlc nll nl0)) nll,tv⟩<|Qae<|frb h
def Qf9 (N:Nat) (p0:Int):Option Bool:=
  (Qig N p0).bind fun x3=>
  some (!x3)
def Zbj:Slot:=.own 1 [[(.fn (.func 109) [] [])]]
theorem Qmo (N:Nat) (p0:Int) (r:Bool) (h:Qf9 N p0=some r):Spec Tryz.prog 128 [(I (p0)),(.ref 0 1 (0) 0)] [Zbj] (B (r)) [Zbj]:=by
  refine Qah Tryz.func128 rfl 1 (nle rfl) (fun X φ0 w0 hφ0 hd0=>?_)
  unfold Qf9 at h
  refine Qbx<|wxz ?_
  obtain ⟨x3,hf2,h⟩:=bno h
  refine wx tbk [(2,rp [(.tmp 4,(.fn (.func 109) [] [])),(.tmp 5,I p0)] (B x3))] ⟨apv Zd5 (Qo8 N p0 _ hf2) (nlc nll nl0) nll,tv⟩ ?_
  refine wmr (mto (n:=8) (l':=[(3,(B ((!x3))))]) (own':=[Zbj]) [(3,(B ((!x3))))] [0] [Zbj] hφ0 (pw pn) (qb (lc (.rn (Qbn rn0 rn0)) ln) qn))<|Qae ?_
  obtain rfl:=osi h
  exact ⟨_,Mor.rfl,Qc8 (vs:=[(B ((!x3)))]) ⟨rot,tv⟩ rfl (NLt.of0 nll) (by kernel_rfl) (Qao (Qbc (nlc (NLt.of0 (NLt.fn _ _ _ nl0 nl0)) nl0)) Qbs)⟩
def Qb4 (N:Nat) (p0:(List Int)) (k2:Unit→Option Int):Nat→Int→Option Int
  | 0,_=>none
  | n5+1,y3=>
    bif (decide (y3<(p0.length:Int))) then
     (getI p0 y3).bind fun x7=>
     (Qf9 N x7).bind fun x12=>
     bif x12 then
      some y3
     else
      Qb4 N p0 k2 n5 (w64 (y3+1))
    else
     k2 ()
def Qd1 (N:Nat) (p0:(List Int)):Option Int:=
  Qbp (fun _=>
    some (-1)) fun k2:Unit→Option Int=>
  Qb4 N p0 k2 N 0
def Qy2 (p0:(List Int)):AV:=.dat 1 ((p0:List Int).map Qak)
def Q30:AV:=.fn (.func 128) [] [(.ref 0 1 (0) 0)]
def Qmg:Slot:=.own 1 [[(.fn (.func 109) [] [])]]
theorem Qiq (N:Nat) (p0:(List Int)) (r:Int) (h:Qd1 N p0=some r):Spec Tryz.prog 141 [(Qy2 p0),Q30] [Qmg] (I (r)) [Qmg]:=by
  refine Qah Tryz.func141 rfl 1 (nle rfl) (fun X φ0 w0 hφ0 hd0=>?_)
  unfold Qd1 at h
  refine Qbx<|wxz ?_
  obtain ⟨k2,hk_k2,h⟩:=jko h
  refine wjn (τ:=Unit) (fun t=>k2 t=some r) (fun _=>⟨mk 19 [],[Qmg]⟩) (fun t h=>?_) ?_
  ·subst hk_k2
   refine wxz<|wmr (mto (n:=19) (l':=[(4,(I ((-1))))]) (own':=[Qmg]) [(4,(I ((-1))))] [0] [Qmg] hφ0 (pw pn) (qb (lc (.rn (Qbn rn0 rn0)) ln) qn))<|Qae ?_
   obtain rfl:=osi h
   exact ⟨_,Mor.rfl,Qc8 (vs:=[(I ((-1)))]) ⟨rot,tv⟩ rfl (NLt.of0 nll) (by kernel_rfl) (Qao (Qbc (nlc (NLt.of0 (NLt.fn _ _ _ nl0 nl0)) nl0)) Qbs)⟩
  ·skip
   refine wx tbk [(1,rp [(.tmp 6,(Qy2 p0))] (I ((p0.length:Int))))] ⟨alm (c:=Qak) (l:=p0) (aln rfl Tryz.underlying27 rfl),tv⟩<|Qaj ?_
   refine wmr (mto (n:=19) (l':=[(0,(Qy2 p0)),(1,Q30),(7,(I ((p0.length:Int)))),(8,I 0)]) (own':=[Qmg]) [(0,(Qy2 p0)),(1,Q30),(7,(I ((p0.length:Int)))),(8,I 0)] [0] [Qmg] hφ0 (pc (rnd Qaf) (pc (.rn (Qbn rn0 (rnc (rqr rfl) rn0))) (pw (pw pn)))) (qb (lc (.rn (Qbn rn0 rn0)) ln) qn)) ?_
   refine Qcb (τ:=Int) (fun n t=>Qb4 N p0 k2 n t=some r) (fun y3=>⟨mk 19 [(0,(Qy2 p0)),(1,Q30),(7,(I ((p0.length:Int)))),(8,I y3)],[Qmg]⟩) (fun t h=>by rw [Qb4] at h; cases h) (fun n5 ih y3 h=>?_) N (0) h
   rw [Qb4] at h
   skip
   refine wxz<|wsq ?_
   refine bfe h (fun hc6 h=>?_) fun hc6 h=>?_
   ·refine wft hc6<|Qan<|thn<|wsq<|Qaj<|wxz ?_
    obtain ⟨x7,hg8,h⟩:=bno h
    obtain ⟨hi9,hj10⟩:=gsm hg8
    obtain ⟨x12,hf11,h⟩:=bno h
    refine wx tbk [(3,rp [(.tmp 12,(Qy2 p0)),(.tmp 13,I y3)] (.dptr (Qak (x7)) 0)),(5,⟨[(.tmp 11,Q30),(.tmp 15,I x7)],[(0,Qmg)],B x12,[(0,Qmg)],false⟩)] ⟨aid rfl Tryz.underlying27 ti3 rfl rfl hi9 (mgt Qak hj10) rfl,Qat (first:=[]) (cap:=[.ref 0 1 0 0]) (vs:=[I x7]) (σr:=[Qmg]) (σr':=[Qmg]) (res':=(B x12)) [0] rfl Q2x (Qmo N x7 _ hf11) rfl (Qbt (rnc (.plain _ nll) (rnc (Qbj rfl) rn0))) (slc (Qaq (rnc (.plain _ (NLt.fn _ _ _ nl0 nl0)) rn0)) Qas) (slc (Qaq (rnc (.plain _ (NLt.fn _ _ _ nl0 nl0)) rn0)) Qas) (.plain _ nll) rfl rfl rfl,tv⟩ ?_
    refine bfe h (fun hc13 h=>?_) fun hc13 h=>?_
    ·refine wft hc13<|wxz ?_
     refine wmr (mto (n:=19) (l':=[(4,I y3)]) (own':=[Qmg]) [(4,I y3)] [0] [Qmg] hφ0 (pw pn) (qb (lc (.rn (Qbn rn0 rn0)) ln) qn))<|Qae<|Qap<|Qag<|Qag<|Qap<|Qag ?_
     obtain rfl:=osi h
     exact ⟨_,Mor.rfl,Qc8 (vs:=[I y3]) ⟨rot,tv⟩ rfl (NLt.of0 nll) (by kernel_rfl) (Qao (Qbc (nlc (NLt.of0 (NLt.fn _ _ _ nl0 nl0)) nl0)) Qbs)⟩
    ·exact wfn hc13<|Qan<|bln<|thn<|wxz1<|thn<|arm (mto (n:=19) [(0,(Qy2 p0)),(1,Q30),(7,(I ((p0.length:Int)))),(8,(I (w64 (y3+1))))] [0] [Qmg] hφ0 (pc (rnd Qaf) (pc (.rn (Qbn rn0 (rnc (rqr rfl) rn0))) (pw (pw pn)))) (qb (lc (.rn (Qbn rn0 rn0)) ln) qn)) (ih (w64 (y3+1)) h)
   ·exact wfn hc6<|Qbi<|Qax<|Qax<|Qbh rfl<|thn<|⟨(),h,(mto (n:=19) [] [0] [Qmg] hφ0 pn (qb (lc (.rn (Qbn rn0 rn0)) ln) qn))⟩
def Qcu (N:Nat) (p0:(List Int)):Option Bool:=
  (Qd1 N p0).bind fun x3=>
  some (decide (x3≥0))
def Zhj (p0:(List Int)):AV:=.dat 1 ((p0:List Int).map Qak)
def Zhi:AV:=.fn (.func 128) [] [(.ref 0 1 (0) 0)]
def Qwk:Slot:=.own 1 [[(.fn (.func 109) [] [])]]
theorem Qhs (N:Nat) (p0:(List Int)) (r:Bool) (h:Qcu N p0=some r):Spec Tryz.prog 126 [(Zhj p0),Zhi] [Qwk] (B (r)) [Qwk]:=by
  refine Qah Tryz.func126 rfl 1 (nle rfl) (fun X φ0 w0 hφ0 hd0=>?_)
  unfold Qcu at h
  refine Qbx<|wxz ?_
  obtain ⟨x3,hf2,h⟩:=bno h
  refine wx tbk [(2,⟨[fu 141,(.tmp 5,(Zhj p0)),(.tmp 6,Zhi)],[(0,Qwk)],I x3,[(0,Qwk)],false⟩)] ⟨Qat (first:=[]) (cap:=[]) (vs:=[(Zhj p0),Zhi]) (σr:=[Qwk]) (σr':=[Qwk]) (res':=(I x3)) [0] rfl Qof (Qiq N p0 _ hf2) rfl (Qbt (rnc (pld Qaf) (rnc (Qbn rn0 (rnc (Qbj rfl) rn0)) rn0))) (slc (Qaq (rnc (.plain _ (NLt.fn _ _ _ nl0 nl0)) rn0)) Qas) (slc (Qaq (rnc (.plain _ (NLt.fn _ _ _ nl0 nl0)) rn0)) Qas) (.plain _ nll) rfl rfl rfl,tv⟩ ?_
  refine wmr (mto (n:=9) (l':=[(4,(B ((decide (x3≥0)))))]) (own':=[Qwk]) [(4,(B ((decide (x3≥0)))))] [0] [Qwk] hφ0 (pw pn) (qb (lc (.rn (Qbn rn0 rn0)) ln) qn))<|Qae ?_
  obtain rfl:=osi h
  exact ⟨_,Mor.rfl,Qc8 (vs:=[(B ((decide (x3≥0))))]) ⟨rot,tv⟩ rfl (NLt.of0 nll) (by kernel_rfl) (Qao (Qbc (nlc (NLt.of0 (NLt.fn _ _ _ nl0 nl0)) nl0)) Qbs)⟩
def Qhy (N:Nat) (p0:(List Int)):Option Bool:=
  (Qcu N p0).bind fun x2=>
  some (!x2)
def Zhl (p0:(List Int)):AV:=.dat 1 ((p0:List Int).map Qak)
def Zhk:AV:=.fn (.func 128) [] [(.ref 0 1 (0) 0)]
def Zbk:Slot:=.own 1 [[(.fn (.func 109) [] [])]]
theorem Qn1 (N:Nat) (p0:(List Int)) (r:Bool) (h:Qhy N p0=some r):Spec Tryz.prog 108 [(Zhl p0),(.fn (.func 109) [] [])] [] (B (r)) []:=by
  refine Qah Tryz.func108 rfl 0 (nle rfl) (fun X φ0 w0 hφ0 hd0=>?_)
  unfold Qhy at h
  refine wxz ?_
  obtain ⟨x2,hf1,h⟩:=bno h
  refine wx tbk [(1,rp [(.tmp 3,.ref 0 1 0 0)] Zhk),(2,⟨[fu 126,(.tmp 5,(Zhl p0)),(.tmp 6,Zhk)],[(0,Zbk)],B x2,[(0,Zbk)],false⟩)] ⟨Qfl (fs:=[]) (cs:=[.ref 0 1 0 0]) rfl rfl rfl rfl,Qat (first:=[]) (cap:=[]) (vs:=[(Zhl p0),Zhk]) (σr:=[Zbk]) (σr':=[Zbk]) (res':=(B x2)) [0] rfl Qog (Qhs N p0 _ hf1) rfl (Qbt (rnc (pld Qaf) (rnc (Qbn rn0 (rnc (Qbj rfl) rn0)) rn0))) (slc (Qaq (rnc (.plain _ (NLt.fn _ _ _ nl0 nl0)) rn0)) Qas) (slc (Qaq (rnc (.plain _ (NLt.fn _ _ _ nl0 nl0)) rn0)) Qas) (.plain _ nll) rfl rfl rfl,tv⟩<|Qae ?_
  obtain rfl:=osi h
  exact fend ⟨[(B ((!x2)))],⟨rot,tv⟩,rfl⟩ nll
def Qi1 (N:Nat) (p0:GNet) (p1:(List Int)):Option Int:=
  (Qgc N p0).bind fun x2=>
  bif (!x2) then
   some 1
  else
   bif ((p1.length:Int) != (p0.Elements.length:Int)) then
    some 1
   else
    (Qhy N p1).bind fun x6=>
    bif (!x6) then
     some 1
    else
     some 0
def Zmu (p0:GNet):AV:=.dat 5 ((p0.Table:List GRow).map Qa1)
def Zlb (p0:GNet):AV:=.dat 7 ((p0.Elements:List GElement).map Qab)
def Zhn (p0:GNet) (x2:Bool):List (Nat×Rec):=[(1,rp [fu 66,((.tmp 5),(.agg [(Zmu p0),(Zlb p0)]))] (B (x2)))]
def Zho (p1:(List Int)):AV:=.dat 1 ((p1:List Int).map Qak)
def Zhm (p0) (x2) (p1:(List Int)):=hcat (Zhn p0 x2) [(3,rp [((.tmp 7),(B ((!x2))))] (B (false))),(5,rp [((.tmp 8),(B (false))),((.tmp 9),(Zho p1))] (I ((p1.length:Int)))),(8,rp [((.tmp 8),(B (false))),((.tmp 12),(Zlb p0))] (I ((p0.Elements.length:Int))))]
theorem Qrj (N:Nat) (p0:GNet) (p1:(List Int)) (r:Int) (h:Qi1 N p0 p1=some r):Spec Tryz.prog 73 [(.agg (Qh9 p0)),(.dat 1 (p1.map Qak))] [] (I r) []:=by
  refine Qah Tryz.func73 rfl 0 (nle rfl) (fun X φ0 w0 hφ0 hd0=>?_)
  unfold Qi1 at h
  refine wxz<|wsq ?_
  obtain ⟨x2,hf1,h⟩:=bno h
  refine hpre (A:=(Zhn p0 x2)) ⟨apv Q9s (Qkb N p0 _ hf1) (nlc (NLt.agg _ (nlc (nld Qai _) (nlc (nld Qaa _) nl0))) nl0) nll,tv⟩ fun q1_=>?_
  refine bfe h (fun hb3 h=>?_) fun hb3 h=>?_
  ·refine wx tbk (hcat (Zhn p0 x2) [(3,rp [(.tmp 7,(B ((!x2))))] (B true))]) (hap q1_ ⟨asb hb3 (amv rfl),tv⟩)<|wtr<|wxz<|Qae<|Qag ?_
   obtain rfl:=osi h
   exact fend ⟨[I 1],⟨rot,tv⟩,rfl⟩ nll
  ·refine hpre (A:=(Zhm p0 x2 p1)) (hap q1_ ⟨asb hb3 (amv rfl),ag_ (alm (c:=Qak) (l:=p1) (aln rfl Tryz.underlying27 rfl)),ag_ (alm (c:=Qab) (l:=p0.Elements) (aln rfl Tryz.underlying40 rfl)),tv⟩) fun q2_=>?_
   refine bfe h (fun hb4 h=>?_) fun hb4 h=>?_
   ·refine wx tbk (hcat (Zhm p0 x2 p1) [(11,rp [(.tmp 15,(B (((p1.length:Int) != (p0.Elements.length:Int)))))] (B true))]) (hap q2_ ⟨asb hb4 (amv rfl),tv⟩)<|wtr<|wxz<|Qae<|Qag ?_
    obtain rfl:=osi h
    exact fend ⟨[I 1],⟨rot,tv⟩,rfl⟩ nll
   ·obtain ⟨x6,hf5,h⟩:=bno h
    refine wx tbk (hcat (Zhm p0 x2 p1) [(11,rp [(.tmp 15,(B (((p1.length:Int) != (p0.Elements.length:Int)))))] (B false)),(13,rp [(.tmp 16,B false),fu 108,(.tmp 17,(Zho p1)),fu 109] (B x6))]) (hap q2_ ⟨asb hb4 (amv rfl),ag_ (Qat (first:=[]) (cap:=[]) (vs:=[(Zho p1),(.fn (.func 109) [] [])]) (σr:=[]) (σr':=[]) (res':=(B x6)) [] rfl Q2z (Qn1 N p1 _ hf5) rfl (Qbt (rnc (pld Qaf) (rnc (.plain _ (NLt.fn _ _ _ nl0 nl0)) rn0))) Qas Qas (.plain _ nll) rfl rfl rfl),tv⟩) ?_
    refine bfe h (fun hc7 h=>?_) fun hc7 h=>?_
    ·refine wft hc7<|wxz<|Qae<|Qag ?_
     obtain rfl:=osi h
     exact fend ⟨[I 1],⟨rot,tv⟩,rfl⟩ nll
    ·refine wfn hc7<|Qan<|thn<|wxz<|Qae ?_
     obtain rfl:=osi h
     exact fend ⟨[I 0],⟨rot,tv⟩,rfl⟩ nll
def Qdl (N:Nat) (p0:GNet) (p1:Int) (k2:(List Int)→Option (List Int)):Nat→(List Int)→Int→Option (List Int)
  | 0,_,_=>none
  | n7+1,y3,y4=>
    bif (decide (y4<(p0.Elements.length:Int))) then
     (getI p0.Elements y4).bind fun x9=>
     bif (x9.Kind==p1) then
      chk (decide ((y3.length+([y4]).length) * 8≤140737488355328))<|
      Qdl N p0 p1 k2 n7 (y3++([y4])) (w64 (y4+1))
     else
      Qdl N p0 p1 k2 n7 y3 (w64 (y4+1))
    else
     k2 (y3)
def Qhh (N:Nat) (p0:GNet) (p1:Int):Option (List Int):=
  Qbp (fun y1=>
    some y1) fun k2:(List Int)→Option (List Int)=>
  Qdl N p0 p1 k2 N ([]) 0
def Qy1 (p0:GNet):AV:=.dat 7 ((p0.Elements:List GElement).map Qab)
def Q1q (y3:(List Int)):AV:=.acc 0 3 1 ((y3:List Int).map Qak)
theorem Qj1 (N:Nat) (p0:GNet) (p1:Int) (r:(List Int)) (h:Qhh N p0 p1=some r):Spec Tryz.prog 67 [(.agg (Qh9 p0)),(K .u8 p1)] [] (.dat 1 (r.map Qak)) []:=by
  refine Qah Tryz.func67 rfl 0 (nle rfl) (fun X φ0 w0 hφ0 hd0=>?_)
  unfold Qhh at h
  refine wxz ?_
  obtain ⟨k2,hk_k2,h⟩:=jko h
  refine wjn (τ:=(List Int)) (fun t=>k2 t=some r) (fun y1=>⟨mk 25 [(4,(.acc 0 3 1 ((y1:List Int).map Qak)))],[.tok]⟩) (fun y1 h=>?_) ?_
  ·subst hk_k2
   refine wxz<|Qae ?_
   obtain rfl:=osi h
   exact fend ⟨[(.dat 1 ((y1:List Int).map Qak))],⟨Qgn (v:=(.acc 0 3 1 ((y1:List Int).map Qak))) (rot) Less.acc,tv⟩,rfl⟩ (nld Qaf _)
  ·skip
   refine wx tbk [(2,rp [(.tmp 8,(Qy1 p0))] (I ((p0.Elements.length:Int))))] ⟨alm (c:=Qab) (l:=p0.Elements) (aln rfl Tryz.underlying40 rfl),tv⟩<|Qaj ?_
   refine wmr (Mor.trans (Qrq 1 3 1 4 (by kernel_rfl) (by kernel_rfl)) (mto (n:=25) (l':=[(1,(K .u8 (p1))),(4,(.acc 0 3 1 ((([]):List Int).map Qak))),(8,(Qy1 p0)),(9,(I ((p0.Elements.length:Int)))),(10,I 0)]) (own':=[.tok]) [(1,(K .u8 (p1))),(4,(.acc 1 3 1 (([]:List Int).map Qak))),(8,(Qy1 p0)),(9,(I ((p0.Elements.length:Int)))),(10,I 0)] [1] [.tok] hφ0 (pw (pc (.rn (Qbw rfl (Qbk Qaf _))) (pc (rnd Qaa) (pw (pw pn))))) (qc .tok qn))) ?_
   refine Qcb (τ:=(List Int)×Int) (fun n t=>Qdl N p0 p1 k2 n t.1 t.2=some r) (fun ⟨y3,y4⟩=>⟨mk 25 [(1,(K .u8 (p1))),(4,(Q1q y3)),(8,(Qy1 p0)),(9,(I ((p0.Elements.length:Int)))),(10,I y4)],[.tok]⟩) (fun t h=>by rw [Qdl] at h; cases h) (fun n7 ih t h=>?_) N ([],0) h
   obtain ⟨y3,y4⟩:=t
   rw [Qdl] at h
   skip
   refine wxz<|wsq ?_
   refine bfe h (fun hc8 h=>?_) fun hc8 h=>?_
   ·refine wft hc8<|Qan<|thn<|wsq<|Qaj ?_
    obtain ⟨x9,hg10,h⟩:=bno h
    obtain ⟨hi11,hj12⟩:=gsm hg10
    refine wx tbk [(1,rp [(.tmp 8,(Qy1 p0)),(.tmp 10,I y4)] (.dptr (Qab (x9)) 0))] ⟨aid rfl Tryz.underlying40 Qju rfl rfl hi11 (mgt Qab hj12) rfl,tv⟩<|wxz ?_
    refine bfe h (fun hc13 h=>?_) fun hc13 h=>?_
    ·refine wft hc13 ?_
     obtain ⟨ha14,h⟩:=cko h
     refine wx1 tbk [(2,rp [(.tmp 20,I y4)] (.dat 1 (([y4]:List Int).map Qak))),(3,⟨[(.tmp 19,(Q1q y3)),(.tmp 21,(.dat 1 (([y4]:List Int).map Qak)))],[(0,.tok),(2,.unused)],(.acc 2 3 1 ((y3++([y4]):List Int).map Qak)),[(0,.dead),(2,.tok)],false⟩)] ⟨Qbo (vs:=[I y4]) rfl Tryz.underlying27 ti3 tz3 rfl (by decide) rfl (by decide) (by rfl) (by rfl) (by rfl) rfl,Qer rfl Tryz.underlying27 te3 (Base.acc _ _) rfl rfl (by rfl) (Qg0 Qak ha14) (Qgz Qak ha14 (by decide)) (Qgy Qak) rfl rfl,tv⟩<|bln<|thn<|wxz1<|thn ?_
     exact arm (mto (n:=25) [(1,(K .u8 (p1))),(4,(.acc 2 3 1 ((y3++([y4]):List Int).map Qak))),(8,(Qy1 p0)),(9,(I ((p0.Elements.length:Int)))),(10,(I (w64 (y4+1))))] [2] [.tok] hφ0 (pw (pc (.rn (Qbw rfl (Qbk Qaf _))) (pc (rnd Qaa) (pw (pw pn))))) (qc .tok qn)) (ih (y3++([y4]),w64 (y4+1)) h)
    ·exact wfn hc13<|Qan<|bln<|thn<|wxz1<|thn<|arm (mto (n:=25) [(1,(K .u8 (p1))),(4,(Q1q y3)),(8,(Qy1 p0)),(9,(I ((p0.Elements.length:Int)))),(10,(I (w64 (y4+1))))] [0] [.tok] hφ0 (pw (pc (.rn (Qbw rfl (Qbk Qaf _))) (pc (rnd Qaa) (pw (pw pn))))) (qc .tok qn)) (ih (y3,w64 (y4+1)) h)
   ·exact wfn hc8<|Qbi<|Qax<|Qax<|Qbh rfl<|thn<|⟨(y3),h,(mto (n:=25) [(4,(Q1q y3))] [0] [.tok] hφ0 (pc (.rn (Qbw rfl (Qbk Qaf _))) pn) (qc .tok qn))⟩
def Qdt (N:Nat) (p0:GStream):Option Bool:=
  (Qcy N p0.Mass 0 1000000).bind fun x2=>
  bif x2 then
   (Qcy N p0.Heat 0 (w64 (4000 * p0.Mass))).bind fun x5=>
   bif x5 then
    (Qcy N p0.Silica 0 (w64 (10000 * p0.Mass))).bind fun x8=>
    bif x8 then
     (Qcy N p0.Gas 0 1000000000).bind fun x11=>
     some x11
    else
     some false
   else
    some false
  else
   some false
def Zhd (p0:GStream) (x2:Bool):List (Nat×Rec):=[(2,rp [fu 137,((.tmp 4),(I (p0.Mass))),ci 0,ci 1000000] (B (x2)))]
def Zhc (p0) (x2) (x5:Bool):=hcat (Zhd p0 x2) [(3,rp [((.tmp 5),(B (x2)))] (B (true))),(9,rp [((.tmp 6),(B (true))),fu 137,((.tmp 8),(I (p0.Heat))),ci 0,((.tmp 11),(I (w64 (4000 * p0.Mass))))] (B (x5)))]
def Zhb (p0) (x2) (x5) (x8:Bool):=hcat (Zhc p0 x2 x5) [(11,rp [((.tmp 13),(B (x5)))] (B (true))),(17,rp [((.tmp 14),(B (true))),fu 137,((.tmp 16),(I (p0.Silica))),ci 0,((.tmp 19),(I (w64 (10000 * p0.Mass))))] (B (x8)))]
theorem Qgq (N:Nat) (p0:GStream) (r:Bool) (h:Qdt N p0=some r):Spec Tryz.prog 131 [(.agg (Qac p0))] [] (B r) []:=by
  refine Qah Tryz.func131 rfl 0 (nle rfl) (fun X φ0 w0 hφ0 hd0=>?_)
  unfold Qdt at h
  refine wxz ?_
  obtain ⟨x2,hf1,h⟩:=bno h
  refine hpre (A:=(Zhd p0 x2)) ⟨apv Qh5 (Qc4 N p0.Mass 0 1000000 _ hf1) (nlcc (nlc nll nl0)) nll,tv⟩ fun q1_=>?_
  refine bfe h (fun hb3 h=>?_) fun hb3 h=>?_
  ·obtain ⟨x5,hf4,h⟩:=bno h
   refine hpre (A:=(Zhc p0 x2 x5)) (hap q1_ ⟨asb hb3 (amv rfl),ag_ (apv Qh5 (Qc4 N p0.Heat 0 (w64 (4000 * p0.Mass)) _ hf4) (nlcc (nlc nll nl0)) nll),tv⟩) fun q2_=>?_
   refine bfe h (fun hb6 h=>?_) fun hb6 h=>?_
   ·obtain ⟨x8,hf7,h⟩:=bno h
    refine hpre (A:=(Zhb p0 x2 x5 x8)) (hap q2_ ⟨asb hb6 (amv rfl),ag_ (apv Qh5 (Qc4 N p0.Silica 0 (w64 (10000 * p0.Mass)) _ hf7) (nlcc (nlc nll nl0)) nll),tv⟩) fun q3_=>?_
    refine bfe h (fun hb9 h=>?_) fun hb9 h=>?_
    ·obtain ⟨x11,hf10,h⟩:=bno h
     exact wx tbk (hcat (Zhb p0 x2 x5 x8) [(19,rp [(.tmp 21,B x8)] (B true)),(22,rp [(.tmp 22,B true),fu 137,(.tmp 24,I p0.Gas),ci 0,ci 1000000000] (B x11))]) (hap q3_ ⟨asb hb9 (amv rfl),ag_ (apv Qh5 (Qc4 N p0.Gas 0 1000000000 _ hf10) (nlcc (nlc nll nl0)) nll),tv⟩)<|Qae<|frb h
    ·exact wx tbk (hcat (Zhb p0 x2 x5 x8) [(19,rp [(.tmp 21,B x8)] (B false))]) (hap q3_ ⟨asb hb9 (amv rfl),tv⟩)<|Qae<|frb h
   ·exact wx tbk (hcat (Zhc p0 x2 x5) [(11,rp [(.tmp 13,B x5)] (B false))]) (hap q2_ ⟨asb hb6 (amv rfl),tv⟩)<|Qae<|frb h
  ·exact wx tbk (hcat (Zhd p0 x2) [(3,rp [(.tmp 5,B x2)] (B false))]) (hap q1_ ⟨asb hb3 (amv rfl),tv⟩)<|Qae<|frb h
def Qfp (N:Nat) (p0:GStream):Option Int:=
  (Qdt N p0).bind fun x2=>
  bif (!x2) then
   some 1
  else
   some 0
def Zmq (p0:GStream):AV:=.agg [(I (p0.Mass)),(I (p0.Heat)),(I (p0.Silica)),(I (p0.Gas))]
theorem Qlt (N:Nat) (p0:GStream) (r:Int) (h:Qfp N p0=some r):Spec Tryz.prog 114 [(.agg (Qac p0))] [] (I r) []:=by
  refine Qah Tryz.func114 rfl 0 (nle rfl) (fun X φ0 w0 hφ0 hd0=>?_)
  unfold Qfp at h
  refine wxz<|wsq ?_
  obtain ⟨x2,hf1,h⟩:=bno h
  refine wx tbk [(1,rp [fu 131,(.tmp 3,(Zmq p0))] (B x2))] ⟨apv Qvt (Qgq N p0 _ hf1) (nlc (NLt.agg _ (nlcc (nlcc nl0))) nl0) nll,tv⟩ ?_
  refine bfe h (fun hc3 h=>?_) fun hc3 h=>?_
  ·refine wft hc3<|wxz<|Qae<|Qag ?_
   obtain rfl:=osi h
   exact fend ⟨[I 1],⟨rot,tv⟩,rfl⟩ nll
  ·refine wfn hc3<|Qan<|thn<|wxz<|Qae ?_
   obtain rfl:=osi h
   exact fend ⟨[I 0],⟨rot,tv⟩,rfl⟩ nll
def Qhz (N:Nat) (p0:GStream):Option Bool:=
  (Qfp N p0).bind fun x2=>
  some (x2==0)
def Zmr (p0:GStream):AV:=.agg [(I (p0.Mass)),(I (p0.Heat)),(I (p0.Silica)),(I (p0.Gas))]
theorem Qn3 (N:Nat) (p0:GStream) (r:Bool) (h:Qhz N p0=some r):Spec Tryz.prog 113 [(.agg (Qac p0))] [] (B r) []:=by
  refine Qah Tryz.func113 rfl 0 (nle rfl) (fun X φ0 w0 hφ0 hd0=>?_)
  unfold Qhz at h
  refine wxz ?_
  obtain ⟨x2,hf1,h⟩:=bno h
  refine wx tbk [(1,rp [fu 114,(.tmp 3,(Zmr p0))] (I x2))] ⟨apv Zd0 (Qlt N p0 _ hf1) (nlc (NLt.agg _ (nlcc (nlcc nl0))) nl0) nll,tv⟩<|Qae ?_
  obtain rfl:=osi h
  exact fend ⟨[(B ((x2==0)))],⟨rot,tv⟩,rfl⟩ nll
def Qdd (N:Nat) (p0:GStream):Option Bool:=
  (Qhz N p0).bind fun x3=>
  some (!x3)
def Zk9 (p0:GStream):AV:=.agg [(I (p0.Mass)),(I (p0.Heat)),(I (p0.Silica)),(I (p0.Gas))]
def Zbh:Slot:=.own 1 [[(.fn (.func 113) [] [])]]
theorem Qi9 (N:Nat) (p0:GStream) (r:Bool) (h:Qdd N p0=some r):Spec Tryz.prog 130 [(Zk9 p0),(.ref 0 1 (0) 0)] [Zbh] (B (r)) [Zbh]:=by
  refine Qah Tryz.func130 rfl 1 (nle rfl) (fun X φ0 w0 hφ0 hd0=>?_)
  unfold Qdd at h
  refine Qbx<|wxz ?_
  obtain ⟨x3,hf2,h⟩:=bno h
  refine wx tbk [(2,rp [(.tmp 4,(.fn (.func 113) [] [])),(.tmp 5,(Zk9 p0))] (B x3))] ⟨apv Zd1 (Qn3 N p0 _ hf2) (nlc (NLt.agg _ (nlcc (nlcc nl0))) nl0) nll,tv⟩ ?_
  refine wmr (mto (n:=8) (l':=[(3,(B ((!x3))))]) (own':=[Zbh]) [(3,(B ((!x3))))] [0] [Zbh] hφ0 (pw pn) (qb (lc (.rn (Qbn rn0 rn0)) ln) qn))<|Qae ?_
  obtain rfl:=osi h
  exact ⟨_,Mor.rfl,Qc8 (vs:=[(B ((!x3)))]) ⟨rot,tv⟩ rfl (NLt.of0 nll) (by kernel_rfl) (Qao (Qbc (nlc (NLt.of0 (NLt.fn _ _ _ nl0 nl0)) nl0)) Qbs)⟩
def Qa3 (N:Nat) (p0:(List GStream)) (k2:Unit→Option Int):Nat→Int→Option Int
  | 0,_=>none
  | n5+1,y3=>
    bif (decide (y3<(p0.length:Int))) then
     (getI p0 y3).bind fun x7=>
     (Qdd N x7).bind fun x12=>
     bif x12 then
      some y3
     else
      Qa3 N p0 k2 n5 (w64 (y3+1))
    else
     k2 ()
def Qb0 (N:Nat) (p0:(List GStream)):Option Int:=
  Qbp (fun _=>
    some (-1)) fun k2:Unit→Option Int=>
  Qa3 N p0 k2 N 0
def Qy0 (p0:(List GStream)):AV:=.dat 4 ((p0:List GStream).map Qac)
def Q3y:AV:=.fn (.func 130) [] [(.ref 0 1 (0) 0)]
def Qmf:Slot:=.own 1 [[(.fn (.func 113) [] [])]]
def Zla (x7:GStream):AV:=.agg [(I (x7.Mass)),(I (x7.Heat)),(I (x7.Silica)),(I (x7.Gas))]
theorem Qfq (N:Nat) (p0:(List GStream)) (r:Int) (h:Qb0 N p0=some r):Spec Tryz.prog 142 [(Qy0 p0),Q3y] [Qmf] (I (r)) [Qmf]:=by
  refine Qah Tryz.func142 rfl 1 (nle rfl) (fun X φ0 w0 hφ0 hd0=>?_)
  unfold Qb0 at h
  refine Qbx<|wxz ?_
  obtain ⟨k2,hk_k2,h⟩:=jko h
  refine wjn (τ:=Unit) (fun t=>k2 t=some r) (fun _=>⟨mk 19 [],[Qmf]⟩) (fun t h=>?_) ?_
  ·subst hk_k2
   refine wxz<|wmr (mto (n:=19) (l':=[(4,(I ((-1))))]) (own':=[Qmf]) [(4,(I ((-1))))] [0] [Qmf] hφ0 (pw pn) (qb (lc (.rn (Qbn rn0 rn0)) ln) qn))<|Qae ?_
   obtain rfl:=osi h
   exact ⟨_,Mor.rfl,Qc8 (vs:=[(I ((-1)))]) ⟨rot,tv⟩ rfl (NLt.of0 nll) (by kernel_rfl) (Qao (Qbc (nlc (NLt.of0 (NLt.fn _ _ _ nl0 nl0)) nl0)) Qbs)⟩
  ·skip
   refine wx tbk [(1,rp [(.tmp 6,(Qy0 p0))] (I ((p0.length:Int))))] ⟨alm (c:=Qac) (l:=p0) (aln rfl Tryz.underlying45 rfl),tv⟩<|Qaj ?_
   refine wmr (mto (n:=19) (l':=[(0,(Qy0 p0)),(1,Q3y),(7,(I ((p0.length:Int)))),(8,I 0)]) (own':=[Qmf]) [(0,(Qy0 p0)),(1,Q3y),(7,(I ((p0.length:Int)))),(8,I 0)] [0] [Qmf] hφ0 (pc (rnd Qad) (pc (.rn (Qbn rn0 (rnc (rqr rfl) rn0))) (pw (pw pn)))) (qb (lc (.rn (Qbn rn0 rn0)) ln) qn)) ?_
   refine Qcb (τ:=Int) (fun n t=>Qa3 N p0 k2 n t=some r) (fun y3=>⟨mk 19 [(0,(Qy0 p0)),(1,Q3y),(7,(I ((p0.length:Int)))),(8,I y3)],[Qmf]⟩) (fun t h=>by rw [Qa3] at h; cases h) (fun n5 ih y3 h=>?_) N (0) h
   rw [Qa3] at h
   skip
   refine wxz<|wsq ?_
   refine bfe h (fun hc6 h=>?_) fun hc6 h=>?_
   ·refine wft hc6<|Qan<|thn<|wsq<|Qaj<|wxz ?_
    obtain ⟨x7,hg8,h⟩:=bno h
    obtain ⟨hi9,hj10⟩:=gsm hg8
    obtain ⟨x12,hf11,h⟩:=bno h
    refine wx tbk [(3,rp [(.tmp 12,(Qy0 p0)),(.tmp 13,I y3)] (.dptr (Qac (x7)) 0)),(5,⟨[(.tmp 11,Q3y),(.tmp 15,(Zla x7))],[(0,Qmf)],B x12,[(0,Qmf)],false⟩)] ⟨aid rfl Tryz.underlying45 ti63 rfl rfl hi9 (mgt Qac hj10) rfl,Qat (first:=[]) (cap:=[.ref 0 1 0 0]) (vs:=[(Zla x7)]) (σr:=[Qmf]) (σr':=[Qmf]) (res':=(B x12)) [0] rfl Zdo (Qi9 N x7 _ hf11) rfl (Qbt (rnc (.plain _ (NLt.agg _ (nlcc (nlcc nl0)))) (rnc (Qbj rfl) rn0))) (slc (Qaq (rnc (.plain _ (NLt.fn _ _ _ nl0 nl0)) rn0)) Qas) (slc (Qaq (rnc (.plain _ (NLt.fn _ _ _ nl0 nl0)) rn0)) Qas) (.plain _ nll) rfl rfl rfl,tv⟩ ?_
    refine bfe h (fun hc13 h=>?_) fun hc13 h=>?_
    ·refine wft hc13<|wxz ?_
     refine wmr (mto (n:=19) (l':=[(4,I y3)]) (own':=[Qmf]) [(4,I y3)] [0] [Qmf] hφ0 (pw pn) (qb (lc (.rn (Qbn rn0 rn0)) ln) qn))<|Qae<|Qap<|Qag<|Qag<|Qap<|Qag ?_
     obtain rfl:=osi h
     exact ⟨_,Mor.rfl,Qc8 (vs:=[I y3]) ⟨rot,tv⟩ rfl (NLt.of0 nll) (by kernel_rfl) (Qao (Qbc (nlc (NLt.of0 (NLt.fn _ _ _ nl0 nl0)) nl0)) Qbs)⟩
    ·exact wfn hc13<|Qan<|bln<|thn<|wxz1<|thn<|arm (mto (n:=19) [(0,(Qy0 p0)),(1,Q3y),(7,(I ((p0.length:Int)))),(8,(I (w64 (y3+1))))] [0] [Qmf] hφ0 (pc (rnd Qad) (pc (.rn (Qbn rn0 (rnc (rqr rfl) rn0))) (pw (pw pn)))) (qb (lc (.rn (Qbn rn0 rn0)) ln) qn)) (ih (w64 (y3+1)) h)
   ·exact wfn hc6<|Qbi<|Qax<|Qax<|Qbh rfl<|thn<|⟨(),h,(mto (n:=19) [] [0] [Qmf] hφ0 pn (qb (lc (.rn (Qbn rn0 rn0)) ln) qn))⟩
def Qbf (N:Nat) (p0:(List GStream)):Option Bool:=
  (Qb0 N p0).bind fun x3=>
  some (decide (x3≥0))
def Zhf (p0:(List GStream)):AV:=.dat 4 ((p0:List GStream).map Qac)
def Zhe:AV:=.fn (.func 130) [] [(.ref 0 1 (0) 0)]
def Qwj:Slot:=.own 1 [[(.fn (.func 113) [] [])]]
theorem Qfa (N:Nat) (p0:(List GStream)) (r:Bool) (h:Qbf N p0=some r):Spec Tryz.prog 129 [(Zhf p0),Zhe] [Qwj] (B (r)) [Qwj]:=by
  refine Qah Tryz.func129 rfl 1 (nle rfl) (fun X φ0 w0 hφ0 hd0=>?_)
  unfold Qbf at h
  refine Qbx<|wxz ?_
  obtain ⟨x3,hf2,h⟩:=bno h
  refine wx tbk [(2,⟨[fu 142,(.tmp 5,(Zhf p0)),(.tmp 6,Zhe)],[(0,Qwj)],I x3,[(0,Qwj)],false⟩)] ⟨Qat (first:=[]) (cap:=[]) (vs:=[(Zhf p0),Zhe]) (σr:=[Qwj]) (σr':=[Qwj]) (res':=(I x3)) [0] rfl Zdh (Qfq N p0 _ hf2) rfl (Qbt (rnc (pld Qad) (rnc (Qbn rn0 (rnc (Qbj rfl) rn0)) rn0))) (slc (Qaq (rnc (.plain _ (NLt.fn _ _ _ nl0 nl0)) rn0)) Qas) (slc (Qaq (rnc (.plain _ (NLt.fn _ _ _ nl0 nl0)) rn0)) Qas) (.plain _ nll) rfl rfl rfl,tv⟩ ?_
  refine wmr (mto (n:=9) (l':=[(4,(B ((decide (x3≥0)))))]) (own':=[Qwj]) [(4,(B ((decide (x3≥0)))))] [0] [Qwj] hφ0 (pw pn) (qb (lc (.rn (Qbn rn0 rn0)) ln) qn))<|Qae ?_
  obtain rfl:=osi h
  exact ⟨_,Mor.rfl,Qc8 (vs:=[(B ((decide (x3≥0))))]) ⟨rot,tv⟩ rfl (NLt.of0 nll) (by kernel_rfl) (Qao (Qbc (nlc (NLt.of0 (NLt.fn _ _ _ nl0 nl0)) nl0)) Qbs)⟩
def Qev (N:Nat) (p0:(List GStream)):Option Bool:=
  (Qbf N p0).bind fun x2=>
  some (!x2)
def Zhh (p0:(List GStream)):AV:=.dat 4 ((p0:List GStream).map Qac)
def Zhg:AV:=.fn (.func 130) [] [(.ref 0 1 (0) 0)]
def Zbi:Slot:=.own 1 [[(.fn (.func 113) [] [])]]
theorem Qjz (N:Nat) (p0:(List GStream)) (r:Bool) (h:Qev N p0=some r):Spec Tryz.prog 112 [(Zhh p0),(.fn (.func 113) [] [])] [] (B (r)) []:=by
  refine Qah Tryz.func112 rfl 0 (nle rfl) (fun X φ0 w0 hφ0 hd0=>?_)
  unfold Qev at h
  refine wxz ?_
  obtain ⟨x2,hf1,h⟩:=bno h
  refine wx tbk [(1,rp [(.tmp 3,.ref 0 1 0 0)] Zhg),(2,⟨[fu 129,(.tmp 5,(Zhh p0)),(.tmp 6,Zhg)],[(0,Zbi)],B x2,[(0,Zbi)],false⟩)] ⟨Qfl (fs:=[]) (cs:=[.ref 0 1 0 0]) rfl rfl rfl rfl,Qat (first:=[]) (cap:=[]) (vs:=[(Zhh p0),Zhg]) (σr:=[Zbi]) (σr':=[Zbi]) (res':=(B x2)) [0] rfl Zdp (Qfa N p0 _ hf1) rfl (Qbt (rnc (pld Qad) (rnc (Qbn rn0 (rnc (Qbj rfl) rn0)) rn0))) (slc (Qaq (rnc (.plain _ (NLt.fn _ _ _ nl0 nl0)) rn0)) Qas) (slc (Qaq (rnc (.plain _ (NLt.fn _ _ _ nl0 nl0)) rn0)) Qas) (.plain _ nll) rfl rfl rfl,tv⟩<|Qae ?_
  obtain rfl:=osi h
  exact fend ⟨[(B ((!x2)))],⟨rot,tv⟩,rfl⟩ nll
def Qeh (N:Nat) (p0:(List GStream)) (k5:Int×Int×Int×Int→Option GStream):Nat→Int→Int→Int→Int→Int→Option GStream
  | 0,_,_,_,_,_=>none
  | n16+1,y6,y7,y8,y9,y10=>
    bif (decide (y6<(p0.length:Int))) then
     (getI p0 y6).bind fun x18=>
     Qeh N p0 k5 n16 (w64 (y6+1)) (w64 (y7+x18.Mass)) (w64 (y8+x18.Heat)) (w64 (y9+x18.Silica)) (w64 (y10+x18.Gas))
    else
     k5 (y7,y8,y9,y10)
def Qfe (N:Nat) (p0:(List GStream)):Option GStream:=
  Qbp (fun ⟨y1,y2,y3,y4⟩=>
    some (⟨y1,y2,y3,y4⟩:GStream)) fun k5:Int×Int×Int×Int→Option GStream=>
  Qeh N p0 k5 N 0 0 0 0 0
def Q3x (p0:(List GStream)):AV:=.dat 4 ((p0:List GStream).map Qac)
def Zk8:Slot:=.own 4 [[(I (0)),(I (0)),(I (0)),(I (0))]]
theorem Qki (N:Nat) (p0:(List GStream)) (r:GStream) (h:Qfe N p0=some r):Spec Tryz.prog 76 [(.dat 4 (p0.map Qac))] [] (.agg (Qac r)) []:=by
  refine Qah Tryz.func76 rfl 0 (nle rfl) (fun X φ0 w0 hφ0 hd0=>?_)
  unfold Qfe at h
  refine wxz ?_
  obtain ⟨k5,hk_k5,h⟩:=jko h
  refine wjn (τ:=Int×Int×Int×Int) (fun t=>k5 t=some r) (fun ⟨y1,y2,y3,y4⟩=>⟨mk 34 [(2,.ref 0 4 0 0)],[(.own 4 [[I y1,I y2,I y3,I y4]])]⟩) (fun t h=>?_) ?_
  ·subst hk_k5
   obtain ⟨y1,y2,y3,y4⟩:=t
   refine wxz<|Qae ?_
   obtain rfl:=osi h
   exact fend ⟨[(.agg [I y1,I y2,I y3,I y4])],⟨Qcc (n:=0) (m:=4) (j:=0) (i:=0) (xs:=[[I y1,I y2,I y3,I y4]]) (by kernel_rfl) (by kernel_rfl) ti63 (by decide) rfl (nle rfl) rfl,tv⟩,rfl⟩ (NLt.agg _ (nlcc (nlcc nl0)))
  ·skip
   refine wx tbk [(1,rp [(.tmp 5,(Q3x p0))] (I ((p0.length:Int))))] ⟨alm (c:=Qac) (l:=p0) (aln rfl Tryz.underlying45 rfl),tv⟩<|Qaj ?_
   refine wmr (mto (n:=34) (l':=[(2,.ref 0 4 0 0),(5,(Q3x p0)),(6,(I ((p0.length:Int)))),(7,I 0)]) (own':=[Zk8]) [(2,.ref 0 4 0 0),(5,(Q3x p0)),(6,(I ((p0.length:Int)))),(7,I 0)] [0] [Zk8] hφ0 (prr (pc (rnd Qad) (pw (pw pn)))) (qb (lcc (lcc ln)) qn)) ?_
   refine Qcb (τ:=Int×Int×Int×Int×Int) (fun n t=>Qeh N p0 k5 n t.1 t.2.1 t.2.2.1 t.2.2.2.1 t.2.2.2.2=some r) (fun ⟨y6,y7,y8,y9,y10⟩=>⟨mk 34 [(2,.ref 0 4 0 0),(5,(Q3x p0)),(6,(I ((p0.length:Int)))),(7,I y6)],[(.own 4 [[I y7,I y8,I y9,I y10]])]⟩) (fun t h=>by rw [Qeh] at h; cases h) (fun n16 ih t h=>?_) N (0,0,0,0,0) h
   obtain ⟨y6,y7,y8,y9,y10⟩:=t
   rw [Qeh] at h
   skip
   refine wxz<|wsq ?_
   refine bfe h (fun hc17 h=>?_) fun hc17 h=>?_
   ·refine wft hc17<|Qan<|thn<|wsq<|Qaj ?_
    obtain ⟨x18,hg19,h⟩:=bno h
    obtain ⟨hi20,hj21⟩:=gsm hg19
    refine wx tbk [(0,rp [(.tmp 5,(Q3x p0)),(.tmp 7,I y6)] (.dptr (Qac (x18)) 0))] ⟨aid rfl Tryz.underlying45 ti63 rfl rfl hi20 (mgt Qac hj21) rfl,tv⟩ ?_
    refine wx1 tbk [(20,rp [(.tmp 15,(I (w64 (y7+x18.Mass)))),(.tmp 20,(I (w64 (y8+x18.Heat)))),(.tmp 25,(I (w64 (y9+x18.Silica)))),(.tmp 30,(I (w64 (y10+x18.Gas))))] (.agg [(I (w64 (y7+x18.Mass))),(I (w64 (y8+x18.Heat))),(I (w64 (y9+x18.Silica))),(I (w64 (y10+x18.Gas)))]))] ⟨Qa2 (vs:=[(I (w64 (y7+x18.Mass))),(I (w64 (y8+x18.Heat))),(I (w64 (y9+x18.Silica))),(I (w64 (y10+x18.Gas)))]) rfl ts63 tz63 rfl (by rfl) rfl,tv⟩<|bln<|thn<|wxz1<|thn ?_
    exact arm (mto (n:=34) [(2,.ref 0 4 0 0),(5,(Q3x p0)),(6,(I ((p0.length:Int)))),(7,(I (w64 (y6+1))))] [0] [(.own 4 [[(I (w64 (y7+x18.Mass))),(I (w64 (y8+x18.Heat))),(I (w64 (y9+x18.Silica))),(I (w64 (y10+x18.Gas)))]])] hφ0 (prr (pc (rnd Qad) (pw (pw pn)))) (qb (lcc (lcc ln)) qn)) (ih (w64 (y6+1),w64 (y7+x18.Mass),w64 (y8+x18.Heat),w64 (y9+x18.Silica),w64 (y10+x18.Gas)) h)
   ·exact wfn hc17<|Qbi<|Qax<|Qax<|Qbh rfl<|thn<|⟨(y7,y8,y9,y10),h,(mto (n:=34) [(2,.ref 0 4 0 0)] [0] [(.own 4 [[I y7,I y8,I y9,I y10]])] hφ0 (prr pn) (qb (lcc (lcc ln)) qn))⟩
def Qh0 (N:Nat) (p0:GNet) (p1:(List GStream)):Option Int:=
  Qbp (fun _=>
    (Qfe N p1).bind fun x3=>
    bif (decide (x3.Mass>1000000)) then
     some 3
    else
     bif (decide (x3.Gas>1000000000)) then
      some 3
     else
      some 0) fun k1:Unit→Option Int=>
  (Qhh N p0 1).bind fun x7=>
  bif ((p1.length:Int) != (x7.length:Int)) then
   some 1
  else
   (Qev N p1).bind fun x10=>
   bif (!x10) then
    some 1
   else
    k1 ()
def Q3z (p1:(List GStream)):AV:=.dat 4 ((p1:List GStream).map Qac)
def Zmt (p0:GNet):AV:=.dat 5 ((p0.Table:List GRow).map Qa1)
def Zms (p0:GNet):AV:=.dat 7 ((p0.Elements:List GElement).map Qab)
def Q7g (p1:(List GStream)) (p0:GNet) (x7:(List Int)):List (Nat×Rec):=[(1,rp [((.tmp 6),(Q3z p1))] (I ((p1.length:Int)))),(3,rp [fu 67,((.tmp 8),(.agg [(Zmt p0),(Zms p0)])),((.const (.int .u8 1)),(K .u8 (1)))] (.dat 1 ((x7:List Int).map Qak))),(4,rp [((.tmp 9),(.dat 1 ((x7:List Int).map Qak)))] (I ((x7.length:Int))))]
theorem Qp9 (N:Nat) (p0:GNet) (p1:(List GStream)) (r:Int) (h:Qh0 N p0 p1=some r):Spec Tryz.prog 94 [(.agg (Qh9 p0)),(.dat 4 (p1.map Qac))] [] (I r) []:=by
  refine Qah Tryz.func94 rfl 0 (nle rfl) (fun X φ0 w0 hφ0 hd0=>?_)
  unfold Qh0 at h
  refine wxz ?_
  obtain ⟨k1,hk_k1,h⟩:=jko h
  refine wjn (τ:=Unit) (fun t=>k1 t=some r) (fun _=>⟨mk 27 [(1,(Q3z p1))],[]⟩) (fun t h=>?_) ?_
  ·subst hk_k1
   refine wsq ?_
   obtain ⟨x3,hf2,h⟩:=bno h
   refine wx tbk [(1,rp [fu 76,(.tmp 17,(Q3z p1))] (.agg [I x3.Mass,I x3.Heat,I x3.Silica,I x3.Gas]))] ⟨apv Qz5 (Qki N p1 _ hf2) (nlc (nld Qad _) nl0) (NLt.agg _ (nlcc (nlcc nl0))),tv⟩ ?_
   refine bfe h (fun hb4 h=>?_) fun hb4 h=>?_
   ·refine wx tbk [(3,rp [(.tmp 21,(B ((decide (x3.Mass>1000000)))))] (B true))] ⟨asb hb4 (amv rfl),tv⟩<|wtr<|wxz<|Qae<|Qag ?_
    obtain rfl:=osi h
    exact fend ⟨[I 3],⟨rot,tv⟩,rfl⟩ nll
   ·refine wx tbk [(3,rp [(.tmp 21,(B ((decide (x3.Mass>1000000)))))] (B false))] ⟨asb hb4 (amv rfl),tv⟩ ?_
    refine bfe h (fun hc5 h=>?_) fun hc5 h=>?_
    ·refine wft hc5<|wxz<|Qae<|Qag ?_
     obtain rfl:=osi h
     exact fend ⟨[I 3],⟨rot,tv⟩,rfl⟩ nll
    ·refine wfn hc5<|Qan<|thn<|wxz<|Qae ?_
     obtain rfl:=osi h
     exact fend ⟨[I 0],⟨rot,tv⟩,rfl⟩ nll
  ·skip
   obtain ⟨x7,hf6,h⟩:=bno h
   refine hpre (A:=(Q7g p1 p0 x7)) ⟨alm (c:=Qac) (l:=p1) (aln rfl Tryz.underlying45 rfl),apv Qz6 (Qj1 N p0 1 _ hf6) (nlc (NLt.agg _ (nlc (nld Qai _) (nlc (nld Qaa _) nl0))) (nlc nll nl0)) (nld Qaf _),alm (c:=Qak) (l:=x7) (aln rfl Tryz.underlying27 rfl),tv⟩ fun q1_=>?_
   refine bfe h (fun hb8 h=>?_) fun hb8 h=>?_
   ·refine wx tbk (hcat (Q7g p1 p0 x7) [(6,rp [(.tmp 11,(B (((p1.length:Int) != (x7.length:Int)))))] (B true))]) (hap q1_ ⟨asb hb8 (amv rfl),tv⟩)<|wtr<|wxz<|Qae<|Qag ?_
    obtain rfl:=osi h
    exact fend ⟨[I 1],⟨rot,tv⟩,rfl⟩ nll
   ·obtain ⟨x10,hf9,h⟩:=bno h
    refine wx tbk (hcat (Q7g p1 p0 x7) [(6,rp [(.tmp 11,(B (((p1.length:Int) != (x7.length:Int)))))] (B false)),(8,rp [(.tmp 12,B false),fu 112,(.tmp 13,(Q3z p1)),fu 113] (B x10))]) (hap q1_ ⟨asb hb8 (amv rfl),ag_ (Qat (first:=[]) (cap:=[]) (vs:=[(Q3z p1),(.fn (.func 113) [] [])]) (σr:=[]) (σr':=[]) (res':=(B x10)) [] rfl Zd2 (Qjz N p1 _ hf9) rfl (Qbt (rnc (pld Qad) (rnc (.plain _ (NLt.fn _ _ _ nl0 nl0)) rn0))) Qas Qas (.plain _ nll) rfl rfl rfl),tv⟩) ?_
    refine bfe h (fun hc11 h=>?_) fun hc11 h=>?_
    ·refine wft hc11<|wxz<|Qae<|Qag ?_
     obtain rfl:=osi h
     exact fend ⟨[I 1],⟨rot,tv⟩,rfl⟩ nll
    ·exact wfn hc11<|Qan<|thn<|⟨(),h,(mto (n:=27) [(1,(Q3z p1))] [] [] hφ0 (pc (rnd Qad) pn) qn)⟩
def Qjy (N:Nat) (p0:GNet) (p1:(List Int)) (p2:(List GStream)):Option Int:=
  (Qi1 N p0 p1).bind fun x2=>
  bif (x2 != 0) then
   some x2
  else
   (Qh0 N p0 p2).bind fun x5=>
   some x5
def Zmv (p0:GNet):AV:=.dat 7 ((p0.Elements:List GElement).map Qab)
def Zlc (p0:GNet):AV:=.agg [(.dat 5 ((p0.Table:List GRow).map Qa1)),(Zmv p0)]
theorem Qs0 (N:Nat) (p0:GNet) (p1:(List Int)) (p2:(List GStream)) (r:Int) (h:Qjy N p0 p1 p2=some r):Spec Tryz.prog 57 [(.agg (Qh9 p0)),(.dat 1 (p1.map Qak)),(.dat 4 (p2.map Qac))] [] (I r) []:=by
  refine Qah Tryz.func57 rfl 0 (nle rfl) (fun X φ0 w0 hφ0 hd0=>?_)
  unfold Qjy at h
  refine wxz<|wsq ?_
  obtain ⟨x2,hf1,h⟩:=bno h
  refine wx tbk [(2,rp [fu 73,(.tmp 8,(Zlc p0)),(.tmp 9,(.dat 1 ((p1:List Int).map Qak)))] (I x2))] ⟨apv Zjr (Qrj N p0 p1 _ hf1) (nlc (NLt.agg _ (nlc (nld Qai _) (nlc (nld Qaa _) nl0))) (nlc (nld Qaf _) nl0)) nll,tv⟩<|wxz ?_
  refine bfe h (fun hc3 h=>?_) fun hc3 h=>?_
  ·refine wft hc3<|wxz<|Qae<|Qag ?_
   obtain rfl:=osi h
   exact fend ⟨[I x2],⟨rot,tv⟩,rfl⟩ nll
  ·refine wfn hc3<|Qan<|thn ?_
   obtain ⟨x5,hf4,h⟩:=bno h
   refine wx tbk [(2,rp [fu 94,(.tmp 14,(Zlc p0)),(.tmp 15,(.dat 4 ((p2:List GStream).map Qac)))] (I x5))] ⟨apv Zjo (Qp9 N p0 p2 _ hf4) (nlc (NLt.agg _ (nlc (nld Qai _) (nlc (nld Qaa _) nl0))) (nlc (nld Qad _) nl0)) nll,tv⟩<|Qae ?_
   obtain rfl:=osi h
   exact fend ⟨[I x5],⟨rot,tv⟩,rfl⟩ nll
def Qif (N:Nat) (p0:Int):Option Bool:=
  (Qcy N p0 0 1000).bind fun x2=>
  some x2
theorem Qo4 (N:Nat) (p0:Int) (r:Bool) (h:Qif N p0=some r):Spec Tryz.prog 150 [(I p0)] [] (B r) []:=by
  refine Qah Tryz.func150 rfl 0 (nle rfl) (fun X φ0 w0 hφ0 hd0=>?_)
  unfold Qif at h
  refine wxz ?_
  obtain ⟨x2,hf1,h⟩:=bno h
  exact wx tbk [(1,rp [fu 137,(.tmp 3,I p0),ci 0,ci 1000] (B x2))] ⟨apv Qh5 (Qc4 N p0 0 1000 _ hf1) (nlcc (nlc nll nl0)) nll,tv⟩<|Qae<|frb h
def Qfo (N:Nat) (p0:Int):Option Bool:=
  (Qif N p0).bind fun x3=>
  some (!x3)
def Zbf:Slot:=.own 1 [[(.fn (.func 150) [] [])]]
theorem Qls (N:Nat) (p0:Int) (r:Bool) (h:Qfo N p0=some r):Spec Tryz.prog 157 [(I (p0)),(.ref 0 1 (0) 0)] [Zbf] (B (r)) [Zbf]:=by
  refine Qah Tryz.func157 rfl 1 (nle rfl) (fun X φ0 w0 hφ0 hd0=>?_)
  unfold Qfo at h
  refine Qbx<|wxz ?_
  obtain ⟨x3,hf2,h⟩:=bno h
  refine wx tbk [(2,rp [(.tmp 4,(.fn (.func 150) [] [])),(.tmp 5,I p0)] (B x3))] ⟨apv Zc9 (Qo4 N p0 _ hf2) (nlc nll nl0) nll,tv⟩ ?_
  refine wmr (mto (n:=8) (l':=[(3,(B ((!x3))))]) (own':=[Zbf]) [(3,(B ((!x3))))] [0] [Zbf] hφ0 (pw pn) (qb (lc (.rn (Qbn rn0 rn0)) ln) qn))<|Qae ?_
  obtain rfl:=osi h
  exact ⟨_,Mor.rfl,Qc8 (vs:=[(B ((!x3)))]) ⟨rot,tv⟩ rfl (NLt.of0 nll) (by kernel_rfl) (Qao (Qbc (nlc (NLt.of0 (NLt.fn _ _ _ nl0 nl0)) nl0)) Qbs)⟩
def Qb3 (N:Nat) (p0:(List Int)) (k2:Unit→Option Int):Nat→Int→Option Int
  | 0,_=>none
  | n5+1,y3=>
    bif (decide (y3<(p0.length:Int))) then
     (getI p0 y3).bind fun x7=>
     (Qfo N x7).bind fun x12=>
     bif x12 then
      some y3
     else
      Qb3 N p0 k2 n5 (w64 (y3+1))
    else
     k2 ()
def Qd0 (N:Nat) (p0:(List Int)):Option Int:=
  Qbp (fun _=>
    some (-1)) fun k2:Unit→Option Int=>
  Qb3 N p0 k2 N 0
def Qyz (p0:(List Int)):AV:=.dat 1 ((p0:List Int).map Qak)
def Q3w:AV:=.fn (.func 157) [] [(.ref 0 1 (0) 0)]
def Qme:Slot:=.own 1 [[(.fn (.func 150) [] [])]]
theorem Qip (N:Nat) (p0:(List Int)) (r:Int) (h:Qd0 N p0=some r):Spec Tryz.prog 141 [(Qyz p0),Q3w] [Qme] (I (r)) [Qme]:=by
  refine Qah Tryz.func141 rfl 1 (nle rfl) (fun X φ0 w0 hφ0 hd0=>?_)
  unfold Qd0 at h
  refine Qbx<|wxz ?_
  obtain ⟨k2,hk_k2,h⟩:=jko h
  refine wjn (τ:=Unit) (fun t=>k2 t=some r) (fun _=>⟨mk 19 [],[Qme]⟩) (fun t h=>?_) ?_
  ·subst hk_k2
   refine wxz<|wmr (mto (n:=19) (l':=[(4,(I ((-1))))]) (own':=[Qme]) [(4,(I ((-1))))] [0] [Qme] hφ0 (pw pn) (qb (lc (.rn (Qbn rn0 rn0)) ln) qn))<|Qae ?_
   obtain rfl:=osi h
   exact ⟨_,Mor.rfl,Qc8 (vs:=[(I ((-1)))]) ⟨rot,tv⟩ rfl (NLt.of0 nll) (by kernel_rfl) (Qao (Qbc (nlc (NLt.of0 (NLt.fn _ _ _ nl0 nl0)) nl0)) Qbs)⟩
  ·skip
   refine wx tbk [(1,rp [(.tmp 6,(Qyz p0))] (I ((p0.length:Int))))] ⟨alm (c:=Qak) (l:=p0) (aln rfl Tryz.underlying27 rfl),tv⟩<|Qaj ?_
   refine wmr (mto (n:=19) (l':=[(0,(Qyz p0)),(1,Q3w),(7,(I ((p0.length:Int)))),(8,I 0)]) (own':=[Qme]) [(0,(Qyz p0)),(1,Q3w),(7,(I ((p0.length:Int)))),(8,I 0)] [0] [Qme] hφ0 (pc (rnd Qaf) (pc (.rn (Qbn rn0 (rnc (rqr rfl) rn0))) (pw (pw pn)))) (qb (lc (.rn (Qbn rn0 rn0)) ln) qn)) ?_
   refine Qcb (τ:=Int) (fun n t=>Qb3 N p0 k2 n t=some r) (fun y3=>⟨mk 19 [(0,(Qyz p0)),(1,Q3w),(7,(I ((p0.length:Int)))),(8,I y3)],[Qme]⟩) (fun t h=>by rw [Qb3] at h; cases h) (fun n5 ih y3 h=>?_) N (0) h
   rw [Qb3] at h
   skip
   refine wxz<|wsq ?_
   refine bfe h (fun hc6 h=>?_) fun hc6 h=>?_
   ·refine wft hc6<|Qan<|thn<|wsq<|Qaj<|wxz ?_
    obtain ⟨x7,hg8,h⟩:=bno h
    obtain ⟨hi9,hj10⟩:=gsm hg8
    obtain ⟨x12,hf11,h⟩:=bno h
    refine wx tbk [(3,rp [(.tmp 12,(Qyz p0)),(.tmp 13,I y3)] (.dptr (Qak (x7)) 0)),(5,⟨[(.tmp 11,Q3w),(.tmp 15,I x7)],[(0,Qme)],B x12,[(0,Qme)],false⟩)] ⟨aid rfl Tryz.underlying27 ti3 rfl rfl hi9 (mgt Qak hj10) rfl,Qat (first:=[]) (cap:=[.ref 0 1 0 0]) (vs:=[I x7]) (σr:=[Qme]) (σr':=[Qme]) (res':=(B x12)) [0] rfl Zc3 (Qls N x7 _ hf11) rfl (Qbt (rnc (.plain _ nll) (rnc (Qbj rfl) rn0))) (slc (Qaq (rnc (.plain _ (NLt.fn _ _ _ nl0 nl0)) rn0)) Qas) (slc (Qaq (rnc (.plain _ (NLt.fn _ _ _ nl0 nl0)) rn0)) Qas) (.plain _ nll) rfl rfl rfl,tv⟩ ?_
    refine bfe h (fun hc13 h=>?_) fun hc13 h=>?_
    ·refine wft hc13<|wxz ?_
     refine wmr (mto (n:=19) (l':=[(4,I y3)]) (own':=[Qme]) [(4,I y3)] [0] [Qme] hφ0 (pw pn) (qb (lc (.rn (Qbn rn0 rn0)) ln) qn))<|Qae<|Qap<|Qag<|Qag<|Qap<|Qag ?_
     obtain rfl:=osi h
     exact ⟨_,Mor.rfl,Qc8 (vs:=[I y3]) ⟨rot,tv⟩ rfl (NLt.of0 nll) (by kernel_rfl) (Qao (Qbc (nlc (NLt.of0 (NLt.fn _ _ _ nl0 nl0)) nl0)) Qbs)⟩
    ·exact wfn hc13<|Qan<|bln<|thn<|wxz1<|thn<|arm (mto (n:=19) [(0,(Qyz p0)),(1,Q3w),(7,(I ((p0.length:Int)))),(8,(I (w64 (y3+1))))] [0] [Qme] hφ0 (pc (rnd Qaf) (pc (.rn (Qbn rn0 (rnc (rqr rfl) rn0))) (pw (pw pn)))) (qb (lc (.rn (Qbn rn0 rn0)) ln) qn)) (ih (w64 (y3+1)) h)
   ·exact wfn hc6<|Qbi<|Qax<|Qax<|Qbh rfl<|thn<|⟨(),h,(mto (n:=19) [] [0] [Qme] hφ0 pn (qb (lc (.rn (Qbn rn0 rn0)) ln) qn))⟩
def Qct (N:Nat) (p0:(List Int)):Option Bool:=
  (Qd0 N p0).bind fun x3=>
  some (decide (x3≥0))
def Zg8 (p0:(List Int)):AV:=.dat 1 ((p0:List Int).map Qak)
def Zg7:AV:=.fn (.func 157) [] [(.ref 0 1 (0) 0)]
def Qwf:Slot:=.own 1 [[(.fn (.func 150) [] [])]]
theorem Qhr (N:Nat) (p0:(List Int)) (r:Bool) (h:Qct N p0=some r):Spec Tryz.prog 126 [(Zg8 p0),Zg7] [Qwf] (B (r)) [Qwf]:=by
  refine Qah Tryz.func126 rfl 1 (nle rfl) (fun X φ0 w0 hφ0 hd0=>?_)
  unfold Qct at h
  refine Qbx<|wxz ?_
  obtain ⟨x3,hf2,h⟩:=bno h
  refine wx tbk [(2,⟨[fu 141,(.tmp 5,(Zg8 p0)),(.tmp 6,Zg7)],[(0,Qwf)],I x3,[(0,Qwf)],false⟩)] ⟨Qat (first:=[]) (cap:=[]) (vs:=[(Zg8 p0),Zg7]) (σr:=[Qwf]) (σr':=[Qwf]) (res':=(I x3)) [0] rfl Qof (Qip N p0 _ hf2) rfl (Qbt (rnc (pld Qaf) (rnc (Qbn rn0 (rnc (Qbj rfl) rn0)) rn0))) (slc (Qaq (rnc (.plain _ (NLt.fn _ _ _ nl0 nl0)) rn0)) Qas) (slc (Qaq (rnc (.plain _ (NLt.fn _ _ _ nl0 nl0)) rn0)) Qas) (.plain _ nll) rfl rfl rfl,tv⟩ ?_
  refine wmr (mto (n:=9) (l':=[(4,(B ((decide (x3≥0)))))]) (own':=[Qwf]) [(4,(B ((decide (x3≥0)))))] [0] [Qwf] hφ0 (pw pn) (qb (lc (.rn (Qbn rn0 rn0)) ln) qn))<|Qae ?_
  obtain rfl:=osi h
  exact ⟨_,Mor.rfl,Qc8 (vs:=[(B ((decide (x3≥0))))]) ⟨rot,tv⟩ rfl (NLt.of0 nll) (by kernel_rfl) (Qao (Qbc (nlc (NLt.of0 (NLt.fn _ _ _ nl0 nl0)) nl0)) Qbs)⟩
def Qgh (N:Nat) (p0:(List Int)):Option Bool:=
  (Qct N p0).bind fun x2=>
  some (!x2)
def Zha (p0:(List Int)):AV:=.dat 1 ((p0:List Int).map Qak)
def Zg9:AV:=.fn (.func 157) [] [(.ref 0 1 (0) 0)]
def Zbg:Slot:=.own 1 [[(.fn (.func 150) [] [])]]
theorem Qm1 (N:Nat) (p0:(List Int)) (r:Bool) (h:Qgh N p0=some r):Spec Tryz.prog 151 [(Zha p0),(.fn (.func 150) [] [])] [] (B (r)) []:=by
  refine Qah Tryz.func151 rfl 0 (nle rfl) (fun X φ0 w0 hφ0 hd0=>?_)
  unfold Qgh at h
  refine wxz ?_
  obtain ⟨x2,hf1,h⟩:=bno h
  refine wx tbk [(1,rp [(.tmp 3,.ref 0 1 0 0)] Zg9),(2,⟨[fu 126,(.tmp 5,(Zha p0)),(.tmp 6,Zg9)],[(0,Zbg)],B x2,[(0,Zbg)],false⟩)] ⟨Qfl (fs:=[]) (cs:=[.ref 0 1 0 0]) rfl rfl rfl rfl,Qat (first:=[]) (cap:=[]) (vs:=[(Zha p0),Zg9]) (σr:=[Zbg]) (σr':=[Zbg]) (res':=(B x2)) [0] rfl Qog (Qhr N p0 _ hf1) rfl (Qbt (rnc (pld Qaf) (rnc (Qbn rn0 (rnc (Qbj rfl) rn0)) rn0))) (slc (Qaq (rnc (.plain _ (NLt.fn _ _ _ nl0 nl0)) rn0)) Qas) (slc (Qaq (rnc (.plain _ (NLt.fn _ _ _ nl0 nl0)) rn0)) Qas) (.plain _ nll) rfl rfl rfl,tv⟩<|Qae ?_
  obtain rfl:=osi h
  exact fend ⟨[(B ((!x2)))],⟨rot,tv⟩,rfl⟩ nll
def Qie (_N:Nat) (p0:Int):Option Bool:=
  some (decide (p0>0))
theorem Qo3 (N:Nat) (p0:Int) (r:Bool) (h:Qie N p0=some r):Spec Tryz.prog 152 [(I p0)] [] (B r) []:=by
  refine Qah Tryz.func152 rfl 0 (nle rfl) (fun X φ0 w0 hφ0 hd0=>?_)
  unfold Qie at h
  refine wxz<|wxz<|Qae ?_
  obtain rfl:=osi h
  exact fend ⟨[(B ((decide (p0>0))))],⟨rot,tv⟩,rfl⟩ nll
def Qb2 (N:Nat) (p0:(List Int)) (k1:Unit→Option Int):Nat→Int→Option Int
  | 0,_=>none
  | n4+1,y2=>
    bif (decide (y2<(p0.length:Int))) then
     (getI p0 y2).bind fun x6=>
     (Qie N x6).bind fun x11=>
     bif x11 then
      some y2
     else
      Qb2 N p0 k1 n4 (w64 (y2+1))
    else
     k1 ()
def Qdz (N:Nat) (p0:(List Int)):Option Int:=
  Qbp (fun _=>
    some (-1)) fun k1:Unit→Option Int=>
  Qb2 N p0 k1 N 0
def Qyy (p0:(List Int)):AV:=.dat 1 ((p0:List Int).map Qak)
theorem Qio (N:Nat) (p0:(List Int)) (r:Int) (h:Qdz N p0=some r):Spec Tryz.prog 141 [(Qyy p0),(.fn (.func 152) [] [])] [] (I (r)) []:=by
  refine Qah Tryz.func141 rfl 0 (nle rfl) (fun X φ0 w0 hφ0 hd0=>?_)
  unfold Qdz at h
  refine wxz ?_
  obtain ⟨k1,hk_k1,h⟩:=jko h
  refine wjn (τ:=Unit) (fun t=>k1 t=some r) (fun _=>⟨mk 19 [],[]⟩) (fun t h=>?_) ?_
  ·subst hk_k1
   refine wxz<|Qae ?_
   obtain rfl:=osi h
   exact fend ⟨[(I ((-1)))],⟨rot,tv⟩,rfl⟩ nll
  ·skip
   refine wx tbk [(1,rp [(.tmp 6,(Qyy p0))] (I ((p0.length:Int))))] ⟨alm (c:=Qak) (l:=p0) (aln rfl Tryz.underlying27 rfl),tv⟩<|Qaj ?_
   refine wmr (mto (n:=19) (l':=[(0,(Qyy p0)),(1,(.fn (.func 152) [] [])),(7,(I ((p0.length:Int)))),(8,I 0)]) (own':=[]) [(0,(Qyy p0)),(1,(.fn (.func 152) [] [])),(7,(I ((p0.length:Int)))),(8,I 0)] [] [] hφ0 (pc (rnd Qaf) (pc (.rn (Qbn rn0 rn0)) (pw (pw pn)))) qn) ?_
   refine Qcb (τ:=Int) (fun n t=>Qb2 N p0 k1 n t=some r) (fun y2=>⟨mk 19 [(0,(Qyy p0)),(1,(.fn (.func 152) [] [])),(7,(I ((p0.length:Int)))),(8,I y2)],[]⟩) (fun t h=>by rw [Qb2] at h; cases h) (fun n4 ih y2 h=>?_) N (0) h
   rw [Qb2] at h
   skip
   refine wxz<|wsq ?_
   refine bfe h (fun hc5 h=>?_) fun hc5 h=>?_
   ·refine wft hc5<|Qan<|thn<|wsq<|Qaj<|wxz ?_
    obtain ⟨x6,hg7,h⟩:=bno h
    obtain ⟨hi8,hj9⟩:=gsm hg7
    obtain ⟨x11,hf10,h⟩:=bno h
    refine wx tbk [(3,rp [(.tmp 12,(Qyy p0)),(.tmp 13,I y2)] (.dptr (Qak (x6)) 0)),(5,rp [(.tmp 11,(.fn (.func 152) [] [])),(.tmp 15,I x6)] (B x11))] ⟨aid rfl Tryz.underlying27 ti3 rfl rfl hi8 (mgt Qak hj9) rfl,apv Zc7 (Qo3 N x6 _ hf10) (nlc nll nl0) nll,tv⟩ ?_
    refine bfe h (fun hc12 h=>?_) fun hc12 h=>?_
    ·refine wft hc12<|wxz<|Qae<|Qap<|Qag<|Qag<|Qap<|Qag ?_
     obtain rfl:=osi h
     exact fend ⟨[I y2],⟨rot,tv⟩,rfl⟩ nll
    ·exact wfn hc12<|Qan<|bln<|thn<|wxz1<|thn<|arm (mto (n:=19) [(0,(Qyy p0)),(1,(.fn (.func 152) [] [])),(7,(I ((p0.length:Int)))),(8,(I (w64 (y2+1))))] [] [] hφ0 (pc (rnd Qaf) (pc (.rn (Qbn rn0 rn0)) (pw (pw pn)))) qn) (ih (w64 (y2+1)) h)
   ·exact wfn hc5<|Qbi<|Qax<|Qax<|Qbh rfl<|thn<|⟨(),h,(mto (n:=19) [] [] [] hφ0 pn qn)⟩
def Qch (N:Nat) (p0:(List Int)):Option Bool:=
  (Qdz N p0).bind fun x2=>
  some (decide (x2≥0))
def Zg6 (p0:(List Int)):AV:=.dat 1 ((p0:List Int).map Qak)
theorem Qhq (N:Nat) (p0:(List Int)) (r:Bool) (h:Qch N p0=some r):Spec Tryz.prog 126 [(Zg6 p0),(.fn (.func 152) [] [])] [] (B (r)) []:=by
  refine Qah Tryz.func126 rfl 0 (nle rfl) (fun X φ0 w0 hφ0 hd0=>?_)
  unfold Qch at h
  refine wxz ?_
  obtain ⟨x2,hf1,h⟩:=bno h
  refine wx tbk [(2,rp [fu 141,(.tmp 5,(Zg6 p0)),(.tmp 6,(.fn (.func 152) [] []))] (I x2))] ⟨Qat (first:=[]) (cap:=[]) (vs:=[(Zg6 p0),(.fn (.func 152) [] [])]) (σr:=[]) (σr':=[]) (res':=(I x2)) [] rfl Qof (Qio N p0 _ hf1) rfl (Qbt (rnc (pld Qaf) (rnc (.plain _ (NLt.fn _ _ _ nl0 nl0)) rn0))) Qas Qas (.plain _ nll) rfl rfl rfl,tv⟩<|Qae ?_
  obtain rfl:=osi h
  exact fend ⟨[(B ((decide (x2≥0))))],⟨rot,tv⟩,rfl⟩ nll
def Qe7 (_N:Nat) (p0:Int) (p1:Int) (p2:Int):Option Int:=
  chk (p2 != 0)<|
  some ((w64 (p1 * p0)).tmod p2)
theorem Qjg (N:Nat) (p0:Int) (p1:Int) (p2:Int) (r:Int) (h:Qe7 N p0 p1 p2=some r):Spec Tryz.prog 159 [(I (p0)),(.ref 0 1 (0) 0),(.ref 1 1 (0) 0)] [(.own 1 [[(I (p1))]]),(.own 1 [[(I (p2))]])] (I (r)) [(.own 1 [[(I (p1))]]),(.own 1 [[(I (p2))]])]:=by
  refine Qah Tryz.func159 rfl 2 (nle rfl) (fun X φ0 w0 hφ0 hd0=>?_)
  unfold Qe7 at h
  refine Qbx<|wxz ?_
  obtain ⟨hz2,h⟩:=cko h
  refine wx tbk [(4,rp [(.tmp 7,(I (w64 (p1 * p0)))),(.tmp 8,I p2)] (I ((w64 (p1 * p0)).tmod p2)))] ⟨Qx9 rfl (Qpm hz2),tv⟩ ?_
  refine wmr (mto (n:=10) (l':=[(4,(I ((w64 (p1 * p0)).tmod p2)))]) (own':=[(.own 1 [[I p1]]),(.own 1 [[I p2]])]) [(4,(I ((w64 (p1 * p0)).tmod p2)))] [0,1] [(.own 1 [[I p1]]),(.own 1 [[I p2]])] hφ0 (pw pn) (qb (lc rwl ln) (qb (lc rwl ln) qn)))<|Qae ?_
  obtain rfl:=osi h
  exact ⟨_,Mor.rfl,Qc8 (vs:=[(I ((w64 (p1 * p0)).tmod p2))]) ⟨rot,tv⟩ rfl (NLt.of0 nll) (by kernel_rfl) (Qao (Qbc (nlc (NLt.of0 nll) nl0)) (Qao (Qbc (nlc (NLt.of0 nll) nl0)) Qbs))⟩
def Qen (N:Nat) (p0:Int) (p1:Int) (p2:(List Int)) (p3:Int) (p4:Int):Option Int:=
  (getI p2 p1).bind fun x2=>
  (Qe7 N x2 p3 p4).bind fun x7=>
  (getI p2 p0).bind fun x8=>
  (Qe7 N x8 p3 p4).bind fun x13=>
  some (w64 (x7 - x13))
def Q3v:AV:=.fn (.func 159) [] [(.ref 2 1 (0) 0),(.ref 3 1 (0) 0)]
def Q3u (p2:(List Int)):AV:=.dat 1 ((p2:List Int).map Qak)
theorem Qko (N:Nat) (p0:Int) (p1:Int) (p2:(List Int)) (p3:Int) (p4:Int) (r:Int) (h:Qen N p0 p1 p2 p3 p4=some r):Spec Tryz.prog 163 [(I (p0)),(I (p1)),(.ref 0 1 (0) 0),(.ref 1 1 (0) 0)] [(.own 1 [[Q3v]]),(.own 1 [[(Q3u p2)]]),(.own 1 [[(I (p3))]]),(.own 1 [[(I (p4))]])] (I (r)) [(.own 1 [[Q3v]]),(.own 1 [[(Q3u p2)]]),(.own 1 [[(I (p3))]]),(.own 1 [[(I (p4))]])]:=by
  refine Qah Tryz.func163 rfl 4 (nle rfl) (fun X φ0 w0 hφ0 hd0=>?_)
  unfold Qen at h
  refine Qbx<|wxz ?_
  obtain ⟨x2,hg3,h⟩:=bno h
  obtain ⟨hi4,hj5⟩:=gsm hg3
  obtain ⟨x7,hf6,h⟩:=bno h
  obtain ⟨x8,hg9,h⟩:=bno h
  obtain ⟨hi10,hj11⟩:=gsm hg9
  obtain ⟨x13,hf12,h⟩:=bno h
  refine wxd tbk [(3,rp [(.tmp 8,(Q3u p2)),(.tmp 9,I p1)] (.dptr (Qak (x2)) 0)),(5,⟨[(.tmp 7,Q3v),(.tmp 11,I x2)],[(2,.own 1 [[I p3]]),(3,.own 1 [[I p4]])],I x7,[(2,.own 1 [[I p3]]),(3,.own 1 [[I p4]])],false⟩),(9,rp [(.tmp 14,(Q3u p2)),(.tmp 15,I p0)] (.dptr (Qak (x8)) 0)),(11,⟨[(.tmp 13,Q3v),(.tmp 17,I x8)],[(2,.own 1 [[I p3]]),(3,.own 1 [[I p4]])],I x13,[(2,.own 1 [[I p3]]),(3,.own 1 [[I p4]])],false⟩)] ⟨aid rfl Tryz.underlying27 ti3 rfl rfl hi4 (mgt Qak hj5) rfl,Qat (first:=[]) (cap:=[.ref 2 1 0 0,.ref 3 1 0 0]) (vs:=[I x2]) (σr:=[(.own 1 [[I p3]]),(.own 1 [[I p4]])]) (σr':=[(.own 1 [[I p3]]),(.own 1 [[I p4]])]) (res':=(I x7)) [2,3] rfl Q2u (Qjg N x2 p3 p4 _ hf6) rfl (Qbt (rnc (.plain _ nll) (rnc (Qbj rfl) (rnc (Qbj rfl) rn0)))) (slc (Qaq (rnc (.plain _ nll) rn0)) (slc (Qaq (rnc (.plain _ nll) rn0)) Qas)) (slc (Qaq (rnc (.plain _ nll) rn0)) (slc (Qaq (rnc (.plain _ nll) rn0)) Qas)) (.plain _ nll) rfl rfl rfl,aid rfl Tryz.underlying27 ti3 rfl rfl hi10 (mgt Qak hj11) rfl,Qat (first:=[]) (cap:=[.ref 2 1 0 0,.ref 3 1 0 0]) (vs:=[I x8]) (σr:=[(.own 1 [[I p3]]),(.own 1 [[I p4]])]) (σr':=[(.own 1 [[I p3]]),(.own 1 [[I p4]])]) (res':=(I x13)) [2,3] rfl Q2u (Qjg N x8 p3 p4 _ hf12) rfl (Qbt (rnc (.plain _ nll) (rnc (Qbj rfl) (rnc (Qbj rfl) rn0)))) (slc (Qaq (rnc (.plain _ nll) rn0)) (slc (Qaq (rnc (.plain _ nll) rn0)) Qas)) (slc (Qaq (rnc (.plain _ nll) rn0)) (slc (Qaq (rnc (.plain _ nll) rn0)) Qas)) (.plain _ nll) rfl rfl rfl,tv⟩ ?_
  refine wmr (mto (n:=20) (l':=[(6,(I (w64 (x7 - x13))))]) (own':=[(.own 1 [[Q3v]]),(.own 1 [[(Q3u p2)]]),(.own 1 [[I p3]]),(.own 1 [[I p4]])]) [(6,(I (w64 (x7 - x13))))] [0,1,2,3] [(.own 1 [[Q3v]]),(.own 1 [[(Q3u p2)]]),(.own 1 [[I p3]]),(.own 1 [[I p4]])] hφ0 (pw pn) (qb (lc (.rn (Qbn rn0 (rnc (rqr rfl) (rnc (rqr rfl) rn0)))) ln) (qb (lc (rnd Qaf) ln) (qb (lc rwl ln) (qb (lc rwl ln) qn)))))<|Qae ?_
  obtain rfl:=osi h
  exact ⟨_,Mor.rfl,Qc8 (vs:=[(I (w64 (x7 - x13)))]) ⟨rot,tv⟩ rfl (NLt.of0 nll) (by kernel_rfl) (Qao (Qbc (nlc (NLt.fn _ _ _ nl0 (nlc (NLt.ref _ _ _ _ (by decide)) (nlc (NLt.ref _ _ _ _ (by decide)) nl0))) nl0)) (Qao (Qbc (nlc (NLt.of0 (nld Qaf _)) nl0)) (Qao (Qbc (nlc (NLt.of0 nll) nl0)) (Qao (Qbc (nlc (NLt.of0 nll) nl0)) Qbs))))⟩
def Qba (N:Nat) (p0:Nat) (p1:Int) (p4:(List Int)) (p5:Int) (p6:Int) (k9:(List Int)→Option (List Int)):Nat→Int→(List Int)→Option (List Int)
  | 0,_,_=>none
  | n14+1,y10,y11=>
    Qbp (fun _=>
      chk (decide (0≤w64 (y10 - 1))&&decide ((w64 (y10 - 1)).toNat<p0))<|
      (y11[(w64 (y10 - 1)).toNat]?).bind fun x17=>
      chk (decide (0≤y10)&&decide (y10.toNat<p0))<|
      (y11[y10.toNat]?).bind fun x20=>
      chk (decide (0≤y10)&&decide (y10.toNat<p0))<|
      (y11[y10.toNat]?).bind fun _=>
      chk (decide (0≤w64 (y10 - 1))&&decide ((w64 (y10 - 1)).toNat<p0))<|
      ((y11.set y10.toNat x17)[(w64 (y10 - 1)).toNat]?).bind fun _=>
      Qba N p0 p1 p4 p5 p6 k9 n14 (w64 (y10 - 1)) ((y11.set y10.toNat x17).set ((w64 (y10 - 1)).toNat) x20)) fun k15:Unit→Option (List Int)=>
    bif (decide (y10>p1)) then
     chk (decide (0≤y10)&&decide (y10.toNat<p0))<|
     (y11[y10.toNat]?).bind fun x30=>
     chk (decide (0≤w64 (y10 - 1))&&decide ((w64 (y10 - 1)).toNat<p0))<|
     (y11[(w64 (y10 - 1)).toNat]?).bind fun x33=>
     (Qen N x30 x33 p4 p5 p6).bind fun x36=>
     bif (decide (x36<0)) then
      k15 ()
     else
      k9 (y11)
    else
     k9 (y11)
def Qaz (N:Nat) (p0:Nat) (p1:Int) (p2:Int) (p4:(List Int)) (p5:Int) (p6:Int):Nat→Int→(List Int)→Option (List Int)
  | 0,_,_=>none
  | n6+1,y2,y3=>
    bif (decide (y2<p2)) then
     Qbp (fun y8=>
       Qaz N p0 p1 p2 p4 p5 p6 n6 (w64 (y2+1)) y8) fun k9:(List Int)→Option (List Int)=>
     Qba N p0 p1 p4 p5 p6 k9 N y2 y3
    else
     some y3
def Qbe (N:Nat) (p0:Nat) (p1:Int) (p2:Int) (p3:(List Int)) (p4:(List Int)) (p5:Int) (p6:Int):Option (List Int):=
  Qaz N p0 p1 p2 p4 p5 p6 N (w64 (p1+1)) p3
def Qmz:AV:=.fn (.func 163) [] [(.ref 1 1 (0) 0),(.ref 2 1 (0) 0)]
def Zg1 (p3:(List Int)):Slot:=.own 1 ((p3:List Int).map Qak)
def Qkg:AV:=.fn (.func 159) [] [(.ref 3 1 (0) 0),(.ref 4 1 (0) 0)]
def Qkf (p4:(List Int)):AV:=.dat 1 ((p4:List Int).map Qak)
def Q66 (y3:(List Int)):Slot:=.own 1 ((y3:List Int).map Qak)
def Qjs (y11:(List Int)):Slot:=.own 1 ((y11:List Int).map Qak)
theorem Qe2 (N:Nat) (p0:Nat) (p1:Int) (p2:Int) (p3:(List Int)) (p4:(List Int)) (p5:Int) (p6:Int) (r:(List Int)) (h:Qbe N p0 p1 p2 p3 p4 p5 p6=some r):Spec Tryz.prog 165 [(.own 0 1 (0) (p0)),(I (p1)),(I (p2)),Qmz] [(Zg1 p3),(.own 1 [[Qkg]]),(.own 1 [[(Qkf p4)]]),(.own 1 [[(I (p5))]]),(.own 1 [[(I (p6))]])] (.tup []) [(.own 1 ((r:List Int).map Qak)),(.own 1 [[Qkg]]),(.own 1 [[(Qkf p4)]]),(.own 1 [[(I (p5))]]),(.own 1 [[(I (p6))]])]:=by
  refine Qah Tryz.func165 rfl 5 (nle rfl) (fun X φ0 w0 hφ0 hd0=>?_)
  unfold Qbe at h
  refine Qbx<|wxz<|Qaj ?_
  refine wmr (mto (n:=53) (l':=[(0,(.own 0 1 (0) (p0))),(1,I p1),(2,I p2),(3,Qmz),(8,(I ((w64 (p1+1)))))]) (own':=[(Zg1 p3),(.own 1 [[Qkg]]),(.own 1 [[(Qkf p4)]]),(.own 1 [[I p5]]),(.own 1 [[I p6]])]) [(0,(.own 0 1 (0) (p0))),(1,I p1),(2,I p2),(3,Qmz),(8,(I (w64 (p1+1))))] [0,1,2,3,4] [(Zg1 p3),(.own 1 [[Qkg]]),(.own 1 [[(Qkf p4)]]),(.own 1 [[I p5]]),(.own 1 [[I p6]])] hφ0 (pc (.rn (Qa5 rfl)) (pw (pw (pc (.rn (Qbn rn0 (rnc (rqr rfl) (rnc (rqr rfl) rn0)))) (pw pn))))) (qc (spr Qaf) (qb (lc (.rn (Qbn rn0 (rnc (rqr rfl) (rnc (rqr rfl) rn0)))) ln) (qb (lc (rnd Qaf) ln) (qb (lc rwl ln) (qb (lc rwl ln) qn)))))) ?_
  refine Qcb (τ:=Int×(List Int)) (fun n t=>Qaz N p0 p1 p2 p4 p5 p6 n t.1 t.2=some r) (fun ⟨y2,y3⟩=>⟨mk 53 [(0,(.own 0 1 (0) (p0))),(1,I p1),(2,I p2),(3,Qmz),(8,I y2)],[(Q66 y3),(.own 1 [[Qkg]]),(.own 1 [[(Qkf p4)]]),(.own 1 [[I p5]]),(.own 1 [[I p6]])]⟩) (fun t h=>by rw [Qaz] at h; cases h) (fun n6 ih t h=>?_) N (w64 (p1+1),p3) h
  obtain ⟨y2,y3⟩:=t
  rw [Qaz] at h
  skip
  refine wsq<|wxz ?_
  refine bfe h (fun hc7 h=>?_) fun hc7 h=>?_
  ·refine wft hc7<|Qan<|thn ?_
   obtain ⟨k9,hk_k9,h⟩:=jko h
   refine wjn (τ:=(List Int)) (fun t=>k9 t=some r) (fun y8=>⟨mk 53 [(0,(.own 0 1 (0) (p0))),(1,I p1),(2,I p2),(3,Qmz),(8,I y2)],[(.own 1 ((y8:List Int).map Qak)),(.own 1 [[Qkg]]),(.own 1 [[(Qkf p4)]]),(.own 1 [[I p5]]),(.own 1 [[I p6]])]⟩) (fun y8 h=>?_) ?_
   ·subst hk_k9
    exact wxz1<|thn<|arm (mto (n:=53) [(0,(.own 0 1 (0) (p0))),(1,I p1),(2,I p2),(3,Qmz),(8,(I (w64 (y2+1))))] [0,1,2,3,4] [(.own 1 ((y8:List Int).map Qak)),(.own 1 [[Qkg]]),(.own 1 [[(Qkf p4)]]),(.own 1 [[I p5]]),(.own 1 [[I p6]])] hφ0 (pc (.rn (Qa5 rfl)) (pw (pw (pc (.rn (Qbn rn0 (rnc (rqr rfl) (rnc (rqr rfl) rn0)))) (pw pn))))) (qc (spr Qaf) (qb (lc (.rn (Qbn rn0 (rnc (rqr rfl) (rnc (rqr rfl) rn0)))) ln) (qb (lc (rnd Qaf) ln) (qb (lc rwl ln) (qb (lc rwl ln) qn)))))) (ih (w64 (y2+1),y8) h)
   ·skip
    refine Qaj<|wxz<|Qaj ?_
    refine wmr (mto (n:=53) (l':=[(0,(.own 0 1 (0) (p0))),(1,I p1),(2,I p2),(3,Qmz),(8,I y2),(9,I y2)]) (own':=[(Q66 y3),(.own 1 [[Qkg]]),(.own 1 [[(Qkf p4)]]),(.own 1 [[I p5]]),(.own 1 [[I p6]])]) [(0,(.own 0 1 (0) (p0))),(1,I p1),(2,I p2),(3,Qmz),(8,I y2),(9,I y2)] [0,1,2,3,4] [(Q66 y3),(.own 1 [[Qkg]]),(.own 1 [[(Qkf p4)]]),(.own 1 [[I p5]]),(.own 1 [[I p6]])] hφ0 (pc (.rn (Qa5 rfl)) (pw (pw (pc (.rn (Qbn rn0 (rnc (rqr rfl) (rnc (rqr rfl) rn0)))) (pw (pw pn)))))) (qc (spr Qaf) (qb (lc (.rn (Qbn rn0 (rnc (rqr rfl) (rnc (rqr rfl) rn0)))) ln) (qb (lc (rnd Qaf) ln) (qb (lc rwl ln) (qb (lc rwl ln) qn)))))) ?_
    refine Qcb (τ:=Int×(List Int)) (fun n t=>Qba N p0 p1 p4 p5 p6 k9 n t.1 t.2=some r) (fun ⟨y10,y11⟩=>⟨mk 53 [(0,(.own 0 1 (0) (p0))),(1,I p1),(2,I p2),(3,Qmz),(8,I y2),(9,I y10)],[(Qjs y11),(.own 1 [[Qkg]]),(.own 1 [[(Qkf p4)]]),(.own 1 [[I p5]]),(.own 1 [[I p6]])]⟩) (fun t h=>by rw [Qba] at h; cases h) (fun n14 ih t h=>?_) N (y2,y3) h
    obtain ⟨y10,y11⟩:=t
    rw [Qba] at h
    skip
    obtain ⟨k15,hk_k15,h⟩:=jko h
    refine wjn (τ:=Unit) (fun t=>k15 t=some r) (fun _=>⟨mk 53 [(0,(.own 0 1 (0) (p0))),(1,I p1),(2,I p2),(3,Qmz),(8,I y2),(9,I y10)],[(Qjs y11),(.own 1 [[Qkg]]),(.own 1 [[(Qkf p4)]]),(.own 1 [[I p5]]),(.own 1 [[I p6]])]⟩) (fun t h=>?_) ?_
    ·subst hk_k15
     refine wsq<|Qaj ?_
     obtain ⟨hi16,h⟩:=cko h
     obtain ⟨hi16a,hi16b⟩:=Qei hi16
     obtain ⟨x17,hg18,h⟩:=bno h
     obtain ⟨hi19,h⟩:=cko h
     obtain ⟨hi19a,hi19b⟩:=Qei hi19
     obtain ⟨x20,hg21,h⟩:=bno h
     obtain ⟨hi22,h⟩:=cko h
     obtain ⟨hi22a,hi22b⟩:=Qei hi22
     obtain ⟨x23,hg24,h⟩:=bno h
     obtain ⟨hi25,h⟩:=cko h
     obtain ⟨hi25a,hi25b⟩:=Qei hi25
     obtain ⟨x26,hg27,h⟩:=bno h
     refine wy1 tbk [(8,rb [(.tmp 42,(.own 0 1 (0) (p0))),(.tmp 44,(I (w64 (y10 - 1))))] [(0,(Qjs y11))] (.ref 0 1 ((w64 (y10 - 1)).toNat) 0)),(9,rb [(.tmp 45,(.ref 0 1 ((w64 (y10 - 1)).toNat) 0))] [(0,(Qjs y11))] (I x17)),(12,rb [(.tmp 47,(.own 0 1 (0) (p0))),(.tmp 48,I y10)] [(0,(Qjs y11))] (.ref 0 1 (y10.toNat) 0)),(13,rb [(.tmp 49,(.ref 0 1 (y10.toNat) 0))] [(0,(Qjs y11))] (I x20)),(14,rb [(.tmp 37,(.own 0 1 (0) (p0))),(.tmp 38,I y10)] [(0,(Qjs y11))] (.ref 0 1 (y10.toNat) 0)),(15,⟨[(.tmp 51,(.ref 0 1 (y10.toNat) 0)),(.tmp 46,I x17)],[(0,(Qjs y11))],.any,[(0,(.own 1 ((y11.set y10.toNat x17:List Int).map Qak)))],false⟩),(16,rb [(.tmp 39,(.own 0 1 (0) (p0))),(.tmp 41,(I (w64 (y10 - 1))))] [(0,(.own 1 ((y11.set y10.toNat x17:List Int).map Qak)))] (.ref 0 1 ((w64 (y10 - 1)).toNat) 0)),(17,⟨[(.tmp 52,(.ref 0 1 ((w64 (y10 - 1)).toNat) 0)),(.tmp 50,I x20)],[(0,(.own 1 ((y11.set y10.toNat x17:List Int).map Qak)))],.any,[(0,(.own 1 (((y11.set y10.toNat x17).set ((w64 (y10 - 1)).toNat) x20:List Int).map Qak)))],false⟩)] ⟨aio rfl Tryz.underlying27 ti3 (odt hi16a) (odt hi16b) (Nat.zero_add _),ald rfl ti3 (by decide) (mgt Qak hg18) (nle rfl) rfl,aio rfl Tryz.underlying27 ti3 (odt hi19a) (odt hi19b) (Nat.zero_add _),ald rfl ti3 (by decide) (mgt Qak hg21) (nle rfl) rfl,aio rfl Tryz.underlying27 ti3 (odt hi22a) (odt hi22b) (Nat.zero_add _),ast rfl ti3 (by rfl) (mgt Qak hg24) (nle rfl) (Qgr Qak rfl),aio rfl Tryz.underlying27 ti3 (odt hi25a) (odt hi25b) (Nat.zero_add _),ast rfl ti3 (by rfl) (mgt Qak hg27) (nle rfl) (Qgr Qak rfl),tv⟩<|bln<|thn<|wxz1<|thn ?_
     exact arm (mto (n:=53) [(0,(.own 0 1 (0) (p0))),(1,I p1),(2,I p2),(3,Qmz),(8,I y2),(9,(I (w64 (y10 - 1))))] [0,1,2,3,4] [(.own 1 (((y11.set y10.toNat x17).set ((w64 (y10 - 1)).toNat) x20:List Int).map Qak)),(.own 1 [[Qkg]]),(.own 1 [[(Qkf p4)]]),(.own 1 [[I p5]]),(.own 1 [[I p6]])] hφ0 (pc (.rn (Qa5 rfl)) (pw (pw (pc (.rn (Qbn rn0 (rnc (rqr rfl) (rnc (rqr rfl) rn0)))) (pw (pw pn)))))) (qc (spr Qaf) (qb (lc (.rn (Qbn rn0 (rnc (rqr rfl) (rnc (rqr rfl) rn0)))) ln) (qb (lc (rnd Qaf) ln) (qb (lc rwl ln) (qb (lc rwl ln) qn)))))) (ih (w64 (y10 - 1),(y11.set y10.toNat x17).set ((w64 (y10 - 1)).toNat) x20) h)
    ·skip
     refine bfe h (fun hb28 h=>?_) fun hb28 h=>?_
     ·obtain ⟨hi29,h⟩:=cko h
      obtain ⟨hi29a,hi29b⟩:=Qei hi29
      obtain ⟨x30,hg31,h⟩:=bno h
      obtain ⟨hi32,h⟩:=cko h
      obtain ⟨hi32a,hi32b⟩:=Qei hi32
      obtain ⟨x33,hg34,h⟩:=bno h
      obtain ⟨x36,hf35,h⟩:=bno h
      refine wxd tbk [(3,rp [(.tmp 20,(B ((decide (y10>p1)))))] (B true)),(7,rb [(.tmp 21,B true),(.tmp 23,(.own 0 1 (0) (p0))),(.tmp 24,I y10)] [(0,(Qjs y11))] (.ref 0 1 (y10.toNat) 0)),(8,rb [(.tmp 21,B true),(.tmp 25,(.ref 0 1 (y10.toNat) 0))] [(0,(Qjs y11))] (I x30)),(12,rb [(.tmp 21,B true),(.tmp 27,(.own 0 1 (0) (p0))),(.tmp 29,(I (w64 (y10 - 1))))] [(0,(Qjs y11))] (.ref 0 1 ((w64 (y10 - 1)).toNat) 0)),(13,rb [(.tmp 21,B true),(.tmp 30,(.ref 0 1 ((w64 (y10 - 1)).toNat) 0))] [(0,(Qjs y11))] (I x33)),(14,⟨[(.tmp 21,B true),(.tmp 22,Qmz),(.tmp 26,I x30),(.tmp 31,I x33)],[(1,.own 1 [[Qkg]]),(2,(.own 1 [[(Qkf p4)]])),(3,.own 1 [[I p5]]),(4,.own 1 [[I p6]])],I x36,[(1,.own 1 [[Qkg]]),(2,(.own 1 [[(Qkf p4)]])),(3,.own 1 [[I p5]]),(4,.own 1 [[I p6]])],false⟩)] ⟨asb hb28 (amv rfl),ag_ (aio rfl Tryz.underlying27 ti3 (odt hi29a) (odt hi29b) (Nat.zero_add _)),ag_ (ald rfl ti3 (by decide) (mgt Qak hg31) (nle rfl) rfl),ag_ (aio rfl Tryz.underlying27 ti3 (odt hi32a) (odt hi32b) (Nat.zero_add _)),ag_ (ald rfl ti3 (by decide) (mgt Qak hg34) (nle rfl) rfl),ag_ (Qat (first:=[]) (cap:=[.ref 1 1 0 0,.ref 2 1 0 0]) (vs:=[I x30,I x33]) (σr:=[(.own 1 [[Qkg]]),(.own 1 [[(Qkf p4)]]),(.own 1 [[I p5]]),(.own 1 [[I p6]])]) (σr':=[(.own 1 [[Qkg]]),(.own 1 [[(Qkf p4)]]),(.own 1 [[I p5]]),(.own 1 [[I p6]])]) (res':=(I x36)) [1,2,3,4] rfl Zcz (Qko N x30 x33 p4 p5 p6 _ hf35) rfl (Qbt (rncc (rnc (Qbj rfl) (rnc (Qbj rfl) rn0)))) (slc (Qaq (rnc (Qbn rn0 (rnc (Qbj rfl) (rnc (Qbj rfl) rn0))) rn0)) (slc (Qaq (rnc (pld Qaf) rn0)) (slc (Qaq (rnc (.plain _ nll) rn0)) (slc (Qaq (rnc (.plain _ nll) rn0)) Qas)))) (slc (Qaq (rnc (Qbn rn0 (rnc (Qbr rfl) (rnc (Qbr rfl) rn0))) rn0)) (slc (Qaq (rnc (pld Qaf) rn0)) (slc (Qaq (rnc (.plain _ nll) rn0)) (slc (Qaq (rnc (.plain _ nll) rn0)) Qas)))) (.plain _ nll) rfl rfl rfl),tv⟩ ?_
      refine bfe h (fun hc37 h=>?_) fun hc37 h=>?_
      ·exact wft hc37<|Qan<|thn<|⟨(),h,(mto (n:=53) [(0,(.own 0 1 (0) (p0))),(1,I p1),(2,I p2),(3,Qmz),(8,I y2),(9,I y10)] [0,1,2,3,4] [(Qjs y11),(.own 1 [[Qkg]]),(.own 1 [[(Qkf p4)]]),(.own 1 [[I p5]]),(.own 1 [[I p6]])] hφ0 (pc (.rn (Qa5 rfl)) (pw (pw (pc (.rn (Qbn rn0 (rnc (rqr rfl) (rnc (rqr rfl) rn0)))) (pw (pw pn)))))) (qc (spr Qaf) (qb (lc (.rn (Qbn rn0 (rnc (rqr rfl) (rnc (rqr rfl) rn0)))) ln) (qb (lc (rnd Qaf) ln) (qb (lc rwl ln) (qb (lc rwl ln) qn))))))⟩
      ·exact wfn hc37<|Qbi<|Qax<|Qax<|Qbh rfl<|bln<|thn<|⟨(y11),h,(mto (n:=53) [(0,(.own 0 1 (0) (p0))),(1,I p1),(2,I p2),(3,Qmz),(8,I y2)] [0,1,2,3,4] [(Qjs y11),(.own 1 [[Qkg]]),(.own 1 [[(Qkf p4)]]),(.own 1 [[I p5]]),(.own 1 [[I p6]])] hφ0 (pc (.rn (Qa5 rfl)) (pw (pw (pc (.rn (Qbn rn0 (rnc (rqr rfl) (rnc (rqr rfl) rn0)))) (pw pn))))) (qc (spr Qaf) (qb (lc (.rn (Qbn rn0 (rnc (rqr rfl) (rnc (rqr rfl) rn0)))) ln) (qb (lc (rnd Qaf) ln) (qb (lc rwl ln) (qb (lc rwl ln) qn))))))⟩
     ·exact wxd tbk [(3,rp [(.tmp 20,(B ((decide (y10>p1)))))] (B false))] ⟨asb hb28 (amv rfl),tv⟩<|wfa<|Qbi<|Qax<|Qax<|Qbh rfl<|bln<|thn<|⟨(y11),h,(mto (n:=53) [(0,(.own 0 1 (0) (p0))),(1,I p1),(2,I p2),(3,Qmz),(8,I y2)] [0,1,2,3,4] [(Qjs y11),(.own 1 [[Qkg]]),(.own 1 [[(Qkf p4)]]),(.own 1 [[I p5]]),(.own 1 [[I p6]])] hφ0 (pc (.rn (Qa5 rfl)) (pw (pw (pc (.rn (Qbn rn0 (rnc (rqr rfl) (rnc (rqr rfl) rn0)))) (pw pn))))) (qc (spr Qaf) (qb (lc (.rn (Qbn rn0 (rnc (rqr rfl) (rnc (rqr rfl) rn0)))) ln) (qb (lc (rnd Qaf) ln) (qb (lc rwl ln) (qb (lc rwl ln) qn))))))⟩
  ·refine wfn hc7<|Qbi<|Qax<|Qax<|Qbh rfl ?_
   obtain rfl:=osi h
   exact ⟨_,(mto (n:=53) (l':=[]) (own':=[(Q66 y3),(.own 1 [[Qkg]]),(.own 1 [[(Qkf p4)]]),(.own 1 [[I p5]]),(.own 1 [[I p6]])]) [] [0,1,2,3,4] [(Q66 y3),(.own 1 [[Qkg]]),(.own 1 [[(Qkf p4)]]),(.own 1 [[I p5]]),(.own 1 [[I p6]])] hφ0 pn (qc (spr Qaf) (qb (lc (.rn (Qbn rn0 (rnc (rqr rfl) (rnc (rqr rfl) rn0)))) ln) (qb (lc (rnd Qaf) ln) (qb (lc rwl ln) (qb (lc rwl ln) qn)))))),Qc8 (vs:=[]) tv rfl (NLt.tup _ nl0) (by kernel_rfl) (Qao (Qcj Qaf _) (Qao (Qbc (nlc (NLt.fn _ _ _ nl0 (nlc (NLt.ref _ _ _ _ (by decide)) (nlc (NLt.ref _ _ _ _ (by decide)) nl0))) nl0)) (Qao (Qbc (nlc (NLt.of0 (nld Qaf _)) nl0)) (Qao (Qbc (nlc (NLt.of0 nll) nl0)) (Qao (Qbc (nlc (NLt.of0 nll) nl0)) Qbs)))))⟩
def Qc6 (N:Nat) (p1:Int) (k9:Unit→Option (List Int)):Nat→Option (List Int)
  | 0=>none
  | n10+1=>
    bif (decide (40≤p1)) then
     none
    else
     k9 ()
def Qbz (N:Nat) (p1:Int) (x6:(List Int)):Nat→Option (List Int)
  | 0=>none
  | n7+1=>
    bif (decide (20<p1)) then
     Qbp (fun _=>
       none) fun k9:Unit→Option (List Int)=>
     Qc6 N p1 k9 N
    else
     some x6
def Qbq (N:Nat) (p0:Nat) (p1:Int) (p3:(List Int)) (k4:Int×(List Int)→Option (List Int)) (p4:Int) (p5:Int):Nat→Int→Int→(List Int)→Option (List Int)
  | 0,_,_,_=>none
  | n18+1,y12,y13,y14=>
    bif (decide (y13≤p1)) then
     (Qbe N p0 y12 y13 y14 p3 p4 p5).bind fun x21=>
     Qbq N p0 p1 p3 k4 p4 p5 n18 y13 (w64 (y13+20)) x21
    else
     k4 (y12,y14)
def Qdy (N:Nat) (p0:Nat) (p1:Int) (p2:(List Int)) (p3:(List Int)) (p4:Int) (p5:Int):Option (List Int):=
  Qbp (fun ⟨y2,y3⟩=>
    (Qbe N p0 y2 p1 y3 p3 p4 p5).bind fun x6=>
    Qbz N p1 x6 N) fun k4:Int×(List Int)→Option (List Int)=>
  Qbq N p0 p1 p3 k4 p4 p5 N 0 20 p2
def Qk2:AV:=.fn (.func 163) [] [(.ref 1 1 (0) 0),(.ref 2 1 (0) 0)]
def Zg3 (p2:(List Int)):Slot:=.own 1 ((p2:List Int).map Qak)
def Qij:AV:=.fn (.func 159) [] [(.ref 3 1 (0) 0),(.ref 4 1 (0) 0)]
def Qii (p3:(List Int)):AV:=.dat 1 ((p3:List Int).map Qak)
def Zg2 (y3:(List Int)):Slot:=.own 1 ((y3:List Int).map Qak)
def Qp5 (x6:(List Int)):Slot:=.own 1 ((x6:List Int).map Qak)
def Q1i (y14:(List Int)):Slot:=.own 1 ((y14:List Int).map Qak)
theorem Qin (N:Nat) (p0:Nat) (p1:Int) (p2:(List Int)) (p3:(List Int)) (p4:Int) (p5:Int) (r:(List Int)) (h:Qdy N p0 p1 p2 p3 p4 p5=some r):Spec Tryz.prog 164 [(.own 0 1 (0) (p0)),(I (p1)),Qk2] [(Zg3 p2),(.own 1 [[Qij]]),(.own 1 [[(Qii p3)]]),(.own 1 [[(I (p4))]]),(.own 1 [[(I (p5))]])] (.tup []) [(.own 1 ((r:List Int).map Qak)),(.own 1 [[Qij]]),(.own 1 [[(Qii p3)]]),(.own 1 [[(I (p4))]]),(.own 1 [[(I (p5))]])]:=by
  refine Qah Tryz.func164 rfl 5 (nle rfl) (fun X φ0 w0 hφ0 hd0=>?_)
  unfold Qdy at h
  refine Qbx<|wxz<|wxz ?_
  obtain ⟨k4,hk_k4,h⟩:=jko h
  refine wjn (τ:=Int×(List Int)) (fun t=>k4 t=some r) (fun ⟨y2,y3⟩=>⟨mk 63 [(0,(.own 0 1 (0) (p0))),(1,I p1),(2,Qk2),(6,I 20),(7,I y2)],[(Zg2 y3),(.own 1 [[Qij]]),(.own 1 [[(Qii p3)]]),(.own 1 [[I p4]]),(.own 1 [[I p5]])]⟩) (fun t h=>?_) ?_
  ·subst hk_k4
   obtain ⟨y2,y3⟩:=t
   obtain ⟨x6,hf5,h⟩:=bno h
   refine wx tbk [(4,⟨[fu 165,(.tmp 23,(.own 0 1 (0) (p0))),(.tmp 24,I y2),(.tmp 25,I p1),(.tmp 26,Qk2)],[(0,(Zg2 y3)),(1,.own 1 [[Qij]]),(2,(.own 1 [[(Qii p3)]])),(3,.own 1 [[I p4]]),(4,.own 1 [[I p5]])],(.tup []),[(0,(Qp5 x6)),(1,.own 1 [[Qij]]),(2,(.own 1 [[(Qii p3)]])),(3,.own 1 [[I p4]]),(4,.own 1 [[I p5]])],false⟩)] ⟨Qat (first:=[]) (cap:=[]) (vs:=[(.own 0 1 (0) (p0)),I y2,I p1,Qk2]) (σr:=[(Zg2 y3),(.own 1 [[Qij]]),(.own 1 [[(Qii p3)]]),(.own 1 [[I p4]]),(.own 1 [[I p5]])]) (σr':=[(Qp5 x6),(.own 1 [[Qij]]),(.own 1 [[(Qii p3)]]),(.own 1 [[I p4]]),(.own 1 [[I p5]])]) (res':=(.tup [])) [0,1,2,3,4] rfl Q2t (Qe2 N p0 y2 p1 y3 p3 p4 p5 _ hf5) rfl (Qbt (rnc (Qc5 rfl) (rncc (rnc (Qbn rn0 (rnc (Qbj rfl) (rnc (Qbj rfl) rn0))) rn0)))) (slc (Qa6 Qaf) (slc (Qaq (rnc (Qbn rn0 (rnc (Qbj rfl) (rnc (Qbj rfl) rn0))) rn0)) (slc (Qaq (rnc (pld Qaf) rn0)) (slc (Qaq (rnc (.plain _ nll) rn0)) (slc (Qaq (rnc (.plain _ nll) rn0)) Qas))))) (slc (Qa6 Qaf) (slc (Qaq (rnc (Qbn rn0 (rnc (Qbr rfl) (rnc (Qbr rfl) rn0))) rn0)) (slc (Qaq (rnc (pld Qaf) rn0)) (slc (Qaq (rnc (.plain _ nll) rn0)) (slc (Qaq (rnc (.plain _ nll) rn0)) Qas))))) (.plain _ (NLt.tup _ nl0)) rfl rfl rfl,tv⟩<|Qaj ?_
   refine wmr (mto (n:=63) (l':=[(0,(.own 0 1 (0) (p0))),(1,I p1),(2,Qk2),(6,I 20)]) (own':=[(Qp5 x6),(.own 1 [[Qij]]),(.own 1 [[(Qii p3)]]),(.own 1 [[I p4]]),(.own 1 [[I p5]])]) [(0,(.own 0 1 (0) (p0))),(1,I p1),(2,Qk2),(6,I 20)] [0,1,2,3,4] [(Qp5 x6),(.own 1 [[Qij]]),(.own 1 [[(Qii p3)]]),(.own 1 [[I p4]]),(.own 1 [[I p5]])] hφ0 (pc (.rn (Qa5 rfl)) (pw (pc (.rn (Qbn rn0 (rnc (rqr rfl) (rnc (rqr rfl) rn0)))) (pw pn)))) (qc (spr Qaf) (qb (lc (.rn (Qbn rn0 (rnc (rqr rfl) (rnc (rqr rfl) rn0)))) ln) (qb (lc (rnd Qaf) ln) (qb (lc rwl ln) (qb (lc rwl ln) qn)))))) ?_
   refine Qcb (τ:=Unit) (fun n t=>Qbz N p1 x6 n=some r) (fun _=>⟨mk 63 [(0,(.own 0 1 (0) (p0))),(1,I p1),(2,Qk2),(6,I 20)],[(Qp5 x6),(.own 1 [[Qij]]),(.own 1 [[(Qii p3)]]),(.own 1 [[I p4]]),(.own 1 [[I p5]])]⟩) (fun t h=>by rw [Qbz] at h; cases h) (fun n7 ih t h=>?_) N () h
   rw [Qbz] at h
   skip
   refine wsq<|wxz ?_
   refine bfe h (fun hc8 h=>?_) fun hc8 h=>?_
   ·refine wft hc8<|Qan<|thn<|Qaj<|wxz ?_
    obtain ⟨k9,hk_k9,h⟩:=jko h
    refine wjn (τ:=Unit) (fun t=>k9 t=some r) (fun _=>⟨mk 63 [(0,(.own 0 1 (0) (p0))),(1,I p1),(2,Qk2),(6,I 20),(7,I 0)],[(Qp5 x6),(.own 1 [[Qij]]),(.own 1 [[(Qii p3)]]),(.own 1 [[I p4]]),(.own 1 [[I p5]])]⟩) (fun t h=>?_) ?_
    ·subst hk_k9
     refine wsq<|wxz<|wxz<|wft hc8 ?_
     cases h
    ·skip
     refine Qaj<|wmr (mto (n:=63) (l':=[(0,(.own 0 1 (0) (p0))),(1,I p1),(2,Qk2),(6,I 20),(7,I 0),(8,I 40)]) (own':=[(Qp5 x6),(.own 1 [[Qij]]),(.own 1 [[(Qii p3)]]),(.own 1 [[I p4]]),(.own 1 [[I p5]])]) [(0,(.own 0 1 (0) (p0))),(1,I p1),(2,Qk2),(6,I 20),(7,I 0),(8,I 40)] [0,1,2,3,4] [(Qp5 x6),(.own 1 [[Qij]]),(.own 1 [[(Qii p3)]]),(.own 1 [[I p4]]),(.own 1 [[I p5]])] hφ0 (pc (.rn (Qa5 rfl)) (pw (pc (.rn (Qbn rn0 (rnc (rqr rfl) (rnc (rqr rfl) rn0)))) (pw (pw (pw pn)))))) (qc (spr Qaf) (qb (lc (.rn (Qbn rn0 (rnc (rqr rfl) (rnc (rqr rfl) rn0)))) ln) (qb (lc (rnd Qaf) ln) (qb (lc rwl ln) (qb (lc rwl ln) qn)))))) ?_
     refine Qcb (τ:=Unit) (fun n t=>Qc6 N p1 k9 n=some r) (fun _=>⟨mk 63 [(0,(.own 0 1 (0) (p0))),(1,I p1),(2,Qk2),(6,I 20),(7,I 0),(8,I 40)],[(Qp5 x6),(.own 1 [[Qij]]),(.own 1 [[(Qii p3)]]),(.own 1 [[I p4]]),(.own 1 [[I p5]])]⟩) (fun t h=>by rw [Qc6] at h; cases h) (fun n10 ih t h=>?_) N () h
     rw [Qc6] at h
     skip
     refine wsq<|wxz ?_
     refine bfe h (fun hc11 h=>?_) fun hc11 h=>?_
     ·refine wft hc11<|Qan<|thn<|Qaj ?_
      cases h
     ·exact wfn hc11<|Qbi<|Qax<|Qax<|Qbh rfl<|thn<|⟨(),h,(mto (n:=63) [(0,(.own 0 1 (0) (p0))),(1,I p1),(2,Qk2),(6,I 20),(7,I 0)] [0,1,2,3,4] [(Qp5 x6),(.own 1 [[Qij]]),(.own 1 [[(Qii p3)]]),(.own 1 [[I p4]]),(.own 1 [[I p5]])] hφ0 (pc (.rn (Qa5 rfl)) (pw (pc (.rn (Qbn rn0 (rnc (rqr rfl) (rnc (rqr rfl) rn0)))) (pw (pw pn))))) (qc (spr Qaf) (qb (lc (.rn (Qbn rn0 (rnc (rqr rfl) (rnc (rqr rfl) rn0)))) ln) (qb (lc (rnd Qaf) ln) (qb (lc rwl ln) (qb (lc rwl ln) qn))))))⟩
   ·refine wfn hc8<|Qbi<|Qax<|Qax<|Qbh rfl ?_
    obtain rfl:=osi h
    exact ⟨_,(mto (n:=63) (l':=[]) (own':=[(Qp5 x6),(.own 1 [[Qij]]),(.own 1 [[(Qii p3)]]),(.own 1 [[I p4]]),(.own 1 [[I p5]])]) [] [0,1,2,3,4] [(Qp5 x6),(.own 1 [[Qij]]),(.own 1 [[(Qii p3)]]),(.own 1 [[I p4]]),(.own 1 [[I p5]])] hφ0 pn (qc (spr Qaf) (qb (lc (.rn (Qbn rn0 (rnc (rqr rfl) (rnc (rqr rfl) rn0)))) ln) (qb (lc (rnd Qaf) ln) (qb (lc rwl ln) (qb (lc rwl ln) qn)))))),Qc8 (vs:=[]) tv rfl (NLt.tup _ nl0) (by kernel_rfl) (Qao (Qcj Qaf _) (Qao (Qbc (nlc (NLt.fn _ _ _ nl0 (nlc (NLt.ref _ _ _ _ (by decide)) (nlc (NLt.ref _ _ _ _ (by decide)) nl0))) nl0)) (Qao (Qbc (nlc (NLt.of0 (nld Qaf _)) nl0)) (Qao (Qbc (nlc (NLt.of0 nll) nl0)) (Qao (Qbc (nlc (NLt.of0 nll) nl0)) Qbs)))))⟩
  ·skip
   refine Qaj<|wmr (mto (n:=63) (l':=[(0,(.own 0 1 (0) (p0))),(1,I p1),(2,Qk2),(6,I 20),(7,I 0),(8,I 20)]) (own':=[(Zg3 p2),(.own 1 [[Qij]]),(.own 1 [[(Qii p3)]]),(.own 1 [[I p4]]),(.own 1 [[I p5]])]) [(0,(.own 0 1 (0) (p0))),(1,I p1),(2,Qk2),(6,I 20),(7,I 0),(8,I 20)] [0,1,2,3,4] [(Zg3 p2),(.own 1 [[Qij]]),(.own 1 [[(Qii p3)]]),(.own 1 [[I p4]]),(.own 1 [[I p5]])] hφ0 (pc (.rn (Qa5 rfl)) (pw (pc (.rn (Qbn rn0 (rnc (rqr rfl) (rnc (rqr rfl) rn0)))) (pw (pw (pw pn)))))) (qc (spr Qaf) (qb (lc (.rn (Qbn rn0 (rnc (rqr rfl) (rnc (rqr rfl) rn0)))) ln) (qb (lc (rnd Qaf) ln) (qb (lc rwl ln) (qb (lc rwl ln) qn)))))) ?_
   refine Qcb (τ:=Int×Int×(List Int)) (fun n t=>Qbq N p0 p1 p3 k4 p4 p5 n t.1 t.2.1 t.2.2=some r) (fun ⟨y12,y13,y14⟩=>⟨mk 63 [(0,(.own 0 1 (0) (p0))),(1,I p1),(2,Qk2),(6,I 20),(7,I y12),(8,I y13)],[(Q1i y14),(.own 1 [[Qij]]),(.own 1 [[(Qii p3)]]),(.own 1 [[I p4]]),(.own 1 [[I p5]])]⟩) (fun t h=>by rw [Qbq] at h; cases h) (fun n18 ih t h=>?_) N (0,20,p2) h
   obtain ⟨y12,y13,y14⟩:=t
   rw [Qbq] at h
   skip
   refine wsq<|wxz ?_
   refine bfe h (fun hc19 h=>?_) fun hc19 h=>?_
   ·refine wft hc19<|Qan<|thn<|Qaj ?_
    obtain ⟨x21,hf20,h⟩:=bno h
    refine wx tbk [(4,⟨[fu 165,(.tmp 14,(.own 0 1 (0) (p0))),(.tmp 15,I y12),(.tmp 16,I y13),(.tmp 17,Qk2)],[(0,(Q1i y14)),(1,.own 1 [[Qij]]),(2,(.own 1 [[(Qii p3)]])),(3,.own 1 [[I p4]]),(4,.own 1 [[I p5]])],(.tup []),[(0,(.own 1 ((x21:List Int).map Qak))),(1,.own 1 [[Qij]]),(2,(.own 1 [[(Qii p3)]])),(3,.own 1 [[I p4]]),(4,.own 1 [[I p5]])],false⟩)] ⟨Qat (first:=[]) (cap:=[]) (vs:=[(.own 0 1 (0) (p0)),I y12,I y13,Qk2]) (σr:=[(Q1i y14),(.own 1 [[Qij]]),(.own 1 [[(Qii p3)]]),(.own 1 [[I p4]]),(.own 1 [[I p5]])]) (σr':=[(.own 1 ((x21:List Int).map Qak)),(.own 1 [[Qij]]),(.own 1 [[(Qii p3)]]),(.own 1 [[I p4]]),(.own 1 [[I p5]])]) (res':=(.tup [])) [0,1,2,3,4] rfl Q2t (Qe2 N p0 y12 y13 y14 p3 p4 p5 _ hf20) rfl (Qbt (rnc (Qc5 rfl) (rncc (rnc (Qbn rn0 (rnc (Qbj rfl) (rnc (Qbj rfl) rn0))) rn0)))) (slc (Qa6 Qaf) (slc (Qaq (rnc (Qbn rn0 (rnc (Qbj rfl) (rnc (Qbj rfl) rn0))) rn0)) (slc (Qaq (rnc (pld Qaf) rn0)) (slc (Qaq (rnc (.plain _ nll) rn0)) (slc (Qaq (rnc (.plain _ nll) rn0)) Qas))))) (slc (Qa6 Qaf) (slc (Qaq (rnc (Qbn rn0 (rnc (Qbr rfl) (rnc (Qbr rfl) rn0))) rn0)) (slc (Qaq (rnc (pld Qaf) rn0)) (slc (Qaq (rnc (.plain _ nll) rn0)) (slc (Qaq (rnc (.plain _ nll) rn0)) Qas))))) (.plain _ (NLt.tup _ nl0)) rfl rfl rfl,tv⟩<|wxz<|wxz1<|bln<|thn ?_
    exact arm (mto (n:=63) [(0,(.own 0 1 (0) (p0))),(1,I p1),(2,Qk2),(6,I 20),(7,I y13),(8,(I (w64 (y13+20))))] [0,1,2,3,4] [(.own 1 ((x21:List Int).map Qak)),(.own 1 [[Qij]]),(.own 1 [[(Qii p3)]]),(.own 1 [[I p4]]),(.own 1 [[I p5]])] hφ0 (pc (.rn (Qa5 rfl)) (pw (pc (.rn (Qbn rn0 (rnc (rqr rfl) (rnc (rqr rfl) rn0)))) (pw (pw (pw pn)))))) (qc (spr Qaf) (qb (lc (.rn (Qbn rn0 (rnc (rqr rfl) (rnc (rqr rfl) rn0)))) ln) (qb (lc (rnd Qaf) ln) (qb (lc rwl ln) (qb (lc rwl ln) qn)))))) (ih (y13,w64 (y13+20),x21) h)
   ·exact wfn hc19<|Qbi<|Qax<|Qax<|Qbh rfl<|thn<|⟨(y12,y14),h,(mto (n:=63) [(0,(.own 0 1 (0) (p0))),(1,I p1),(2,Qk2),(6,I 20),(7,I y12)] [0,1,2,3,4] [(Q1i y14),(.own 1 [[Qij]]),(.own 1 [[(Qii p3)]]),(.own 1 [[I p4]]),(.own 1 [[I p5]])] hφ0 (pc (.rn (Qa5 rfl)) (pw (pc (.rn (Qbn rn0 (rnc (rqr rfl) (rnc (rqr rfl) rn0)))) (pw (pw pn))))) (qc (spr Qaf) (qb (lc (.rn (Qbn rn0 (rnc (rqr rfl) (rnc (rqr rfl) rn0)))) ln) (qb (lc (rnd Qaf) ln) (qb (lc rwl ln) (qb (lc rwl ln) qn))))))⟩
def Qca (N:Nat) (p0:Nat) (p1:(List Int)) (p2:(List Int)) (p3:Int) (p4:Int):Option (List Int):=
  (Qdy N p0 ((p0:Nat):Int) p1 p2 p3 p4).bind fun x3=>
  some x3
def Zg5:AV:=.fn (.func 163) [] [(.ref 1 1 (0) 0),(.ref 2 1 (0) 0)]
def Zg4 (p1:(List Int)):Slot:=.own 1 ((p1:List Int).map Qak)
def Qwe:AV:=.fn (.func 159) [] [(.ref 3 1 (0) 0),(.ref 4 1 (0) 0)]
def Qwd (p2:(List Int)):AV:=.dat 1 ((p2:List Int).map Qak)
def Zbe (x3:(List Int)):Slot:=.own 1 ((x3:List Int).map Qak)
theorem Qhc (N:Nat) (p0:Nat) (p1:(List Int)) (p2:(List Int)) (p3:Int) (p4:Int) (r:(List Int)) (h:Qca N p0 p1 p2 p3 p4=some r):Spec Tryz.prog 162 [(.own 0 1 (0) (p0)),Zg5] [(Zg4 p1),(.own 1 [[Qwe]]),(.own 1 [[(Qwd p2)]]),(.own 1 [[(I (p3))]]),(.own 1 [[(I (p4))]])] (.tup []) [(.own 1 ((r:List Int).map Qak)),(.own 1 [[Qwe]]),(.own 1 [[(Qwd p2)]]),(.own 1 [[(I (p3))]]),(.own 1 [[(I (p4))]])]:=by
  refine Qah Tryz.func162 rfl 5 (nle rfl) (fun X φ0 w0 hφ0 hd0=>?_)
  unfold Qca at h
  refine Qbx ?_
  obtain ⟨x3,hf2,h⟩:=bno h
  refine wx1 tbk [(2,rp [(.tmp 5,(.own 0 1 (0) (p0)))] (I (((p0:Nat):Int)))),(4,⟨[fu 164,(.tmp 4,(.own 0 1 (0) (p0))),(.tmp 6,(I (((p0:Nat):Int)))),(.tmp 7,Zg5)],[(0,(Zg4 p1)),(1,.own 1 [[Qwe]]),(2,(.own 1 [[(Qwd p2)]])),(3,.own 1 [[I p3]]),(4,.own 1 [[I p4]])],(.tup []),[(0,(Zbe x3)),(1,.own 1 [[Qwe]]),(2,(.own 1 [[(Qwd p2)]])),(3,.own 1 [[I p3]]),(4,.own 1 [[I p4]])],false⟩)] ⟨aln rfl Tryz.underlying27 rfl,Qat (first:=[]) (cap:=[]) (vs:=[(.own 0 1 (0) (p0)),(I (((p0:Nat):Int))),Zg5]) (σr:=[(Zg4 p1),(.own 1 [[Qwe]]),(.own 1 [[(Qwd p2)]]),(.own 1 [[I p3]]),(.own 1 [[I p4]])]) (σr':=[(Zbe x3),(.own 1 [[Qwe]]),(.own 1 [[(Qwd p2)]]),(.own 1 [[I p3]]),(.own 1 [[I p4]])]) (res':=(.tup [])) [0,1,2,3,4] rfl Zcy (Qin N p0 ((p0:Nat):Int) p1 p2 p3 p4 _ hf2) rfl (Qbt (rnc (Qc5 rfl) (rnc (.plain _ nll) (rnc (Qbn rn0 (rnc (Qbj rfl) (rnc (Qbj rfl) rn0))) rn0)))) (slc (Qa6 Qaf) (slc (Qaq (rnc (Qbn rn0 (rnc (Qbj rfl) (rnc (Qbj rfl) rn0))) rn0)) (slc (Qaq (rnc (pld Qaf) rn0)) (slc (Qaq (rnc (.plain _ nll) rn0)) (slc (Qaq (rnc (.plain _ nll) rn0)) Qas))))) (slc (Qa6 Qaf) (slc (Qaq (rnc (Qbn rn0 (rnc (Qbr rfl) (rnc (Qbr rfl) rn0))) rn0)) (slc (Qaq (rnc (pld Qaf) rn0)) (slc (Qaq (rnc (.plain _ nll) rn0)) (slc (Qaq (rnc (.plain _ nll) rn0)) Qas))))) (.plain _ (NLt.tup _ nl0)) rfl rfl rfl,tv⟩ ?_
  obtain rfl:=osi h
  exact ⟨_,(mto (n:=9) (l':=[]) (own':=[(Zbe x3),(.own 1 [[Qwe]]),(.own 1 [[(Qwd p2)]]),(.own 1 [[I p3]]),(.own 1 [[I p4]])]) [] [0,1,2,3,4] [(Zbe x3),(.own 1 [[Qwe]]),(.own 1 [[(Qwd p2)]]),(.own 1 [[I p3]]),(.own 1 [[I p4]])] hφ0 pn (qc (spr Qaf) (qb (lc (.rn (Qbn rn0 (rnc (rqr rfl) (rnc (rqr rfl) rn0)))) ln) (qb (lc (rnd Qaf) ln) (qb (lc rwl ln) (qb (lc rwl ln) qn)))))),Qc8 (vs:=[]) tv rfl (NLt.tup _ nl0) (by kernel_rfl) (Qao (Qcj Qaf _) (Qao (Qbc (nlc (NLt.fn _ _ _ nl0 (nlc (NLt.ref _ _ _ _ (by decide)) (nlc (NLt.ref _ _ _ _ (by decide)) nl0))) nl0)) (Qao (Qbc (nlc (NLt.of0 (nld Qaf _)) nl0)) (Qao (Qbc (nlc (NLt.of0 nll) nl0)) (Qao (Qbc (nlc (NLt.of0 nll) nl0)) Qbs)))))⟩
def Qcn (N:Nat) (p0:(List Int)) (k4:(List Int)→Option (List Int)):Nat→Int→(List Int)→Option (List Int)
  | 0,_,_=>none
  | n13+1,y9,y10=>
    bif (decide (y9<(p0.length:Int))) then
     chk (decide ((y10.length+([y9]).length) * 8≤140737488355328))<|
     Qcn N p0 k4 n13 (w64 (y9+1)) (y10++([y9]))
    else
     k4 (y10)
def Qe9 (N:Nat) (p0:(List Int)) (p1:Int) (p2:Int):Option (List Int):=
  Qbp (fun y3=>
    chk (!y3.isEmpty)<|
    (Qca N y3.length y3 p0 p1 p2).bind fun x7=>
    chk (decide (y3.length≤x7.length))<|
    some (x7.take y3.length)) fun k4:(List Int)→Option (List Int)=>
  Qcn N p0 k4 N 0 ([]:List Int)
def Qoy (p0:(List Int)):AV:=.dat 1 ((p0:List Int).map Qak)
def Qp6:AV:=.fn (.func 159) [] [(.ref 0 1 (0) 0),(.ref 1 1 (0) 0)]
def Q1k:AV:=.fn (.func 163) [] [(.ref 3 1 (0) 0),(.ref 2 1 (0) 0)]
def Q1j (x7:(List Int)) (y3:(List Int)):AV:=.dat 1 ((x7.take y3.length:List Int).map Qak)
def Zk6:Slot:=.gro 1 ((([]:List Int):List Int).map Qak)
theorem Qlk (N:Nat) (p0:(List Int)) (p1:Int) (p2:Int) (r:(List Int)) (h:Qe9 N p0 p1 p2=some r):Spec Tryz.prog 158 [(Qoy p0),Qp6] [(.own 1 [[(I (p1))]]),(.own 1 [[(I (p2))]])] (.dat 1 ((r:List Int).map Qak)) [(.own 1 [[(I (p1))]]),(.own 1 [[(I (p2))]])]:=by
  refine Qah Tryz.func158 rfl 2 (nle rfl) (fun X φ0 w0 hφ0 hd0=>?_)
  unfold Qe9 at h
  refine Qbx<|wxz<|wxz ?_
  obtain ⟨k4,hk_k4,h⟩:=jko h
  refine wjn (τ:=(List Int)) (fun t=>k4 t=some r) (fun y3=>⟨mk 21 [(2,.ref 2 1 0 0),(3,.ref 3 1 0 0),(5,(.gro 4 3 1 (y3.length)))],[(.own 1 [[I p1]]),(.own 1 [[I p2]]),(.own 1 [[(Qoy p0)]]),(.own 1 [[Qp6]]),(.gro 1 ((y3:List Int).map Qak))]⟩) (fun y3 h=>?_) ?_
  ·subst hk_k4
   obtain ⟨hz5,h⟩:=cko h
   obtain ⟨x7,hf6,h⟩:=bno h
   refine wx tbk [(1,rp [(.tmp 3,.ref 3 1 0 0),(.tmp 2,.ref 2 1 0 0)] Q1k),(2,⟨[fu 162,(.tmp 17,(.gro 4 3 1 (y3.length))),(.tmp 18,Q1k)],[(4,(.gro 1 ((y3:List Int).map Qak))),(3,.own 1 [[Qp6]]),(2,(.own 1 [[(Qoy p0)]])),(0,.own 1 [[I p1]]),(1,.own 1 [[I p2]])],(.tup []),[(4,(.own 1 ((x7:List Int).map Qak))),(3,.own 1 [[Qp6]]),(2,(.own 1 [[(Qoy p0)]])),(0,.own 1 [[I p1]]),(1,.own 1 [[I p2]])],false⟩)] ⟨Qfl (fs:=[]) (cs:=[.ref 3 1 0 0,.ref 2 1 0 0]) rfl rfl rfl rfl,Q0g (bl':=[(4,(.own 1 ((y3:List Int).map Qak))),(3,.own 1 [[Qp6]]),(2,(.own 1 [[(Qoy p0)]])),(0,.own 1 [[I p1]]),(1,.own 1 [[I p2]])]) ⟨rfl,SLess.gro (Qj2 hz5),rfl,SLess.rfl,rfl,SLess.rfl,rfl,SLess.rfl,rfl,SLess.rfl,tv⟩ (awk (rd':=[fu 162,(.tmp 17,(.own 4 1 (0) (y3.length))),(.tmp 18,Q1k)]) ⟨rfl,lrf,rfl,Less.gro,rfl,lrf,tv⟩ (Qat (first:=[]) (cap:=[]) (vs:=[(.own 4 1 (0) (y3.length)),Q1k]) (σr:=[(.own 1 ((y3:List Int).map Qak)),(.own 1 [[Qp6]]),(.own 1 [[(Qoy p0)]]),(.own 1 [[I p1]]),(.own 1 [[I p2]])]) (σr':=[(.own 1 ((x7:List Int).map Qak)),(.own 1 [[Qp6]]),(.own 1 [[(Qoy p0)]]),(.own 1 [[I p1]]),(.own 1 [[I p2]])]) (res':=(.tup [])) [4,3,2,0,1] rfl Zc0 (Qhc N y3.length y3 p0 p1 p2 _ hf6) rfl (Qbt (rnc (Qc5 rfl) (rnc (Qbn rn0 (rnc (Qbj rfl) (rnc (Qbj rfl) rn0))) rn0))) (slc (Qa6 Qaf) (slc (Qaq (rnc (Qbn rn0 (rnc (Qbj rfl) (rnc (Qbj rfl) rn0))) rn0)) (slc (Qaq (rnc (pld Qaf) rn0)) (slc (Qaq (rnc (.plain _ nll) rn0)) (slc (Qaq (rnc (.plain _ nll) rn0)) Qas))))) (slc (Qa6 Qaf) (slc (Qaq (rnc (Qbn rn0 (rnc (Qbr rfl) (rnc (Qbr rfl) rn0))) rn0)) (slc (Qaq (rnc (pld Qaf) rn0)) (slc (Qaq (rnc (.plain _ nll) rn0)) (slc (Qaq (rnc (.plain _ nll) rn0)) Qas))))) (.plain _ (NLt.tup _ nl0)) rfl rfl rfl)),tv⟩<|wxz ?_
   obtain ⟨hz8,h⟩:=cko h
   refine wmr (Zcm (n:=21) (l':=[(4,(.own 4 1 (0) (y3.length)))]) [(4,(.gro 4 3 1 (y3.length)))] (by kernel_rfl) (by kernel_rfl) ⟨rfl,Less.gro,tv⟩) ?_
   refine wmr (Zfy (n:=21) (l':=[(4,(Q1j x7 y3))]) 4 [(4,(.own 4 1 (0) (y3.length)))] (by kernel_rfl) (by kernel_rfl) (by kernel_rfl) ⟨rfl,(Qpf hz8),tv⟩ rfl) ?_
   refine wmr (mto (n:=21) (l':=[(4,(Q1j x7 y3))]) (own':=[(.own 1 [[I p1]]),(.own 1 [[I p2]])]) [(4,(Q1j x7 y3))] [0,1] [(.own 1 [[I p1]]),(.own 1 [[I p2]])] hφ0 (pc (rnd Qaf) pn) (qb (lc rwl ln) (qb (lc rwl ln) qn)))<|Qae ?_
   obtain rfl:=osi h
   exact ⟨_,Mor.rfl,Qc8 (vs:=[(Q1j x7 y3)]) ⟨rot,tv⟩ rfl (NLt.of0 (nld Qaf _)) (by kernel_rfl) (Qao (Qbc (nlc (NLt.of0 nll) nl0)) (Qao (Qbc (nlc (NLt.of0 nll) nl0)) Qbs))⟩
  ·skip
   refine wx tbk [(1,rp [(.tmp 7,(Qoy p0))] (I ((p0.length:Int))))] ⟨alm (c:=Qak) (l:=p0) (aln rfl Tryz.underlying27 rfl),tv⟩<|Qaj ?_
   refine wmr (Mor.trans (Zcl 4 3 1 5 (by kernel_rfl) (by kernel_rfl)) (mto (n:=21) (l':=[(2,.ref 2 1 0 0),(3,.ref 3 1 0 0),(5,(.gro 4 3 1 (([]:List Int).length))),(8,(I ((p0.length:Int)))),(9,I 0)]) (own':=[(.own 1 [[I p1]]),(.own 1 [[I p2]]),(.own 1 [[(Qoy p0)]]),(.own 1 [[Qp6]]),Zk6]) [(2,.ref 2 1 0 0),(3,.ref 3 1 0 0),(5,(.gro 4 3 1 (([]:List Int).length))),(8,(I ((p0.length:Int)))),(9,I 0)] [0,1,2,3,4] [(.own 1 [[I p1]]),(.own 1 [[I p2]]),(.own 1 [[(Qoy p0)]]),(.own 1 [[Qp6]]),Zk6] hφ0 (prr (prr (pc (.rn (Qzj rfl)) (pw (pw pn))))) (qb (lc rwl ln) (qb (lc rwl ln) (qb (lc (rnd Qaf) ln) (qb (lc (.rn (Qbn rn0 (rnc (rqr rfl) (rnc (rqr rfl) rn0)))) ln) (qc (Qu5 Qaf) qn))))))) ?_
   refine Qcb (τ:=Int×(List Int)) (fun n t=>Qcn N p0 k4 n t.1 t.2=some r) (fun ⟨y9,y10⟩=>⟨mk 21 [(2,.ref 2 1 0 0),(3,.ref 3 1 0 0),(5,(.gro 4 3 1 (y10.length))),(8,(I ((p0.length:Int)))),(9,I y9)],[(.own 1 [[I p1]]),(.own 1 [[I p2]]),(.own 1 [[(Qoy p0)]]),(.own 1 [[Qp6]]),(.gro 1 ((y10:List Int).map Qak))]⟩) (fun t h=>by rw [Qcn] at h; cases h) (fun n13 ih t h=>?_) N (0,([]:List Int)) h
   obtain ⟨y9,y10⟩:=t
   rw [Qcn] at h
   skip
   refine wxz<|wsq ?_
   refine bfe h (fun hc14 h=>?_) fun hc14 h=>?_
   ·refine wft hc14<|Qan<|thn<|wsq<|Qaj<|wxz ?_
    obtain ⟨ha15,h⟩:=cko h
    refine wx1 tbk [(2,rp [(.tmp 13,I y9)] (.dat 1 (([y9]:List Int).map Qak))),(3,⟨[(.tmp 12,(.gro 4 3 1 (y10.length))),(.tmp 14,(.dat 1 (([y9]:List Int).map Qak)))],[(4,(.gro 1 ((y10:List Int).map Qak))),(5,.unused)],(.gro 5 3 1 ((y10++([y9])).length)),[(4,.dead),(5,(.gro 1 ((y10++([y9]):List Int).map Qak)))],false⟩)] ?_ ?_
    ·exact ⟨Qbo (vs:=[I y9]) rfl Tryz.underlying27 ti3 tz3 rfl (by decide) rfl (by decide) (by rfl) (by rfl) (by rfl) rfl,Q0n (c:=Qak) (a:=y10) (b:=[y9]) rfl Tryz.underlying27 te3 rfl (Qj2 rfl) (by rfl) ha15 (by decide),tv⟩
    exact bln<|thn<|wxz1<|thn<|arm (mto (n:=21) [(2,.ref 2 1 0 0),(3,.ref 3 1 0 0),(5,(.gro 5 3 1 ((y10++([y9])).length))),(8,(I ((p0.length:Int)))),(9,(I (w64 (y9+1))))] [0,1,2,3,5] [(.own 1 [[I p1]]),(.own 1 [[I p2]]),(.own 1 [[(Qoy p0)]]),(.own 1 [[Qp6]]),(.gro 1 ((y10++([y9]):List Int).map Qak))] hφ0 (prr (prr (pc (.rn (Qzj rfl)) (pw (pw pn))))) (qb (lc rwl ln) (qb (lc rwl ln) (qb (lc (rnd Qaf) ln) (qb (lc (.rn (Qbn rn0 (rnc (rqr rfl) (rnc (rqr rfl) rn0)))) ln) (qc (Qu5 Qaf) qn)))))) (ih (w64 (y9+1),y10++([y9])) h)
   ·exact wfn hc14<|Qbi<|Qax<|Qax<|Qbh rfl<|thn<|⟨(y10),h,(mto (n:=21) [(2,.ref 2 1 0 0),(3,.ref 3 1 0 0),(5,(.gro 4 3 1 (y10.length)))] [0,1,2,3,4] [(.own 1 [[I p1]]),(.own 1 [[I p2]]),(.own 1 [[(Qoy p0)]]),(.own 1 [[Qp6]]),(.gro 1 ((y10:List Int).map Qak))] hφ0 (prr (prr (pc (.rn (Qzj rfl)) pn))) (qb (lc rwl ln) (qb (lc rwl ln) (qb (lc (rnd Qaf) ln) (qb (lc (.rn (Qbn rn0 (rnc (rqr rfl) (rnc (rqr rfl) rn0)))) ln) (qc (Qu5 Qaf) qn))))))⟩
def Qds (N:Nat) (p1:(List Int)) (y6:Int) (k10:(List Int)→Option (List Int)) (x13:(List Int)):Nat→Int→(List Int)→Option (List Int)
  | 0,_,_=>none
  | n19+1,y15,y16=>
    bif (decide (y15<(((x13).take (y6.toNat - 0)).length:Int))) then
     (getI ((x13).take (y6.toNat - 0)) y15).bind fun x21=>
     chk (decide (0≤x21)&&decide (x21.toNat<(p1.length:Int).toNat))<|
     (y16[x21.toNat]?).bind fun x26=>
     chk (decide (0≤x21)&&decide (x21.toNat<(p1.length:Int).toNat))<|
     (y16[x21.toNat]?).bind fun _=>
     Qds N p1 y6 k10 x13 n19 (w64 (y15+1)) (y16.set x21.toNat (w64 (x26+1)))
    else
     k10 (y16)
def Qdr (N:Nat) (p0:Int) (p1:(List Int)) (y3:Int) (k8:Int×(List Int)→Option (List Int)):Nat→Int→Int→(List Int)→Option (List Int)
  | 0,_,_,_=>none
  | n37+1,y31,y32,y33=>
    bif (decide (y32<(p1.length:Int))) then
     (getI p1 y32).bind fun x39=>
     chk (y3 != 0)<|
     chk (decide (0≤y32)&&decide (y32.toNat<(p1.length:Int).toNat))<|
     (y33[y32.toNat]?).bind fun _=>
     chk (decide (0≤y32)&&decide (y32.toNat<(p1.length:Int).toNat))<|
     ((y33.set y32.toNat (w64 ((w64 (p0 * x39)).tdiv y3)))[y32.toNat]?).bind fun x48=>
     Qdr N p0 p1 y3 k8 n37 (w64 (y31 - x48)) (w64 (y32+1)) (y33.set y32.toNat (w64 ((w64 (p0 * x39)).tdiv y3)))
    else
     k8 (y31,y33)
def Qdq (N:Nat) (p1:(List Int)) (k4:Int→Option (List Int)):Nat→Int→Int→Option (List Int)
  | 0,_,_=>none
  | n54+1,y50,y51=>
    bif (decide (y50<(p1.length:Int))) then
     (getI p1 y50).bind fun x56=>
     Qdq N p1 k4 n54 (w64 (y50+1)) (w64 (y51+x56))
    else
     k4 (y51)
def Qho (N:Nat) (p0:Int) (p1:(List Int)):Option (List Int):=
  Qbp (fun y3=>
    chk (decide (0≤(p1.length:Int))&&decide (8 * (p1.length:Int)≤281474976710656)&&decide ((p1.length:Int)≤9223372036854775807))<|
    Qbp (fun ⟨y6,y7⟩=>
      Qbp (fun y9=>
        chk (decide ((p1.length:Int).toNat≤y9.length))<|
        some (y9.take ((p1.length:Int).toNat))) fun k10:(List Int)→Option (List Int)=>
      (Qe9 N p1 p0 y3).bind fun x13=>
      chk (decide (0≤0)&&decide (0≤y6)&&decide (y6≤(x13.length:Int)))<|
      Qds N p1 y6 k10 x13 N 0 y7) fun k8:Int×(List Int)→Option (List Int)=>
    Qdr N p0 p1 y3 k8 N p0 0 (List.replicate (p1.length:Int).toNat 0)) fun k4:Int→Option (List Int)=>
  Qdq N p1 k4 N 0 0
def Qia (p1:(List Int)):AV:=.dat 1 ((p1:List Int).map Qak)
def Zk7 (p1:(List Int)):Slot:=.own 1 ((List.replicate (p1.length:Int).toNat 0:List Int).map Qak)
def Q68 (y7:(List Int)):Slot:=.own 1 ((y7:List Int).map Qak)
def Q1n (y9:(List Int)) (p1:(List Int)):AV:=.dat 1 ((y9.take ((p1.length:Int).toNat):List Int).map Qak)
def Q69:AV:=.fn (.func 159) [] [(.ref 0 1 (0) 0),(.ref 1 1 (0) 0)]
def Q67 (x13:(List Int)):AV:=.dat 1 ((x13:List Int).map Qak)
def Qqx (x13:(List Int)) (y6:Int):AV:=.dat 1 (((x13).take (y6.toNat - 0):List Int).map Qak)
def Qs8 (y16:(List Int)):Slot:=.own 1 ((y16:List Int).map Qak)
def Q1m (y33:(List Int)):Slot:=.own 1 ((y33:List Int).map Qak)
def Q1l (y33:(List Int)) (y32:Int) (p0:Int) (x39:Int) (y3:Int):Slot:=.own 1 ((y33.set y32.toNat (w64 ((w64 (p0 * x39)).tdiv y3)):List Int).map Qak)
theorem Qp8 (N:Nat) (p0:Int) (p1:(List Int)) (r:(List Int)) (h:Qho N p0 p1=some r):Spec Tryz.prog 153 [(I p0),(.dat 1 (p1.map Qak))] [] (.dat 1 ((r:List Int).map Qak)) []:=by
  refine Qah Tryz.func153 rfl 0 (nle rfl) (fun X φ0 w0 hφ0 hd0=>?_)
  unfold Qho at h
  refine Qbx<|wxz<|wxz ?_
  obtain ⟨k4,hk_k4,h⟩:=jko h
  refine wjn (τ:=Int) (fun t=>k4 t=some r) (fun y3=>⟨mk 68 [(1,(Qia p1)),(2,.ref 0 1 0 0),(5,.ref 1 1 0 0)],[(.own 1 [[I p0]]),(.own 1 [[I y3]])]⟩) (fun y3 h=>?_) ?_
  ·subst hk_k4
   obtain ⟨hm5,h⟩:=cko h
   refine wxd tbk [(1,rp [(.tmp 24,(Qia p1))] (I ((p1.length:Int)))),(2,⟨[(.tmp 25,(I ((p1.length:Int)))),(.tmp 25,(I ((p1.length:Int))))],[(2,.unused)],(.own 2 1 (0) ((p1.length:Int).toNat)),[(2,(Zk7 p1))],false⟩)] ⟨alm (c:=Qak) (l:=p1) (aln rfl Tryz.underlying27 rfl),Qpn rfl Tryz.underlying27 te3 tz3 rfl (Q0q hm5) rfl (Q0p hm5) (Zaq hm5) (Q8m Qak rfl),tv⟩ ?_
   obtain ⟨k8,hk_k8,h⟩:=jko h
   refine wjn (τ:=Int×(List Int)) (fun t=>k8 t=some r) (fun ⟨y6,y7⟩=>⟨mk 68 [(1,(Qia p1)),(2,.ref 0 1 0 0),(5,.ref 1 1 0 0),(8,(.own 2 1 (0) ((p1.length:Int).toNat))),(9,I y6)],[(.own 1 [[I p0]]),(.own 1 [[I y3]]),(Q68 y7)]⟩) (fun t h=>?_) ?_
   ·subst hk_k8
    obtain ⟨y6,y7⟩:=t
    obtain ⟨k10,hk_k10,h⟩:=jko h
    refine wjn (τ:=(List Int)) (fun t=>k10 t=some r) (fun y9=>⟨mk 68 [(8,(.own 0 1 (0) ((p1.length:Int).toNat)))],[(.own 1 ((y9:List Int).map Qak))]⟩) (fun y9 h=>?_) ?_
    ·subst hk_k10
     refine wxz ?_
     obtain ⟨hz11,h⟩:=cko h
     refine wmr (Zfy (n:=68) (l':=[(4,(Q1n y9 p1))]) 0 [(4,(.own 0 1 (0) ((p1.length:Int).toNat)))] (by kernel_rfl) (by kernel_rfl) (by kernel_rfl) ⟨rfl,(Qpf hz11),tv⟩ rfl) ?_
     refine wmr (mto (n:=68) (l':=[(4,(Q1n y9 p1))]) (own':=[]) [(4,(Q1n y9 p1))] [] [] hφ0 (pc (rnd Qaf) pn) qn)<|Qae ?_
     obtain rfl:=osi h
     exact ⟨_,Mor.rfl,Qc8 (vs:=[(Q1n y9 p1)]) ⟨rot,tv⟩ rfl (nld Qaf _) (by kernel_rfl) Qbs⟩
    ·skip
     obtain ⟨x13,hf12,h⟩:=bno h
     obtain ⟨hs14,h⟩:=cko h
     refine wx tbk [(1,rp [(.tmp 2,.ref 0 1 0 0),(.tmp 5,.ref 1 1 0 0)] Q69),(2,⟨[fu 158,(.tmp 50,(Qia p1)),(.tmp 51,Q69)],[(0,.own 1 [[I p0]]),(1,.own 1 [[I y3]])],(Q67 x13),[(0,.own 1 [[I p0]]),(1,.own 1 [[I y3]])],false⟩),(4,rp [(.tmp 52,(Q67 x13)),(.tmp 53,I y6)] (Qqx x13 y6)),(5,rp [(.tmp 54,(Qqx x13 y6))] (I ((((x13).take (y6.toNat - 0)).length:Int))))] ⟨Qfl (fs:=[]) (cs:=[.ref 0 1 0 0,.ref 1 1 0 0]) rfl rfl rfl rfl,Qat (first:=[]) (cap:=[]) (vs:=[(Qia p1),Q69]) (σr:=[(.own 1 [[I p0]]),(.own 1 [[I y3]])]) (σr':=[(.own 1 [[I p0]]),(.own 1 [[I y3]])]) (res':=(Q67 x13)) [0,1] rfl Zc2 (Qlk N p1 p0 y3 _ hf12) rfl (Qbt (rnc (pld Qaf) (rnc (Qbn rn0 (rnc (Qbj rfl) (rnc (Qbj rfl) rn0))) rn0))) (slc (Qaq (rnc (.plain _ nll) rn0)) (slc (Qaq (rnc (.plain _ nll) rn0)) Qas)) (slc (Qaq (rnc (.plain _ nll) rn0)) (slc (Qaq (rnc (.plain _ nll) rn0)) Qas)) (pld Qaf) rfl rfl rfl,Qke (k:=.i64) (k':=.i64) (lo:=none) (hi:=some (.tmp 53)) (l:=0) (hh:=y6) rfl Tryz.underlying27 ti3 rfl (fun _=>rfl) (fun e=>nomatch e) (Q0q hs14) (Q0p hs14) (Zeo (Qak) hs14) (Zl0 Qak),alm (c:=Qak) (l:=(x13).take (y6.toNat - 0)) (aln rfl Tryz.underlying27 rfl),tv⟩<|Qaj ?_
     refine wmr (mto (n:=68) (l':=[(8,(.own 0 1 (0) ((p1.length:Int).toNat))),(54,(Qqx x13 y6)),(55,(I ((((x13).take (y6.toNat - 0)).length:Int)))),(56,I 0)]) (own':=[(Q68 y7)]) [(8,(.own 2 1 (0) ((p1.length:Int).toNat))),(54,(Qqx x13 y6)),(55,(I ((((x13).take (y6.toNat - 0)).length:Int)))),(56,I 0)] [2] [(Q68 y7)] hφ0 (pc (.rn (Qa5 rfl)) (pc (rnd Qaf) (pw (pw pn)))) (qc (spr Qaf) qn)) ?_
     refine Qcb (τ:=Int×(List Int)) (fun n t=>Qds N p1 y6 k10 x13 n t.1 t.2=some r) (fun ⟨y15,y16⟩=>⟨mk 68 [(8,(.own 0 1 (0) ((p1.length:Int).toNat))),(54,(Qqx x13 y6)),(55,(I ((((x13).take (y6.toNat - 0)).length:Int)))),(56,I y15)],[(Qs8 y16)]⟩) (fun t h=>by rw [Qds] at h; cases h) (fun n19 ih t h=>?_) N (0,y7) h
     obtain ⟨y15,y16⟩:=t
     rw [Qds] at h
     skip
     refine wxz<|wsq ?_
     refine bfe h (fun hc20 h=>?_) fun hc20 h=>?_
     ·refine wft hc20<|Qan<|thn<|wsq<|Qaj ?_
      obtain ⟨x21,hg22,h⟩:=bno h
      obtain ⟨hi23,hj24⟩:=gsm hg22
      refine wx tbk [(0,rp [(.tmp 54,(Qqx x13 y6)),(.tmp 56,I y15)] (.dptr (Qak (x21)) 0))] ⟨aid rfl Tryz.underlying27 ti3 rfl rfl hi23 (mgt Qak hj24) rfl,tv⟩ ?_
      obtain ⟨hi25,h⟩:=cko h
      obtain ⟨hi25a,hi25b⟩:=Qei hi25
      obtain ⟨x26,hg27,h⟩:=bno h
      obtain ⟨hi28,h⟩:=cko h
      obtain ⟨hi28a,hi28b⟩:=Qei hi28
      obtain ⟨x29,hg30,h⟩:=bno h
      refine wx1 tbk [(2,rb [(.tmp 60,(.own 0 1 (0) ((p1.length:Int).toNat))),(.tmp 61,I x21)] [(0,(Qs8 y16))] (.ref 0 1 (x21.toNat) 0)),(3,rb [(.tmp 62,(.ref 0 1 (x21.toNat) 0))] [(0,(Qs8 y16))] (I x26)),(5,rb [(.tmp 60,(.own 0 1 (0) ((p1.length:Int).toNat))),(.tmp 61,I x21)] [(0,(Qs8 y16))] (.ref 0 1 (x21.toNat) 0)),(6,⟨[(.tmp 65,(.ref 0 1 (x21.toNat) 0)),(.tmp 64,(I (w64 (x26+1))))],[(0,(Qs8 y16))],.any,[(0,(.own 1 ((y16.set x21.toNat (w64 (x26+1)):List Int).map Qak)))],false⟩)] ⟨aio rfl Tryz.underlying27 ti3 (odt hi25a) (odt hi25b) (Nat.zero_add _),ald rfl ti3 (by decide) (mgt Qak hg27) (nle rfl) rfl,aio rfl Tryz.underlying27 ti3 (odt hi28a) (odt hi28b) (Nat.zero_add _),ast rfl ti3 (by rfl) (mgt Qak hg30) (nle rfl) (Qgr Qak rfl),tv⟩<|bln<|thn<|wxz1<|thn ?_
      exact arm (mto (n:=68) [(8,(.own 0 1 (0) ((p1.length:Int).toNat))),(54,(Qqx x13 y6)),(55,(I ((((x13).take (y6.toNat - 0)).length:Int)))),(56,(I (w64 (y15+1))))] [0] [(.own 1 ((y16.set x21.toNat (w64 (x26+1)):List Int).map Qak))] hφ0 (pc (.rn (Qa5 rfl)) (pc (rnd Qaf) (pw (pw pn)))) (qc (spr Qaf) qn)) (ih (w64 (y15+1),y16.set x21.toNat (w64 (x26+1))) h)
     ·exact wfn hc20<|Qbi<|Qax<|Qax<|Qbh rfl<|thn<|⟨(y16),h,(mto (n:=68) [(8,(.own 0 1 (0) ((p1.length:Int).toNat)))] [0] [(Qs8 y16)] hφ0 (pc (.rn (Qa5 rfl)) pn) (qc (spr Qaf) qn))⟩
   ·skip
    refine wx tbk [(1,rp [(.tmp 28,(Qia p1))] (I ((p1.length:Int))))] ⟨alm (c:=Qak) (l:=p1) (aln rfl Tryz.underlying27 rfl),tv⟩<|Qaj ?_
    refine wmr (mto (n:=68) (l':=[(1,(Qia p1)),(2,.ref 0 1 0 0),(5,.ref 1 1 0 0),(8,(.own 2 1 (0) ((p1.length:Int).toNat))),(9,I p0),(28,(Qia p1)),(29,(I ((p1.length:Int)))),(30,I 0)]) (own':=[(.own 1 [[I p0]]),(.own 1 [[I y3]]),(.own 1 (((List.replicate (p1.length:Int).toNat 0):List Int).map Qak))]) [(1,(Qia p1)),(2,.ref 0 1 0 0),(5,.ref 1 1 0 0),(8,(.own 2 1 (0) ((p1.length:Int).toNat))),(9,I p0),(28,(Qia p1)),(29,(I ((p1.length:Int)))),(30,I 0)] [0,1,2] [(.own 1 [[I p0]]),(.own 1 [[I y3]]),(Zk7 p1)] hφ0 (pc (rnd Qaf) (prr (prr (pc (.rn (Qa5 rfl)) (pw (pc (rnd Qaf) (pw (pw pn)))))))) (qb (lc rwl ln) (qb (lc rwl ln) (qc (spr Qaf) qn)))) ?_
    refine Qcb (τ:=Int×Int×(List Int)) (fun n t=>Qdr N p0 p1 y3 k8 n t.1 t.2.1 t.2.2=some r) (fun ⟨y31,y32,y33⟩=>⟨mk 68 [(1,(Qia p1)),(2,.ref 0 1 0 0),(5,.ref 1 1 0 0),(8,(.own 2 1 (0) ((p1.length:Int).toNat))),(9,I y31),(28,(Qia p1)),(29,(I ((p1.length:Int)))),(30,I y32)],[(.own 1 [[I p0]]),(.own 1 [[I y3]]),(Q1m y33)]⟩) (fun t h=>by rw [Qdr] at h; cases h) (fun n37 ih t h=>?_) N (p0,0,List.replicate (p1.length:Int).toNat 0) h
    obtain ⟨y31,y32,y33⟩:=t
    rw [Qdr] at h
    skip
    refine wxz<|wsq ?_
    refine bfe h (fun hc38 h=>?_) fun hc38 h=>?_
    ·refine wft hc38<|Qan<|thn<|wsq<|Qaj ?_
     obtain ⟨x39,hg40,h⟩:=bno h
     obtain ⟨hi41,hj42⟩:=gsm hg40
     refine wx tbk [(1,rp [(.tmp 28,(Qia p1)),(.tmp 30,I y32)] (.dptr (Qak (x39)) 0))] ⟨aid rfl Tryz.underlying27 ti3 rfl rfl hi41 (mgt Qak hj42) rfl,tv⟩ ?_
     obtain ⟨hz43,h⟩:=cko h
     obtain ⟨hi44,h⟩:=cko h
     obtain ⟨hi44a,hi44b⟩:=Qei hi44
     obtain ⟨x45,hg46,h⟩:=bno h
     refine wx tbk [(6,rp [(.tmp 39,(I (w64 (p0 * x39)))),(.tmp 40,I y3)] (I (w64 ((w64 (p0 * x39)).tdiv y3)))),(7,rb [(.tmp 35,(.own 2 1 (0) ((p1.length:Int).toNat))),(.tmp 36,I y32)] [(2,(Q1m y33))] (.ref 2 1 (y32.toNat) 0)),(8,⟨[(.tmp 42,(.ref 2 1 (y32.toNat) 0)),(.tmp 41,(I (w64 ((w64 (p0 * x39)).tdiv y3))))],[(2,(Q1m y33))],.any,[(2,(Q1l y33 y32 p0 x39 y3))],false⟩)] ⟨Qon rfl (Qpm hz43),aio rfl Tryz.underlying27 ti3 (odt hi44a) (odt hi44b) (Nat.zero_add _),ast rfl ti3 (by rfl) (mgt Qak hg46) (nle rfl) (Qgr Qak rfl),tv⟩ ?_
     obtain ⟨hi47,h⟩:=cko h
     obtain ⟨hi47a,hi47b⟩:=Qei hi47
     obtain ⟨x48,hg49,h⟩:=bno h
     refine wx1 tbk [(3,rb [(.tmp 44,(.own 2 1 (0) ((p1.length:Int).toNat))),(.tmp 45,I y32)] [(2,(Q1l y33 y32 p0 x39 y3))] (.ref 2 1 (y32.toNat) 0)),(4,rb [(.tmp 46,(.ref 2 1 (y32.toNat) 0))] [(2,(Q1l y33 y32 p0 x39 y3))] (I x48))] ⟨aio rfl Tryz.underlying27 ti3 (odt hi47a) (odt hi47b) (Nat.zero_add _),ald rfl ti3 (by decide) (mgt Qak hg49) (nle rfl) rfl,tv⟩<|bln<|thn<|wxz1<|thn ?_
     exact arm (mto (n:=68) [(1,(Qia p1)),(2,.ref 0 1 0 0),(5,.ref 1 1 0 0),(8,(.own 2 1 (0) ((p1.length:Int).toNat))),(9,(I (w64 (y31 - x48)))),(28,(Qia p1)),(29,(I ((p1.length:Int)))),(30,(I (w64 (y32+1))))] [0,1,2] [(.own 1 [[I p0]]),(.own 1 [[I y3]]),(Q1l y33 y32 p0 x39 y3)] hφ0 (pc (rnd Qaf) (prr (prr (pc (.rn (Qa5 rfl)) (pw (pc (rnd Qaf) (pw (pw pn)))))))) (qb (lc rwl ln) (qb (lc rwl ln) (qc (spr Qaf) qn)))) (ih (w64 (y31 - x48),w64 (y32+1),y33.set y32.toNat (w64 ((w64 (p0 * x39)).tdiv y3))) h)
    ·exact wfn hc38<|Qbi<|Qax<|Qax<|Qbh rfl<|thn<|⟨(y31,y33),h,(mto (n:=68) [(1,(Qia p1)),(2,.ref 0 1 0 0),(5,.ref 1 1 0 0),(8,(.own 2 1 (0) ((p1.length:Int).toNat))),(9,I y31)] [0,1,2] [(.own 1 [[I p0]]),(.own 1 [[I y3]]),(Q1m y33)] hφ0 (pc (rnd Qaf) (prr (prr (pc (.rn (Qa5 rfl)) (pw pn))))) (qb (lc rwl ln) (qb (lc rwl ln) (qc (spr Qaf) qn))))⟩
  ·skip
   refine wx tbk [(1,rp [(.tmp 14,(Qia p1))] (I ((p1.length:Int))))] ⟨alm (c:=Qak) (l:=p1) (aln rfl Tryz.underlying27 rfl),tv⟩<|Qaj ?_
   refine wmr (mto (n:=68) (l':=[(1,(Qia p1)),(2,.ref 0 1 0 0),(5,.ref 1 1 0 0),(14,(Qia p1)),(15,(I ((p1.length:Int)))),(16,I 0)]) (own':=[(.own 1 [[I p0]]),(.own 1 [[I 0]])]) [(1,(Qia p1)),(2,.ref 0 1 0 0),(5,.ref 1 1 0 0),(14,(Qia p1)),(15,(I ((p1.length:Int)))),(16,I 0)] [0,1] [(.own 1 [[I p0]]),(.own 1 [[I 0]])] hφ0 (pc (rnd Qaf) (prr (prr (pc (rnd Qaf) (pw (pw pn)))))) (qb (lc rwl ln) (qb (lc rwl ln) qn))) ?_
   refine Qcb (τ:=Int×Int) (fun n t=>Qdq N p1 k4 n t.1 t.2=some r) (fun ⟨y50,y51⟩=>⟨mk 68 [(1,(Qia p1)),(2,.ref 0 1 0 0),(5,.ref 1 1 0 0),(14,(Qia p1)),(15,(I ((p1.length:Int)))),(16,I y50)],[(.own 1 [[I p0]]),(.own 1 [[I y51]])]⟩) (fun t h=>by rw [Qdq] at h; cases h) (fun n54 ih t h=>?_) N (0,0) h
   obtain ⟨y50,y51⟩:=t
   rw [Qdq] at h
   skip
   refine wxz<|wsq ?_
   refine bfe h (fun hc55 h=>?_) fun hc55 h=>?_
   ·refine wft hc55<|Qan<|thn<|wsq<|Qaj ?_
    obtain ⟨x56,hg57,h⟩:=bno h
    obtain ⟨hi58,hj59⟩:=gsm hg57
    exact wx tbk [(0,rp [(.tmp 14,(Qia p1)),(.tmp 16,I y50)] (.dptr (Qak (x56)) 0))] ⟨aid rfl Tryz.underlying27 ti3 rfl rfl hi58 (mgt Qak hj59) rfl,tv⟩<|wxz1<|bln<|thn<|wxz1<|thn<|arm (mto (n:=68) [(1,(Qia p1)),(2,.ref 0 1 0 0),(5,.ref 1 1 0 0),(14,(Qia p1)),(15,(I ((p1.length:Int)))),(16,(I (w64 (y50+1))))] [0,1] [(.own 1 [[I p0]]),(.own 1 [[(I (w64 (y51+x56)))]])] hφ0 (pc (rnd Qaf) (prr (prr (pc (rnd Qaf) (pw (pw pn)))))) (qb (lc rwl ln) (qb (lc rwl ln) qn))) (ih (w64 (y50+1),w64 (y51+x56)) h)
   ·exact wfn hc55<|Qbi<|Qax<|Qax<|Qbh rfl<|thn<|⟨(y51),h,(mto (n:=68) [(1,(Qia p1)),(2,.ref 0 1 0 0),(5,.ref 1 1 0 0)] [0,1] [(.own 1 [[I p0]]),(.own 1 [[I y51]])] hφ0 (pc (rnd Qaf) (prr (prr pn))) (qb (lc rwl ln) (qb (lc rwl ln) qn)))⟩
def Qex (_N:Nat) (p0:Int) (p1:Int) (p2:Int) (_p3:Int) (_p4:Int) (_p5:Int):Option Int:=
  chk ((if p2>1 then p2 else 1) != 0)<|
  (some (w64 ((w64 (p0 * p1)).tdiv (if p2>1 then p2 else 1)))).bind fun x2=>
  some x2
theorem Qhb (N:Nat) (p0:Int) (p1:Int) (p2:Int) (p3:Int) (p4:Int) (p5:Int) (r:Int) (h:Qex N p0 p1 p2 p3 p4 p5=some r):Spec Tryz.prog 154 [(I (p0)),(.dptr [(I (p1))] 0),(.dptr [(I (p2)),(I (p3)),(I (p4)),(I (p5))] 0)] [] (I (r)) []:=by
  refine Qah Tryz.func154 rfl 0 (nle rfl) (fun X φ0 w0 hφ0 hd0=>?_)
  unfold Qex at h
  refine wxz ?_
  obtain ⟨hz1,h⟩:=cko h
  obtain ⟨x2,hl3,h⟩:=bno h
  refine wx tbk [(5,rp [ci 1,(.tmp 9,I p2)] (I ((if p2>1 then p2 else 1)))),(6,rp [(.tmp 7,(I (w64 (p0 * p1)))),(.tmp 10,(I ((if p2>1 then p2 else 1))))] (I (w64 ((w64 (p0 * p1)).tdiv (if p2>1 then p2 else 1))))),(7,rp [(.tmp 11,(I (w64 ((w64 (p0 * p1)).tdiv (if p2>1 then p2 else 1)))))] (I x2))] ⟨Qoo rfl,Qon rfl (Qpm hz1),Qjd hl3 (aas rfl),tv⟩<|Qae ?_
  obtain rfl:=osi h
  exact fend ⟨[I x2],⟨rot,tv⟩,rfl⟩ nll
def Qcl (_N:Nat) (_p0:Int) (_p1:Int) (_p2:Int) (_p3:Int):Option Unit:=
  some ()
def Qwa (p0:Int) (p1:Int) (p2:Int) (p3:Int):Slot:=.own 4 [[(I (p0)),(I (p1)),(I (p2)),(I (p3))]]
def Zg0:AV:=.agg [(.ref 0 4 (0) 0),(.ref 0 4 (0) 1),(.ref 0 4 (0) 2),(.ref 0 4 (0) 3)]
def Zgz:Slot:=.own 4 [[(.ref 0 4 (0) 0),(.ref 0 4 (0) 1),(.ref 0 4 (0) 2),(.ref 0 4 (0) 3)]]
theorem Qdc (N:Nat) (p0:Int) (p1:Int) (p2:Int) (p3:Int) (r:Unit) (h:Qcl N p0 p1 p2 p3=some r):Spec Tryz.prog 161 [(.ref 0 4 (0) 0)] [(Qwa p0 p1 p2 p3)] Zg0 [(Qwa p0 p1 p2 p3),Zgz]:=by
  refine Qah Tryz.func161 rfl 2 (nle rfl) (fun X φ0 w0 hφ0 hd0=>?_)
  unfold Qcl at h
  refine Qbx<|wxz ?_
  refine wxd tbk [(1,rb [(.tmp 3,.ref 0 4 0 0)] [(0,(Qwa p0 p1 p2 p3))] (.ref 0 4 0 0)),(4,rb [(.tmp 6,.ref 0 4 0 0)] [(0,(Qwa p0 p1 p2 p3))] (.ref 0 4 0 0)),(7,rb [(.tmp 9,.ref 0 4 0 0)] [(0,(Qwa p0 p1 p2 p3))] (.ref 0 4 0 0)),(10,rb [(.tmp 12,.ref 0 4 0 0)] [(0,(Qwa p0 p1 p2 p3))] (.ref 0 4 0 0)),(12,rp [(.tmp 5,.ref 0 4 0 0),(.tmp 8,.ref 0 4 0 1),(.tmp 11,.ref 0 4 0 2),(.tmp 14,.ref 0 4 0 3)] Zg0)] ⟨Qbb rfl,Qbb rfl,Qbb rfl,Qbb rfl,Qp1 (vs:=[.ref 0 4 0 0,.ref 0 4 0 1,.ref 0 4 0 2,.ref 0 4 0 3]) rfl Tryz.underlying235 Qsw Zln rfl (by rfl) rfl,tv⟩ ?_
  refine wmr (mto (n:=16) (l':=[(2,.ref 1 4 0 0)]) (own':=[(Qwa p0 p1 p2 p3),Zgz]) [(2,.ref 1 4 0 0)] [0,1] [(Qwa p0 p1 p2 p3),Zgz] hφ0 (prr pn) (qb (lcc (lcc ln)) (qb (lc (.rn (rqr rfl)) (lc (.rn (rqr rfl)) (lc (.rn (rqr rfl)) (lc (.rn (rqr rfl)) ln)))) qn)))<|Qae ?_
  obtain rfl:=osi h
  exact ⟨_,Mor.rfl,Qc8 (vs:=[Zg0]) ⟨Qcc (n:=1) (m:=4) (j:=0) (i:=0) (xs:=[[.ref 0 4 0 0,.ref 0 4 0 1,.ref 0 4 0 2,.ref 0 4 0 3]]) (by kernel_rfl) (by kernel_rfl) Zlt (by decide) rfl (nle rfl) rfl,tv⟩ rfl (NLt.agg _ (nlc (NLt.ref _ _ _ _ (by decide)) (nlc (NLt.ref _ _ _ _ (by decide)) (nlc (NLt.ref _ _ _ _ (by decide)) (nlc (NLt.ref _ _ _ _ (by decide)) nl0))))) (by kernel_rfl) (Qao (Qbc (nlc (NLt.of0 nll) (nlc (NLt.of0 nll) (nlc (NLt.of0 nll) (nlc (NLt.of0 nll) nl0))))) (Qao (Qbc (nlc (NLt.ref _ _ _ _ (by decide)) (nlc (NLt.ref _ _ _ _ (by decide)) (nlc (NLt.ref _ _ _ _ (by decide)) (nlc (NLt.ref _ _ _ _ (by decide)) nl0))))) Qbs))⟩
def Qid (N:Nat) (p0:GStream) (p1:Int) (p2:Int) (p3:Int) (p4:Int):Option Unit:=
  (Qcl N p0.Mass p0.Heat p0.Silica p0.Gas).bind fun _=>
  (Qcl N p1 p2 p3 p4).bind fun _=>
  (Qcl N (w64 (p1+p0.Mass)) p2 p3 p4).bind fun _=>
  (Qcl N (w64 (p1+p0.Mass)) (w64 (p2+p0.Heat)) p3 p4).bind fun _=>
  (Qcl N (w64 (p1+p0.Mass)) (w64 (p2+p0.Heat)) (w64 (p3+p0.Silica)) p4).bind fun _=>
  some ()
def Qyx (p1:Int) (p2:Int) (p3:Int) (p4:Int):Slot:=.own 4 [[(I (p1)),(I (p2)),(I (p3)),(I (p4))]]
def Q64 (p1:Int) (p0:GStream) (p2:Int) (p3:Int) (p4:Int):Slot:=.own 4 [[(I (w64 (p1+p0.Mass))),(I (w64 (p2+p0.Heat))),(I (w64 (p3+p0.Silica))),(I (w64 (p4+p0.Gas)))]]
def Qwc (p0:GStream):Slot:=.own 4 [[(I (p0.Mass)),(I (p0.Heat)),(I (p0.Silica)),(I (p0.Gas))]]
def Q3r:AV:=.agg [(.ref 1 4 (0) 0),(.ref 1 4 (0) 1),(.ref 1 4 (0) 2),(.ref 1 4 (0) 3)]
def Zk4:Slot:=.own 4 [[(.ref 1 4 (0) 0),(.ref 1 4 (0) 1),(.ref 1 4 (0) 2),(.ref 1 4 (0) 3)]]
def Qp4:AV:=.agg [(.ref 0 4 (0) 0),(.ref 0 4 (0) 1),(.ref 0 4 (0) 2),(.ref 0 4 (0) 3)]
def Qwb:Slot:=.own 4 [[(.ref 0 4 (0) 0),(.ref 0 4 (0) 1),(.ref 0 4 (0) 2),(.ref 0 4 (0) 3)]]
def Q3q (p1:Int) (p0:GStream) (p2:Int) (p3:Int) (p4:Int):Slot:=.own 4 [[(I (w64 (p1+p0.Mass))),(I (p2)),(I (p3)),(I (p4))]]
def Q3p (p1:Int) (p0:GStream) (p2:Int) (p3:Int) (p4:Int):Slot:=.own 4 [[(I (w64 (p1+p0.Mass))),(I (w64 (p2+p0.Heat))),(I (p3)),(I (p4))]]
def Q3o (p1:Int) (p0:GStream) (p2:Int) (p3:Int) (p4:Int):Slot:=.own 4 [[(I (w64 (p1+p0.Mass))),(I (w64 (p2+p0.Heat))),(I (w64 (p3+p0.Silica))),(I (p4))]]
theorem Qo2 (N:Nat) (p0:GStream) (p1:Int) (p2:Int) (p3:Int) (p4:Int) (r:Unit) (h:Qid N p0 p1 p2 p3 p4=some r):Spec Tryz.prog 160 [(.agg [(I (p0.Mass)),(I (p0.Heat)),(I (p0.Silica)),(I (p0.Gas))]),(.ref 0 4 (0) 0)] [(Qyx p1 p2 p3 p4)] (.tup []) [(Q64 p1 p0 p2 p3 p4)]:=by
  refine Qah Tryz.func160 rfl 1 (nle rfl) (fun X φ0 w0 hφ0 hd0=>?_)
  unfold Qid at h
  refine Qbx<|wxz ?_
  obtain ⟨x2,hf1,h⟩:=bno h
  refine wx tbk [(0,⟨[fu 161,(.tmp 2,.ref 1 4 0 0)],[(1,(Qwc p0)),(2,.unused)],Q3r,[(1,(Qwc p0)),(2,Zk4)],false⟩)] ⟨Qat (first:=[]) (cap:=[]) (vs:=[.ref 1 4 0 0]) (σr:=[(Qwc p0)]) (σr':=[(Qwc p0),Zk4]) (res':=Q3r) [1,2] rfl Qoe (Qdc N p0.Mass p0.Heat p0.Silica p0.Gas _ hf1) rfl (Qbt (rnc (Qbj rfl) rn0)) (slc (Qaq (rncc (rncc rn0))) Qas) (slc (Qaq (rncc (rncc rn0))) (slc (Qaq (rnc (Qbr rfl) (rnc (Qbr rfl) (rnc (Qbr rfl) (rnc (Qbr rfl) rn0))))) Qas)) (Qbt (rnc (Qbr rfl) (rnc (Qbr rfl) (rnc (Qbr rfl) (rnc (Qbr rfl) rn0))))) rfl rfl rfl,tv⟩<|Qaj<|Qv0 17<|Qso<|wxz<|wsq<|wtr<|Qan<|thn<|wsq ?_
  refine Qaj<|wx tbk [(1,rp [(.tmp 5,Q3r),(.tmp 6,I 0)] (.ref 1 4 0 0))] ⟨Qgx rfl Tryz.underlying235 Qsw (by decide) (by decide) (nle rfl) (by decide) rfl,tv⟩ ?_
  obtain ⟨x4,hf3,h⟩:=bno h
  refine wy1 tbk [(0,⟨[fu 161,(.tmp 1,.ref 0 4 0 0)],[(0,(Qyx p1 p2 p3 p4)),(3,.unused)],Qp4,[(0,(Qyx p1 p2 p3 p4)),(3,Qwb)],false⟩),(2,rp [(.tmp 10,Qp4),(.tmp 11,I 0)] (.ref 0 4 0 0)),(3,rb [(.tmp 12,.ref 0 4 0 0)] [(0,(Qyx p1 p2 p3 p4))] (.ref 0 4 0 0)),(6,rb [(.tmp 15,.ref 1 4 0 0)] [(1,(Qwc p0))] (.ref 1 4 0 0)),(9,rb [(.tmp 12,.ref 0 4 0 0)] [(0,(Qyx p1 p2 p3 p4))] (.ref 0 4 0 0))] ⟨Qat (first:=[]) (cap:=[]) (vs:=[.ref 0 4 0 0]) (σr:=[(Qyx p1 p2 p3 p4)]) (σr':=[(Qyx p1 p2 p3 p4),Qwb]) (res':=Qp4) [0,3] rfl Qoe (Qdc N p1 p2 p3 p4 _ hf3) rfl (Qbt (rnc (Qbj rfl) rn0)) (slc (Qaq (rncc (rncc rn0))) Qas) (slc (Qaq (rncc (rncc rn0))) (slc (Qaq (rnc (Qbr rfl) (rnc (Qbr rfl) (rnc (Qbr rfl) (rnc (Qbr rfl) rn0))))) Qas)) (Qbt (rnc (Qbr rfl) (rnc (Qbr rfl) (rnc (Qbr rfl) (rnc (Qbr rfl) rn0))))) rfl rfl rfl,Qgx rfl Tryz.underlying235 Qsw (by decide) (by decide) (nle rfl) (by decide) rfl,Qbb rfl,Qbb rfl,Qbb rfl,tv⟩<|bln<|thn<|wxz1<|thn<|Qso<|wxz<|wsq<|wtr<|Qan ?_
  refine thn<|wsq<|Qaj ?_
  refine wx tbk [(1,rp [(.tmp 5,Q3r),(.tmp 6,I 1)] (.ref 1 4 0 1))] ⟨Qgx rfl Tryz.underlying235 Qsw (by decide) (by decide) (nle rfl) (by decide) rfl,tv⟩ ?_
  obtain ⟨x6,hf5,h⟩:=bno h
  refine wy1 tbk [(0,⟨[fu 161,(.tmp 1,.ref 0 4 0 0)],[(0,(Q3q p1 p0 p2 p3 p4)),(4,.unused)],Qp4,[(0,(Q3q p1 p0 p2 p3 p4)),(4,Qwb)],false⟩),(2,rp [(.tmp 10,Qp4),(.tmp 11,I 1)] (.ref 0 4 0 1)),(3,rb [(.tmp 12,.ref 0 4 0 1)] [(0,(Q3q p1 p0 p2 p3 p4))] (.ref 0 4 0 1)),(6,rb [(.tmp 15,.ref 1 4 0 1)] [(1,(Qwc p0))] (.ref 1 4 0 1)),(9,rb [(.tmp 12,.ref 0 4 0 1)] [(0,(Q3q p1 p0 p2 p3 p4))] (.ref 0 4 0 1))] ⟨Qat (first:=[]) (cap:=[]) (vs:=[.ref 0 4 0 0]) (σr:=[(Q3q p1 p0 p2 p3 p4)]) (σr':=[(Q3q p1 p0 p2 p3 p4),Qwb]) (res':=Qp4) [0,4] rfl Qoe (Qdc N (w64 (p1+p0.Mass)) p2 p3 p4 _ hf5) rfl (Qbt (rnc (Qbj rfl) rn0)) (slc (Qaq (rncc (rncc rn0))) Qas) (slc (Qaq (rncc (rncc rn0))) (slc (Qaq (rnc (Qbr rfl) (rnc (Qbr rfl) (rnc (Qbr rfl) (rnc (Qbr rfl) rn0))))) Qas)) (Qbt (rnc (Qbr rfl) (rnc (Qbr rfl) (rnc (Qbr rfl) (rnc (Qbr rfl) rn0))))) rfl rfl rfl,Qgx rfl Tryz.underlying235 Qsw (by decide) (by decide) (nle rfl) (by decide) rfl,Qbb rfl,Qbb rfl,Qbb rfl,tv⟩<|bln<|thn<|wxz1<|thn<|Qso<|wxz<|wsq<|wtr<|Qan ?_
  refine thn<|wsq<|Qaj ?_
  refine wx tbk [(1,rp [(.tmp 5,Q3r),(.tmp 6,I 2)] (.ref 1 4 0 2))] ⟨Qgx rfl Tryz.underlying235 Qsw (by decide) (by decide) (nle rfl) (by decide) rfl,tv⟩ ?_
  obtain ⟨x8,hf7,h⟩:=bno h
  refine wy1 tbk [(0,⟨[fu 161,(.tmp 1,.ref 0 4 0 0)],[(0,(Q3p p1 p0 p2 p3 p4)),(5,.unused)],Qp4,[(0,(Q3p p1 p0 p2 p3 p4)),(5,Qwb)],false⟩),(2,rp [(.tmp 10,Qp4),(.tmp 11,I 2)] (.ref 0 4 0 2)),(3,rb [(.tmp 12,.ref 0 4 0 2)] [(0,(Q3p p1 p0 p2 p3 p4))] (.ref 0 4 0 2)),(6,rb [(.tmp 15,.ref 1 4 0 2)] [(1,(Qwc p0))] (.ref 1 4 0 2)),(9,rb [(.tmp 12,.ref 0 4 0 2)] [(0,(Q3p p1 p0 p2 p3 p4))] (.ref 0 4 0 2))] ⟨Qat (first:=[]) (cap:=[]) (vs:=[.ref 0 4 0 0]) (σr:=[(Q3p p1 p0 p2 p3 p4)]) (σr':=[(Q3p p1 p0 p2 p3 p4),Qwb]) (res':=Qp4) [0,5] rfl Qoe (Qdc N (w64 (p1+p0.Mass)) (w64 (p2+p0.Heat)) p3 p4 _ hf7) rfl (Qbt (rnc (Qbj rfl) rn0)) (slc (Qaq (rncc (rncc rn0))) Qas) (slc (Qaq (rncc (rncc rn0))) (slc (Qaq (rnc (Qbr rfl) (rnc (Qbr rfl) (rnc (Qbr rfl) (rnc (Qbr rfl) rn0))))) Qas)) (Qbt (rnc (Qbr rfl) (rnc (Qbr rfl) (rnc (Qbr rfl) (rnc (Qbr rfl) rn0))))) rfl rfl rfl,Qgx rfl Tryz.underlying235 Qsw (by decide) (by decide) (nle rfl) (by decide) rfl,Qbb rfl,Qbb rfl,Qbb rfl,tv⟩<|bln<|thn<|wxz1<|thn<|Qso<|wxz<|wsq<|wtr<|Qan ?_
  refine thn<|wsq<|Qaj ?_
  refine wx tbk [(1,rp [(.tmp 5,Q3r),(.tmp 6,I 3)] (.ref 1 4 0 3))] ⟨Qgx rfl Tryz.underlying235 Qsw (by decide) (by decide) (nle rfl) (by decide) rfl,tv⟩ ?_
  obtain ⟨x10,hf9,h⟩:=bno h
  refine wy1 tbk [(0,⟨[fu 161,(.tmp 1,.ref 0 4 0 0)],[(0,(Q3o p1 p0 p2 p3 p4)),(6,.unused)],Qp4,[(0,(Q3o p1 p0 p2 p3 p4)),(6,Qwb)],false⟩),(2,rp [(.tmp 10,Qp4),(.tmp 11,I 3)] (.ref 0 4 0 3)),(3,rb [(.tmp 12,.ref 0 4 0 3)] [(0,(Q3o p1 p0 p2 p3 p4))] (.ref 0 4 0 3)),(6,rb [(.tmp 15,.ref 1 4 0 3)] [(1,(Qwc p0))] (.ref 1 4 0 3)),(9,rb [(.tmp 12,.ref 0 4 0 3)] [(0,(Q3o p1 p0 p2 p3 p4))] (.ref 0 4 0 3))] ⟨Qat (first:=[]) (cap:=[]) (vs:=[.ref 0 4 0 0]) (σr:=[(Q3o p1 p0 p2 p3 p4)]) (σr':=[(Q3o p1 p0 p2 p3 p4),Qwb]) (res':=Qp4) [0,6] rfl Qoe (Qdc N (w64 (p1+p0.Mass)) (w64 (p2+p0.Heat)) (w64 (p3+p0.Silica)) p4 _ hf9) rfl (Qbt (rnc (Qbj rfl) rn0)) (slc (Qaq (rncc (rncc rn0))) Qas) (slc (Qaq (rncc (rncc rn0))) (slc (Qaq (rnc (Qbr rfl) (rnc (Qbr rfl) (rnc (Qbr rfl) (rnc (Qbr rfl) rn0))))) Qas)) (Qbt (rnc (Qbr rfl) (rnc (Qbr rfl) (rnc (Qbr rfl) (rnc (Qbr rfl) rn0))))) rfl rfl rfl,Qgx rfl Tryz.underlying235 Qsw (by decide) (by decide) (nle rfl) (by decide) rfl,Qbb rfl,Qbb rfl,Qbb rfl,tv⟩<|bln<|thn<|wxz1<|thn<|Qso<|wxz<|wsq<|wfa<|Qbi ?_
  refine Qax<|Qax<|Qbh rfl ?_
  obtain rfl:=osi h
  exact ⟨_,(mto (n:=21) (l':=[]) (own':=[(Q64 p1 p0 p2 p3 p4)]) [] [0] [(Q64 p1 p0 p2 p3 p4)] hφ0 pn (qb (lcc (lcc ln)) qn)),Qc8 (vs:=[]) tv rfl (NLt.tup _ nl0) (by kernel_rfl) (Qao (Qbc (nlc (NLt.of0 nll) (nlc (NLt.of0 nll) (nlc (NLt.of0 nll) (nlc (NLt.of0 nll) nl0))))) Qbs)⟩
def Qew (N:Nat) (p0:(List GStream)) (k5:Int×Int×Int×Int→Option GStream):Nat→Int→Int→Int→Int→Int→Option GStream
  | 0,_,_,_,_,_=>none
  | n16+1,y6,y7,y8,y9,y10=>
    bif (decide (y6<(p0.length:Int))) then
     (getI p0 y6).bind fun x18=>
     (Qid N x18 y7 y8 y9 y10).bind fun _=>
     Qew N p0 k5 n16 (w64 (y6+1)) (w64 (y7+x18.Mass)) (w64 (y8+x18.Heat)) (w64 (y9+x18.Silica)) (w64 (y10+x18.Gas))
    else
     k5 (y7,y8,y9,y10)
def Qjm (N:Nat) (p0:(List GStream)):Option GStream:=
  Qbp (fun ⟨y1,y2,y3,y4⟩=>
    some (⟨y1,y2,y3,y4⟩:GStream)) fun k5:Int×Int×Int×Int→Option GStream=>
  Qew N p0 k5 N 0 0 0 0 0
def Q3t:AV:=.fn (.func 160) [] [(.ref 0 4 (0) 0)]
def Q3s (p0:(List GStream)):AV:=.dat 4 ((p0:List GStream).map Qac)
def Zk5:Slot:=.own 4 [[(I (0)),(I (0)),(I (0)),(I (0))]]
def Q1h (y7:Int) (y8:Int) (y9:Int) (y10:Int):Slot:=.own 4 [[(I (y7)),(I (y8)),(I (y9)),(I (y10))]]
def Zfc (x18:GStream):AV:=.agg [(I (x18.Mass)),(I (x18.Heat)),(I (x18.Silica)),(I (x18.Gas))]
def Q65 (y7:Int) (x18:GStream) (y8:Int) (y9:Int) (y10:Int):Slot:=.own 4 [[(I (w64 (y7+x18.Mass))),(I (w64 (y8+x18.Heat))),(I (w64 (y9+x18.Silica))),(I (w64 (y10+x18.Gas)))]]
theorem Qu3 (N:Nat) (p0:(List GStream)) (r:GStream) (h:Qjm N p0=some r):Spec Tryz.prog 155 [(.dat 4 (p0.map Qac))] [] (.agg (Qac r)) []:=by
  refine Qah Tryz.func155 rfl 0 (nle rfl) (fun X φ0 w0 hφ0 hd0=>?_)
  unfold Qjm at h
  refine wxz<|wx tbk [(0,rp [(.tmp 2,.ref 0 4 0 0)] Q3t)] ⟨Qfl (fs:=[]) (cs:=[.ref 0 4 0 0]) rfl rfl rfl rfl,tv⟩ ?_
  obtain ⟨k5,hk_k5,h⟩:=jko h
  refine wjn (τ:=Int×Int×Int×Int) (fun t=>k5 t=some r) (fun ⟨y1,y2,y3,y4⟩=>⟨mk 18 [(2,.ref 0 4 0 0)],[(.own 4 [[I y1,I y2,I y3,I y4]])]⟩) (fun t h=>?_) ?_
  ·subst hk_k5
   obtain ⟨y1,y2,y3,y4⟩:=t
   refine wxz<|Qae ?_
   obtain rfl:=osi h
   exact fend ⟨[(.agg [I y1,I y2,I y3,I y4])],⟨Qcc (n:=0) (m:=4) (j:=0) (i:=0) (xs:=[[I y1,I y2,I y3,I y4]]) (by kernel_rfl) (by kernel_rfl) ti63 (by decide) rfl (nle rfl) rfl,tv⟩,rfl⟩ (NLt.agg _ (nlcc (nlcc nl0)))
  ·skip
   refine wx tbk [(1,rp [(.tmp 7,(Q3s p0))] (I ((p0.length:Int))))] ⟨alm (c:=Qac) (l:=p0) (aln rfl Tryz.underlying45 rfl),tv⟩<|Qaj ?_
   refine wmr (mto (n:=18) (l':=[(2,.ref 0 4 0 0),(3,Q3t),(7,(Q3s p0)),(8,(I ((p0.length:Int)))),(9,I 0)]) (own':=[Zk5]) [(2,.ref 0 4 0 0),(3,Q3t),(7,(Q3s p0)),(8,(I ((p0.length:Int)))),(9,I 0)] [0] [Zk5] hφ0 (prr (pc (.rn (Qbn rn0 (rnc (rqr rfl) rn0))) (pc (rnd Qad) (pw (pw pn))))) (qb (lcc (lcc ln)) qn)) ?_
   refine Qcb (τ:=Int×Int×Int×Int×Int) (fun n t=>Qew N p0 k5 n t.1 t.2.1 t.2.2.1 t.2.2.2.1 t.2.2.2.2=some r) (fun ⟨y6,y7,y8,y9,y10⟩=>⟨mk 18 [(2,.ref 0 4 0 0),(3,Q3t),(7,(Q3s p0)),(8,(I ((p0.length:Int)))),(9,I y6)],[(Q1h y7 y8 y9 y10)]⟩) (fun t h=>by rw [Qew] at h; cases h) (fun n16 ih t h=>?_) N (0,0,0,0,0) h
   obtain ⟨y6,y7,y8,y9,y10⟩:=t
   rw [Qew] at h
   skip
   refine wxz<|wsq ?_
   refine bfe h (fun hc17 h=>?_) fun hc17 h=>?_
   ·refine wft hc17<|Qan<|thn<|wsq<|Qaj ?_
    obtain ⟨x18,hg19,h⟩:=bno h
    obtain ⟨hi20,hj21⟩:=gsm hg19
    refine wx tbk [(0,rp [(.tmp 7,(Q3s p0)),(.tmp 9,I y6)] (.dptr (Qac (x18)) 0))] ⟨aid rfl Tryz.underlying45 ti63 rfl rfl hi20 (mgt Qac hj21) rfl,tv⟩ ?_
    obtain ⟨x23,hf22,h⟩:=bno h
    refine wx1 tbk [(2,⟨[(.tmp 13,Q3t),(.tmp 14,(Zfc x18))],[(0,(Q1h y7 y8 y9 y10))],(.tup []),[(0,(Q65 y7 x18 y8 y9 y10))],false⟩)] ⟨Qat (first:=[]) (cap:=[.ref 0 4 0 0]) (vs:=[(Zfc x18)]) (σr:=[(Q1h y7 y8 y9 y10)]) (σr':=[(Q65 y7 x18 y8 y9 y10)]) (res':=(.tup [])) [0] rfl Zc1 (Qo2 N x18 y7 y8 y9 y10 _ hf22) rfl (Qbt (rnc (.plain _ (NLt.agg _ (nlcc (nlcc nl0)))) (rnc (Qbj rfl) rn0))) (slc (Qaq (rncc (rncc rn0))) Qas) (slc (Qaq (rncc (rncc rn0))) Qas) (.plain _ (NLt.tup _ nl0)) rfl rfl rfl,tv⟩<|bln<|thn<|wxz1<|thn ?_
    exact arm (mto (n:=18) [(2,.ref 0 4 0 0),(3,Q3t),(7,(Q3s p0)),(8,(I ((p0.length:Int)))),(9,(I (w64 (y6+1))))] [0] [(Q65 y7 x18 y8 y9 y10)] hφ0 (prr (pc (.rn (Qbn rn0 (rnc (rqr rfl) rn0))) (pc (rnd Qad) (pw (pw pn))))) (qb (lcc (lcc ln)) qn)) (ih (w64 (y6+1),w64 (y7+x18.Mass),w64 (y8+x18.Heat),w64 (y9+x18.Silica),w64 (y10+x18.Gas)) h)
   ·exact wfn hc17<|Qbi<|Qax<|Qax<|Qbh rfl<|thn<|⟨(y7,y8,y9,y10),h,(mto (n:=18) [(2,.ref 0 4 0 0)] [0] [(Q1h y7 y8 y9 y10)] hφ0 (prr pn) (qb (lcc (lcc ln)) qn))⟩
def Qdx (N:Nat) (p0:GStream) (k3:(List GStream)→Option ((List GStream)×GLoss×Int)) (x7:(List Int)):Nat→(List GStream)→Int→Option ((List GStream)×GLoss×Int)
  | 0,_,_=>none
  | n12+1,y8,y9=>
    bif (decide (y9<(x7.length:Int))) then
     (getI x7 y9).bind fun x14=>
     (Qex N p0.Heat x14 p0.Mass p0.Heat p0.Silica p0.Gas).bind fun x19=>
     (Qex N p0.Silica x14 p0.Mass p0.Heat p0.Silica p0.Gas).bind fun x21=>
     (Qex N p0.Gas x14 p0.Mass p0.Heat p0.Silica p0.Gas).bind fun x23=>
     chk (decide ((y8.length+([(⟨x14,x19,x21,x23⟩:GStream)]).length) * 32≤140737488355328))<|
     Qdx N p0 k3 x7 n12 (y8++([(⟨x14,x19,x21,x23⟩:GStream)])) (w64 (y9+1))
    else
     k3 (y8)
def Qil (N:Nat) (p0:GStream) (p1:(List Int)):Option ((List GStream)×GLoss×Int):=
  Qbp (fun _=>
    Qbp (fun y2=>
      (Qjm N y2).bind fun x5=>
      some (y2,(⟨w64 (p0.Heat - x5.Heat),w64 (p0.Silica - x5.Silica),w64 (p0.Gas - x5.Gas)⟩:GLoss),0)) fun k3:(List GStream)→Option ((List GStream)×GLoss×Int)=>
    (Qho N p0.Mass p1).bind fun x7=>
    Qdx N p0 k3 x7 N ([]) 0) fun k1:Unit→Option ((List GStream)×GLoss×Int)=>
  (Qdt N p0).bind fun x26=>
  bif (!x26) then
   some ([],(⟨0,0,0⟩:GLoss),1)
  else
   bif (decide ((p1.length:Int)>20)) then
    some ([],(⟨0,0,0⟩:GLoss),1)
   else
    (Qgh N p1).bind fun x30=>
    bif (!x30) then
     some ([],(⟨0,0,0⟩:GLoss),1)
    else
     (Qch N p1).bind fun x33=>
     bif (!x33) then
      some ([],(⟨0,0,0⟩:GLoss),1)
     else
      k1 ()
def Qwg (p1:(List Int)):AV:=.dat 1 ((p1:List Int).map Qak)
def Qqz (p0:GStream):Slot:=.own 4 [[(I (p0.Mass)),(I (p0.Heat)),(I (p0.Silica)),(I (p0.Gas))]]
def Qwi:Slot:=.own 3 [[(I (0)),(I (0)),(I (0))]]
def Q7f (y2:(List GStream)):AV:=.acc 1 63 4 ((y2:List GStream).map Qac)
def Zfe (y2:(List GStream)):AV:=.dat 4 ((y2:List GStream).map Qac)
def Zfd (p0:GStream) (x5:GStream):AV:=.agg [(I (w64 (p0.Heat - x5.Heat))),(I (w64 (p0.Silica - x5.Silica))),(I (w64 (p0.Gas - x5.Gas)))]
def Qqy (x7:(List Int)):AV:=.dat 1 ((x7:List Int).map Qak)
def Q7e (y8:(List GStream)):AV:=.acc 1 63 4 ((y8:List GStream).map Qac)
def Q1p:AV:=.fn (.func 154) [] [(.ref 3 1 (0) 0),(.ref 0 4 (0) 0)]
def Q7d (x14:Int) (p0:GStream):AV:=.fn (.func 154) [] [(.dptr [(I (x14))] 0),(.dptr [(I (p0.Mass)),(I (p0.Heat)),(I (p0.Silica)),(I (p0.Gas))] 0)]
def Zmp (p0:GStream):AV:=.agg [(I (p0.Mass)),(I (p0.Heat)),(I (p0.Silica)),(I (p0.Gas))]
def Q7c (p0:GStream) (x26:Bool):List (Nat×Rec):=[(1,rp [fu 131,((.tmp 12),(Zmp p0))] (B (x26)))]
def Qwh:AV:=.agg [(I (0)),(I (0)),(I (0))]
def Q1o:AV:=.dat 4 (([]:List GStream).map Qac)
def Q7b (p0) (x26) (p1:(List Int)):=hcat (Q7c p0 x26) [(3,rp [((.tmp 14),(B ((!x26))))] (B (false))),(5,rp [((.tmp 15),(B (false))),((.tmp 16),(Qwg p1))] (I ((p1.length:Int))))]
def Q7a (p0) (x26) (p1) (x30:Bool):=hcat (Q7b p0 x26 p1) [(8,rp [((.tmp 19),(B ((decide ((p1.length:Int)>20)))))] (B (false))),(11,rp [((.tmp 20),(B (false))),fu 151,((.tmp 21),(Qwg p1)),((.tmp 22),(.fn (.func 150) [] []))] (B (x30)))]
theorem Qq6 (N:Nat) (p0:GStream) (p1:(List Int)) (r:((List GStream)×GLoss×Int)) (h:Qil N p0 p1=some r):Spec Tryz.prog 146 [(.agg (Qac p0)),(.dat 1 (p1.map Qak))] [] (.tup [(.dat 4 (r.1.map Qac)),(.agg (Zkb r.2.1)),(I r.2.2)]) []:=by
  refine Qah Tryz.func146 rfl 0 (nle rfl) (fun X φ0 w0 hφ0 hd0=>?_)
  unfold Qil at h
  refine wxz<|wxz ?_
  obtain ⟨k1,hk_k1,h⟩:=jko h
  refine wjn (τ:=Unit) (fun t=>k1 t=some r) (fun _=>⟨mk 79 [(1,(Qwg p1)),(2,.ref 0 4 0 0),(4,nilS),(5,.ref 1 3 0 0)],[(Qqz p0),Qwi]⟩) (fun t h=>?_) ?_
  ·subst hk_k1
   obtain ⟨k3,hk_k3,h⟩:=jko h
   refine wjn (τ:=(List GStream)) (fun t=>k3 t=some r) (fun y2=>⟨mk 79 [(2,.ref 0 4 0 0),(4,(Q7f y2)),(5,.ref 2 3 0 0)],[(Qqz p0),.tok,Qwi]⟩) (fun y2 h=>?_) ?_
   ·subst hk_k3
    obtain ⟨x5,hf4,h⟩:=bno h
    refine wx tbk [(1,rp [fu 155,(.tmp 60,(Q7f y2))] (.agg [I x5.Mass,I x5.Heat,I x5.Silica,I x5.Gas]))] ⟨awk (rd':=(.func 155,(.fn (.func 155) [] []))::[(.tmp 60,(Zfe y2))]) ⟨rfl,lrf,rfl,Less.acc,tv⟩ (apv Zc5 (Qu3 N y2 _ hf4) (nlc (nld Qad _) nl0) (NLt.agg _ (nlcc (nlcc nl0)))),tv⟩ ?_
    refine wxd tbk [(16,rp [(.tmp 67,(I (w64 (p0.Heat - x5.Heat)))),(.tmp 72,(I (w64 (p0.Silica - x5.Silica)))),(.tmp 77,(I (w64 (p0.Gas - x5.Gas))))] (Zfd p0 x5))] ⟨Qa2 (vs:=[(I (w64 (p0.Heat - x5.Heat))),(I (w64 (p0.Silica - x5.Silica))),(I (w64 (p0.Gas - x5.Gas)))]) rfl Q71 Q34 rfl (by rfl) rfl,tv⟩<|Qae ?_
    obtain rfl:=osi h
    exact fend ⟨[(Zfe y2),(Zfd p0 x5),I 0],⟨Qgn (v:=(Q7f y2)) (rot) Less.acc,Qcc (n:=2) (m:=3) (j:=0) (i:=0) (xs:=[[(I (w64 (p0.Heat - x5.Heat))),(I (w64 (p0.Silica - x5.Silica))),(I (w64 (p0.Gas - x5.Gas)))]]) (by kernel_rfl) (by kernel_rfl) Q37 (by decide) rfl (nle rfl) rfl,rot,tv⟩,rfl⟩ (NLt.tup _ (nlc (nld Qad _) (nlc (NLt.agg _ (nlcc (nlc nll nl0))) (nlc nll nl0))))
   ·skip
    obtain ⟨x7,hf6,h⟩:=bno h
    refine wx tbk [(3,rp [fu 153,(.tmp 33,I p0.Mass),(.tmp 34,(Qwg p1))] (Qqy x7)),(4,rp [(.tmp 35,(Qqy x7))] (I ((x7.length:Int))))] ⟨apv Zc6 (Qp8 N p0.Mass p1 _ hf6) (nlc nll (nlc (nld Qaf _) nl0)) (nld Qaf _),alm (c:=Qak) (l:=x7) (aln rfl Tryz.underlying27 rfl),tv⟩<|Qaj ?_
    refine wmr (Mor.trans (Qrq 2 63 4 4 (by kernel_rfl) (by kernel_rfl)) (mto (n:=79) (l':=[(2,.ref 0 4 0 0),(4,(.acc 1 63 4 ((([]):List GStream).map Qac))),(5,.ref 2 3 0 0),(35,(Qqy x7)),(36,(I ((x7.length:Int)))),(37,I 0)]) (own':=[(Qqz p0),.tok,Qwi]) [(2,.ref 0 4 0 0),(4,(.acc 2 63 4 (([]:List GStream).map Qac))),(5,.ref 1 3 0 0),(35,(Qqy x7)),(36,(I ((x7.length:Int)))),(37,I 0)] [0,2,1] [(Qqz p0),.tok,Qwi] hφ0 (prr (pc (.rn (Qbw rfl (Qbk Qad _))) (prr (pc (rnd Qaf) (pw (pw pn)))))) (qb (lcc (lcc ln)) (qc .tok (qb (lcc (lc rwl ln)) qn))))) ?_
    refine Qcb (τ:=(List GStream)×Int) (fun n t=>Qdx N p0 k3 x7 n t.1 t.2=some r) (fun ⟨y8,y9⟩=>⟨mk 79 [(2,.ref 0 4 0 0),(4,(Q7e y8)),(5,.ref 2 3 0 0),(35,(Qqy x7)),(36,(I ((x7.length:Int)))),(37,I y9)],[(Qqz p0),.tok,Qwi]⟩) (fun t h=>by rw [Qdx] at h; cases h) (fun n12 ih t h=>?_) N ([],0) h
    obtain ⟨y8,y9⟩:=t
    rw [Qdx] at h
    skip
    refine wxz<|wsq ?_
    refine bfe h (fun hc13 h=>?_) fun hc13 h=>?_
    ·refine wft hc13<|Qan<|thn<|wsq<|Qaj ?_
     obtain ⟨x14,hg15,h⟩:=bno h
     obtain ⟨hi16,hj17⟩:=gsm hg15
     refine wx tbk [(0,rp [(.tmp 35,(Qqy x7)),(.tmp 37,I y9)] (.dptr (Qak (x14)) 0))] ⟨aid rfl Tryz.underlying27 ti3 rfl rfl hi16 (mgt Qak hj17) rfl,tv⟩ ?_
     refine wx tbk [(0,rp [(.tmp 9,.ref 3 1 0 0),(.tmp 2,.ref 0 4 0 0)] Q1p)] ⟨Qfl (fs:=[]) (cs:=[.ref 3 1 0 0,.ref 0 4 0 0]) rfl rfl rfl rfl,tv⟩ ?_
     obtain ⟨x19,hf18,h⟩:=bno h
     obtain ⟨x21,hf20,h⟩:=bno h
     obtain ⟨x23,hf22,h⟩:=bno h
     obtain ⟨ha24,h⟩:=cko h
     refine wy1 tbk [(5,rb [(.tmp 44,Q1p),(.tmp 46,I p0.Heat)] [(3,.own 1 [[I x14]]),(0,(Qqz p0))] (I x19)),(9,rb [(.tmp 48,Q1p),(.tmp 50,I p0.Silica)] [(3,.own 1 [[I x14]]),(0,(Qqz p0))] (I x21)),(13,rb [(.tmp 52,Q1p),(.tmp 54,I p0.Gas)] [(3,.own 1 [[I x14]]),(0,(Qqz p0))] (I x23)),(14,rp [(.tmp 43,I x14),(.tmp 47,I x19),(.tmp 51,I x21),(.tmp 55,I x23)] (.agg [I x14,I x19,I x21,I x23])),(15,rp [(.tmp 56,(.agg [I x14,I x19,I x21,I x23]))] (.dat 4 (([(⟨x14,x19,x21,x23⟩:GStream)]:List GStream).map Qac))),(16,⟨[(.tmp 42,(Q7e y8)),(.tmp 57,(.dat 4 (([(⟨x14,x19,x21,x23⟩:GStream)]:List GStream).map Qac)))],[(1,.tok),(4,.unused)],(.acc 4 63 4 ((y8++([(⟨x14,x19,x21,x23⟩:GStream)]):List GStream).map Qac)),[(1,.dead),(4,.tok)],false⟩)] ⟨Qjk (rd':=[(.tmp 44,(Q7d x14 p0)),(.tmp 46,I p0.Heat)]) [(3,1,[[I x14]]),(0,4,[[I p0.Mass,I p0.Heat,I p0.Silica,I p0.Gas]])] ⟨rfl,(Zeb tv ⟨(Qoi 0 rfl (lc (.same _) ln)),(Qoi 1 rfl (lc (.same _) (lc (.same _) (lc (.same _) (lc (.same _) ln))))),tv⟩),rfl,.same _,tv⟩ (by rfl) (.lit _) Qu6 (Qat (first:=[]) (cap:=[(.dptr [I x14] 0),(.dptr [I p0.Mass,I p0.Heat,I p0.Silica,I p0.Gas] 0)]) (vs:=[I p0.Heat]) (σr:=[]) (σr':=[]) (res':=(I x19)) [] rfl Qvs (Qhb N p0.Heat x14 p0.Mass p0.Heat p0.Silica p0.Gas _ hf18) rfl (Qbt (rnc (.plain _ nll) (rnc (.plain _ (NLt.dptr _ _ (nlc nll nl0))) (rnc (.plain _ (NLt.dptr _ _ (nlcc (nlcc nl0)))) rn0)))) Qas Qas (.plain _ nll) rfl rfl rfl),Qjk (rd':=[(.tmp 48,(Q7d x14 p0)),(.tmp 50,I p0.Silica)]) [(3,1,[[I x14]]),(0,4,[[I p0.Mass,I p0.Heat,I p0.Silica,I p0.Gas]])] ⟨rfl,(Zeb tv ⟨(Qoi 0 rfl (lc (.same _) ln)),(Qoi 1 rfl (lc (.same _) (lc (.same _) (lc (.same _) (lc (.same _) ln))))),tv⟩),rfl,.same _,tv⟩ (by rfl) (.lit _) Qu6 (Qat (first:=[]) (cap:=[(.dptr [I x14] 0),(.dptr [I p0.Mass,I p0.Heat,I p0.Silica,I p0.Gas] 0)]) (vs:=[I p0.Silica]) (σr:=[]) (σr':=[]) (res':=(I x21)) [] rfl Qvs (Qhb N p0.Silica x14 p0.Mass p0.Heat p0.Silica p0.Gas _ hf20) rfl (Qbt (rnc (.plain _ nll) (rnc (.plain _ (NLt.dptr _ _ (nlc nll nl0))) (rnc (.plain _ (NLt.dptr _ _ (nlcc (nlcc nl0)))) rn0)))) Qas Qas (.plain _ nll) rfl rfl rfl),Qjk (rd':=[(.tmp 52,(Q7d x14 p0)),(.tmp 54,I p0.Gas)]) [(3,1,[[I x14]]),(0,4,[[I p0.Mass,I p0.Heat,I p0.Silica,I p0.Gas]])] ⟨rfl,(Zeb tv ⟨(Qoi 0 rfl (lc (.same _) ln)),(Qoi 1 rfl (lc (.same _) (lc (.same _) (lc (.same _) (lc (.same _) ln))))),tv⟩),rfl,.same _,tv⟩ (by rfl) (.lit _) Qu6 (Qat (first:=[]) (cap:=[(.dptr [I x14] 0),(.dptr [I p0.Mass,I p0.Heat,I p0.Silica,I p0.Gas] 0)]) (vs:=[I p0.Gas]) (σr:=[]) (σr':=[]) (res':=(I x23)) [] rfl Qvs (Qhb N p0.Gas x14 p0.Mass p0.Heat p0.Silica p0.Gas _ hf22) rfl (Qbt (rnc (.plain _ nll) (rnc (.plain _ (NLt.dptr _ _ (nlc nll nl0))) (rnc (.plain _ (NLt.dptr _ _ (nlcc (nlcc nl0)))) rn0)))) Qas Qas (.plain _ nll) rfl rfl rfl),Qa2 (vs:=[I x14,I x19,I x21,I x23]) rfl ts63 tz63 rfl (by rfl) rfl,Qbo (vs:=[(.agg [I x14,I x19,I x21,I x23])]) rfl Tryz.underlying45 ti63 tz63 rfl (by decide) rfl (by decide) (by rfl) (by rfl) (by rfl) rfl,Qer rfl Tryz.underlying45 te63 (Base.acc _ _) rfl rfl (by rfl) (Qg0 Qac ha24) (Qgz Qac ha24 (by decide)) (Qgy Qac) rfl rfl,tv⟩<|bln<|thn<|wxz1<|thn ?_
     exact arm (mto (n:=79) [(2,.ref 0 4 0 0),(4,(.acc 4 63 4 ((y8++([(⟨x14,x19,x21,x23⟩:GStream)]):List GStream).map Qac))),(5,.ref 2 3 0 0),(35,(Qqy x7)),(36,(I ((x7.length:Int)))),(37,(I (w64 (y9+1))))] [0,4,2] [(Qqz p0),.tok,Qwi] hφ0 (prr (pc (.rn (Qbw rfl (Qbk Qad _))) (prr (pc (rnd Qaf) (pw (pw pn)))))) (qb (lcc (lcc ln)) (qc .tok (qb (lcc (lc rwl ln)) qn)))) (ih (y8++([(⟨x14,x19,x21,x23⟩:GStream)]),w64 (y9+1)) h)
    ·exact wfn hc13<|Qbi<|Qax<|Qax<|Qbh rfl<|thn<|⟨(y8),h,(mto (n:=79) [(2,.ref 0 4 0 0),(4,(Q7e y8)),(5,.ref 2 3 0 0)] [0,1,2] [(Qqz p0),.tok,Qwi] hφ0 (prr (pc (.rn (Qbw rfl (Qbk Qad _))) (prr pn))) (qb (lcc (lcc ln)) (qc .tok (qb (lcc (lc rwl ln)) qn))))⟩
  ·skip
   obtain ⟨x26,hf25,h⟩:=bno h
   refine hpre (A:=(Q7c p0 x26)) ⟨apv Qvt (Qgq N p0 _ hf25) (nlc (NLt.agg _ (nlcc (nlcc nl0))) nl0) nll,tv⟩ fun q1_=>?_
   refine bfe h (fun hb27 h=>?_) fun hb27 h=>?_
   ·refine wx tbk (hcat (Q7c p0 x26) [(3,rp [(.tmp 14,(B ((!x26))))] (B true))]) (hap q1_ ⟨asb hb27 (amv rfl),tv⟩)<|wtr ?_
    refine wx tbk [(0,rp [] Qwh)] ⟨Qa2 (vs:=[]) rfl Q71 Q34 rfl (by rfl) rfl,tv⟩<|Qae<|Qag ?_
    obtain rfl:=osi h
    exact fend ⟨[Q1o,Qwh,I 1],⟨Qgn (v:=nilS) (rot) Less.nil,Qcc (n:=1) (m:=3) (j:=0) (i:=0) (xs:=[[I 0,I 0,I 0]]) (by kernel_rfl) (by kernel_rfl) Q37 (by decide) rfl (nle rfl) rfl,rot,tv⟩,rfl⟩ (NLt.tup _ (nlc (nld Qad _) (nlc (NLt.agg _ (nlcc (nlc nll nl0))) (nlc nll nl0))))
   ·refine hpre (A:=(Q7b p0 x26 p1)) (hap q1_ ⟨asb hb27 (amv rfl),ag_ (alm (c:=Qak) (l:=p1) (aln rfl Tryz.underlying27 rfl)),tv⟩) fun q2_=>?_
    refine bfe h (fun hb28 h=>?_) fun hb28 h=>?_
    ·refine wx tbk (hcat (Q7b p0 x26 p1) [(8,rp [(.tmp 19,(B ((decide ((p1.length:Int)>20)))))] (B true))]) (hap q2_ ⟨asb hb28 (amv rfl),tv⟩)<|wtr ?_
     refine wx tbk [(0,rp [] Qwh)] ⟨Qa2 (vs:=[]) rfl Q71 Q34 rfl (by rfl) rfl,tv⟩<|Qae<|Qag ?_
     obtain rfl:=osi h
     exact fend ⟨[Q1o,Qwh,I 1],⟨Qgn (v:=nilS) (rot) Less.nil,Qcc (n:=1) (m:=3) (j:=0) (i:=0) (xs:=[[I 0,I 0,I 0]]) (by kernel_rfl) (by kernel_rfl) Q37 (by decide) rfl (nle rfl) rfl,rot,tv⟩,rfl⟩ (NLt.tup _ (nlc (nld Qad _) (nlc (NLt.agg _ (nlcc (nlc nll nl0))) (nlc nll nl0))))
    ·obtain ⟨x30,hf29,h⟩:=bno h
     refine hpre (A:=(Q7a p0 x26 p1 x30)) (hap q2_ ⟨asb hb28 (amv rfl),ag_ (Qat (first:=[]) (cap:=[]) (vs:=[(Qwg p1),(.fn (.func 150) [] [])]) (σr:=[]) (σr':=[]) (res':=(B x30)) [] rfl Zc8 (Qm1 N p1 _ hf29) rfl (Qbt (rnc (pld Qaf) (rnc (.plain _ (NLt.fn _ _ _ nl0 nl0)) rn0))) Qas Qas (.plain _ nll) rfl rfl rfl),tv⟩) fun q3_=>?_
     refine bfe h (fun hb31 h=>?_) fun hb31 h=>?_
     ·refine wx tbk (hcat (Q7a p0 x26 p1 x30) [(14,rp [(.tmp 25,(B ((!x30))))] (B true))]) (hap q3_ ⟨asb hb31 (amv rfl),tv⟩)<|wtr ?_
      refine wx tbk [(0,rp [] Qwh)] ⟨Qa2 (vs:=[]) rfl Q71 Q34 rfl (by rfl) rfl,tv⟩<|Qae<|Qag ?_
      obtain rfl:=osi h
      exact fend ⟨[Q1o,Qwh,I 1],⟨Qgn (v:=nilS) (rot) Less.nil,Qcc (n:=1) (m:=3) (j:=0) (i:=0) (xs:=[[I 0,I 0,I 0]]) (by kernel_rfl) (by kernel_rfl) Q37 (by decide) rfl (nle rfl) rfl,rot,tv⟩,rfl⟩ (NLt.tup _ (nlc (nld Qad _) (nlc (NLt.agg _ (nlcc (nlc nll nl0))) (nlc nll nl0))))
     ·obtain ⟨x33,hf32,h⟩:=bno h
      refine wx tbk (hcat (Q7a p0 x26 p1 x30) [(14,rp [(.tmp 25,(B ((!x30))))] (B false)),(16,rp [(.tmp 26,B false),fu 126,(.tmp 27,(Qwg p1)),fu 152] (B x33))]) (hap q3_ ⟨asb hb31 (amv rfl),ag_ (Qat (first:=[]) (cap:=[]) (vs:=[(Qwg p1),(.fn (.func 152) [] [])]) (σr:=[]) (σr':=[]) (res':=(B x33)) [] rfl Qog (Qhq N p1 _ hf32) rfl (Qbt (rnc (pld Qaf) (rnc (.plain _ (NLt.fn _ _ _ nl0 nl0)) rn0))) Qas Qas (.plain _ nll) rfl rfl rfl),tv⟩) ?_
      refine bfe h (fun hc34 h=>?_) fun hc34 h=>?_
      ·refine wft hc34<|wx tbk [(0,rp [] Qwh)] ⟨Qa2 (vs:=[]) rfl Q71 Q34 rfl (by rfl) rfl,tv⟩<|Qae<|Qag ?_
       obtain rfl:=osi h
       exact fend ⟨[Q1o,Qwh,I 1],⟨Qgn (v:=nilS) (rot) Less.nil,Qcc (n:=1) (m:=3) (j:=0) (i:=0) (xs:=[[I 0,I 0,I 0]]) (by kernel_rfl) (by kernel_rfl) Q37 (by decide) rfl (nle rfl) rfl,rot,tv⟩,rfl⟩ (NLt.tup _ (nlc (nld Qad _) (nlc (NLt.agg _ (nlcc (nlc nll nl0))) (nlc nll nl0))))
      ·exact wfn hc34<|Qan<|thn<|⟨(),h,(mto (n:=79) [(1,(Qwg p1)),(2,.ref 0 4 0 0),(4,nilS),(5,.ref 1 3 0 0)] [0,1] [(Qqz p0),Qwi] hφ0 (pc (rnd Qaf) (prr (pw (prr pn)))) (qb (lcc (lcc ln)) (qb (lcc (lc rwl ln)) qn)))⟩
end Go.Proofs.YtmbhnllcfmiajaaGreat
