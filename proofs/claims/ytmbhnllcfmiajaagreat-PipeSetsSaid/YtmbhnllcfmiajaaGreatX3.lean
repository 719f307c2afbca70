/-
  Functions of the program: what they compute, as plain functions, and that they do. No conditions.
-/
import Derived.Test.YtmbhnllcfmiajaaGreatX2
namespace Go.Proofs.YtmbhnllcfmiajaaGreat
set_option maxRecDepth 100000
set_option maxHeartbeats 4000000
open Go.RowKit
def Qjq (N:Nat) (p0:Int):Option Bool:=
  (Qca N p0 0 1000000000000).bind fun x2=>
  some x2
theorem Qn5 (N:Nat) (p0:Int) (r:Bool) (h:Qjq N p0=some r):Spec Tryz.prog 109 [(I p0)] [] (B r) []:=by
  refine Qah Tryz.func109 rfl 0 (nle rfl) (fun X φ0 w0 hφ0 hd0=>?_)
  unfold Qjq at h
  refine wxz ?_
  obtain ⟨x2,hf1,h⟩:=bno h
  exact wx tbk [(1,rp [fu 65,(.tmp 3,I p0),ci 0,ci 1000000000000] (B x2))] ⟨apv Qjr (Qda N p0 0 1000000000000 _ hf1) (nlcc (nlc nll nl0)) nll,tv⟩<|Qad<|frb h
def Qhq (N:Nat) (p0:Int):Option Bool:=
  (Qjq N p0).bind fun x3=>
  some (!x3)
def Q7s:Slot:=.own 1 [[(.fn (.func 109) [] [])]]
theorem Qlt (N:Nat) (p0:Int) (r:Bool) (h:Qhq N p0=some r):Spec Tryz.prog 128 [(I (p0)),(.ref 0 1 (0) 0)] [Q7s] (B (r)) [Q7s]:=by
  refine Qah Tryz.func128 rfl 1 (nle rfl) (fun X φ0 w0 hφ0 hd0=>?_)
  unfold Qhq at h
  refine Qbh<|wxz ?_
  obtain ⟨x3,hf2,h⟩:=bno h
  refine wx tbk [(2,rp [(.tmp 4,(.fn (.func 109) [] [])),(.tmp 5,I p0)] (B x3))] ⟨apv Q92 (Qn5 N p0 _ hf2) (nlc nll nl0) nll,tv⟩ ?_
  refine wmr (mto (n:=8) (l':=[(3,(B ((!x3))))]) (own':=[Q7s]) [(3,(B ((!x3))))] [0] [Q7s] hφ0 (pw pn) (qb (lc (.rn (Qbd rn0 rn0)) ln) qn))<|Qad ?_
  obtain rfl:=osi h
  exact ⟨_,Mor.rfl,Qct (vs:=[(B ((!x3)))]) ⟨rot,tv⟩ rfl (NLt.of0 nll) (by kernel_rfl) (Qan (Qa7 (nlc (NLt.of0 (NLt.fn _ _ _ nl0 nl0)) nl0)) Qbi)⟩
def Qb6 (N:Nat) (p0:(List Int)) (k2:Unit→Option Int):Nat→Int→Option Int
  | 0,_=>none
  | n5+1,y3=>
    bif (decide (y3<(p0.length:Int))) then
     (getI p0 y3).bind fun x7=>
     (Qhq N x7).bind fun x12=>
     bif x12 then
      some y3
     else
      Qb6 N p0 k2 n5 (w64 (y3+1))
    else
     k2 ()
def Qeu (N:Nat) (p0:(List Int)):Option Int:=
  Qby (fun _=>
    some (-1)) fun k2:Unit→Option Int=>
  Qb6 N p0 k2 N 0
def Qv7 (p0:(List Int)):AV:=.dat 1 ((p0:List Int).map Qaj)
def Q0w:AV:=.fn (.func 128) [] [(.ref 0 1 (0) 0)]
def Qlm:Slot:=.own 1 [[(.fn (.func 109) [] [])]]
theorem Qh0 (N:Nat) (p0:(List Int)) (r:Int) (h:Qeu N p0=some r):Spec Tryz.prog 141 [(Qv7 p0),Q0w] [Qlm] (I (r)) [Qlm]:=by
  refine Qah Tryz.func141 rfl 1 (nle rfl) (fun X φ0 w0 hφ0 hd0=>?_)
  unfold Qeu at h
  refine Qbh<|wxz ?_
  obtain ⟨k2,hk_k2,h⟩:=jko h
  refine wjn (τ:=Unit) (fun t=>k2 t=some r) (fun _=>⟨mk 19 [],[Qlm]⟩) (fun t h=>?_) ?_
  ·subst hk_k2
   refine wxz<|wmr (mto (n:=19) (l':=[(4,(I ((-1))))]) (own':=[Qlm]) [(4,(I ((-1))))] [0] [Qlm] hφ0 (pw pn) (qb (lc (.rn (Qbd rn0 rn0)) ln) qn))<|Qad ?_
   obtain rfl:=osi h
   exact ⟨_,Mor.rfl,Qct (vs:=[(I ((-1)))]) ⟨rot,tv⟩ rfl (NLt.of0 nll) (by kernel_rfl) (Qan (Qa7 (nlc (NLt.of0 (NLt.fn _ _ _ nl0 nl0)) nl0)) Qbi)⟩
  ·skip
   refine wx tbk [(1,rp [(.tmp 6,(Qv7 p0))] (I ((p0.length:Int))))] ⟨alm (c:=Qaj) (l:=p0) (aln rfl Tryz.underlying27 rfl),tv⟩<|Qal ?_
   refine wmr (mto (n:=19) (l':=[(0,(Qv7 p0)),(1,Q0w),(7,(I ((p0.length:Int)))),(8,I 0)]) (own':=[Qlm]) [(0,(Qv7 p0)),(1,Q0w),(7,(I ((p0.length:Int)))),(8,I 0)] [0] [Qlm] hφ0 (pc (rnd Qaf) (pc (.rn (Qbd rn0 (rnc (rqr rfl) rn0))) (pw (pw pn)))) (qb (lc (.rn (Qbd rn0 rn0)) ln) qn)) ?_
   refine Qbu (τ:=Int) (fun n t=>Qb6 N p0 k2 n t=some r) (fun y3=>⟨mk 19 [(0,(Qv7 p0)),(1,Q0w),(7,(I ((p0.length:Int)))),(8,I y3)],[Qlm]⟩) (fun t h=>by rw [Qb6] at h; cases h) (fun n5 ih y3 h=>?_) N (0) h
   rw [Qb6] at h
   skip
   refine wxz<|wsq ?_
   refine bfe h (fun hc6 h=>?_) fun hc6 h=>?_
   ·refine wft hc6<|Qam<|thn<|wsq<|Qal<|wxz ?_
    obtain ⟨x7,hg8,h⟩:=bno h
    obtain ⟨hi9,hj10⟩:=gsm hg8
    obtain ⟨x12,hf11,h⟩:=bno h
    refine wx tbk [(3,rp [(.tmp 12,(Qv7 p0)),(.tmp 13,I y3)] (.dptr (Qaj (x7)) 0)),(5,⟨[(.tmp 11,Q0w),(.tmp 15,I x7)],[(0,Qlm)],B x12,[(0,Qlm)],false⟩)] ⟨aid rfl Tryz.underlying27 ti3 rfl rfl hi9 (mgt Qaj hj10) rfl,Qat (first:=[]) (cap:=[.ref 0 1 0 0]) (vs:=[I x7]) (σr:=[Qlm]) (σr':=[Qlm]) (res':=(B x12)) [0] rfl Qzw (Qlt N x7 _ hf11) rfl (Qbn (rnc (.plain _ nll) (rnc (Qbb rfl) rn0))) (slc (Qao (rnc (.plain _ (NLt.fn _ _ _ nl0 nl0)) rn0)) Qas) (slc (Qao (rnc (.plain _ (NLt.fn _ _ _ nl0 nl0)) rn0)) Qas) (.plain _ nll) rfl rfl rfl,tv⟩ ?_
    refine bfe h (fun hc13 h=>?_) fun hc13 h=>?_
    ·refine wft hc13<|wxz ?_
     refine wmr (mto (n:=19) (l':=[(4,I y3)]) (own':=[Qlm]) [(4,I y3)] [0] [Qlm] hφ0 (pw pn) (qb (lc (.rn (Qbd rn0 rn0)) ln) qn))<|Qad<|Qak<|Qac<|Qac<|Qak<|Qac ?_
     obtain rfl:=osi h
     exact ⟨_,Mor.rfl,Qct (vs:=[I y3]) ⟨rot,tv⟩ rfl (NLt.of0 nll) (by kernel_rfl) (Qan (Qa7 (nlc (NLt.of0 (NLt.fn _ _ _ nl0 nl0)) nl0)) Qbi)⟩
    ·exact wfn hc13<|Qam<|bln<|thn<|wxz1<|thn<|arm (mto (n:=19) [(0,(Qv7 p0)),(1,Q0w),(7,(I ((p0.length:Int)))),(8,(I (w64 (y3+1))))] [0] [Qlm] hφ0 (pc (rnd Qaf) (pc (.rn (Qbd rn0 (rnc (rqr rfl) rn0))) (pw (pw pn)))) (qb (lc (.rn (Qbd rn0 rn0)) ln) qn)) (ih (w64 (y3+1)) h)
   ·exact wfn hc6<|Qbf<|Qav<|Qav<|Qbe rfl<|thn<|⟨(),h,(mto (n:=19) [] [0] [Qlm] hφ0 pn (qb (lc (.rn (Qbd rn0 rn0)) ln) qn))⟩
def Qd5 (N:Nat) (p0:(List Int)):Option Bool:=
  (Qeu N p0).bind fun x3=>
  some (decide (x3≥0))
def Zdd (p0:(List Int)):AV:=.dat 1 ((p0:List Int).map Qaj)
def Zdc:AV:=.fn (.func 128) [] [(.ref 0 1 (0) 0)]
def Qt8:Slot:=.own 1 [[(.fn (.func 109) [] [])]]
theorem Qg8 (N:Nat) (p0:(List Int)) (r:Bool) (h:Qd5 N p0=some r):Spec Tryz.prog 126 [(Zdd p0),Zdc] [Qt8] (B (r)) [Qt8]:=by
  refine Qah Tryz.func126 rfl 1 (nle rfl) (fun X φ0 w0 hφ0 hd0=>?_)
  unfold Qd5 at h
  refine Qbh<|wxz ?_
  obtain ⟨x3,hf2,h⟩:=bno h
  refine wx tbk [(2,⟨[fu 141,(.tmp 5,(Zdd p0)),(.tmp 6,Zdc)],[(0,Qt8)],I x3,[(0,Qt8)],false⟩)] ⟨Qat (first:=[]) (cap:=[]) (vs:=[(Zdd p0),Zdc]) (σr:=[Qt8]) (σr':=[Qt8]) (res':=(I x3)) [0] rfl Qna (Qh0 N p0 _ hf2) rfl (Qbn (rnc (pld Qaf) (rnc (Qbd rn0 (rnc (Qbb rfl) rn0)) rn0))) (slc (Qao (rnc (.plain _ (NLt.fn _ _ _ nl0 nl0)) rn0)) Qas) (slc (Qao (rnc (.plain _ (NLt.fn _ _ _ nl0 nl0)) rn0)) Qas) (.plain _ nll) rfl rfl rfl,tv⟩ ?_
  refine wmr (mto (n:=9) (l':=[(4,(B ((decide (x3≥0)))))]) (own':=[Qt8]) [(4,(B ((decide (x3≥0)))))] [0] [Qt8] hφ0 (pw pn) (qb (lc (.rn (Qbd rn0 rn0)) ln) qn))<|Qad ?_
  obtain rfl:=osi h
  exact ⟨_,Mor.rfl,Qct (vs:=[(B ((decide (x3≥0))))]) ⟨rot,tv⟩ rfl (NLt.of0 nll) (by kernel_rfl) (Qan (Qa7 (nlc (NLt.of0 (NLt.fn _ _ _ nl0 nl0)) nl0)) Qbi)⟩
def Qi4 (N:Nat) (p0:(List Int)):Option Bool:=
  (Qd5 N p0).bind fun x2=>
  some (!x2)
def Zdf (p0:(List Int)):AV:=.dat 1 ((p0:List Int).map Qaj)
def Zde:AV:=.fn (.func 128) [] [(.ref 0 1 (0) 0)]
def Q7t:Slot:=.own 1 [[(.fn (.func 109) [] [])]]
theorem Qm0 (N:Nat) (p0:(List Int)) (r:Bool) (h:Qi4 N p0=some r):Spec Tryz.prog 108 [(Zdf p0),(.fn (.func 109) [] [])] [] (B (r)) []:=by
  refine Qah Tryz.func108 rfl 0 (nle rfl) (fun X φ0 w0 hφ0 hd0=>?_)
  unfold Qi4 at h
  refine wxz ?_
  obtain ⟨x2,hf1,h⟩:=bno h
  refine wx tbk [(1,rp [(.tmp 3,.ref 0 1 0 0)] Zde),(2,⟨[fu 126,(.tmp 5,(Zdf p0)),(.tmp 6,Zde)],[(0,Q7t)],B x2,[(0,Q7t)],false⟩)] ⟨Qe5 (fs:=[]) (cs:=[.ref 0 1 0 0]) rfl rfl rfl rfl,Qat (first:=[]) (cap:=[]) (vs:=[(Zdf p0),Zde]) (σr:=[Q7t]) (σr':=[Q7t]) (res':=(B x2)) [0] rfl Qnb (Qg8 N p0 _ hf1) rfl (Qbn (rnc (pld Qaf) (rnc (Qbd rn0 (rnc (Qbb rfl) rn0)) rn0))) (slc (Qao (rnc (.plain _ (NLt.fn _ _ _ nl0 nl0)) rn0)) Qas) (slc (Qao (rnc (.plain _ (NLt.fn _ _ _ nl0 nl0)) rn0)) Qas) (.plain _ nll) rfl rfl rfl,tv⟩<|Qad ?_
  obtain rfl:=osi h
  exact fend ⟨[(B ((!x2)))],⟨rot,tv⟩,rfl⟩ nll
def Qk5 (N:Nat) (p0:GNet) (p1:(List Int)):Option Int:=
  (Qd7 N p0).bind fun x2=>
  bif (!x2) then
   some 1
  else
   bif ((p1.length:Int) != (p0.Elements.length:Int)) then
    some 1
   else
    (Qi4 N p1).bind fun x6=>
    bif (!x6) then
     some 1
    else
     some 0
def Zhx (p0:GNet):AV:=.dat 5 ((p0.Table:List GRow).map Qau)
def Zgk (p0:GNet):AV:=.dat 7 ((p0.Elements:List GElement).map Qab)
def Zdh (p0:GNet) (x2:Bool):List (Nat×Rec):=[(1,rp [fu 66,((.tmp 5),(.agg [(Zhx p0),(Zgk p0)]))] (B (x2)))]
def Zdi (p1:(List Int)):AV:=.dat 1 ((p1:List Int).map Qaj)
def Zdg (p0) (x2) (p1:(List Int)):=hcat (Zdh p0 x2) [(3,rp [((.tmp 7),(B ((!x2))))] (B (false))),(5,rp [((.tmp 8),(B (false))),((.tmp 9),(Zdi p1))] (I ((p1.length:Int)))),(8,rp [((.tmp 8),(B (false))),((.tmp 12),(Zgk p0))] (I ((p0.Elements.length:Int))))]
theorem Qp8 (N:Nat) (p0:GNet) (p1:(List Int)) (r:Int) (h:Qk5 N p0 p1=some r):Spec Tryz.prog 73 [(.agg (Qgn p0)),(.dat 1 (p1.map Qaj))] [] (I r) []:=by
  refine Qah Tryz.func73 rfl 0 (nle rfl) (fun X φ0 w0 hφ0 hd0=>?_)
  unfold Qk5 at h
  refine wxz<|wsq ?_
  obtain ⟨x2,hf1,h⟩:=bno h
  refine hpre (A:=(Zdh p0 x2)) ⟨apv Qtg (Qf4 N p0 _ hf1) (nlc (NLt.agg _ (nlc (nld Qae _) (nlc (nld Qaa _) nl0))) nl0) nll,tv⟩ fun q1_=>?_
  refine bfe h (fun hb3 h=>?_) fun hb3 h=>?_
  ·refine wx tbk (hcat (Zdh p0 x2) [(3,rp [(.tmp 7,(B ((!x2))))] (B true))]) (hap q1_ ⟨asb hb3 (amv rfl),tv⟩)<|wtr<|wxz<|Qad<|Qac ?_
   obtain rfl:=osi h
   exact fend ⟨[I 1],⟨rot,tv⟩,rfl⟩ nll
  ·refine hpre (A:=(Zdg p0 x2 p1)) (hap q1_ ⟨asb hb3 (amv rfl),ag_ (alm (c:=Qaj) (l:=p1) (aln rfl Tryz.underlying27 rfl)),ag_ (alm (c:=Qab) (l:=p0.Elements) (aln rfl Tryz.underlying40 rfl)),tv⟩) fun q2_=>?_
   refine bfe h (fun hb4 h=>?_) fun hb4 h=>?_
   ·refine wx tbk (hcat (Zdg p0 x2 p1) [(11,rp [(.tmp 15,(B (((p1.length:Int) != (p0.Elements.length:Int)))))] (B true))]) (hap q2_ ⟨asb hb4 (amv rfl),tv⟩)<|wtr<|wxz<|Qad<|Qac ?_
    obtain rfl:=osi h
    exact fend ⟨[I 1],⟨rot,tv⟩,rfl⟩ nll
   ·obtain ⟨x6,hf5,h⟩:=bno h
    refine wx tbk (hcat (Zdg p0 x2 p1) [(11,rp [(.tmp 15,(B (((p1.length:Int) != (p0.Elements.length:Int)))))] (B false)),(13,rp [(.tmp 16,B false),fu 108,(.tmp 17,(Zdi p1)),fu 109] (B x6))]) (hap q2_ ⟨asb hb4 (amv rfl),ag_ (Qat (first:=[]) (cap:=[]) (vs:=[(Zdi p1),(.fn (.func 109) [] [])]) (σr:=[]) (σr':=[]) (res':=(B x6)) [] rfl Qzy (Qm0 N p1 _ hf5) rfl (Qbn (rnc (pld Qaf) (rnc (.plain _ (NLt.fn _ _ _ nl0 nl0)) rn0))) Qas Qas (.plain _ nll) rfl rfl rfl),tv⟩) ?_
    refine bfe h (fun hc7 h=>?_) fun hc7 h=>?_
    ·refine wft hc7<|wxz<|Qad<|Qac ?_
     obtain rfl:=osi h
     exact fend ⟨[I 1],⟨rot,tv⟩,rfl⟩ nll
    ·refine wfn hc7<|Qam<|thn<|wxz<|Qad ?_
     obtain rfl:=osi h
     exact fend ⟨[I 0],⟨rot,tv⟩,rfl⟩ nll
def Qc7 (N:Nat) (p0:GNet) (p1:Int) (k2:(List Int)→Option (List Int)):Nat→(List Int)→Int→Option (List Int)
  | 0,_,_=>none
  | n7+1,y3,y4=>
    bif (decide (y4<(p0.Elements.length:Int))) then
     (getI p0.Elements y4).bind fun x9=>
     bif (x9.Kind==p1) then
      chk (decide ((y3.length+([y4]).length) * 8≤140737488355328))<|
      Qc7 N p0 p1 k2 n7 (y3++([y4])) (w64 (y4+1))
     else
      Qc7 N p0 p1 k2 n7 y3 (w64 (y4+1))
    else
     k2 (y3)
def Qfv (N:Nat) (p0:GNet) (p1:Int):Option (List Int):=
  Qby (fun y1=>
    some y1) fun k2:(List Int)→Option (List Int)=>
  Qc7 N p0 p1 k2 N ([]) 0
def Qv6 (p0:GNet):AV:=.dat 7 ((p0.Elements:List GElement).map Qab)
def Qyu (y3:(List Int)):AV:=.acc 0 3 1 ((y3:List Int).map Qaj)
theorem Qf8 (N:Nat) (p0:GNet) (p1:Int) (r:(List Int)) (h:Qfv N p0 p1=some r):Spec Tryz.prog 67 [(.agg (Qgn p0)),(K .u8 p1)] [] (.dat 1 (r.map Qaj)) []:=by
  refine Qah Tryz.func67 rfl 0 (nle rfl) (fun X φ0 w0 hφ0 hd0=>?_)
  unfold Qfv at h
  refine wxz ?_
  obtain ⟨k2,hk_k2,h⟩:=jko h
  refine wjn (τ:=(List Int)) (fun t=>k2 t=some r) (fun y1=>⟨mk 25 [(4,(.acc 0 3 1 ((y1:List Int).map Qaj)))],[.tok]⟩) (fun y1 h=>?_) ?_
  ·subst hk_k2
   refine wxz<|Qad ?_
   obtain rfl:=osi h
   exact fend ⟨[(.dat 1 ((y1:List Int).map Qaj))],⟨Qch (v:=(.acc 0 3 1 ((y1:List Int).map Qaj))) (rot) Less.acc,tv⟩,rfl⟩ (nld Qaf _)
  ·skip
   refine wx tbk [(2,rp [(.tmp 8,(Qv6 p0))] (I ((p0.Elements.length:Int))))] ⟨alm (c:=Qab) (l:=p0.Elements) (aln rfl Tryz.underlying40 rfl),tv⟩<|Qal ?_
   refine wmr (Mor.trans (Qs9 1 3 1 4 (by kernel_rfl) (by kernel_rfl)) (mto (n:=25) (l':=[(1,(K .u8 (p1))),(4,(.acc 0 3 1 ((([]):List Int).map Qaj))),(8,(Qv6 p0)),(9,(I ((p0.Elements.length:Int)))),(10,I 0)]) (own':=[.tok]) [(1,(K .u8 (p1))),(4,(.acc 1 3 1 (([]:List Int).map Qaj))),(8,(Qv6 p0)),(9,(I ((p0.Elements.length:Int)))),(10,I 0)] [1] [.tok] hφ0 (pw (pc (.rn (Qcw rfl (Qb9 Qaf _))) (pc (rnd Qaa) (pw (pw pn))))) (qc .tok qn))) ?_
   refine Qbu (τ:=(List Int)×Int) (fun n t=>Qc7 N p0 p1 k2 n t.1 t.2=some r) (fun ⟨y3,y4⟩=>⟨mk 25 [(1,(K .u8 (p1))),(4,(Qyu y3)),(8,(Qv6 p0)),(9,(I ((p0.Elements.length:Int)))),(10,I y4)],[.tok]⟩) (fun t h=>by rw [Qc7] at h; cases h) (fun n7 ih t h=>?_) N ([],0) h
   obtain ⟨y3,y4⟩:=t
   rw [Qc7] at h
   skip
   refine wxz<|wsq ?_
   refine bfe h (fun hc8 h=>?_) fun hc8 h=>?_
   ·refine wft hc8<|Qam<|thn<|wsq<|Qal ?_
    obtain ⟨x9,hg10,h⟩:=bno h
    obtain ⟨hi11,hj12⟩:=gsm hg10
    refine wx tbk [(1,rp [(.tmp 8,(Qv6 p0)),(.tmp 10,I y4)] (.dptr (Qab (x9)) 0))] ⟨aid rfl Tryz.underlying40 Qg2 rfl rfl hi11 (mgt Qab hj12) rfl,tv⟩<|wxz ?_
    refine bfe h (fun hc13 h=>?_) fun hc13 h=>?_
    ·refine wft hc13 ?_
     obtain ⟨ha14,h⟩:=cko h
     refine wx1 tbk [(2,rp [(.tmp 20,I y4)] (.dat 1 (([y4]:List Int).map Qaj))),(3,⟨[(.tmp 19,(Qyu y3)),(.tmp 21,(.dat 1 (([y4]:List Int).map Qaj)))],[(0,.tok),(2,.unused)],(.acc 2 3 1 ((y3++([y4]):List Int).map Qaj)),[(0,.dead),(2,.tok)],false⟩)] ⟨Qbt (vs:=[I y4]) rfl Tryz.underlying27 ti3 tz3 rfl (by decide) rfl (by decide) (by rfl) (by rfl) (by rfl) rfl,Qej rfl Tryz.underlying27 te3 (Base.acc _ _) rfl rfl (by rfl) (Qgj Qaj ha14) (Qgi Qaj ha14 (by decide)) (Qgh Qaj) rfl rfl,tv⟩<|bln<|thn<|wxz1<|thn ?_
     exact arm (mto (n:=25) [(1,(K .u8 (p1))),(4,(.acc 2 3 1 ((y3++([y4]):List Int).map Qaj))),(8,(Qv6 p0)),(9,(I ((p0.Elements.length:Int)))),(10,(I (w64 (y4+1))))] [2] [.tok] hφ0 (pw (pc (.rn (Qcw rfl (Qb9 Qaf _))) (pc (rnd Qaa) (pw (pw pn))))) (qc .tok qn)) (ih (y3++([y4]),w64 (y4+1)) h)
    ·exact wfn hc13<|Qam<|bln<|thn<|wxz1<|thn<|arm (mto (n:=25) [(1,(K .u8 (p1))),(4,(Qyu y3)),(8,(Qv6 p0)),(9,(I ((p0.Elements.length:Int)))),(10,(I (w64 (y4+1))))] [0] [.tok] hφ0 (pw (pc (.rn (Qcw rfl (Qb9 Qaf _))) (pc (rnd Qaa) (pw (pw pn))))) (qc .tok qn)) (ih (y3,w64 (y4+1)) h)
   ·exact wfn hc8<|Qbf<|Qav<|Qav<|Qbe rfl<|thn<|⟨(y3),h,(mto (n:=25) [(4,(Qyu y3))] [0] [.tok] hφ0 (pc (.rn (Qcw rfl (Qb9 Qaf _))) pn) (qc .tok qn))⟩
def Qeq (N:Nat) (p0:GStream):Option Bool:=
  (Qci N p0.Mass 0 1000000).bind fun x2=>
  bif x2 then
   (Qci N p0.Heat 0 (w64 (4000 * p0.Mass))).bind fun x5=>
   bif x5 then
    (Qci N p0.Silica 0 (w64 (10000 * p0.Mass))).bind fun x8=>
    bif x8 then
     (Qci N p0.Gas 0 1000000000).bind fun x11=>
     some x11
    else
     some false
   else
    some false
  else
   some false
def Zc7 (p0:GStream) (x2:Bool):List (Nat×Rec):=[(2,rp [fu 137,((.tmp 4),(I (p0.Mass))),ci 0,ci 1000000] (B (x2)))]
def Zc6 (p0) (x2) (x5:Bool):=hcat (Zc7 p0 x2) [(3,rp [((.tmp 5),(B (x2)))] (B (true))),(9,rp [((.tmp 6),(B (true))),fu 137,((.tmp 8),(I (p0.Heat))),ci 0,((.tmp 11),(I (w64 (4000 * p0.Mass))))] (B (x5)))]
def Zc5 (p0) (x2) (x5) (x8:Bool):=hcat (Zc6 p0 x2 x5) [(11,rp [((.tmp 13),(B (x5)))] (B (true))),(17,rp [((.tmp 14),(B (true))),fu 137,((.tmp 16),(I (p0.Silica))),ci 0,((.tmp 19),(I (w64 (10000 * p0.Mass))))] (B (x8)))]
theorem Qf2 (N:Nat) (p0:GStream) (r:Bool) (h:Qeq N p0=some r):Spec Tryz.prog 131 [(.agg (Qai p0))] [] (B r) []:=by
  refine Qah Tryz.func131 rfl 0 (nle rfl) (fun X φ0 w0 hφ0 hd0=>?_)
  unfold Qeq at h
  refine wxz ?_
  obtain ⟨x2,hf1,h⟩:=bno h
  refine hpre (A:=(Zc7 p0 x2)) ⟨apv Qhk (Qcm N p0.Mass 0 1000000 _ hf1) (nlcc (nlc nll nl0)) nll,tv⟩ fun q1_=>?_
  refine bfe h (fun hb3 h=>?_) fun hb3 h=>?_
  ·obtain ⟨x5,hf4,h⟩:=bno h
   refine hpre (A:=(Zc6 p0 x2 x5)) (hap q1_ ⟨asb hb3 (amv rfl),ag_ (apv Qhk (Qcm N p0.Heat 0 (w64 (4000 * p0.Mass)) _ hf4) (nlcc (nlc nll nl0)) nll),tv⟩) fun q2_=>?_
   refine bfe h (fun hb6 h=>?_) fun hb6 h=>?_
   ·obtain ⟨x8,hf7,h⟩:=bno h
    refine hpre (A:=(Zc5 p0 x2 x5 x8)) (hap q2_ ⟨asb hb6 (amv rfl),ag_ (apv Qhk (Qcm N p0.Silica 0 (w64 (10000 * p0.Mass)) _ hf7) (nlcc (nlc nll nl0)) nll),tv⟩) fun q3_=>?_
    refine bfe h (fun hb9 h=>?_) fun hb9 h=>?_
    ·obtain ⟨x11,hf10,h⟩:=bno h
     exact wx tbk (hcat (Zc5 p0 x2 x5 x8) [(19,rp [(.tmp 21,B x8)] (B true)),(22,rp [(.tmp 22,B true),fu 137,(.tmp 24,I p0.Gas),ci 0,ci 1000000000] (B x11))]) (hap q3_ ⟨asb hb9 (amv rfl),ag_ (apv Qhk (Qcm N p0.Gas 0 1000000000 _ hf10) (nlcc (nlc nll nl0)) nll),tv⟩)<|Qad<|frb h
    ·exact wx tbk (hcat (Zc5 p0 x2 x5 x8) [(19,rp [(.tmp 21,B x8)] (B false))]) (hap q3_ ⟨asb hb9 (amv rfl),tv⟩)<|Qad<|frb h
   ·exact wx tbk (hcat (Zc6 p0 x2 x5) [(11,rp [(.tmp 13,B x5)] (B false))]) (hap q2_ ⟨asb hb6 (amv rfl),tv⟩)<|Qad<|frb h
  ·exact wx tbk (hcat (Zc7 p0 x2) [(3,rp [(.tmp 5,B x2)] (B false))]) (hap q1_ ⟨asb hb3 (amv rfl),tv⟩)<|Qad<|frb h
def Qg5 (N:Nat) (p0:GStream):Option Int:=
  (Qeq N p0).bind fun x2=>
  bif (!x2) then
   some 1
  else
   some 0
def Zht (p0:GStream):AV:=.agg [(I (p0.Mass)),(I (p0.Heat)),(I (p0.Silica)),(I (p0.Gas))]
theorem Qk0 (N:Nat) (p0:GStream) (r:Int) (h:Qg5 N p0=some r):Spec Tryz.prog 114 [(.agg (Qai p0))] [] (I r) []:=by
  refine Qah Tryz.func114 rfl 0 (nle rfl) (fun X φ0 w0 hφ0 hd0=>?_)
  unfold Qg5 at h
  refine wxz<|wsq ?_
  obtain ⟨x2,hf1,h⟩:=bno h
  refine wx tbk [(1,rp [fu 131,(.tmp 3,(Zht p0))] (B x2))] ⟨apv Qtj (Qf2 N p0 _ hf1) (nlc (NLt.agg _ (nlcc (nlcc nl0))) nl0) nll,tv⟩ ?_
  refine bfe h (fun hc3 h=>?_) fun hc3 h=>?_
  ·refine wft hc3<|wxz<|Qad<|Qac ?_
   obtain rfl:=osi h
   exact fend ⟨[I 1],⟨rot,tv⟩,rfl⟩ nll
  ·refine wfn hc3<|Qam<|thn<|wxz<|Qad ?_
   obtain rfl:=osi h
   exact fend ⟨[I 0],⟨rot,tv⟩,rfl⟩ nll
def Qi5 (N:Nat) (p0:GStream):Option Bool:=
  (Qg5 N p0).bind fun x2=>
  some (x2==0)
def Zhu (p0:GStream):AV:=.agg [(I (p0.Mass)),(I (p0.Heat)),(I (p0.Silica)),(I (p0.Gas))]
theorem Qm2 (N:Nat) (p0:GStream) (r:Bool) (h:Qi5 N p0=some r):Spec Tryz.prog 113 [(.agg (Qai p0))] [] (B r) []:=by
  refine Qah Tryz.func113 rfl 0 (nle rfl) (fun X φ0 w0 hφ0 hd0=>?_)
  unfold Qi5 at h
  refine wxz ?_
  obtain ⟨x2,hf1,h⟩:=bno h
  refine wx tbk [(1,rp [fu 114,(.tmp 3,(Zhu p0))] (I x2))] ⟨apv Q9x (Qk0 N p0 _ hf1) (nlc (NLt.agg _ (nlcc (nlcc nl0))) nl0) nll,tv⟩<|Qad ?_
  obtain rfl:=osi h
  exact fend ⟨[(B ((x2==0)))],⟨rot,tv⟩,rfl⟩ nll
def Qe4 (N:Nat) (p0:GStream):Option Bool:=
  (Qi5 N p0).bind fun x3=>
  some (!x3)
def Zgi (p0:GStream):AV:=.agg [(I (p0.Mass)),(I (p0.Heat)),(I (p0.Silica)),(I (p0.Gas))]
def Q7q:Slot:=.own 1 [[(.fn (.func 113) [] [])]]
theorem Qig (N:Nat) (p0:GStream) (r:Bool) (h:Qe4 N p0=some r):Spec Tryz.prog 130 [(Zgi p0),(.ref 0 1 (0) 0)] [Q7q] (B (r)) [Q7q]:=by
  refine Qah Tryz.func130 rfl 1 (nle rfl) (fun X φ0 w0 hφ0 hd0=>?_)
  unfold Qe4 at h
  refine Qbh<|wxz ?_
  obtain ⟨x3,hf2,h⟩:=bno h
  refine wx tbk [(2,rp [(.tmp 4,(.fn (.func 113) [] [])),(.tmp 5,(Zgi p0))] (B x3))] ⟨apv Q9y (Qm2 N p0 _ hf2) (nlc (NLt.agg _ (nlcc (nlcc nl0))) nl0) nll,tv⟩ ?_
  refine wmr (mto (n:=8) (l':=[(3,(B ((!x3))))]) (own':=[Q7q]) [(3,(B ((!x3))))] [0] [Q7q] hφ0 (pw pn) (qb (lc (.rn (Qbd rn0 rn0)) ln) qn))<|Qad ?_
  obtain rfl:=osi h
  exact ⟨_,Mor.rfl,Qct (vs:=[(B ((!x3)))]) ⟨rot,tv⟩ rfl (NLt.of0 nll) (by kernel_rfl) (Qan (Qa7 (nlc (NLt.of0 (NLt.fn _ _ _ nl0 nl0)) nl0)) Qbi)⟩
def Qa8 (N:Nat) (p0:(List GStream)) (k2:Unit→Option Int):Nat→Int→Option Int
  | 0,_=>none
  | n5+1,y3=>
    bif (decide (y3<(p0.length:Int))) then
     (getI p0 y3).bind fun x7=>
     (Qe4 N x7).bind fun x12=>
     bif x12 then
      some y3
     else
      Qa8 N p0 k2 n5 (w64 (y3+1))
    else
     k2 ()
def Qcc (N:Nat) (p0:(List GStream)):Option Int:=
  Qby (fun _=>
    some (-1)) fun k2:Unit→Option Int=>
  Qa8 N p0 k2 N 0
def Qv5 (p0:(List GStream)):AV:=.dat 4 ((p0:List GStream).map Qai)
def Q0u:AV:=.fn (.func 130) [] [(.ref 0 1 (0) 0)]
def Qll:Slot:=.own 1 [[(.fn (.func 113) [] [])]]
def Zgj (x7:GStream):AV:=.agg [(I (x7.Mass)),(I (x7.Heat)),(I (x7.Silica)),(I (x7.Gas))]
theorem Qe8 (N:Nat) (p0:(List GStream)) (r:Int) (h:Qcc N p0=some r):Spec Tryz.prog 142 [(Qv5 p0),Q0u] [Qll] (I (r)) [Qll]:=by
  refine Qah Tryz.func142 rfl 1 (nle rfl) (fun X φ0 w0 hφ0 hd0=>?_)
  unfold Qcc at h
  refine Qbh<|wxz ?_
  obtain ⟨k2,hk_k2,h⟩:=jko h
  refine wjn (τ:=Unit) (fun t=>k2 t=some r) (fun _=>⟨mk 19 [],[Qll]⟩) (fun t h=>?_) ?_
  ·subst hk_k2
   refine wxz<|wmr (mto (n:=19) (l':=[(4,(I ((-1))))]) (own':=[Qll]) [(4,(I ((-1))))] [0] [Qll] hφ0 (pw pn) (qb (lc (.rn (Qbd rn0 rn0)) ln) qn))<|Qad ?_
   obtain rfl:=osi h
   exact ⟨_,Mor.rfl,Qct (vs:=[(I ((-1)))]) ⟨rot,tv⟩ rfl (NLt.of0 nll) (by kernel_rfl) (Qan (Qa7 (nlc (NLt.of0 (NLt.fn _ _ _ nl0 nl0)) nl0)) Qbi)⟩
  ·skip
   refine wx tbk [(1,rp [(.tmp 6,(Qv5 p0))] (I ((p0.length:Int))))] ⟨alm (c:=Qai) (l:=p0) (aln rfl Tryz.underlying45 rfl),tv⟩<|Qal ?_
   refine wmr (mto (n:=19) (l':=[(0,(Qv5 p0)),(1,Q0u),(7,(I ((p0.length:Int)))),(8,I 0)]) (own':=[Qll]) [(0,(Qv5 p0)),(1,Q0u),(7,(I ((p0.length:Int)))),(8,I 0)] [0] [Qll] hφ0 (pc (rnd Qag) (pc (.rn (Qbd rn0 (rnc (rqr rfl) rn0))) (pw (pw pn)))) (qb (lc (.rn (Qbd rn0 rn0)) ln) qn)) ?_
   refine Qbu (τ:=Int) (fun n t=>Qa8 N p0 k2 n t=some r) (fun y3=>⟨mk 19 [(0,(Qv5 p0)),(1,Q0u),(7,(I ((p0.length:Int)))),(8,I y3)],[Qll]⟩) (fun t h=>by rw [Qa8] at h; cases h) (fun n5 ih y3 h=>?_) N (0) h
   rw [Qa8] at h
   skip
   refine wxz<|wsq ?_
   refine bfe h (fun hc6 h=>?_) fun hc6 h=>?_
   ·refine wft hc6<|Qam<|thn<|wsq<|Qal<|wxz ?_
    obtain ⟨x7,hg8,h⟩:=bno h
    obtain ⟨hi9,hj10⟩:=gsm hg8
    obtain ⟨x12,hf11,h⟩:=bno h
    refine wx tbk [(3,rp [(.tmp 12,(Qv5 p0)),(.tmp 13,I y3)] (.dptr (Qai (x7)) 0)),(5,⟨[(.tmp 11,Q0u),(.tmp 15,(Zgj x7))],[(0,Qll)],B x12,[(0,Qll)],false⟩)] ⟨aid rfl Tryz.underlying45 ti63 rfl rfl hi9 (mgt Qai hj10) rfl,Qat (first:=[]) (cap:=[.ref 0 1 0 0]) (vs:=[(Zgj x7)]) (σr:=[Qll]) (σr':=[Qll]) (res':=(B x12)) [0] rfl Q9m (Qig N x7 _ hf11) rfl (Qbn (rnc (.plain _ (NLt.agg _ (nlcc (nlcc nl0)))) (rnc (Qbb rfl) rn0))) (slc (Qao (rnc (.plain _ (NLt.fn _ _ _ nl0 nl0)) rn0)) Qas) (slc (Qao (rnc (.plain _ (NLt.fn _ _ _ nl0 nl0)) rn0)) Qas) (.plain _ nll) rfl rfl rfl,tv⟩ ?_
    refine bfe h (fun hc13 h=>?_) fun hc13 h=>?_
    ·refine wft hc13<|wxz ?_
     refine wmr (mto (n:=19) (l':=[(4,I y3)]) (own':=[Qll]) [(4,I y3)] [0] [Qll] hφ0 (pw pn) (qb (lc (.rn (Qbd rn0 rn0)) ln) qn))<|Qad<|Qak<|Qac<|Qac<|Qak<|Qac ?_
     obtain rfl:=osi h
     exact ⟨_,Mor.rfl,Qct (vs:=[I y3]) ⟨rot,tv⟩ rfl (NLt.of0 nll) (by kernel_rfl) (Qan (Qa7 (nlc (NLt.of0 (NLt.fn _ _ _ nl0 nl0)) nl0)) Qbi)⟩
    ·exact wfn hc13<|Qam<|bln<|thn<|wxz1<|thn<|arm (mto (n:=19) [(0,(Qv5 p0)),(1,Q0u),(7,(I ((p0.length:Int)))),(8,(I (w64 (y3+1))))] [0] [Qll] hφ0 (pc (rnd Qag) (pc (.rn (Qbd rn0 (rnc (rqr rfl) rn0))) (pw (pw pn)))) (qb (lc (.rn (Qbd rn0 rn0)) ln) qn)) (ih (w64 (y3+1)) h)
   ·exact wfn hc6<|Qbf<|Qav<|Qav<|Qbe rfl<|thn<|⟨(),h,(mto (n:=19) [] [0] [Qll] hφ0 pn (qb (lc (.rn (Qbd rn0 rn0)) ln) qn))⟩
def Qb7 (N:Nat) (p0:(List GStream)):Option Bool:=
  (Qcc N p0).bind fun x3=>
  some (decide (x3≥0))
def Zc9 (p0:(List GStream)):AV:=.dat 4 ((p0:List GStream).map Qai)
def Zc8:AV:=.fn (.func 130) [] [(.ref 0 1 (0) 0)]
def Qt7:Slot:=.own 1 [[(.fn (.func 113) [] [])]]
theorem Qev (N:Nat) (p0:(List GStream)) (r:Bool) (h:Qb7 N p0=some r):Spec Tryz.prog 129 [(Zc9 p0),Zc8] [Qt7] (B (r)) [Qt7]:=by
  refine Qah Tryz.func129 rfl 1 (nle rfl) (fun X φ0 w0 hφ0 hd0=>?_)
  unfold Qb7 at h
  refine Qbh<|wxz ?_
  obtain ⟨x3,hf2,h⟩:=bno h
  refine wx tbk [(2,⟨[fu 142,(.tmp 5,(Zc9 p0)),(.tmp 6,Zc8)],[(0,Qt7)],I x3,[(0,Qt7)],false⟩)] ⟨Qat (first:=[]) (cap:=[]) (vs:=[(Zc9 p0),Zc8]) (σr:=[Qt7]) (σr':=[Qt7]) (res':=(I x3)) [0] rfl Q9f (Qe8 N p0 _ hf2) rfl (Qbn (rnc (pld Qag) (rnc (Qbd rn0 (rnc (Qbb rfl) rn0)) rn0))) (slc (Qao (rnc (.plain _ (NLt.fn _ _ _ nl0 nl0)) rn0)) Qas) (slc (Qao (rnc (.plain _ (NLt.fn _ _ _ nl0 nl0)) rn0)) Qas) (.plain _ nll) rfl rfl rfl,tv⟩ ?_
  refine wmr (mto (n:=9) (l':=[(4,(B ((decide (x3≥0)))))]) (own':=[Qt7]) [(4,(B ((decide (x3≥0)))))] [0] [Qt7] hφ0 (pw pn) (qb (lc (.rn (Qbd rn0 rn0)) ln) qn))<|Qad ?_
  obtain rfl:=osi h
  exact ⟨_,Mor.rfl,Qct (vs:=[(B ((decide (x3≥0))))]) ⟨rot,tv⟩ rfl (NLt.of0 nll) (by kernel_rfl) (Qan (Qa7 (nlc (NLt.of0 (NLt.fn _ _ _ nl0 nl0)) nl0)) Qbi)⟩
def Qfp (N:Nat) (p0:(List GStream)):Option Bool:=
  (Qb7 N p0).bind fun x2=>
  some (!x2)
def Zdb (p0:(List GStream)):AV:=.dat 4 ((p0:List GStream).map Qai)
def Zda:AV:=.fn (.func 130) [] [(.ref 0 1 (0) 0)]
def Q7r:Slot:=.own 1 [[(.fn (.func 113) [] [])]]
theorem Qi2 (N:Nat) (p0:(List GStream)) (r:Bool) (h:Qfp N p0=some r):Spec Tryz.prog 112 [(Zdb p0),(.fn (.func 113) [] [])] [] (B (r)) []:=by
  refine Qah Tryz.func112 rfl 0 (nle rfl) (fun X φ0 w0 hφ0 hd0=>?_)
  unfold Qfp at h
  refine wxz ?_
  obtain ⟨x2,hf1,h⟩:=bno h
  refine wx tbk [(1,rp [(.tmp 3,.ref 0 1 0 0)] Zda),(2,⟨[fu 129,(.tmp 5,(Zdb p0)),(.tmp 6,Zda)],[(0,Q7r)],B x2,[(0,Q7r)],false⟩)] ⟨Qe5 (fs:=[]) (cs:=[.ref 0 1 0 0]) rfl rfl rfl rfl,Qat (first:=[]) (cap:=[]) (vs:=[(Zdb p0),Zda]) (σr:=[Q7r]) (σr':=[Q7r]) (res':=(B x2)) [0] rfl Q9n (Qev N p0 _ hf1) rfl (Qbn (rnc (pld Qag) (rnc (Qbd rn0 (rnc (Qbb rfl) rn0)) rn0))) (slc (Qao (rnc (.plain _ (NLt.fn _ _ _ nl0 nl0)) rn0)) Qas) (slc (Qao (rnc (.plain _ (NLt.fn _ _ _ nl0 nl0)) rn0)) Qas) (.plain _ nll) rfl rfl rfl,tv⟩<|Qad ?_
  obtain rfl:=osi h
  exact fend ⟨[(B ((!x2)))],⟨rot,tv⟩,rfl⟩ nll
def Qfo (N:Nat) (p0:(List GStream)) (k5:Int×Int×Int×Int→Option GStream):Nat→Int→Int→Int→Int→Int→Option GStream
  | 0,_,_,_,_,_=>none
  | n16+1,y6,y7,y8,y9,y10=>
    bif (decide (y6<(p0.length:Int))) then
     (getI p0 y6).bind fun x18=>
     Qfo N p0 k5 n16 (w64 (y6+1)) (w64 (y7+x18.Mass)) (w64 (y8+x18.Heat)) (w64 (y9+x18.Silica)) (w64 (y10+x18.Gas))
    else
     k5 (y7,y8,y9,y10)
def Qi1 (N:Nat) (p0:(List GStream)):Option GStream:=
  Qby (fun ⟨y1,y2,y3,y4⟩=>
    some (⟨y1,y2,y3,y4⟩:GStream)) fun k5:Int×Int×Int×Int→Option GStream=>
  Qfo N p0 k5 N 0 0 0 0 0
def Q0t (p0:(List GStream)):AV:=.dat 4 ((p0:List GStream).map Qai)
def Zgh:Slot:=.own 4 [[(I (0)),(I (0)),(I (0)),(I (0))]]
theorem Qjp (N:Nat) (p0:(List GStream)) (r:GStream) (h:Qi1 N p0=some r):Spec Tryz.prog 76 [(.dat 4 (p0.map Qai))] [] (.agg (Qai r)) []:=by
  refine Qah Tryz.func76 rfl 0 (nle rfl) (fun X φ0 w0 hφ0 hd0=>?_)
  unfold Qi1 at h
  refine wxz ?_
  obtain ⟨k5,hk_k5,h⟩:=jko h
  refine wjn (τ:=Int×Int×Int×Int) (fun t=>k5 t=some r) (fun ⟨y1,y2,y3,y4⟩=>⟨mk 34 [(2,.ref 0 4 0 0)],[(.own 4 [[I y1,I y2,I y3,I y4]])]⟩) (fun t h=>?_) ?_
  ·subst hk_k5
   obtain ⟨y1,y2,y3,y4⟩:=t
   refine wxz<|Qad ?_
   obtain rfl:=osi h
   exact fend ⟨[(.agg [I y1,I y2,I y3,I y4])],⟨Qbk (n:=0) (m:=4) (j:=0) (i:=0) (xs:=[[I y1,I y2,I y3,I y4]]) (by kernel_rfl) (by kernel_rfl) ti63 (by decide) rfl (nle rfl) rfl,tv⟩,rfl⟩ (NLt.agg _ (nlcc (nlcc nl0)))
  ·skip
   refine wx tbk [(1,rp [(.tmp 5,(Q0t p0))] (I ((p0.length:Int))))] ⟨alm (c:=Qai) (l:=p0) (aln rfl Tryz.underlying45 rfl),tv⟩<|Qal ?_
   refine wmr (mto (n:=34) (l':=[(2,.ref 0 4 0 0),(5,(Q0t p0)),(6,(I ((p0.length:Int)))),(7,I 0)]) (own':=[Zgh]) [(2,.ref 0 4 0 0),(5,(Q0t p0)),(6,(I ((p0.length:Int)))),(7,I 0)] [0] [Zgh] hφ0 (prr (pc (rnd Qag) (pw (pw pn)))) (qb (lcc (lcc ln)) qn)) ?_
   refine Qbu (τ:=Int×Int×Int×Int×Int) (fun n t=>Qfo N p0 k5 n t.1 t.2.1 t.2.2.1 t.2.2.2.1 t.2.2.2.2=some r) (fun ⟨y6,y7,y8,y9,y10⟩=>⟨mk 34 [(2,.ref 0 4 0 0),(5,(Q0t p0)),(6,(I ((p0.length:Int)))),(7,I y6)],[(.own 4 [[I y7,I y8,I y9,I y10]])]⟩) (fun t h=>by rw [Qfo] at h; cases h) (fun n16 ih t h=>?_) N (0,0,0,0,0) h
   obtain ⟨y6,y7,y8,y9,y10⟩:=t
   rw [Qfo] at h
   skip
   refine wxz<|wsq ?_
   refine bfe h (fun hc17 h=>?_) fun hc17 h=>?_
   ·refine wft hc17<|Qam<|thn<|wsq<|Qal ?_
    obtain ⟨x18,hg19,h⟩:=bno h
    obtain ⟨hi20,hj21⟩:=gsm hg19
    refine wx tbk [(0,rp [(.tmp 5,(Q0t p0)),(.tmp 7,I y6)] (.dptr (Qai (x18)) 0))] ⟨aid rfl Tryz.underlying45 ti63 rfl rfl hi20 (mgt Qai hj21) rfl,tv⟩ ?_
    refine wx1 tbk [(20,rp [(.tmp 15,(I (w64 (y7+x18.Mass)))),(.tmp 20,(I (w64 (y8+x18.Heat)))),(.tmp 25,(I (w64 (y9+x18.Silica)))),(.tmp 30,(I (w64 (y10+x18.Gas))))] (.agg [(I (w64 (y7+x18.Mass))),(I (w64 (y8+x18.Heat))),(I (w64 (y9+x18.Silica))),(I (w64 (y10+x18.Gas)))]))] ⟨Qax (vs:=[(I (w64 (y7+x18.Mass))),(I (w64 (y8+x18.Heat))),(I (w64 (y9+x18.Silica))),(I (w64 (y10+x18.Gas)))]) rfl ts63 tz63 rfl (by rfl) rfl,tv⟩<|bln<|thn<|wxz1<|thn ?_
    exact arm (mto (n:=34) [(2,.ref 0 4 0 0),(5,(Q0t p0)),(6,(I ((p0.length:Int)))),(7,(I (w64 (y6+1))))] [0] [(.own 4 [[(I (w64 (y7+x18.Mass))),(I (w64 (y8+x18.Heat))),(I (w64 (y9+x18.Silica))),(I (w64 (y10+x18.Gas)))]])] hφ0 (prr (pc (rnd Qag) (pw (pw pn)))) (qb (lcc (lcc ln)) qn)) (ih (w64 (y6+1),w64 (y7+x18.Mass),w64 (y8+x18.Heat),w64 (y9+x18.Silica),w64 (y10+x18.Gas)) h)
   ·exact wfn hc17<|Qbf<|Qav<|Qav<|Qbe rfl<|thn<|⟨(y7,y8,y9,y10),h,(mto (n:=34) [(2,.ref 0 4 0 0)] [0] [(.own 4 [[I y7,I y8,I y9,I y10]])] hφ0 (prr pn) (qb (lcc (lcc ln)) qn))⟩
def Qkf (N:Nat) (p0:GNet) (p1:(List GStream)):Option Int:=
  Qby (fun _=>
    (Qi1 N p1).bind fun x3=>
    bif (decide (x3.Mass>1000000)) then
     some 3
    else
     bif (decide (x3.Gas>1000000000)) then
      some 3
     else
      some 0) fun k1:Unit→Option Int=>
  (Qfv N p0 1).bind fun x7=>
  bif ((p1.length:Int) != (x7.length:Int)) then
   some 1
  else
   (Qfp N p1).bind fun x10=>
   bif (!x10) then
    some 1
   else
    k1 ()
def Q0v (p1:(List GStream)):AV:=.dat 4 ((p1:List GStream).map Qai)
def Zhw (p0:GNet):AV:=.dat 5 ((p0.Table:List GRow).map Qau)
def Zhv (p0:GNet):AV:=.dat 7 ((p0.Elements:List GElement).map Qab)
def Q3y (p1:(List GStream)) (p0:GNet) (x7:(List Int)):List (Nat×Rec):=[(1,rp [((.tmp 6),(Q0v p1))] (I ((p1.length:Int)))),(3,rp [fu 67,((.tmp 8),(.agg [(Zhw p0),(Zhv p0)])),((.const (.int .u8 1)),(K .u8 (1)))] (.dat 1 ((x7:List Int).map Qaj))),(4,rp [((.tmp 9),(.dat 1 ((x7:List Int).map Qaj)))] (I ((x7.length:Int))))]
theorem Qo3 (N:Nat) (p0:GNet) (p1:(List GStream)) (r:Int) (h:Qkf N p0 p1=some r):Spec Tryz.prog 94 [(.agg (Qgn p0)),(.dat 4 (p1.map Qai))] [] (I r) []:=by
  refine Qah Tryz.func94 rfl 0 (nle rfl) (fun X φ0 w0 hφ0 hd0=>?_)
  unfold Qkf at h
  refine wxz ?_
  obtain ⟨k1,hk_k1,h⟩:=jko h
  refine wjn (τ:=Unit) (fun t=>k1 t=some r) (fun _=>⟨mk 27 [(1,(Q0v p1))],[]⟩) (fun t h=>?_) ?_
  ·subst hk_k1
   refine wsq ?_
   obtain ⟨x3,hf2,h⟩:=bno h
   refine wx tbk [(1,rp [fu 76,(.tmp 17,(Q0v p1))] (.agg [I x3.Mass,I x3.Heat,I x3.Silica,I x3.Gas]))] ⟨apv Qxe (Qjp N p1 _ hf2) (nlc (nld Qag _) nl0) (NLt.agg _ (nlcc (nlcc nl0))),tv⟩ ?_
   refine bfe h (fun hb4 h=>?_) fun hb4 h=>?_
   ·refine wx tbk [(3,rp [(.tmp 21,(B ((decide (x3.Mass>1000000)))))] (B true))] ⟨asb hb4 (amv rfl),tv⟩<|wtr<|wxz<|Qad<|Qac ?_
    obtain rfl:=osi h
    exact fend ⟨[I 3],⟨rot,tv⟩,rfl⟩ nll
   ·refine wx tbk [(3,rp [(.tmp 21,(B ((decide (x3.Mass>1000000)))))] (B false))] ⟨asb hb4 (amv rfl),tv⟩ ?_
    refine bfe h (fun hc5 h=>?_) fun hc5 h=>?_
    ·refine wft hc5<|wxz<|Qad<|Qac ?_
     obtain rfl:=osi h
     exact fend ⟨[I 3],⟨rot,tv⟩,rfl⟩ nll
    ·refine wfn hc5<|Qam<|thn<|wxz<|Qad ?_
     obtain rfl:=osi h
     exact fend ⟨[I 0],⟨rot,tv⟩,rfl⟩ nll
  ·skip
   obtain ⟨x7,hf6,h⟩:=bno h
   refine hpre (A:=(Q3y p1 p0 x7)) ⟨alm (c:=Qai) (l:=p1) (aln rfl Tryz.underlying45 rfl),apv Qql (Qf8 N p0 1 _ hf6) (nlc (NLt.agg _ (nlc (nld Qae _) (nlc (nld Qaa _) nl0))) (nlc nll nl0)) (nld Qaf _),alm (c:=Qaj) (l:=x7) (aln rfl Tryz.underlying27 rfl),tv⟩ fun q1_=>?_
   refine bfe h (fun hb8 h=>?_) fun hb8 h=>?_
   ·refine wx tbk (hcat (Q3y p1 p0 x7) [(6,rp [(.tmp 11,(B (((p1.length:Int) != (x7.length:Int)))))] (B true))]) (hap q1_ ⟨asb hb8 (amv rfl),tv⟩)<|wtr<|wxz<|Qad<|Qac ?_
    obtain rfl:=osi h
    exact fend ⟨[I 1],⟨rot,tv⟩,rfl⟩ nll
   ·obtain ⟨x10,hf9,h⟩:=bno h
    refine wx tbk (hcat (Q3y p1 p0 x7) [(6,rp [(.tmp 11,(B (((p1.length:Int) != (x7.length:Int)))))] (B false)),(8,rp [(.tmp 12,B false),fu 112,(.tmp 13,(Q0v p1)),fu 113] (B x10))]) (hap q1_ ⟨asb hb8 (amv rfl),ag_ (Qat (first:=[]) (cap:=[]) (vs:=[(Q0v p1),(.fn (.func 113) [] [])]) (σr:=[]) (σr':=[]) (res':=(B x10)) [] rfl Q9z (Qi2 N p1 _ hf9) rfl (Qbn (rnc (pld Qag) (rnc (.plain _ (NLt.fn _ _ _ nl0 nl0)) rn0))) Qas Qas (.plain _ nll) rfl rfl rfl),tv⟩) ?_
    refine bfe h (fun hc11 h=>?_) fun hc11 h=>?_
    ·refine wft hc11<|wxz<|Qad<|Qac ?_
     obtain rfl:=osi h
     exact fend ⟨[I 1],⟨rot,tv⟩,rfl⟩ nll
    ·exact wfn hc11<|Qam<|thn<|⟨(),h,(mto (n:=27) [(1,(Q0v p1))] [] [] hφ0 (pc (rnd Qag) pn) qn)⟩
def Qma (N:Nat) (p0:GNet) (p1:(List Int)) (p2:(List GStream)):Option Int:=
  (Qk5 N p0 p1).bind fun x2=>
  bif (x2 != 0) then
   some x2
  else
   (Qkf N p0 p2).bind fun x5=>
   some x5
def Zhy (p0:GNet):AV:=.dat 7 ((p0.Elements:List GElement).map Qab)
def Zgl (p0:GNet):AV:=.agg [(.dat 5 ((p0.Table:List GRow).map Qau)),(Zhy p0)]
theorem Qrc (N:Nat) (p0:GNet) (p1:(List Int)) (p2:(List GStream)) (r:Int) (h:Qma N p0 p1 p2=some r):Spec Tryz.prog 57 [(.agg (Qgn p0)),(.dat 1 (p1.map Qaj)),(.dat 4 (p2.map Qai))] [] (I r) []:=by
  refine Qah Tryz.func57 rfl 0 (nle rfl) (fun X φ0 w0 hφ0 hd0=>?_)
  unfold Qma at h
  refine wxz<|wsq ?_
  obtain ⟨x2,hf1,h⟩:=bno h
  refine wx tbk [(2,rp [fu 73,(.tmp 8,(Zgl p0)),(.tmp 9,(.dat 1 ((p1:List Int).map Qaj)))] (I x2))] ⟨apv Ze0 (Qp8 N p0 p1 _ hf1) (nlc (NLt.agg _ (nlc (nld Qae _) (nlc (nld Qaa _) nl0))) (nlc (nld Qaf _) nl0)) nll,tv⟩<|wxz ?_
  refine bfe h (fun hc3 h=>?_) fun hc3 h=>?_
  ·refine wft hc3<|wxz<|Qad<|Qac ?_
   obtain rfl:=osi h
   exact fend ⟨[I x2],⟨rot,tv⟩,rfl⟩ nll
  ·refine wfn hc3<|Qam<|thn ?_
   obtain ⟨x5,hf4,h⟩:=bno h
   refine wx tbk [(2,rp [fu 94,(.tmp 14,(Zgl p0)),(.tmp 15,(.dat 4 ((p2:List GStream).map Qai)))] (I x5))] ⟨apv Zex (Qo3 N p0 p2 _ hf4) (nlc (NLt.agg _ (nlc (nld Qae _) (nlc (nld Qaa _) nl0))) (nlc (nld Qag _) nl0)) nll,tv⟩<|Qad ?_
   obtain rfl:=osi h
   exact fend ⟨[I x5],⟨rot,tv⟩,rfl⟩ nll
def Qjo (N:Nat) (p0:Int):Option Bool:=
  (Qci N p0 0 1000).bind fun x2=>
  some x2
theorem Qn1 (N:Nat) (p0:Int) (r:Bool) (h:Qjo N p0=some r):Spec Tryz.prog 150 [(I p0)] [] (B r) []:=by
  refine Qah Tryz.func150 rfl 0 (nle rfl) (fun X φ0 w0 hφ0 hd0=>?_)
  unfold Qjo at h
  refine wxz ?_
  obtain ⟨x2,hf1,h⟩:=bno h
  exact wx tbk [(1,rp [fu 137,(.tmp 3,I p0),ci 0,ci 1000] (B x2))] ⟨apv Qhk (Qcm N p0 0 1000 _ hf1) (nlcc (nlc nll nl0)) nll,tv⟩<|Qad<|frb h
def Qg4 (N:Nat) (p0:Int):Option Bool:=
  (Qjo N p0).bind fun x3=>
  some (!x3)
def Q7o:Slot:=.own 1 [[(.fn (.func 150) [] [])]]
theorem Qkx (N:Nat) (p0:Int) (r:Bool) (h:Qg4 N p0=some r):Spec Tryz.prog 157 [(I (p0)),(.ref 0 1 (0) 0)] [Q7o] (B (r)) [Q7o]:=by
  refine Qah Tryz.func157 rfl 1 (nle rfl) (fun X φ0 w0 hφ0 hd0=>?_)
  unfold Qg4 at h
  refine Qbh<|wxz ?_
  obtain ⟨x3,hf2,h⟩:=bno h
  refine wx tbk [(2,rp [(.tmp 4,(.fn (.func 150) [] [])),(.tmp 5,I p0)] (B x3))] ⟨apv Q87 (Qn1 N p0 _ hf2) (nlc nll nl0) nll,tv⟩ ?_
  refine wmr (mto (n:=8) (l':=[(3,(B ((!x3))))]) (own':=[Q7o]) [(3,(B ((!x3))))] [0] [Q7o] hφ0 (pw pn) (qb (lc (.rn (Qbd rn0 rn0)) ln) qn))<|Qad ?_
  obtain rfl:=osi h
  exact ⟨_,Mor.rfl,Qct (vs:=[(B ((!x3)))]) ⟨rot,tv⟩ rfl (NLt.of0 nll) (by kernel_rfl) (Qan (Qa7 (nlc (NLt.of0 (NLt.fn _ _ _ nl0 nl0)) nl0)) Qbi)⟩
def Qb5 (N:Nat) (p0:(List Int)) (k2:Unit→Option Int):Nat→Int→Option Int
  | 0,_=>none
  | n5+1,y3=>
    bif (decide (y3<(p0.length:Int))) then
     (getI p0 y3).bind fun x7=>
     (Qg4 N x7).bind fun x12=>
     bif x12 then
      some y3
     else
      Qb5 N p0 k2 n5 (w64 (y3+1))
    else
     k2 ()
def Qet (N:Nat) (p0:(List Int)):Option Int:=
  Qby (fun _=>
    some (-1)) fun k2:Unit→Option Int=>
  Qb5 N p0 k2 N 0
def Qv4 (p0:(List Int)):AV:=.dat 1 ((p0:List Int).map Qaj)
def Q0s:AV:=.fn (.func 157) [] [(.ref 0 1 (0) 0)]
def Qlk:Slot:=.own 1 [[(.fn (.func 150) [] [])]]
theorem Qhz (N:Nat) (p0:(List Int)) (r:Int) (h:Qet N p0=some r):Spec Tryz.prog 141 [(Qv4 p0),Q0s] [Qlk] (I (r)) [Qlk]:=by
  refine Qah Tryz.func141 rfl 1 (nle rfl) (fun X φ0 w0 hφ0 hd0=>?_)
  unfold Qet at h
  refine Qbh<|wxz ?_
  obtain ⟨k2,hk_k2,h⟩:=jko h
  refine wjn (τ:=Unit) (fun t=>k2 t=some r) (fun _=>⟨mk 19 [],[Qlk]⟩) (fun t h=>?_) ?_
  ·subst hk_k2
   refine wxz<|wmr (mto (n:=19) (l':=[(4,(I ((-1))))]) (own':=[Qlk]) [(4,(I ((-1))))] [0] [Qlk] hφ0 (pw pn) (qb (lc (.rn (Qbd rn0 rn0)) ln) qn))<|Qad ?_
   obtain rfl:=osi h
   exact ⟨_,Mor.rfl,Qct (vs:=[(I ((-1)))]) ⟨rot,tv⟩ rfl (NLt.of0 nll) (by kernel_rfl) (Qan (Qa7 (nlc (NLt.of0 (NLt.fn _ _ _ nl0 nl0)) nl0)) Qbi)⟩
  ·skip
   refine wx tbk [(1,rp [(.tmp 6,(Qv4 p0))] (I ((p0.length:Int))))] ⟨alm (c:=Qaj) (l:=p0) (aln rfl Tryz.underlying27 rfl),tv⟩<|Qal ?_
   refine wmr (mto (n:=19) (l':=[(0,(Qv4 p0)),(1,Q0s),(7,(I ((p0.length:Int)))),(8,I 0)]) (own':=[Qlk]) [(0,(Qv4 p0)),(1,Q0s),(7,(I ((p0.length:Int)))),(8,I 0)] [0] [Qlk] hφ0 (pc (rnd Qaf) (pc (.rn (Qbd rn0 (rnc (rqr rfl) rn0))) (pw (pw pn)))) (qb (lc (.rn (Qbd rn0 rn0)) ln) qn)) ?_
   refine Qbu (τ:=Int) (fun n t=>Qb5 N p0 k2 n t=some r) (fun y3=>⟨mk 19 [(0,(Qv4 p0)),(1,Q0s),(7,(I ((p0.length:Int)))),(8,I y3)],[Qlk]⟩) (fun t h=>by rw [Qb5] at h; cases h) (fun n5 ih y3 h=>?_) N (0) h
   rw [Qb5] at h
   skip
   refine wxz<|wsq ?_
   refine bfe h (fun hc6 h=>?_) fun hc6 h=>?_
   ·refine wft hc6<|Qam<|thn<|wsq<|Qal<|wxz ?_
    obtain ⟨x7,hg8,h⟩:=bno h
    obtain ⟨hi9,hj10⟩:=gsm hg8
    obtain ⟨x12,hf11,h⟩:=bno h
    refine wx tbk [(3,rp [(.tmp 12,(Qv4 p0)),(.tmp 13,I y3)] (.dptr (Qaj (x7)) 0)),(5,⟨[(.tmp 11,Q0s),(.tmp 15,I x7)],[(0,Qlk)],B x12,[(0,Qlk)],false⟩)] ⟨aid rfl Tryz.underlying27 ti3 rfl rfl hi9 (mgt Qaj hj10) rfl,Qat (first:=[]) (cap:=[.ref 0 1 0 0]) (vs:=[I x7]) (σr:=[Qlk]) (σr':=[Qlk]) (res':=(B x12)) [0] rfl Q81 (Qkx N x7 _ hf11) rfl (Qbn (rnc (.plain _ nll) (rnc (Qbb rfl) rn0))) (slc (Qao (rnc (.plain _ (NLt.fn _ _ _ nl0 nl0)) rn0)) Qas) (slc (Qao (rnc (.plain _ (NLt.fn _ _ _ nl0 nl0)) rn0)) Qas) (.plain _ nll) rfl rfl rfl,tv⟩ ?_
    refine bfe h (fun hc13 h=>?_) fun hc13 h=>?_
    ·refine wft hc13<|wxz ?_
     refine wmr (mto (n:=19) (l':=[(4,I y3)]) (own':=[Qlk]) [(4,I y3)] [0] [Qlk] hφ0 (pw pn) (qb (lc (.rn (Qbd rn0 rn0)) ln) qn))<|Qad<|Qak<|Qac<|Qac<|Qak<|Qac ?_
     obtain rfl:=osi h
     exact ⟨_,Mor.rfl,Qct (vs:=[I y3]) ⟨rot,tv⟩ rfl (NLt.of0 nll) (by kernel_rfl) (Qan (Qa7 (nlc (NLt.of0 (NLt.fn _ _ _ nl0 nl0)) nl0)) Qbi)⟩
    ·exact wfn hc13<|Qam<|bln<|thn<|wxz1<|thn<|arm (mto (n:=19) [(0,(Qv4 p0)),(1,Q0s),(7,(I ((p0.length:Int)))),(8,(I (w64 (y3+1))))] [0] [Qlk] hφ0 (pc (rnd Qaf) (pc (.rn (Qbd rn0 (rnc (rqr rfl) rn0))) (pw (pw pn)))) (qb (lc (.rn (Qbd rn0 rn0)) ln) qn)) (ih (w64 (y3+1)) h)
   ·exact wfn hc6<|Qbf<|Qav<|Qav<|Qbe rfl<|thn<|⟨(),h,(mto (n:=19) [] [0] [Qlk] hφ0 pn (qb (lc (.rn (Qbd rn0 rn0)) ln) qn))⟩
def Qd4 (N:Nat) (p0:(List Int)):Option Bool:=
  (Qet N p0).bind fun x3=>
  some (decide (x3≥0))
def Zc2 (p0:(List Int)):AV:=.dat 1 ((p0:List Int).map Qaj)
def Zc1:AV:=.fn (.func 157) [] [(.ref 0 1 (0) 0)]
def Qt3:Slot:=.own 1 [[(.fn (.func 150) [] [])]]
theorem Qg7 (N:Nat) (p0:(List Int)) (r:Bool) (h:Qd4 N p0=some r):Spec Tryz.prog 126 [(Zc2 p0),Zc1] [Qt3] (B (r)) [Qt3]:=by
  refine Qah Tryz.func126 rfl 1 (nle rfl) (fun X φ0 w0 hφ0 hd0=>?_)
  unfold Qd4 at h
  refine Qbh<|wxz ?_
  obtain ⟨x3,hf2,h⟩:=bno h
  refine wx tbk [(2,⟨[fu 141,(.tmp 5,(Zc2 p0)),(.tmp 6,Zc1)],[(0,Qt3)],I x3,[(0,Qt3)],false⟩)] ⟨Qat (first:=[]) (cap:=[]) (vs:=[(Zc2 p0),Zc1]) (σr:=[Qt3]) (σr':=[Qt3]) (res':=(I x3)) [0] rfl Qna (Qhz N p0 _ hf2) rfl (Qbn (rnc (pld Qaf) (rnc (Qbd rn0 (rnc (Qbb rfl) rn0)) rn0))) (slc (Qao (rnc (.plain _ (NLt.fn _ _ _ nl0 nl0)) rn0)) Qas) (slc (Qao (rnc (.plain _ (NLt.fn _ _ _ nl0 nl0)) rn0)) Qas) (.plain _ nll) rfl rfl rfl,tv⟩ ?_
  refine wmr (mto (n:=9) (l':=[(4,(B ((decide (x3≥0)))))]) (own':=[Qt3]) [(4,(B ((decide (x3≥0)))))] [0] [Qt3] hφ0 (pw pn) (qb (lc (.rn (Qbd rn0 rn0)) ln) qn))<|Qad ?_
  obtain rfl:=osi h
  exact ⟨_,Mor.rfl,Qct (vs:=[(B ((decide (x3≥0))))]) ⟨rot,tv⟩ rfl (NLt.of0 nll) (by kernel_rfl) (Qan (Qa7 (nlc (NLt.of0 (NLt.fn _ _ _ nl0 nl0)) nl0)) Qbi)⟩
def Qie (N:Nat) (p0:(List Int)):Option Bool:=
  (Qd4 N p0).bind fun x2=>
  some (!x2)
def Zc4 (p0:(List Int)):AV:=.dat 1 ((p0:List Int).map Qaj)
def Zc3:AV:=.fn (.func 157) [] [(.ref 0 1 (0) 0)]
def Q7p:Slot:=.own 1 [[(.fn (.func 150) [] [])]]
theorem Ql5 (N:Nat) (p0:(List Int)) (r:Bool) (h:Qie N p0=some r):Spec Tryz.prog 151 [(Zc4 p0),(.fn (.func 150) [] [])] [] (B (r)) []:=by
  refine Qah Tryz.func151 rfl 0 (nle rfl) (fun X φ0 w0 hφ0 hd0=>?_)
  unfold Qie at h
  refine wxz ?_
  obtain ⟨x2,hf1,h⟩:=bno h
  refine wx tbk [(1,rp [(.tmp 3,.ref 0 1 0 0)] Zc3),(2,⟨[fu 126,(.tmp 5,(Zc4 p0)),(.tmp 6,Zc3)],[(0,Q7p)],B x2,[(0,Q7p)],false⟩)] ⟨Qe5 (fs:=[]) (cs:=[.ref 0 1 0 0]) rfl rfl rfl rfl,Qat (first:=[]) (cap:=[]) (vs:=[(Zc4 p0),Zc3]) (σr:=[Q7p]) (σr':=[Q7p]) (res':=(B x2)) [0] rfl Qnb (Qg7 N p0 _ hf1) rfl (Qbn (rnc (pld Qaf) (rnc (Qbd rn0 (rnc (Qbb rfl) rn0)) rn0))) (slc (Qao (rnc (.plain _ (NLt.fn _ _ _ nl0 nl0)) rn0)) Qas) (slc (Qao (rnc (.plain _ (NLt.fn _ _ _ nl0 nl0)) rn0)) Qas) (.plain _ nll) rfl rfl rfl,tv⟩<|Qad ?_
  obtain rfl:=osi h
  exact fend ⟨[(B ((!x2)))],⟨rot,tv⟩,rfl⟩ nll
def Qjn (_N:Nat) (p0:Int):Option Bool:=
  some (decide (p0>0))
theorem Qn0 (N:Nat) (p0:Int) (r:Bool) (h:Qjn N p0=some r):Spec Tryz.prog 152 [(I p0)] [] (B r) []:=by
  refine Qah Tryz.func152 rfl 0 (nle rfl) (fun X φ0 w0 hφ0 hd0=>?_)
  unfold Qjn at h
  refine wxz<|wxz<|Qad ?_
  obtain rfl:=osi h
  exact fend ⟨[(B ((decide (p0>0))))],⟨rot,tv⟩,rfl⟩ nll
def Qb4 (N:Nat) (p0:(List Int)) (k1:Unit→Option Int):Nat→Int→Option Int
  | 0,_=>none
  | n4+1,y2=>
    bif (decide (y2<(p0.length:Int))) then
     (getI p0 y2).bind fun x6=>
     (Qjn N x6).bind fun x11=>
     bif x11 then
      some y2
     else
      Qb4 N p0 k1 n4 (w64 (y2+1))
    else
     k1 ()
def Qes (N:Nat) (p0:(List Int)):Option Int:=
  Qby (fun _=>
    some (-1)) fun k1:Unit→Option Int=>
  Qb4 N p0 k1 N 0
def Qv3 (p0:(List Int)):AV:=.dat 1 ((p0:List Int).map Qaj)
theorem Qhy (N:Nat) (p0:(List Int)) (r:Int) (h:Qes N p0=some r):Spec Tryz.prog 141 [(Qv3 p0),(.fn (.func 152) [] [])] [] (I (r)) []:=by
  refine Qah Tryz.func141 rfl 0 (nle rfl) (fun X φ0 w0 hφ0 hd0=>?_)
  unfold Qes at h
  refine wxz ?_
  obtain ⟨k1,hk_k1,h⟩:=jko h
  refine wjn (τ:=Unit) (fun t=>k1 t=some r) (fun _=>⟨mk 19 [],[]⟩) (fun t h=>?_) ?_
  ·subst hk_k1
   refine wxz<|Qad ?_
   obtain rfl:=osi h
   exact fend ⟨[(I ((-1)))],⟨rot,tv⟩,rfl⟩ nll
  ·skip
   refine wx tbk [(1,rp [(.tmp 6,(Qv3 p0))] (I ((p0.length:Int))))] ⟨alm (c:=Qaj) (l:=p0) (aln rfl Tryz.underlying27 rfl),tv⟩<|Qal ?_
   refine wmr (mto (n:=19) (l':=[(0,(Qv3 p0)),(1,(.fn (.func 152) [] [])),(7,(I ((p0.length:Int)))),(8,I 0)]) (own':=[]) [(0,(Qv3 p0)),(1,(.fn (.func 152) [] [])),(7,(I ((p0.length:Int)))),(8,I 0)] [] [] hφ0 (pc (rnd Qaf) (pc (.rn (Qbd rn0 rn0)) (pw (pw pn)))) qn) ?_
   refine Qbu (τ:=Int) (fun n t=>Qb4 N p0 k1 n t=some r) (fun y2=>⟨mk 19 [(0,(Qv3 p0)),(1,(.fn (.func 152) [] [])),(7,(I ((p0.length:Int)))),(8,I y2)],[]⟩) (fun t h=>by rw [Qb4] at h; cases h) (fun n4 ih y2 h=>?_) N (0) h
   rw [Qb4] at h
   skip
   refine wxz<|wsq ?_
   refine bfe h (fun hc5 h=>?_) fun hc5 h=>?_
   ·refine wft hc5<|Qam<|thn<|wsq<|Qal<|wxz ?_
    obtain ⟨x6,hg7,h⟩:=bno h
    obtain ⟨hi8,hj9⟩:=gsm hg7
    obtain ⟨x11,hf10,h⟩:=bno h
    refine wx tbk [(3,rp [(.tmp 12,(Qv3 p0)),(.tmp 13,I y2)] (.dptr (Qaj (x6)) 0)),(5,rp [(.tmp 11,(.fn (.func 152) [] [])),(.tmp 15,I x6)] (B x11))] ⟨aid rfl Tryz.underlying27 ti3 rfl rfl hi8 (mgt Qaj hj9) rfl,apv Q85 (Qn0 N x6 _ hf10) (nlc nll nl0) nll,tv⟩ ?_
    refine bfe h (fun hc12 h=>?_) fun hc12 h=>?_
    ·refine wft hc12<|wxz<|Qad<|Qak<|Qac<|Qac<|Qak<|Qac ?_
     obtain rfl:=osi h
     exact fend ⟨[I y2],⟨rot,tv⟩,rfl⟩ nll
    ·exact wfn hc12<|Qam<|bln<|thn<|wxz1<|thn<|arm (mto (n:=19) [(0,(Qv3 p0)),(1,(.fn (.func 152) [] [])),(7,(I ((p0.length:Int)))),(8,(I (w64 (y2+1))))] [] [] hφ0 (pc (rnd Qaf) (pc (.rn (Qbd rn0 rn0)) (pw (pw pn)))) qn) (ih (w64 (y2+1)) h)
   ·exact wfn hc5<|Qbf<|Qav<|Qav<|Qbe rfl<|thn<|⟨(),h,(mto (n:=19) [] [] [] hφ0 pn qn)⟩
def Qd3 (N:Nat) (p0:(List Int)):Option Bool:=
  (Qes N p0).bind fun x2=>
  some (decide (x2≥0))
def Zc0 (p0:(List Int)):AV:=.dat 1 ((p0:List Int).map Qaj)
theorem Qg6 (N:Nat) (p0:(List Int)) (r:Bool) (h:Qd3 N p0=some r):Spec Tryz.prog 126 [(Zc0 p0),(.fn (.func 152) [] [])] [] (B (r)) []:=by
  refine Qah Tryz.func126 rfl 0 (nle rfl) (fun X φ0 w0 hφ0 hd0=>?_)
  unfold Qd3 at h
  refine wxz ?_
  obtain ⟨x2,hf1,h⟩:=bno h
  refine wx tbk [(2,rp [fu 141,(.tmp 5,(Zc0 p0)),(.tmp 6,(.fn (.func 152) [] []))] (I x2))] ⟨Qat (first:=[]) (cap:=[]) (vs:=[(Zc0 p0),(.fn (.func 152) [] [])]) (σr:=[]) (σr':=[]) (res':=(I x2)) [] rfl Qna (Qhy N p0 _ hf1) rfl (Qbn (rnc (pld Qaf) (rnc (.plain _ (NLt.fn _ _ _ nl0 nl0)) rn0))) Qas Qas (.plain _ nll) rfl rfl rfl,tv⟩<|Qad ?_
  obtain rfl:=osi h
  exact fend ⟨[(B ((decide (x2≥0))))],⟨rot,tv⟩,rfl⟩ nll
def Qgb (_N:Nat) (p0:Int) (p1:Int) (p2:Int):Option Int:=
  chk (p2 != 0)<|
  some ((w64 (p1 * p0)).tmod p2)
theorem Qim (N:Nat) (p0:Int) (p1:Int) (p2:Int) (r:Int) (h:Qgb N p0 p1 p2=some r):Spec Tryz.prog 159 [(I (p0)),(.ref 0 1 (0) 0),(.ref 1 1 (0) 0)] [(.own 1 [[(I (p1))]]),(.own 1 [[(I (p2))]])] (I (r)) [(.own 1 [[(I (p1))]]),(.own 1 [[(I (p2))]])]:=by
  refine Qah Tryz.func159 rfl 2 (nle rfl) (fun X φ0 w0 hφ0 hd0=>?_)
  unfold Qgb at h
  refine Qbh<|wxz ?_
  obtain ⟨hz2,h⟩:=cko h
  refine wx tbk [(4,rp [(.tmp 7,(I (w64 (p1 * p0)))),(.tmp 8,I p2)] (I ((w64 (p1 * p0)).tmod p2)))] ⟨Q6o rfl (Qqs hz2),tv⟩ ?_
  refine wmr (mto (n:=10) (l':=[(4,(I ((w64 (p1 * p0)).tmod p2)))]) (own':=[(.own 1 [[I p1]]),(.own 1 [[I p2]])]) [(4,(I ((w64 (p1 * p0)).tmod p2)))] [0,1] [(.own 1 [[I p1]]),(.own 1 [[I p2]])] hφ0 (pw pn) (qb (lc rwl ln) (qb (lc rwl ln) qn)))<|Qad ?_
  obtain rfl:=osi h
  exact ⟨_,Mor.rfl,Qct (vs:=[(I ((w64 (p1 * p0)).tmod p2))]) ⟨rot,tv⟩ rfl (NLt.of0 nll) (by kernel_rfl) (Qan (Qa7 (nlc (NLt.of0 nll) nl0)) (Qan (Qa7 (nlc (NLt.of0 nll) nl0)) Qbi))⟩
def Qf5 (N:Nat) (p0:Int) (p1:Int) (p2:(List Int)) (p3:Int) (p4:Int):Option Int:=
  (getI p2 p1).bind fun x2=>
  (Qgb N x2 p3 p4).bind fun x7=>
  (getI p2 p0).bind fun x8=>
  (Qgb N x8 p3 p4).bind fun x13=>
  some (w64 (x7 - x13))
def Q0r:AV:=.fn (.func 159) [] [(.ref 2 1 (0) 0),(.ref 3 1 (0) 0)]
def Q0q (p2:(List Int)):AV:=.dat 1 ((p2:List Int).map Qaj)
theorem Qju (N:Nat) (p0:Int) (p1:Int) (p2:(List Int)) (p3:Int) (p4:Int) (r:Int) (h:Qf5 N p0 p1 p2 p3 p4=some r):Spec Tryz.prog 163 [(I (p0)),(I (p1)),(.ref 0 1 (0) 0),(.ref 1 1 (0) 0)] [(.own 1 [[Q0r]]),(.own 1 [[(Q0q p2)]]),(.own 1 [[(I (p3))]]),(.own 1 [[(I (p4))]])] (I (r)) [(.own 1 [[Q0r]]),(.own 1 [[(Q0q p2)]]),(.own 1 [[(I (p3))]]),(.own 1 [[(I (p4))]])]:=by
  refine Qah Tryz.func163 rfl 4 (nle rfl) (fun X φ0 w0 hφ0 hd0=>?_)
  unfold Qf5 at h
  refine Qbh<|wxz ?_
  obtain ⟨x2,hg3,h⟩:=bno h
  obtain ⟨hi4,hj5⟩:=gsm hg3
  obtain ⟨x7,hf6,h⟩:=bno h
  obtain ⟨x8,hg9,h⟩:=bno h
  obtain ⟨hi10,hj11⟩:=gsm hg9
  obtain ⟨x13,hf12,h⟩:=bno h
  refine wxd tbk [(3,rp [(.tmp 8,(Q0q p2)),(.tmp 9,I p1)] (.dptr (Qaj (x2)) 0)),(5,⟨[(.tmp 7,Q0r),(.tmp 11,I x2)],[(2,.own 1 [[I p3]]),(3,.own 1 [[I p4]])],I x7,[(2,.own 1 [[I p3]]),(3,.own 1 [[I p4]])],false⟩),(9,rp [(.tmp 14,(Q0q p2)),(.tmp 15,I p0)] (.dptr (Qaj (x8)) 0)),(11,⟨[(.tmp 13,Q0r),(.tmp 17,I x8)],[(2,.own 1 [[I p3]]),(3,.own 1 [[I p4]])],I x13,[(2,.own 1 [[I p3]]),(3,.own 1 [[I p4]])],false⟩)] ⟨aid rfl Tryz.underlying27 ti3 rfl rfl hi4 (mgt Qaj hj5) rfl,Qat (first:=[]) (cap:=[.ref 2 1 0 0,.ref 3 1 0 0]) (vs:=[I x2]) (σr:=[(.own 1 [[I p3]]),(.own 1 [[I p4]])]) (σr':=[(.own 1 [[I p3]]),(.own 1 [[I p4]])]) (res':=(I x7)) [2,3] rfl Qzt (Qim N x2 p3 p4 _ hf6) rfl (Qbn (rnc (.plain _ nll) (rnc (Qbb rfl) (rnc (Qbb rfl) rn0)))) (slc (Qao (rnc (.plain _ nll) rn0)) (slc (Qao (rnc (.plain _ nll) rn0)) Qas)) (slc (Qao (rnc (.plain _ nll) rn0)) (slc (Qao (rnc (.plain _ nll) rn0)) Qas)) (.plain _ nll) rfl rfl rfl,aid rfl Tryz.underlying27 ti3 rfl rfl hi10 (mgt Qaj hj11) rfl,Qat (first:=[]) (cap:=[.ref 2 1 0 0,.ref 3 1 0 0]) (vs:=[I x8]) (σr:=[(.own 1 [[I p3]]),(.own 1 [[I p4]])]) (σr':=[(.own 1 [[I p3]]),(.own 1 [[I p4]])]) (res':=(I x13)) [2,3] rfl Qzt (Qim N x8 p3 p4 _ hf12) rfl (Qbn (rnc (.plain _ nll) (rnc (Qbb rfl) (rnc (Qbb rfl) rn0)))) (slc (Qao (rnc (.plain _ nll) rn0)) (slc (Qao (rnc (.plain _ nll) rn0)) Qas)) (slc (Qao (rnc (.plain _ nll) rn0)) (slc (Qao (rnc (.plain _ nll) rn0)) Qas)) (.plain _ nll) rfl rfl rfl,tv⟩ ?_
  refine wmr (mto (n:=20) (l':=[(6,(I (w64 (x7 - x13))))]) (own':=[(.own 1 [[Q0r]]),(.own 1 [[(Q0q p2)]]),(.own 1 [[I p3]]),(.own 1 [[I p4]])]) [(6,(I (w64 (x7 - x13))))] [0,1,2,3] [(.own 1 [[Q0r]]),(.own 1 [[(Q0q p2)]]),(.own 1 [[I p3]]),(.own 1 [[I p4]])] hφ0 (pw pn) (qb (lc (.rn (Qbd rn0 (rnc (rqr rfl) (rnc (rqr rfl) rn0)))) ln) (qb (lc (rnd Qaf) ln) (qb (lc rwl ln) (qb (lc rwl ln) qn)))))<|Qad ?_
  obtain rfl:=osi h
  exact ⟨_,Mor.rfl,Qct (vs:=[(I (w64 (x7 - x13)))]) ⟨rot,tv⟩ rfl (NLt.of0 nll) (by kernel_rfl) (Qan (Qa7 (nlc (NLt.fn _ _ _ nl0 (nlc (NLt.ref _ _ _ _ (by decide)) (nlc (NLt.ref _ _ _ _ (by decide)) nl0))) nl0)) (Qan (Qa7 (nlc (NLt.of0 (nld Qaf _)) nl0)) (Qan (Qa7 (nlc (NLt.of0 nll) nl0)) (Qan (Qa7 (nlc (NLt.of0 nll) nl0)) Qbi))))⟩
def Qbl (N:Nat) (p0:Nat) (p1:Int) (p4:(List Int)) (p5:Int) (p6:Int) (k9:(List Int)→Option (List Int)):Nat→Int→(List Int)→Option (List Int)
  | 0,_,_=>none
  | n14+1,y10,y11=>
    Qby (fun _=>
      chk (decide (0≤w64 (y10 - 1))&&decide ((w64 (y10 - 1)).toNat<p0))<|
      (y11[(w64 (y10 - 1)).toNat]?).bind fun x17=>
      chk (decide (0≤y10)&&decide (y10.toNat<p0))<|
      (y11[y10.toNat]?).bind fun x20=>
      chk (decide (0≤y10)&&decide (y10.toNat<p0))<|
      (y11[y10.toNat]?).bind fun _=>
      chk (decide (0≤w64 (y10 - 1))&&decide ((w64 (y10 - 1)).toNat<p0))<|
      ((y11.set y10.toNat x17)[(w64 (y10 - 1)).toNat]?).bind fun _=>
      Qbl N p0 p1 p4 p5 p6 k9 n14 (w64 (y10 - 1)) ((y11.set y10.toNat x17).set ((w64 (y10 - 1)).toNat) x20)) fun k15:Unit→Option (List Int)=>
    bif (decide (y10>p1)) then
     chk (decide (0≤y10)&&decide (y10.toNat<p0))<|
     (y11[y10.toNat]?).bind fun x30=>
     chk (decide (0≤w64 (y10 - 1))&&decide ((w64 (y10 - 1)).toNat<p0))<|
     (y11[(w64 (y10 - 1)).toNat]?).bind fun x33=>
     (Qf5 N x30 x33 p4 p5 p6).bind fun x36=>
     bif (decide (x36<0)) then
      k15 ()
     else
      k9 (y11)
    else
     k9 (y11)
def Qbm (N:Nat) (p0:Nat) (p1:Int) (p2:Int) (p4:(List Int)) (p5:Int) (p6:Int):Nat→Int→(List Int)→Option (List Int)
  | 0,_,_=>none
  | n6+1,y2,y3=>
    bif (decide (y2<p2)) then
     Qby (fun y8=>
       Qbm N p0 p1 p2 p4 p5 p6 n6 (w64 (y2+1)) y8) fun k9:(List Int)→Option (List Int)=>
     Qbl N p0 p1 p4 p5 p6 k9 N y2 y3
    else
     some y3
def Qcn (N:Nat) (p0:Nat) (p1:Int) (p2:Int) (p3:(List Int)) (p4:(List Int)) (p5:Int) (p6:Int):Option (List Int):=
  Qbm N p0 p1 p2 p4 p5 p6 N (w64 (p1+1)) p3
def Ql0:AV:=.fn (.func 163) [] [(.ref 1 1 (0) 0),(.ref 2 1 (0) 0)]
def Zcv (p3:(List Int)):Slot:=.own 1 ((p3:List Int).map Qaj)
def Qjj:AV:=.fn (.func 159) [] [(.ref 3 1 (0) 0),(.ref 4 1 (0) 0)]
def Qji (p4:(List Int)):AV:=.dat 1 ((p4:List Int).map Qaj)
def Q3o (y3:(List Int)):Slot:=.own 1 ((y3:List Int).map Qaj)
def Qiu (y11:(List Int)):Slot:=.own 1 ((y11:List Int).map Qaj)
theorem Qee (N:Nat) (p0:Nat) (p1:Int) (p2:Int) (p3:(List Int)) (p4:(List Int)) (p5:Int) (p6:Int) (r:(List Int)) (h:Qcn N p0 p1 p2 p3 p4 p5 p6=some r):Spec Tryz.prog 165 [(.own 0 1 (0) (p0)),(I (p1)),(I (p2)),Ql0] [(Zcv p3),(.own 1 [[Qjj]]),(.own 1 [[(Qji p4)]]),(.own 1 [[(I (p5))]]),(.own 1 [[(I (p6))]])] (.tup []) [(.own 1 ((r:List Int).map Qaj)),(.own 1 [[Qjj]]),(.own 1 [[(Qji p4)]]),(.own 1 [[(I (p5))]]),(.own 1 [[(I (p6))]])]:=by
  refine Qah Tryz.func165 rfl 5 (nle rfl) (fun X φ0 w0 hφ0 hd0=>?_)
  unfold Qcn at h
  refine Qbh<|wxz<|Qal ?_
  refine wmr (mto (n:=53) (l':=[(0,(.own 0 1 (0) (p0))),(1,I p1),(2,I p2),(3,Ql0),(8,(I ((w64 (p1+1)))))]) (own':=[(Zcv p3),(.own 1 [[Qjj]]),(.own 1 [[(Qji p4)]]),(.own 1 [[I p5]]),(.own 1 [[I p6]])]) [(0,(.own 0 1 (0) (p0))),(1,I p1),(2,I p2),(3,Ql0),(8,(I (w64 (p1+1))))] [0,1,2,3,4] [(Zcv p3),(.own 1 [[Qjj]]),(.own 1 [[(Qji p4)]]),(.own 1 [[I p5]]),(.own 1 [[I p6]])] hφ0 (pc (.rn (Qa0 rfl)) (pw (pw (pc (.rn (Qbd rn0 (rnc (rqr rfl) (rnc (rqr rfl) rn0)))) (pw pn))))) (qc (spr Qaf) (qb (lc (.rn (Qbd rn0 (rnc (rqr rfl) (rnc (rqr rfl) rn0)))) ln) (qb (lc (rnd Qaf) ln) (qb (lc rwl ln) (qb (lc rwl ln) qn)))))) ?_
  refine Qbu (τ:=Int×(List Int)) (fun n t=>Qbm N p0 p1 p2 p4 p5 p6 n t.1 t.2=some r) (fun ⟨y2,y3⟩=>⟨mk 53 [(0,(.own 0 1 (0) (p0))),(1,I p1),(2,I p2),(3,Ql0),(8,I y2)],[(Q3o y3),(.own 1 [[Qjj]]),(.own 1 [[(Qji p4)]]),(.own 1 [[I p5]]),(.own 1 [[I p6]])]⟩) (fun t h=>by rw [Qbm] at h; cases h) (fun n6 ih t h=>?_) N (w64 (p1+1),p3) h
  obtain ⟨y2,y3⟩:=t
  rw [Qbm] at h
  skip
  refine wsq<|wxz ?_
  refine bfe h (fun hc7 h=>?_) fun hc7 h=>?_
  ·refine wft hc7<|Qam<|thn ?_
   obtain ⟨k9,hk_k9,h⟩:=jko h
   refine wjn (τ:=(List Int)) (fun t=>k9 t=some r) (fun y8=>⟨mk 53 [(0,(.own 0 1 (0) (p0))),(1,I p1),(2,I p2),(3,Ql0),(8,I y2)],[(.own 1 ((y8:List Int).map Qaj)),(.own 1 [[Qjj]]),(.own 1 [[(Qji p4)]]),(.own 1 [[I p5]]),(.own 1 [[I p6]])]⟩) (fun y8 h=>?_) ?_
   ·subst hk_k9
    exact wxz1<|thn<|arm (mto (n:=53) [(0,(.own 0 1 (0) (p0))),(1,I p1),(2,I p2),(3,Ql0),(8,(I (w64 (y2+1))))] [0,1,2,3,4] [(.own 1 ((y8:List Int).map Qaj)),(.own 1 [[Qjj]]),(.own 1 [[(Qji p4)]]),(.own 1 [[I p5]]),(.own 1 [[I p6]])] hφ0 (pc (.rn (Qa0 rfl)) (pw (pw (pc (.rn (Qbd rn0 (rnc (rqr rfl) (rnc (rqr rfl) rn0)))) (pw pn))))) (qc (spr Qaf) (qb (lc (.rn (Qbd rn0 (rnc (rqr rfl) (rnc (rqr rfl) rn0)))) ln) (qb (lc (rnd Qaf) ln) (qb (lc rwl ln) (qb (lc rwl ln) qn)))))) (ih (w64 (y2+1),y8) h)
   ·skip
    refine Qal<|wxz<|Qal ?_
    refine wmr (mto (n:=53) (l':=[(0,(.own 0 1 (0) (p0))),(1,I p1),(2,I p2),(3,Ql0),(8,I y2),(9,I y2)]) (own':=[(Q3o y3),(.own 1 [[Qjj]]),(.own 1 [[(Qji p4)]]),(.own 1 [[I p5]]),(.own 1 [[I p6]])]) [(0,(.own 0 1 (0) (p0))),(1,I p1),(2,I p2),(3,Ql0),(8,I y2),(9,I y2)] [0,1,2,3,4] [(Q3o y3),(.own 1 [[Qjj]]),(.own 1 [[(Qji p4)]]),(.own 1 [[I p5]]),(.own 1 [[I p6]])] hφ0 (pc (.rn (Qa0 rfl)) (pw (pw (pc (.rn (Qbd rn0 (rnc (rqr rfl) (rnc (rqr rfl) rn0)))) (pw (pw pn)))))) (qc (spr Qaf) (qb (lc (.rn (Qbd rn0 (rnc (rqr rfl) (rnc (rqr rfl) rn0)))) ln) (qb (lc (rnd Qaf) ln) (qb (lc rwl ln) (qb (lc rwl ln) qn)))))) ?_
    refine Qbu (τ:=Int×(List Int)) (fun n t=>Qbl N p0 p1 p4 p5 p6 k9 n t.1 t.2=some r) (fun ⟨y10,y11⟩=>⟨mk 53 [(0,(.own 0 1 (0) (p0))),(1,I p1),(2,I p2),(3,Ql0),(8,I y2),(9,I y10)],[(Qiu y11),(.own 1 [[Qjj]]),(.own 1 [[(Qji p4)]]),(.own 1 [[I p5]]),(.own 1 [[I p6]])]⟩) (fun t h=>by rw [Qbl] at h; cases h) (fun n14 ih t h=>?_) N (y2,y3) h
    obtain ⟨y10,y11⟩:=t
    rw [Qbl] at h
    skip
    obtain ⟨k15,hk_k15,h⟩:=jko h
    refine wjn (τ:=Unit) (fun t=>k15 t=some r) (fun _=>⟨mk 53 [(0,(.own 0 1 (0) (p0))),(1,I p1),(2,I p2),(3,Ql0),(8,I y2),(9,I y10)],[(Qiu y11),(.own 1 [[Qjj]]),(.own 1 [[(Qji p4)]]),(.own 1 [[I p5]]),(.own 1 [[I p6]])]⟩) (fun t h=>?_) ?_
    ·subst hk_k15
     refine wsq<|Qal ?_
     obtain ⟨hi16,h⟩:=cko h
     obtain ⟨hi16a,hi16b⟩:=Qdu hi16
     obtain ⟨x17,hg18,h⟩:=bno h
     obtain ⟨hi19,h⟩:=cko h
     obtain ⟨hi19a,hi19b⟩:=Qdu hi19
     obtain ⟨x20,hg21,h⟩:=bno h
     obtain ⟨hi22,h⟩:=cko h
     obtain ⟨hi22a,hi22b⟩:=Qdu hi22
     obtain ⟨x23,hg24,h⟩:=bno h
     obtain ⟨hi25,h⟩:=cko h
     obtain ⟨hi25a,hi25b⟩:=Qdu hi25
     obtain ⟨x26,hg27,h⟩:=bno h
     refine wy1 tbk [(8,rb [(.tmp 42,(.own 0 1 (0) (p0))),(.tmp 44,(I (w64 (y10 - 1))))] [(0,(Qiu y11))] (.ref 0 1 ((w64 (y10 - 1)).toNat) 0)),(9,rb [(.tmp 45,(.ref 0 1 ((w64 (y10 - 1)).toNat) 0))] [(0,(Qiu y11))] (I x17)),(12,rb [(.tmp 47,(.own 0 1 (0) (p0))),(.tmp 48,I y10)] [(0,(Qiu y11))] (.ref 0 1 (y10.toNat) 0)),(13,rb [(.tmp 49,(.ref 0 1 (y10.toNat) 0))] [(0,(Qiu y11))] (I x20)),(14,rb [(.tmp 37,(.own 0 1 (0) (p0))),(.tmp 38,I y10)] [(0,(Qiu y11))] (.ref 0 1 (y10.toNat) 0)),(15,⟨[(.tmp 51,(.ref 0 1 (y10.toNat) 0)),(.tmp 46,I x17)],[(0,(Qiu y11))],.any,[(0,(.own 1 ((y11.set y10.toNat x17:List Int).map Qaj)))],false⟩),(16,rb [(.tmp 39,(.own 0 1 (0) (p0))),(.tmp 41,(I (w64 (y10 - 1))))] [(0,(.own 1 ((y11.set y10.toNat x17:List Int).map Qaj)))] (.ref 0 1 ((w64 (y10 - 1)).toNat) 0)),(17,⟨[(.tmp 52,(.ref 0 1 ((w64 (y10 - 1)).toNat) 0)),(.tmp 50,I x20)],[(0,(.own 1 ((y11.set y10.toNat x17:List Int).map Qaj)))],.any,[(0,(.own 1 (((y11.set y10.toNat x17).set ((w64 (y10 - 1)).toNat) x20:List Int).map Qaj)))],false⟩)] ⟨aio rfl Tryz.underlying27 ti3 (odt hi16a) (odt hi16b) (Nat.zero_add _),ald rfl ti3 (by decide) (mgt Qaj hg18) (nle rfl) rfl,aio rfl Tryz.underlying27 ti3 (odt hi19a) (odt hi19b) (Nat.zero_add _),ald rfl ti3 (by decide) (mgt Qaj hg21) (nle rfl) rfl,aio rfl Tryz.underlying27 ti3 (odt hi22a) (odt hi22b) (Nat.zero_add _),ast rfl ti3 (by rfl) (mgt Qaj hg24) (nle rfl) (Qfm Qaj rfl),aio rfl Tryz.underlying27 ti3 (odt hi25a) (odt hi25b) (Nat.zero_add _),ast rfl ti3 (by rfl) (mgt Qaj hg27) (nle rfl) (Qfm Qaj rfl),tv⟩<|bln<|thn<|wxz1<|thn ?_
     exact arm (mto (n:=53) [(0,(.own 0 1 (0) (p0))),(1,I p1),(2,I p2),(3,Ql0),(8,I y2),(9,(I (w64 (y10 - 1))))] [0,1,2,3,4] [(.own 1 (((y11.set y10.toNat x17).set ((w64 (y10 - 1)).toNat) x20:List Int).map Qaj)),(.own 1 [[Qjj]]),(.own 1 [[(Qji p4)]]),(.own 1 [[I p5]]),(.own 1 [[I p6]])] hφ0 (pc (.rn (Qa0 rfl)) (pw (pw (pc (.rn (Qbd rn0 (rnc (rqr rfl) (rnc (rqr rfl) rn0)))) (pw (pw pn)))))) (qc (spr Qaf) (qb (lc (.rn (Qbd rn0 (rnc (rqr rfl) (rnc (rqr rfl) rn0)))) ln) (qb (lc (rnd Qaf) ln) (qb (lc rwl ln) (qb (lc rwl ln) qn)))))) (ih (w64 (y10 - 1),(y11.set y10.toNat x17).set ((w64 (y10 - 1)).toNat) x20) h)
    ·skip
     refine bfe h (fun hb28 h=>?_) fun hb28 h=>?_
     ·obtain ⟨hi29,h⟩:=cko h
      obtain ⟨hi29a,hi29b⟩:=Qdu hi29
      obtain ⟨x30,hg31,h⟩:=bno h
      obtain ⟨hi32,h⟩:=cko h
      obtain ⟨hi32a,hi32b⟩:=Qdu hi32
      obtain ⟨x33,hg34,h⟩:=bno h
      obtain ⟨x36,hf35,h⟩:=bno h
      refine wxd tbk [(3,rp [(.tmp 20,(B ((decide (y10>p1)))))] (B true)),(7,rb [(.tmp 21,B true),(.tmp 23,(.own 0 1 (0) (p0))),(.tmp 24,I y10)] [(0,(Qiu y11))] (.ref 0 1 (y10.toNat) 0)),(8,rb [(.tmp 21,B true),(.tmp 25,(.ref 0 1 (y10.toNat) 0))] [(0,(Qiu y11))] (I x30)),(12,rb [(.tmp 21,B true),(.tmp 27,(.own 0 1 (0) (p0))),(.tmp 29,(I (w64 (y10 - 1))))] [(0,(Qiu y11))] (.ref 0 1 ((w64 (y10 - 1)).toNat) 0)),(13,rb [(.tmp 21,B true),(.tmp 30,(.ref 0 1 ((w64 (y10 - 1)).toNat) 0))] [(0,(Qiu y11))] (I x33)),(14,⟨[(.tmp 21,B true),(.tmp 22,Ql0),(.tmp 26,I x30),(.tmp 31,I x33)],[(1,.own 1 [[Qjj]]),(2,(.own 1 [[(Qji p4)]])),(3,.own 1 [[I p5]]),(4,.own 1 [[I p6]])],I x36,[(1,.own 1 [[Qjj]]),(2,(.own 1 [[(Qji p4)]])),(3,.own 1 [[I p5]]),(4,.own 1 [[I p6]])],false⟩)] ⟨asb hb28 (amv rfl),ag_ (aio rfl Tryz.underlying27 ti3 (odt hi29a) (odt hi29b) (Nat.zero_add _)),ag_ (ald rfl ti3 (by decide) (mgt Qaj hg31) (nle rfl) rfl),ag_ (aio rfl Tryz.underlying27 ti3 (odt hi32a) (odt hi32b) (Nat.zero_add _)),ag_ (ald rfl ti3 (by decide) (mgt Qaj hg34) (nle rfl) rfl),ag_ (Qat (first:=[]) (cap:=[.ref 1 1 0 0,.ref 2 1 0 0]) (vs:=[I x30,I x33]) (σr:=[(.own 1 [[Qjj]]),(.own 1 [[(Qji p4)]]),(.own 1 [[I p5]]),(.own 1 [[I p6]])]) (σr':=[(.own 1 [[Qjj]]),(.own 1 [[(Qji p4)]]),(.own 1 [[I p5]]),(.own 1 [[I p6]])]) (res':=(I x36)) [1,2,3,4] rfl Q8x (Qju N x30 x33 p4 p5 p6 _ hf35) rfl (Qbn (rncc (rnc (Qbb rfl) (rnc (Qbb rfl) rn0)))) (slc (Qao (rnc (Qbd rn0 (rnc (Qbb rfl) (rnc (Qbb rfl) rn0))) rn0)) (slc (Qao (rnc (pld Qaf) rn0)) (slc (Qao (rnc (.plain _ nll) rn0)) (slc (Qao (rnc (.plain _ nll) rn0)) Qas)))) (slc (Qao (rnc (Qbd rn0 (rnc (Qbg rfl) (rnc (Qbg rfl) rn0))) rn0)) (slc (Qao (rnc (pld Qaf) rn0)) (slc (Qao (rnc (.plain _ nll) rn0)) (slc (Qao (rnc (.plain _ nll) rn0)) Qas)))) (.plain _ nll) rfl rfl rfl),tv⟩ ?_
      refine bfe h (fun hc37 h=>?_) fun hc37 h=>?_
      ·exact wft hc37<|Qam<|thn<|⟨(),h,(mto (n:=53) [(0,(.own 0 1 (0) (p0))),(1,I p1),(2,I p2),(3,Ql0),(8,I y2),(9,I y10)] [0,1,2,3,4] [(Qiu y11),(.own 1 [[Qjj]]),(.own 1 [[(Qji p4)]]),(.own 1 [[I p5]]),(.own 1 [[I p6]])] hφ0 (pc (.rn (Qa0 rfl)) (pw (pw (pc (.rn (Qbd rn0 (rnc (rqr rfl) (rnc (rqr rfl) rn0)))) (pw (pw pn)))))) (qc (spr Qaf) (qb (lc (.rn (Qbd rn0 (rnc (rqr rfl) (rnc (rqr rfl) rn0)))) ln) (qb (lc (rnd Qaf) ln) (qb (lc rwl ln) (qb (lc rwl ln) qn))))))⟩
      ·exact wfn hc37<|Qbf<|Qav<|Qav<|Qbe rfl<|bln<|thn<|⟨(y11),h,(mto (n:=53) [(0,(.own 0 1 (0) (p0))),(1,I p1),(2,I p2),(3,Ql0),(8,I y2)] [0,1,2,3,4] [(Qiu y11),(.own 1 [[Qjj]]),(.own 1 [[(Qji p4)]]),(.own 1 [[I p5]]),(.own 1 [[I p6]])] hφ0 (pc (.rn (Qa0 rfl)) (pw (pw (pc (.rn (Qbd rn0 (rnc (rqr rfl) (rnc (rqr rfl) rn0)))) (pw pn))))) (qc (spr Qaf) (qb (lc (.rn (Qbd rn0 (rnc (rqr rfl) (rnc (rqr rfl) rn0)))) ln) (qb (lc (rnd Qaf) ln) (qb (lc rwl ln) (qb (lc rwl ln) qn))))))⟩
     ·exact wxd tbk [(3,rp [(.tmp 20,(B ((decide (y10>p1)))))] (B false))] ⟨asb hb28 (amv rfl),tv⟩<|wfa<|Qbf<|Qav<|Qav<|Qbe rfl<|bln<|thn<|⟨(y11),h,(mto (n:=53) [(0,(.own 0 1 (0) (p0))),(1,I p1),(2,I p2),(3,Ql0),(8,I y2)] [0,1,2,3,4] [(Qiu y11),(.own 1 [[Qjj]]),(.own 1 [[(Qji p4)]]),(.own 1 [[I p5]]),(.own 1 [[I p6]])] hφ0 (pc (.rn (Qa0 rfl)) (pw (pw (pc (.rn (Qbd rn0 (rnc (rqr rfl) (rnc (rqr rfl) rn0)))) (pw pn))))) (qc (spr Qaf) (qb (lc (.rn (Qbd rn0 (rnc (rqr rfl) (rnc (rqr rfl) rn0)))) ln) (qb (lc (rnd Qaf) ln) (qb (lc rwl ln) (qb (lc rwl ln) qn))))))⟩
  ·refine wfn hc7<|Qbf<|Qav<|Qav<|Qbe rfl ?_
   obtain rfl:=osi h
   exact ⟨_,(mto (n:=53) (l':=[]) (own':=[(Q3o y3),(.own 1 [[Qjj]]),(.own 1 [[(Qji p4)]]),(.own 1 [[I p5]]),(.own 1 [[I p6]])]) [] [0,1,2,3,4] [(Q3o y3),(.own 1 [[Qjj]]),(.own 1 [[(Qji p4)]]),(.own 1 [[I p5]]),(.own 1 [[I p6]])] hφ0 pn (qc (spr Qaf) (qb (lc (.rn (Qbd rn0 (rnc (rqr rfl) (rnc (rqr rfl) rn0)))) ln) (qb (lc (rnd Qaf) ln) (qb (lc rwl ln) (qb (lc rwl ln) qn)))))),Qct (vs:=[]) tv rfl (NLt.tup _ nl0) (by kernel_rfl) (Qan (Qbw Qaf _) (Qan (Qa7 (nlc (NLt.fn _ _ _ nl0 (nlc (NLt.ref _ _ _ _ (by decide)) (nlc (NLt.ref _ _ _ _ (by decide)) nl0))) nl0)) (Qan (Qa7 (nlc (NLt.of0 (nld Qaf _)) nl0)) (Qan (Qa7 (nlc (NLt.of0 nll) nl0)) (Qan (Qa7 (nlc (NLt.of0 nll) nl0)) Qbi)))))⟩
def Qcp (N:Nat) (p1:Int) (k9:Unit→Option (List Int)):Nat→Option (List Int)
  | 0=>none
  | n10+1=>
    bif (decide (40≤p1)) then
     none
    else
     k9 ()
def Qcq (N:Nat) (p1:Int) (x6:(List Int)):Nat→Option (List Int)
  | 0=>none
  | n7+1=>
    bif (decide (20<p1)) then
     Qby (fun _=>
       none) fun k9:Unit→Option (List Int)=>
     Qcp N p1 k9 N
    else
     some x6
def Qb2 (N:Nat) (p0:Nat) (p1:Int) (p3:(List Int)) (k4:Int×(List Int)→Option (List Int)) (p4:Int) (p5:Int):Nat→Int→Int→(List Int)→Option (List Int)
  | 0,_,_,_=>none
  | n18+1,y12,y13,y14=>
    bif (decide (y13≤p1)) then
     (Qcn N p0 y12 y13 y14 p3 p4 p5).bind fun x21=>
     Qb2 N p0 p1 p3 k4 p4 p5 n18 y13 (w64 (y13+20)) x21
    else
     k4 (y12,y14)
def Qer (N:Nat) (p0:Nat) (p1:Int) (p2:(List Int)) (p3:(List Int)) (p4:Int) (p5:Int):Option (List Int):=
  Qby (fun ⟨y2,y3⟩=>
    (Qcn N p0 y2 p1 y3 p3 p4 p5).bind fun x6=>
    Qcq N p1 x6 N) fun k4:Int×(List Int)→Option (List Int)=>
  Qb2 N p0 p1 p3 k4 p4 p5 N 0 20 p2
def Qj8:AV:=.fn (.func 163) [] [(.ref 1 1 (0) 0),(.ref 2 1 (0) 0)]
def Zcx (p2:(List Int)):Slot:=.own 1 ((p2:List Int).map Qaj)
def Qhv:AV:=.fn (.func 159) [] [(.ref 3 1 (0) 0),(.ref 4 1 (0) 0)]
def Qhu (p3:(List Int)):AV:=.dat 1 ((p3:List Int).map Qaj)
def Zcw (y3:(List Int)):Slot:=.own 1 ((y3:List Int).map Qaj)
def Qow (x6:(List Int)):Slot:=.own 1 ((x6:List Int).map Qaj)
def Qym (y14:(List Int)):Slot:=.own 1 ((y14:List Int).map Qaj)
theorem Qhx (N:Nat) (p0:Nat) (p1:Int) (p2:(List Int)) (p3:(List Int)) (p4:Int) (p5:Int) (r:(List Int)) (h:Qer N p0 p1 p2 p3 p4 p5=some r):Spec Tryz.prog 164 [(.own 0 1 (0) (p0)),(I (p1)),Qj8] [(Zcx p2),(.own 1 [[Qhv]]),(.own 1 [[(Qhu p3)]]),(.own 1 [[(I (p4))]]),(.own 1 [[(I (p5))]])] (.tup []) [(.own 1 ((r:List Int).map Qaj)),(.own 1 [[Qhv]]),(.own 1 [[(Qhu p3)]]),(.own 1 [[(I (p4))]]),(.own 1 [[(I (p5))]])]:=by
  refine Qah Tryz.func164 rfl 5 (nle rfl) (fun X φ0 w0 hφ0 hd0=>?_)
  unfold Qer at h
  refine Qbh<|wxz<|wxz ?_
  obtain ⟨k4,hk_k4,h⟩:=jko h
  refine wjn (τ:=Int×(List Int)) (fun t=>k4 t=some r) (fun ⟨y2,y3⟩=>⟨mk 63 [(0,(.own 0 1 (0) (p0))),(1,I p1),(2,Qj8),(6,I 20),(7,I y2)],[(Zcw y3),(.own 1 [[Qhv]]),(.own 1 [[(Qhu p3)]]),(.own 1 [[I p4]]),(.own 1 [[I p5]])]⟩) (fun t h=>?_) ?_
  ·subst hk_k4
   obtain ⟨y2,y3⟩:=t
   obtain ⟨x6,hf5,h⟩:=bno h
   refine wx tbk [(4,⟨[fu 165,(.tmp 23,(.own 0 1 (0) (p0))),(.tmp 24,I y2),(.tmp 25,I p1),(.tmp 26,Qj8)],[(0,(Zcw y3)),(1,.own 1 [[Qhv]]),(2,(.own 1 [[(Qhu p3)]])),(3,.own 1 [[I p4]]),(4,.own 1 [[I p5]])],(.tup []),[(0,(Qow x6)),(1,.own 1 [[Qhv]]),(2,(.own 1 [[(Qhu p3)]])),(3,.own 1 [[I p4]]),(4,.own 1 [[I p5]])],false⟩)] ⟨Qat (first:=[]) (cap:=[]) (vs:=[(.own 0 1 (0) (p0)),I y2,I p1,Qj8]) (σr:=[(Zcw y3),(.own 1 [[Qhv]]),(.own 1 [[(Qhu p3)]]),(.own 1 [[I p4]]),(.own 1 [[I p5]])]) (σr':=[(Qow x6),(.own 1 [[Qhv]]),(.own 1 [[(Qhu p3)]]),(.own 1 [[I p4]]),(.own 1 [[I p5]])]) (res':=(.tup [])) [0,1,2,3,4] rfl Qzs (Qee N p0 y2 p1 y3 p3 p4 p5 _ hf5) rfl (Qbn (rnc (Qco rfl) (rncc (rnc (Qbd rn0 (rnc (Qbb rfl) (rnc (Qbb rfl) rn0))) rn0)))) (slc (Qa3 Qaf) (slc (Qao (rnc (Qbd rn0 (rnc (Qbb rfl) (rnc (Qbb rfl) rn0))) rn0)) (slc (Qao (rnc (pld Qaf) rn0)) (slc (Qao (rnc (.plain _ nll) rn0)) (slc (Qao (rnc (.plain _ nll) rn0)) Qas))))) (slc (Qa3 Qaf) (slc (Qao (rnc (Qbd rn0 (rnc (Qbg rfl) (rnc (Qbg rfl) rn0))) rn0)) (slc (Qao (rnc (pld Qaf) rn0)) (slc (Qao (rnc (.plain _ nll) rn0)) (slc (Qao (rnc (.plain _ nll) rn0)) Qas))))) (.plain _ (NLt.tup _ nl0)) rfl rfl rfl,tv⟩<|Qal ?_
   refine wmr (mto (n:=63) (l':=[(0,(.own 0 1 (0) (p0))),(1,I p1),(2,Qj8),(6,I 20)]) (own':=[(Qow x6),(.own 1 [[Qhv]]),(.own 1 [[(Qhu p3)]]),(.own 1 [[I p4]]),(.own 1 [[I p5]])]) [(0,(.own 0 1 (0) (p0))),(1,I p1),(2,Qj8),(6,I 20)] [0,1,2,3,4] [(Qow x6),(.own 1 [[Qhv]]),(.own 1 [[(Qhu p3)]]),(.own 1 [[I p4]]),(.own 1 [[I p5]])] hφ0 (pc (.rn (Qa0 rfl)) (pw (pc (.rn (Qbd rn0 (rnc (rqr rfl) (rnc (rqr rfl) rn0)))) (pw pn)))) (qc (spr Qaf) (qb (lc (.rn (Qbd rn0 (rnc (rqr rfl) (rnc (rqr rfl) rn0)))) ln) (qb (lc (rnd Qaf) ln) (qb (lc rwl ln) (qb (lc rwl ln) qn)))))) ?_
   refine Qbu (τ:=Unit) (fun n t=>Qcq N p1 x6 n=some r) (fun _=>⟨mk 63 [(0,(.own 0 1 (0) (p0))),(1,I p1),(2,Qj8),(6,I 20)],[(Qow x6),(.own 1 [[Qhv]]),(.own 1 [[(Qhu p3)]]),(.own 1 [[I p4]]),(.own 1 [[I p5]])]⟩) (fun t h=>by rw [Qcq] at h; cases h) (fun n7 ih t h=>?_) N () h
   rw [Qcq] at h
   skip
   refine wsq<|wxz ?_
   refine bfe h (fun hc8 h=>?_) fun hc8 h=>?_
   ·refine wft hc8<|Qam<|thn<|Qal<|wxz ?_
    obtain ⟨k9,hk_k9,h⟩:=jko h
    refine wjn (τ:=Unit) (fun t=>k9 t=some r) (fun _=>⟨mk 63 [(0,(.own 0 1 (0) (p0))),(1,I p1),(2,Qj8),(6,I 20),(7,I 0)],[(Qow x6),(.own 1 [[Qhv]]),(.own 1 [[(Qhu p3)]]),(.own 1 [[I p4]]),(.own 1 [[I p5]])]⟩) (fun t h=>?_) ?_
    ·subst hk_k9
     refine wsq<|wxz<|wxz<|wft hc8 ?_
     cases h
    ·skip
     refine Qal<|wmr (mto (n:=63) (l':=[(0,(.own 0 1 (0) (p0))),(1,I p1),(2,Qj8),(6,I 20),(7,I 0),(8,I 40)]) (own':=[(Qow x6),(.own 1 [[Qhv]]),(.own 1 [[(Qhu p3)]]),(.own 1 [[I p4]]),(.own 1 [[I p5]])]) [(0,(.own 0 1 (0) (p0))),(1,I p1),(2,Qj8),(6,I 20),(7,I 0),(8,I 40)] [0,1,2,3,4] [(Qow x6),(.own 1 [[Qhv]]),(.own 1 [[(Qhu p3)]]),(.own 1 [[I p4]]),(.own 1 [[I p5]])] hφ0 (pc (.rn (Qa0 rfl)) (pw (pc (.rn (Qbd rn0 (rnc (rqr rfl) (rnc (rqr rfl) rn0)))) (pw (pw (pw pn)))))) (qc (spr Qaf) (qb (lc (.rn (Qbd rn0 (rnc (rqr rfl) (rnc (rqr rfl) rn0)))) ln) (qb (lc (rnd Qaf) ln) (qb (lc rwl ln) (qb (lc rwl ln) qn)))))) ?_
     refine Qbu (τ:=Unit) (fun n t=>Qcp N p1 k9 n=some r) (fun _=>⟨mk 63 [(0,(.own 0 1 (0) (p0))),(1,I p1),(2,Qj8),(6,I 20),(7,I 0),(8,I 40)],[(Qow x6),(.own 1 [[Qhv]]),(.own 1 [[(Qhu p3)]]),(.own 1 [[I p4]]),(.own 1 [[I p5]])]⟩) (fun t h=>by rw [Qcp] at h; cases h) (fun n10 ih t h=>?_) N () h
     rw [Qcp] at h
     skip
     refine wsq<|wxz ?_
     refine bfe h (fun hc11 h=>?_) fun hc11 h=>?_
     ·refine wft hc11<|Qam<|thn<|Qal ?_
      cases h
     ·exact wfn hc11<|Qbf<|Qav<|Qav<|Qbe rfl<|thn<|⟨(),h,(mto (n:=63) [(0,(.own 0 1 (0) (p0))),(1,I p1),(2,Qj8),(6,I 20),(7,I 0)] [0,1,2,3,4] [(Qow x6),(.own 1 [[Qhv]]),(.own 1 [[(Qhu p3)]]),(.own 1 [[I p4]]),(.own 1 [[I p5]])] hφ0 (pc (.rn (Qa0 rfl)) (pw (pc (.rn (Qbd rn0 (rnc (rqr rfl) (rnc (rqr rfl) rn0)))) (pw (pw pn))))) (qc (spr Qaf) (qb (lc (.rn (Qbd rn0 (rnc (rqr rfl) (rnc (rqr rfl) rn0)))) ln) (qb (lc (rnd Qaf) ln) (qb (lc rwl ln) (qb (lc rwl ln) qn))))))⟩
   ·refine wfn hc8<|Qbf<|Qav<|Qav<|Qbe rfl ?_
    obtain rfl:=osi h
    exact ⟨_,(mto (n:=63) (l':=[]) (own':=[(Qow x6),(.own 1 [[Qhv]]),(.own 1 [[(Qhu p3)]]),(.own 1 [[I p4]]),(.own 1 [[I p5]])]) [] [0,1,2,3,4] [(Qow x6),(.own 1 [[Qhv]]),(.own 1 [[(Qhu p3)]]),(.own 1 [[I p4]]),(.own 1 [[I p5]])] hφ0 pn (qc (spr Qaf) (qb (lc (.rn (Qbd rn0 (rnc (rqr rfl) (rnc (rqr rfl) rn0)))) ln) (qb (lc (rnd Qaf) ln) (qb (lc rwl ln) (qb (lc rwl ln) qn)))))),Qct (vs:=[]) tv rfl (NLt.tup _ nl0) (by kernel_rfl) (Qan (Qbw Qaf _) (Qan (Qa7 (nlc (NLt.fn _ _ _ nl0 (nlc (NLt.ref _ _ _ _ (by decide)) (nlc (NLt.ref _ _ _ _ (by decide)) nl0))) nl0)) (Qan (Qa7 (nlc (NLt.of0 (nld Qaf _)) nl0)) (Qan (Qa7 (nlc (NLt.of0 nll) nl0)) (Qan (Qa7 (nlc (NLt.of0 nll) nl0)) Qbi)))))⟩
  ·skip
   refine Qal<|wmr (mto (n:=63) (l':=[(0,(.own 0 1 (0) (p0))),(1,I p1),(2,Qj8),(6,I 20),(7,I 0),(8,I 20)]) (own':=[(Zcx p2),(.own 1 [[Qhv]]),(.own 1 [[(Qhu p3)]]),(.own 1 [[I p4]]),(.own 1 [[I p5]])]) [(0,(.own 0 1 (0) (p0))),(1,I p1),(2,Qj8),(6,I 20),(7,I 0),(8,I 20)] [0,1,2,3,4] [(Zcx p2),(.own 1 [[Qhv]]),(.own 1 [[(Qhu p3)]]),(.own 1 [[I p4]]),(.own 1 [[I p5]])] hφ0 (pc (.rn (Qa0 rfl)) (pw (pc (.rn (Qbd rn0 (rnc (rqr rfl) (rnc (rqr rfl) rn0)))) (pw (pw (pw pn)))))) (qc (spr Qaf) (qb (lc (.rn (Qbd rn0 (rnc (rqr rfl) (rnc (rqr rfl) rn0)))) ln) (qb (lc (rnd Qaf) ln) (qb (lc rwl ln) (qb (lc rwl ln) qn)))))) ?_
   refine Qbu (τ:=Int×Int×(List Int)) (fun n t=>Qb2 N p0 p1 p3 k4 p4 p5 n t.1 t.2.1 t.2.2=some r) (fun ⟨y12,y13,y14⟩=>⟨mk 63 [(0,(.own 0 1 (0) (p0))),(1,I p1),(2,Qj8),(6,I 20),(7,I y12),(8,I y13)],[(Qym y14),(.own 1 [[Qhv]]),(.own 1 [[(Qhu p3)]]),(.own 1 [[I p4]]),(.own 1 [[I p5]])]⟩) (fun t h=>by rw [Qb2] at h; cases h) (fun n18 ih t h=>?_) N (0,20,p2) h
   obtain ⟨y12,y13,y14⟩:=t
   rw [Qb2] at h
   skip
   refine wsq<|wxz ?_
   refine bfe h (fun hc19 h=>?_) fun hc19 h=>?_
   ·refine wft hc19<|Qam<|thn<|Qal ?_
    obtain ⟨x21,hf20,h⟩:=bno h
    refine wx tbk [(4,⟨[fu 165,(.tmp 14,(.own 0 1 (0) (p0))),(.tmp 15,I y12),(.tmp 16,I y13),(.tmp 17,Qj8)],[(0,(Qym y14)),(1,.own 1 [[Qhv]]),(2,(.own 1 [[(Qhu p3)]])),(3,.own 1 [[I p4]]),(4,.own 1 [[I p5]])],(.tup []),[(0,(.own 1 ((x21:List Int).map Qaj))),(1,.own 1 [[Qhv]]),(2,(.own 1 [[(Qhu p3)]])),(3,.own 1 [[I p4]]),(4,.own 1 [[I p5]])],false⟩)] ⟨Qat (first:=[]) (cap:=[]) (vs:=[(.own 0 1 (0) (p0)),I y12,I y13,Qj8]) (σr:=[(Qym y14),(.own 1 [[Qhv]]),(.own 1 [[(Qhu p3)]]),(.own 1 [[I p4]]),(.own 1 [[I p5]])]) (σr':=[(.own 1 ((x21:List Int).map Qaj)),(.own 1 [[Qhv]]),(.own 1 [[(Qhu p3)]]),(.own 1 [[I p4]]),(.own 1 [[I p5]])]) (res':=(.tup [])) [0,1,2,3,4] rfl Qzs (Qee N p0 y12 y13 y14 p3 p4 p5 _ hf20) rfl (Qbn (rnc (Qco rfl) (rncc (rnc (Qbd rn0 (rnc (Qbb rfl) (rnc (Qbb rfl) rn0))) rn0)))) (slc (Qa3 Qaf) (slc (Qao (rnc (Qbd rn0 (rnc (Qbb rfl) (rnc (Qbb rfl) rn0))) rn0)) (slc (Qao (rnc (pld Qaf) rn0)) (slc (Qao (rnc (.plain _ nll) rn0)) (slc (Qao (rnc (.plain _ nll) rn0)) Qas))))) (slc (Qa3 Qaf) (slc (Qao (rnc (Qbd rn0 (rnc (Qbg rfl) (rnc (Qbg rfl) rn0))) rn0)) (slc (Qao (rnc (pld Qaf) rn0)) (slc (Qao (rnc (.plain _ nll) rn0)) (slc (Qao (rnc (.plain _ nll) rn0)) Qas))))) (.plain _ (NLt.tup _ nl0)) rfl rfl rfl,tv⟩<|wxz<|wxz1<|bln<|thn ?_
    exact arm (mto (n:=63) [(0,(.own 0 1 (0) (p0))),(1,I p1),(2,Qj8),(6,I 20),(7,I y13),(8,(I (w64 (y13+20))))] [0,1,2,3,4] [(.own 1 ((x21:List Int).map Qaj)),(.own 1 [[Qhv]]),(.own 1 [[(Qhu p3)]]),(.own 1 [[I p4]]),(.own 1 [[I p5]])] hφ0 (pc (.rn (Qa0 rfl)) (pw (pc (.rn (Qbd rn0 (rnc (rqr rfl) (rnc (rqr rfl) rn0)))) (pw (pw (pw pn)))))) (qc (spr Qaf) (qb (lc (.rn (Qbd rn0 (rnc (rqr rfl) (rnc (rqr rfl) rn0)))) ln) (qb (lc (rnd Qaf) ln) (qb (lc rwl ln) (qb (lc rwl ln) qn)))))) (ih (y13,w64 (y13+20),x21) h)
   ·exact wfn hc19<|Qbf<|Qav<|Qav<|Qbe rfl<|thn<|⟨(y12,y14),h,(mto (n:=63) [(0,(.own 0 1 (0) (p0))),(1,I p1),(2,Qj8),(6,I 20),(7,I y12)] [0,1,2,3,4] [(Qym y14),(.own 1 [[Qhv]]),(.own 1 [[(Qhu p3)]]),(.own 1 [[I p4]]),(.own 1 [[I p5]])] hφ0 (pc (.rn (Qa0 rfl)) (pw (pc (.rn (Qbd rn0 (rnc (rqr rfl) (rnc (rqr rfl) rn0)))) (pw (pw pn))))) (qc (spr Qaf) (qb (lc (.rn (Qbd rn0 (rnc (rqr rfl) (rnc (rqr rfl) rn0)))) ln) (qb (lc (rnd Qaf) ln) (qb (lc rwl ln) (qb (lc rwl ln) qn))))))⟩
def Qdt (N:Nat) (p0:Nat) (p1:(List Int)) (p2:(List Int)) (p3:Int) (p4:Int):Option (List Int):=
  (Qer N p0 ((p0:Nat):Int) p1 p2 p3 p4).bind fun x3=>
  some x3
def Zcz:AV:=.fn (.func 163) [] [(.ref 1 1 (0) 0),(.ref 2 1 (0) 0)]
def Zcy (p1:(List Int)):Slot:=.own 1 ((p1:List Int).map Qaj)
def Qt2:AV:=.fn (.func 159) [] [(.ref 3 1 (0) 0),(.ref 4 1 (0) 0)]
def Qt1 (p2:(List Int)):AV:=.dat 1 ((p2:List Int).map Qaj)
def Q7n (x3:(List Int)):Slot:=.own 1 ((x3:List Int).map Qaj)
theorem Qgr (N:Nat) (p0:Nat) (p1:(List Int)) (p2:(List Int)) (p3:Int) (p4:Int) (r:(List Int)) (h:Qdt N p0 p1 p2 p3 p4=some r):Spec Tryz.prog 162 [(.own 0 1 (0) (p0)),Zcz] [(Zcy p1),(.own 1 [[Qt2]]),(.own 1 [[(Qt1 p2)]]),(.own 1 [[(I (p3))]]),(.own 1 [[(I (p4))]])] (.tup []) [(.own 1 ((r:List Int).map Qaj)),(.own 1 [[Qt2]]),(.own 1 [[(Qt1 p2)]]),(.own 1 [[(I (p3))]]),(.own 1 [[(I (p4))]])]:=by
  refine Qah Tryz.func162 rfl 5 (nle rfl) (fun X φ0 w0 hφ0 hd0=>?_)
  unfold Qdt at h
  refine Qbh ?_
  obtain ⟨x3,hf2,h⟩:=bno h
  refine wx1 tbk [(2,rp [(.tmp 5,(.own 0 1 (0) (p0)))] (I (((p0:Nat):Int)))),(4,⟨[fu 164,(.tmp 4,(.own 0 1 (0) (p0))),(.tmp 6,(I (((p0:Nat):Int)))),(.tmp 7,Zcz)],[(0,(Zcy p1)),(1,.own 1 [[Qt2]]),(2,(.own 1 [[(Qt1 p2)]])),(3,.own 1 [[I p3]]),(4,.own 1 [[I p4]])],(.tup []),[(0,(Q7n x3)),(1,.own 1 [[Qt2]]),(2,(.own 1 [[(Qt1 p2)]])),(3,.own 1 [[I p3]]),(4,.own 1 [[I p4]])],false⟩)] ⟨aln rfl Tryz.underlying27 rfl,Qat (first:=[]) (cap:=[]) (vs:=[(.own 0 1 (0) (p0)),(I (((p0:Nat):Int))),Zcz]) (σr:=[(Zcy p1),(.own 1 [[Qt2]]),(.own 1 [[(Qt1 p2)]]),(.own 1 [[I p3]]),(.own 1 [[I p4]])]) (σr':=[(Q7n x3),(.own 1 [[Qt2]]),(.own 1 [[(Qt1 p2)]]),(.own 1 [[I p3]]),(.own 1 [[I p4]])]) (res':=(.tup [])) [0,1,2,3,4] rfl Q8w (Qhx N p0 ((p0:Nat):Int) p1 p2 p3 p4 _ hf2) rfl (Qbn (rnc (Qco rfl) (rnc (.plain _ nll) (rnc (Qbd rn0 (rnc (Qbb rfl) (rnc (Qbb rfl) rn0))) rn0)))) (slc (Qa3 Qaf) (slc (Qao (rnc (Qbd rn0 (rnc (Qbb rfl) (rnc (Qbb rfl) rn0))) rn0)) (slc (Qao (rnc (pld Qaf) rn0)) (slc (Qao (rnc (.plain _ nll) rn0)) (slc (Qao (rnc (.plain _ nll) rn0)) Qas))))) (slc (Qa3 Qaf) (slc (Qao (rnc (Qbd rn0 (rnc (Qbg rfl) (rnc (Qbg rfl) rn0))) rn0)) (slc (Qao (rnc (pld Qaf) rn0)) (slc (Qao (rnc (.plain _ nll) rn0)) (slc (Qao (rnc (.plain _ nll) rn0)) Qas))))) (.plain _ (NLt.tup _ nl0)) rfl rfl rfl,tv⟩ ?_
  obtain rfl:=osi h
  exact ⟨_,(mto (n:=9) (l':=[]) (own':=[(Q7n x3),(.own 1 [[Qt2]]),(.own 1 [[(Qt1 p2)]]),(.own 1 [[I p3]]),(.own 1 [[I p4]])]) [] [0,1,2,3,4] [(Q7n x3),(.own 1 [[Qt2]]),(.own 1 [[(Qt1 p2)]]),(.own 1 [[I p3]]),(.own 1 [[I p4]])] hφ0 pn (qc (spr Qaf) (qb (lc (.rn (Qbd rn0 (rnc (rqr rfl) (rnc (rqr rfl) rn0)))) ln) (qb (lc (rnd Qaf) ln) (qb (lc rwl ln) (qb (lc rwl ln) qn)))))),Qct (vs:=[]) tv rfl (NLt.tup _ nl0) (by kernel_rfl) (Qan (Qbw Qaf _) (Qan (Qa7 (nlc (NLt.fn _ _ _ nl0 (nlc (NLt.ref _ _ _ _ (by decide)) (nlc (NLt.ref _ _ _ _ (by decide)) nl0))) nl0)) (Qan (Qa7 (nlc (NLt.of0 (nld Qaf _)) nl0)) (Qan (Qa7 (nlc (NLt.of0 nll) nl0)) (Qan (Qa7 (nlc (NLt.of0 nll) nl0)) Qbi)))))⟩
def Qc9 (N:Nat) (p0:(List Int)) (k4:(List Int)→Option (List Int)):Nat→Int→(List Int)→Option (List Int)
  | 0,_,_=>none
  | n13+1,y9,y10=>
    bif (decide (y9<(p0.length:Int))) then
     chk (decide ((y10.length+([y9]).length) * 8≤140737488355328))<|
     Qc9 N p0 k4 n13 (w64 (y9+1)) (y10++([y9]))
    else
     k4 (y10)
def Qgp (N:Nat) (p0:(List Int)) (p1:Int) (p2:Int):Option (List Int):=
  Qby (fun y3=>
    chk (!y3.isEmpty)<|
    (Qdt N y3.length y3 p0 p1 p2).bind fun x7=>
    chk (decide (y3.length≤x7.length))<|
    some (x7.take y3.length)) fun k4:(List Int)→Option (List Int)=>
  Qc9 N p0 k4 N 0 ([]:List Int)
def Qns (p0:(List Int)):AV:=.dat 1 ((p0:List Int).map Qaj)
def Qox:AV:=.fn (.func 159) [] [(.ref 0 1 (0) 0),(.ref 1 1 (0) 0)]
def Qyo:AV:=.fn (.func 163) [] [(.ref 3 1 (0) 0),(.ref 2 1 (0) 0)]
def Qyn (x7:(List Int)) (y3:(List Int)):AV:=.dat 1 ((x7.take y3.length:List Int).map Qaj)
def Zgf:Slot:=.gro 1 ((([]:List Int):List Int).map Qaj)
theorem Qkp (N:Nat) (p0:(List Int)) (p1:Int) (p2:Int) (r:(List Int)) (h:Qgp N p0 p1 p2=some r):Spec Tryz.prog 158 [(Qns p0),Qox] [(.own 1 [[(I (p1))]]),(.own 1 [[(I (p2))]])] (.dat 1 ((r:List Int).map Qaj)) [(.own 1 [[(I (p1))]]),(.own 1 [[(I (p2))]])]:=by
  refine Qah Tryz.func158 rfl 2 (nle rfl) (fun X φ0 w0 hφ0 hd0=>?_)
  unfold Qgp at h
  refine Qbh<|wxz<|wxz ?_
  obtain ⟨k4,hk_k4,h⟩:=jko h
  refine wjn (τ:=(List Int)) (fun t=>k4 t=some r) (fun y3=>⟨mk 21 [(2,.ref 2 1 0 0),(3,.ref 3 1 0 0),(5,(.gro 4 3 1 (y3.length)))],[(.own 1 [[I p1]]),(.own 1 [[I p2]]),(.own 1 [[(Qns p0)]]),(.own 1 [[Qox]]),(.gro 1 ((y3:List Int).map Qaj))]⟩) (fun y3 h=>?_) ?_
  ·subst hk_k4
   obtain ⟨hz5,h⟩:=cko h
   obtain ⟨x7,hf6,h⟩:=bno h
   refine wx tbk [(1,rp [(.tmp 3,.ref 3 1 0 0),(.tmp 2,.ref 2 1 0 0)] Qyo),(2,⟨[fu 162,(.tmp 17,(.gro 4 3 1 (y3.length))),(.tmp 18,Qyo)],[(4,(.gro 1 ((y3:List Int).map Qaj))),(3,.own 1 [[Qox]]),(2,(.own 1 [[(Qns p0)]])),(0,.own 1 [[I p1]]),(1,.own 1 [[I p2]])],(.tup []),[(4,(.own 1 ((x7:List Int).map Qaj))),(3,.own 1 [[Qox]]),(2,(.own 1 [[(Qns p0)]])),(0,.own 1 [[I p1]]),(1,.own 1 [[I p2]])],false⟩)] ⟨Qe5 (fs:=[]) (cs:=[.ref 3 1 0 0,.ref 2 1 0 0]) rfl rfl rfl rfl,Qxo (bl':=[(4,(.own 1 ((y3:List Int).map Qaj))),(3,.own 1 [[Qox]]),(2,(.own 1 [[(Qns p0)]])),(0,.own 1 [[I p1]]),(1,.own 1 [[I p2]])]) ⟨rfl,SLess.gro (Qff hz5),rfl,SLess.rfl,rfl,SLess.rfl,rfl,SLess.rfl,rfl,SLess.rfl,tv⟩ (awk (rd':=[fu 162,(.tmp 17,(.own 4 1 (0) (y3.length))),(.tmp 18,Qyo)]) ⟨rfl,lrf,rfl,Less.gro,rfl,lrf,tv⟩ (Qat (first:=[]) (cap:=[]) (vs:=[(.own 4 1 (0) (y3.length)),Qyo]) (σr:=[(.own 1 ((y3:List Int).map Qaj)),(.own 1 [[Qox]]),(.own 1 [[(Qns p0)]]),(.own 1 [[I p1]]),(.own 1 [[I p2]])]) (σr':=[(.own 1 ((x7:List Int).map Qaj)),(.own 1 [[Qox]]),(.own 1 [[(Qns p0)]]),(.own 1 [[I p1]]),(.own 1 [[I p2]])]) (res':=(.tup [])) [4,3,2,0,1] rfl Q8y (Qgr N y3.length y3 p0 p1 p2 _ hf6) rfl (Qbn (rnc (Qco rfl) (rnc (Qbd rn0 (rnc (Qbb rfl) (rnc (Qbb rfl) rn0))) rn0))) (slc (Qa3 Qaf) (slc (Qao (rnc (Qbd rn0 (rnc (Qbb rfl) (rnc (Qbb rfl) rn0))) rn0)) (slc (Qao (rnc (pld Qaf) rn0)) (slc (Qao (rnc (.plain _ nll) rn0)) (slc (Qao (rnc (.plain _ nll) rn0)) Qas))))) (slc (Qa3 Qaf) (slc (Qao (rnc (Qbd rn0 (rnc (Qbg rfl) (rnc (Qbg rfl) rn0))) rn0)) (slc (Qao (rnc (pld Qaf) rn0)) (slc (Qao (rnc (.plain _ nll) rn0)) (slc (Qao (rnc (.plain _ nll) rn0)) Qas))))) (.plain _ (NLt.tup _ nl0)) rfl rfl rfl)),tv⟩<|wxz ?_
   obtain ⟨hz8,h⟩:=cko h
   refine wmr (Q8n (n:=21) (l':=[(4,(.own 4 1 (0) (y3.length)))]) [(4,(.gro 4 3 1 (y3.length)))] (by kernel_rfl) (by kernel_rfl) ⟨rfl,Less.gro,tv⟩) ?_
   refine wmr (Zbu (n:=21) (l':=[(4,(Qyn x7 y3))]) 4 [(4,(.own 4 1 (0) (y3.length)))] (by kernel_rfl) (by kernel_rfl) (by kernel_rfl) ⟨rfl,(Qme hz8),tv⟩ rfl) ?_
   refine wmr (mto (n:=21) (l':=[(4,(Qyn x7 y3))]) (own':=[(.own 1 [[I p1]]),(.own 1 [[I p2]])]) [(4,(Qyn x7 y3))] [0,1] [(.own 1 [[I p1]]),(.own 1 [[I p2]])] hφ0 (pc (rnd Qaf) pn) (qb (lc rwl ln) (qb (lc rwl ln) qn)))<|Qad ?_
   obtain rfl:=osi h
   exact ⟨_,Mor.rfl,Qct (vs:=[(Qyn x7 y3)]) ⟨rot,tv⟩ rfl (NLt.of0 (nld Qaf _)) (by kernel_rfl) (Qan (Qa7 (nlc (NLt.of0 nll) nl0)) (Qan (Qa7 (nlc (NLt.of0 nll) nl0)) Qbi))⟩
  ·skip
   refine wx tbk [(1,rp [(.tmp 7,(Qns p0))] (I ((p0.length:Int))))] ⟨alm (c:=Qaj) (l:=p0) (aln rfl Tryz.underlying27 rfl),tv⟩<|Qal ?_
   refine wmr (Mor.trans (Q8m 4 3 1 5 (by kernel_rfl) (by kernel_rfl)) (mto (n:=21) (l':=[(2,.ref 2 1 0 0),(3,.ref 3 1 0 0),(5,(.gro 4 3 1 (([]:List Int).length))),(8,(I ((p0.length:Int)))),(9,I 0)]) (own':=[(.own 1 [[I p1]]),(.own 1 [[I p2]]),(.own 1 [[(Qns p0)]]),(.own 1 [[Qox]]),Zgf]) [(2,.ref 2 1 0 0),(3,.ref 3 1 0 0),(5,(.gro 4 3 1 (([]:List Int).length))),(8,(I ((p0.length:Int)))),(9,I 0)] [0,1,2,3,4] [(.own 1 [[I p1]]),(.own 1 [[I p2]]),(.own 1 [[(Qns p0)]]),(.own 1 [[Qox]]),Zgf] hφ0 (prr (prr (pc (.rn (Qw0 rfl)) (pw (pw pn))))) (qb (lc rwl ln) (qb (lc rwl ln) (qb (lc (rnd Qaf) ln) (qb (lc (.rn (Qbd rn0 (rnc (rqr rfl) (rnc (rqr rfl) rn0)))) ln) (qc (Qsx Qaf) qn))))))) ?_
   refine Qbu (τ:=Int×(List Int)) (fun n t=>Qc9 N p0 k4 n t.1 t.2=some r) (fun ⟨y9,y10⟩=>⟨mk 21 [(2,.ref 2 1 0 0),(3,.ref 3 1 0 0),(5,(.gro 4 3 1 (y10.length))),(8,(I ((p0.length:Int)))),(9,I y9)],[(.own 1 [[I p1]]),(.own 1 [[I p2]]),(.own 1 [[(Qns p0)]]),(.own 1 [[Qox]]),(.gro 1 ((y10:List Int).map Qaj))]⟩) (fun t h=>by rw [Qc9] at h; cases h) (fun n13 ih t h=>?_) N (0,([]:List Int)) h
   obtain ⟨y9,y10⟩:=t
   rw [Qc9] at h
   skip
   refine wxz<|wsq ?_
   refine bfe h (fun hc14 h=>?_) fun hc14 h=>?_
   ·refine wft hc14<|Qam<|thn<|wsq<|Qal<|wxz ?_
    obtain ⟨ha15,h⟩:=cko h
    refine wx1 tbk [(2,rp [(.tmp 13,I y9)] (.dat 1 (([y9]:List Int).map Qaj))),(3,⟨[(.tmp 12,(.gro 4 3 1 (y10.length))),(.tmp 14,(.dat 1 (([y9]:List Int).map Qaj)))],[(4,(.gro 1 ((y10:List Int).map Qaj))),(5,.unused)],(.gro 5 3 1 ((y10++([y9])).length)),[(4,.dead),(5,(.gro 1 ((y10++([y9]):List Int).map Qaj)))],false⟩)] ?_ ?_
    ·exact ⟨Qbt (vs:=[I y9]) rfl Tryz.underlying27 ti3 tz3 rfl (by decide) rfl (by decide) (by rfl) (by rfl) (by rfl) rfl,Qxu (c:=Qaj) (a:=y10) (b:=[y9]) rfl Tryz.underlying27 te3 rfl (Qff rfl) (by rfl) ha15 (by decide),tv⟩
    exact bln<|thn<|wxz1<|thn<|arm (mto (n:=21) [(2,.ref 2 1 0 0),(3,.ref 3 1 0 0),(5,(.gro 5 3 1 ((y10++([y9])).length))),(8,(I ((p0.length:Int)))),(9,(I (w64 (y9+1))))] [0,1,2,3,5] [(.own 1 [[I p1]]),(.own 1 [[I p2]]),(.own 1 [[(Qns p0)]]),(.own 1 [[Qox]]),(.gro 1 ((y10++([y9]):List Int).map Qaj))] hφ0 (prr (prr (pc (.rn (Qw0 rfl)) (pw (pw pn))))) (qb (lc rwl ln) (qb (lc rwl ln) (qb (lc (rnd Qaf) ln) (qb (lc (.rn (Qbd rn0 (rnc (rqr rfl) (rnc (rqr rfl) rn0)))) ln) (qc (Qsx Qaf) qn)))))) (ih (w64 (y9+1),y10++([y9])) h)
   ·exact wfn hc14<|Qbf<|Qav<|Qav<|Qbe rfl<|thn<|⟨(y10),h,(mto (n:=21) [(2,.ref 2 1 0 0),(3,.ref 3 1 0 0),(5,(.gro 4 3 1 (y10.length)))] [0,1,2,3,4] [(.own 1 [[I p1]]),(.own 1 [[I p2]]),(.own 1 [[(Qns p0)]]),(.own 1 [[Qox]]),(.gro 1 ((y10:List Int).map Qaj))] hφ0 (prr (prr (pc (.rn (Qw0 rfl)) pn))) (qb (lc rwl ln) (qb (lc rwl ln) (qb (lc (rnd Qaf) ln) (qb (lc (.rn (Qbd rn0 (rnc (rqr rfl) (rnc (rqr rfl) rn0)))) ln) (qc (Qsx Qaf) qn))))))⟩
def Qep (N:Nat) (p1:(List Int)) (y6:Int) (k10:(List Int)→Option (List Int)) (x13:(List Int)):Nat→Int→(List Int)→Option (List Int)
  | 0,_,_=>none
  | n19+1,y15,y16=>
    bif (decide (y15<(((x13).take (y6.toNat - 0)).length:Int))) then
     (getI ((x13).take (y6.toNat - 0)) y15).bind fun x21=>
     chk (decide (0≤x21)&&decide (x21.toNat<(p1.length:Int).toNat))<|
     (y16[x21.toNat]?).bind fun x26=>
     chk (decide (0≤x21)&&decide (x21.toNat<(p1.length:Int).toNat))<|
     (y16[x21.toNat]?).bind fun _=>
     Qep N p1 y6 k10 x13 n19 (w64 (y15+1)) (y16.set x21.toNat (w64 (x26+1)))
    else
     k10 (y16)
def Qeo (N:Nat) (p0:Int) (p1:(List Int)) (y3:Int) (k8:Int×(List Int)→Option (List Int)):Nat→Int→Int→(List Int)→Option (List Int)
  | 0,_,_,_=>none
  | n37+1,y31,y32,y33=>
    bif (decide (y32<(p1.length:Int))) then
     (getI p1 y32).bind fun x39=>
     chk (y3 != 0)<|
     chk (decide (0≤y32)&&decide (y32.toNat<(p1.length:Int).toNat))<|
     (y33[y32.toNat]?).bind fun _=>
     chk (decide (0≤y32)&&decide (y32.toNat<(p1.length:Int).toNat))<|
     ((y33.set y32.toNat (w64 ((w64 (p0 * x39)).tdiv y3)))[y32.toNat]?).bind fun x48=>
     Qeo N p0 p1 y3 k8 n37 (w64 (y31 - x48)) (w64 (y32+1)) (y33.set y32.toNat (w64 ((w64 (p0 * x39)).tdiv y3)))
    else
     k8 (y31,y33)
def Qen (N:Nat) (p1:(List Int)) (k4:Int→Option (List Int)):Nat→Int→Int→Option (List Int)
  | 0,_,_=>none
  | n54+1,y50,y51=>
    bif (decide (y50<(p1.length:Int))) then
     (getI p1 y50).bind fun x56=>
     Qen N p1 k4 n54 (w64 (y50+1)) (w64 (y51+x56))
    else
     k4 (y51)
def Qka (N:Nat) (p0:Int) (p1:(List Int)):Option (List Int):=
  Qby (fun y3=>
    chk (decide (0≤(p1.length:Int))&&decide (8 * (p1.length:Int)≤281474976710656)&&decide ((p1.length:Int)≤9223372036854775807))<|
    Qby (fun ⟨y6,y7⟩=>
      Qby (fun y9=>
        chk (decide ((p1.length:Int).toNat≤y9.length))<|
        some (y9.take ((p1.length:Int).toNat))) fun k10:(List Int)→Option (List Int)=>
      (Qgp N p1 p0 y3).bind fun x13=>
      chk (decide (0≤0)&&decide (0≤y6)&&decide (y6≤(x13.length:Int)))<|
      Qep N p1 y6 k10 x13 N 0 y7) fun k8:Int×(List Int)→Option (List Int)=>
    Qeo N p0 p1 y3 k8 N p0 0 (List.replicate (p1.length:Int).toNat 0)) fun k4:Int→Option (List Int)=>
  Qen N p1 k4 N 0 0
def Qhm (p1:(List Int)):AV:=.dat 1 ((p1:List Int).map Qaj)
def Zgg (p1:(List Int)):Slot:=.own 1 ((List.replicate (p1.length:Int).toNat 0:List Int).map Qaj)
def Q3q (y7:(List Int)):Slot:=.own 1 ((y7:List Int).map Qaj)
def Qyr (y9:(List Int)) (p1:(List Int)):AV:=.dat 1 ((y9.take ((p1.length:Int).toNat):List Int).map Qaj)
def Q3r:AV:=.fn (.func 159) [] [(.ref 0 1 (0) 0),(.ref 1 1 (0) 0)]
def Q3p (x13:(List Int)):AV:=.dat 1 ((x13:List Int).map Qaj)
def Qpl (x13:(List Int)) (y6:Int):AV:=.dat 1 (((x13).take (y6.toNat - 0):List Int).map Qaj)
def Qrk (y16:(List Int)):Slot:=.own 1 ((y16:List Int).map Qaj)
def Qyq (y33:(List Int)):Slot:=.own 1 ((y33:List Int).map Qaj)
def Qyp (y33:(List Int)) (y32:Int) (p0:Int) (x39:Int) (y3:Int):Slot:=.own 1 ((y33.set y32.toNat (w64 ((w64 (p0 * x39)).tdiv y3)):List Int).map Qaj)
theorem Qo1 (N:Nat) (p0:Int) (p1:(List Int)) (r:(List Int)) (h:Qka N p0 p1=some r):Spec Tryz.prog 153 [(I p0),(.dat 1 (p1.map Qaj))] [] (.dat 1 ((r:List Int).map Qaj)) []:=by
  refine Qah Tryz.func153 rfl 0 (nle rfl) (fun X φ0 w0 hφ0 hd0=>?_)
  unfold Qka at h
  refine Qbh<|wxz<|wxz ?_
  obtain ⟨k4,hk_k4,h⟩:=jko h
  refine wjn (τ:=Int) (fun t=>k4 t=some r) (fun y3=>⟨mk 68 [(1,(Qhm p1)),(2,.ref 0 1 0 0),(5,.ref 1 1 0 0)],[(.own 1 [[I p0]]),(.own 1 [[I y3]])]⟩) (fun y3 h=>?_) ?_
  ·subst hk_k4
   obtain ⟨hm5,h⟩:=cko h
   refine wxd tbk [(1,rp [(.tmp 24,(Qhm p1))] (I ((p1.length:Int)))),(2,⟨[(.tmp 25,(I ((p1.length:Int)))),(.tmp 25,(I ((p1.length:Int))))],[(2,.unused)],(.own 2 1 (0) ((p1.length:Int).toNat)),[(2,(Zgg p1))],false⟩)] ⟨alm (c:=Qaj) (l:=p1) (aln rfl Tryz.underlying27 rfl),Qoe rfl Tryz.underlying27 te3 tz3 rfl (Q61 hm5) rfl (Q60 hm5) (Q6z hm5) (Q41 Qaj rfl),tv⟩ ?_
   obtain ⟨k8,hk_k8,h⟩:=jko h
   refine wjn (τ:=Int×(List Int)) (fun t=>k8 t=some r) (fun ⟨y6,y7⟩=>⟨mk 68 [(1,(Qhm p1)),(2,.ref 0 1 0 0),(5,.ref 1 1 0 0),(8,(.own 2 1 (0) ((p1.length:Int).toNat))),(9,I y6)],[(.own 1 [[I p0]]),(.own 1 [[I y3]]),(Q3q y7)]⟩) (fun t h=>?_) ?_
   ·subst hk_k8
    obtain ⟨y6,y7⟩:=t
    obtain ⟨k10,hk_k10,h⟩:=jko h
    refine wjn (τ:=(List Int)) (fun t=>k10 t=some r) (fun y9=>⟨mk 68 [(8,(.own 0 1 (0) ((p1.length:Int).toNat)))],[(.own 1 ((y9:List Int).map Qaj))]⟩) (fun y9 h=>?_) ?_
    ·subst hk_k10
     refine wxz ?_
     obtain ⟨hz11,h⟩:=cko h
     refine wmr (Zbu (n:=68) (l':=[(4,(Qyr y9 p1))]) 0 [(4,(.own 0 1 (0) ((p1.length:Int).toNat)))] (by kernel_rfl) (by kernel_rfl) (by kernel_rfl) ⟨rfl,(Qme hz11),tv⟩ rfl) ?_
     refine wmr (mto (n:=68) (l':=[(4,(Qyr y9 p1))]) (own':=[]) [(4,(Qyr y9 p1))] [] [] hφ0 (pc (rnd Qaf) pn) qn)<|Qad ?_
     obtain rfl:=osi h
     exact ⟨_,Mor.rfl,Qct (vs:=[(Qyr y9 p1)]) ⟨rot,tv⟩ rfl (nld Qaf _) (by kernel_rfl) Qbi⟩
    ·skip
     obtain ⟨x13,hf12,h⟩:=bno h
     obtain ⟨hs14,h⟩:=cko h
     refine wx tbk [(1,rp [(.tmp 2,.ref 0 1 0 0),(.tmp 5,.ref 1 1 0 0)] Q3r),(2,⟨[fu 158,(.tmp 50,(Qhm p1)),(.tmp 51,Q3r)],[(0,.own 1 [[I p0]]),(1,.own 1 [[I y3]])],(Q3p x13),[(0,.own 1 [[I p0]]),(1,.own 1 [[I y3]])],false⟩),(4,rp [(.tmp 52,(Q3p x13)),(.tmp 53,I y6)] (Qpl x13 y6)),(5,rp [(.tmp 54,(Qpl x13 y6))] (I ((((x13).take (y6.toNat - 0)).length:Int))))] ⟨Qe5 (fs:=[]) (cs:=[.ref 0 1 0 0,.ref 1 1 0 0]) rfl rfl rfl rfl,Qat (first:=[]) (cap:=[]) (vs:=[(Qhm p1),Q3r]) (σr:=[(.own 1 [[I p0]]),(.own 1 [[I y3]])]) (σr':=[(.own 1 [[I p0]]),(.own 1 [[I y3]])]) (res':=(Q3p x13)) [0,1] rfl Q80 (Qkp N p1 p0 y3 _ hf12) rfl (Qbn (rnc (pld Qaf) (rnc (Qbd rn0 (rnc (Qbb rfl) (rnc (Qbb rfl) rn0))) rn0))) (slc (Qao (rnc (.plain _ nll) rn0)) (slc (Qao (rnc (.plain _ nll) rn0)) Qas)) (slc (Qao (rnc (.plain _ nll) rn0)) (slc (Qao (rnc (.plain _ nll) rn0)) Qas)) (pld Qaf) rfl rfl rfl,Qop (k:=.i64) (k':=.i64) (lo:=none) (hi:=some (.tmp 53)) (l:=0) (hh:=y6) rfl Tryz.underlying27 ti3 rfl (fun _=>rfl) (fun e=>nomatch e) (Q61 hs14) (Q60 hs14) (Zhn (Qaj) hs14) (Zii Qaj),alm (c:=Qaj) (l:=(x13).take (y6.toNat - 0)) (aln rfl Tryz.underlying27 rfl),tv⟩<|Qal ?_
     refine wmr (mto (n:=68) (l':=[(8,(.own 0 1 (0) ((p1.length:Int).toNat))),(54,(Qpl x13 y6)),(55,(I ((((x13).take (y6.toNat - 0)).length:Int)))),(56,I 0)]) (own':=[(Q3q y7)]) [(8,(.own 2 1 (0) ((p1.length:Int).toNat))),(54,(Qpl x13 y6)),(55,(I ((((x13).take (y6.toNat - 0)).length:Int)))),(56,I 0)] [2] [(Q3q y7)] hφ0 (pc (.rn (Qa0 rfl)) (pc (rnd Qaf) (pw (pw pn)))) (qc (spr Qaf) qn)) ?_
     refine Qbu (τ:=Int×(List Int)) (fun n t=>Qep N p1 y6 k10 x13 n t.1 t.2=some r) (fun ⟨y15,y16⟩=>⟨mk 68 [(8,(.own 0 1 (0) ((p1.length:Int).toNat))),(54,(Qpl x13 y6)),(55,(I ((((x13).take (y6.toNat - 0)).length:Int)))),(56,I y15)],[(Qrk y16)]⟩) (fun t h=>by rw [Qep] at h; cases h) (fun n19 ih t h=>?_) N (0,y7) h
     obtain ⟨y15,y16⟩:=t
     rw [Qep] at h
     skip
     refine wxz<|wsq ?_
     refine bfe h (fun hc20 h=>?_) fun hc20 h=>?_
     ·refine wft hc20<|Qam<|thn<|wsq<|Qal ?_
      obtain ⟨x21,hg22,h⟩:=bno h
      obtain ⟨hi23,hj24⟩:=gsm hg22
      refine wx tbk [(0,rp [(.tmp 54,(Qpl x13 y6)),(.tmp 56,I y15)] (.dptr (Qaj (x21)) 0))] ⟨aid rfl Tryz.underlying27 ti3 rfl rfl hi23 (mgt Qaj hj24) rfl,tv⟩ ?_
      obtain ⟨hi25,h⟩:=cko h
      obtain ⟨hi25a,hi25b⟩:=Qdu hi25
      obtain ⟨x26,hg27,h⟩:=bno h
      obtain ⟨hi28,h⟩:=cko h
      obtain ⟨hi28a,hi28b⟩:=Qdu hi28
      obtain ⟨x29,hg30,h⟩:=bno h
      refine wx1 tbk [(2,rb [(.tmp 60,(.own 0 1 (0) ((p1.length:Int).toNat))),(.tmp 61,I x21)] [(0,(Qrk y16))] (.ref 0 1 (x21.toNat) 0)),(3,rb [(.tmp 62,(.ref 0 1 (x21.toNat) 0))] [(0,(Qrk y16))] (I x26)),(5,rb [(.tmp 60,(.own 0 1 (0) ((p1.length:Int).toNat))),(.tmp 61,I x21)] [(0,(Qrk y16))] (.ref 0 1 (x21.toNat) 0)),(6,⟨[(.tmp 65,(.ref 0 1 (x21.toNat) 0)),(.tmp 64,(I (w64 (x26+1))))],[(0,(Qrk y16))],.any,[(0,(.own 1 ((y16.set x21.toNat (w64 (x26+1)):List Int).map Qaj)))],false⟩)] ⟨aio rfl Tryz.underlying27 ti3 (odt hi25a) (odt hi25b) (Nat.zero_add _),ald rfl ti3 (by decide) (mgt Qaj hg27) (nle rfl) rfl,aio rfl Tryz.underlying27 ti3 (odt hi28a) (odt hi28b) (Nat.zero_add _),ast rfl ti3 (by rfl) (mgt Qaj hg30) (nle rfl) (Qfm Qaj rfl),tv⟩<|bln<|thn<|wxz1<|thn ?_
      exact arm (mto (n:=68) [(8,(.own 0 1 (0) ((p1.length:Int).toNat))),(54,(Qpl x13 y6)),(55,(I ((((x13).take (y6.toNat - 0)).length:Int)))),(56,(I (w64 (y15+1))))] [0] [(.own 1 ((y16.set x21.toNat (w64 (x26+1)):List Int).map Qaj))] hφ0 (pc (.rn (Qa0 rfl)) (pc (rnd Qaf) (pw (pw pn)))) (qc (spr Qaf) qn)) (ih (w64 (y15+1),y16.set x21.toNat (w64 (x26+1))) h)
     ·exact wfn hc20<|Qbf<|Qav<|Qav<|Qbe rfl<|thn<|⟨(y16),h,(mto (n:=68) [(8,(.own 0 1 (0) ((p1.length:Int).toNat)))] [0] [(Qrk y16)] hφ0 (pc (.rn (Qa0 rfl)) pn) (qc (spr Qaf) qn))⟩
   ·skip
    refine wx tbk [(1,rp [(.tmp 28,(Qhm p1))] (I ((p1.length:Int))))] ⟨alm (c:=Qaj) (l:=p1) (aln rfl Tryz.underlying27 rfl),tv⟩<|Qal ?_
    refine wmr (mto (n:=68) (l':=[(1,(Qhm p1)),(2,.ref 0 1 0 0),(5,.ref 1 1 0 0),(8,(.own 2 1 (0) ((p1.length:Int).toNat))),(9,I p0),(28,(Qhm p1)),(29,(I ((p1.length:Int)))),(30,I 0)]) (own':=[(.own 1 [[I p0]]),(.own 1 [[I y3]]),(.own 1 (((List.replicate (p1.length:Int).toNat 0):List Int).map Qaj))]) [(1,(Qhm p1)),(2,.ref 0 1 0 0),(5,.ref 1 1 0 0),(8,(.own 2 1 (0) ((p1.length:Int).toNat))),(9,I p0),(28,(Qhm p1)),(29,(I ((p1.length:Int)))),(30,I 0)] [0,1,2] [(.own 1 [[I p0]]),(.own 1 [[I y3]]),(Zgg p1)] hφ0 (pc (rnd Qaf) (prr (prr (pc (.rn (Qa0 rfl)) (pw (pc (rnd Qaf) (pw (pw pn)))))))) (qb (lc rwl ln) (qb (lc rwl ln) (qc (spr Qaf) qn)))) ?_
    refine Qbu (τ:=Int×Int×(List Int)) (fun n t=>Qeo N p0 p1 y3 k8 n t.1 t.2.1 t.2.2=some r) (fun ⟨y31,y32,y33⟩=>⟨mk 68 [(1,(Qhm p1)),(2,.ref 0 1 0 0),(5,.ref 1 1 0 0),(8,(.own 2 1 (0) ((p1.length:Int).toNat))),(9,I y31),(28,(Qhm p1)),(29,(I ((p1.length:Int)))),(30,I y32)],[(.own 1 [[I p0]]),(.own 1 [[I y3]]),(Qyq y33)]⟩) (fun t h=>by rw [Qeo] at h; cases h) (fun n37 ih t h=>?_) N (p0,0,List.replicate (p1.length:Int).toNat 0) h
    obtain ⟨y31,y32,y33⟩:=t
    rw [Qeo] at h
    skip
    refine wxz<|wsq ?_
    refine bfe h (fun hc38 h=>?_) fun hc38 h=>?_
    ·refine wft hc38<|Qam<|thn<|wsq<|Qal ?_
     obtain ⟨x39,hg40,h⟩:=bno h
     obtain ⟨hi41,hj42⟩:=gsm hg40
     refine wx tbk [(1,rp [(.tmp 28,(Qhm p1)),(.tmp 30,I y32)] (.dptr (Qaj (x39)) 0))] ⟨aid rfl Tryz.underlying27 ti3 rfl rfl hi41 (mgt Qaj hj42) rfl,tv⟩ ?_
     obtain ⟨hz43,h⟩:=cko h
     obtain ⟨hi44,h⟩:=cko h
     obtain ⟨hi44a,hi44b⟩:=Qdu hi44
     obtain ⟨x45,hg46,h⟩:=bno h
     refine wx tbk [(6,rp [(.tmp 39,(I (w64 (p0 * x39)))),(.tmp 40,I y3)] (I (w64 ((w64 (p0 * x39)).tdiv y3)))),(7,rb [(.tmp 35,(.own 2 1 (0) ((p1.length:Int).toNat))),(.tmp 36,I y32)] [(2,(Qyq y33))] (.ref 2 1 (y32.toNat) 0)),(8,⟨[(.tmp 42,(.ref 2 1 (y32.toNat) 0)),(.tmp 41,(I (w64 ((w64 (p0 * x39)).tdiv y3))))],[(2,(Qyq y33))],.any,[(2,(Qyp y33 y32 p0 x39 y3))],false⟩)] ⟨Qnh rfl (Qqs hz43),aio rfl Tryz.underlying27 ti3 (odt hi44a) (odt hi44b) (Nat.zero_add _),ast rfl ti3 (by rfl) (mgt Qaj hg46) (nle rfl) (Qfm Qaj rfl),tv⟩ ?_
     obtain ⟨hi47,h⟩:=cko h
     obtain ⟨hi47a,hi47b⟩:=Qdu hi47
     obtain ⟨x48,hg49,h⟩:=bno h
     refine wx1 tbk [(3,rb [(.tmp 44,(.own 2 1 (0) ((p1.length:Int).toNat))),(.tmp 45,I y32)] [(2,(Qyp y33 y32 p0 x39 y3))] (.ref 2 1 (y32.toNat) 0)),(4,rb [(.tmp 46,(.ref 2 1 (y32.toNat) 0))] [(2,(Qyp y33 y32 p0 x39 y3))] (I x48))] ⟨aio rfl Tryz.underlying27 ti3 (odt hi47a) (odt hi47b) (Nat.zero_add _),ald rfl ti3 (by decide) (mgt Qaj hg49) (nle rfl) rfl,tv⟩<|bln<|thn<|wxz1<|thn ?_
     exact arm (mto (n:=68) [(1,(Qhm p1)),(2,.ref 0 1 0 0),(5,.ref 1 1 0 0),(8,(.own 2 1 (0) ((p1.length:Int).toNat))),(9,(I (w64 (y31 - x48)))),(28,(Qhm p1)),(29,(I ((p1.length:Int)))),(30,(I (w64 (y32+1))))] [0,1,2] [(.own 1 [[I p0]]),(.own 1 [[I y3]]),(Qyp y33 y32 p0 x39 y3)] hφ0 (pc (rnd Qaf) (prr (prr (pc (.rn (Qa0 rfl)) (pw (pc (rnd Qaf) (pw (pw pn)))))))) (qb (lc rwl ln) (qb (lc rwl ln) (qc (spr Qaf) qn)))) (ih (w64 (y31 - x48),w64 (y32+1),y33.set y32.toNat (w64 ((w64 (p0 * x39)).tdiv y3))) h)
    ·exact wfn hc38<|Qbf<|Qav<|Qav<|Qbe rfl<|thn<|⟨(y31,y33),h,(mto (n:=68) [(1,(Qhm p1)),(2,.ref 0 1 0 0),(5,.ref 1 1 0 0),(8,(.own 2 1 (0) ((p1.length:Int).toNat))),(9,I y31)] [0,1,2] [(.own 1 [[I p0]]),(.own 1 [[I y3]]),(Qyq y33)] hφ0 (pc (rnd Qaf) (prr (prr (pc (.rn (Qa0 rfl)) (pw pn))))) (qb (lc rwl ln) (qb (lc rwl ln) (qc (spr Qaf) qn))))⟩
  ·skip
   refine wx tbk [(1,rp [(.tmp 14,(Qhm p1))] (I ((p1.length:Int))))] ⟨alm (c:=Qaj) (l:=p1) (aln rfl Tryz.underlying27 rfl),tv⟩<|Qal ?_
   refine wmr (mto (n:=68) (l':=[(1,(Qhm p1)),(2,.ref 0 1 0 0),(5,.ref 1 1 0 0),(14,(Qhm p1)),(15,(I ((p1.length:Int)))),(16,I 0)]) (own':=[(.own 1 [[I p0]]),(.own 1 [[I 0]])]) [(1,(Qhm p1)),(2,.ref 0 1 0 0),(5,.ref 1 1 0 0),(14,(Qhm p1)),(15,(I ((p1.length:Int)))),(16,I 0)] [0,1] [(.own 1 [[I p0]]),(.own 1 [[I 0]])] hφ0 (pc (rnd Qaf) (prr (prr (pc (rnd Qaf) (pw (pw pn)))))) (qb (lc rwl ln) (qb (lc rwl ln) qn))) ?_
   refine Qbu (τ:=Int×Int) (fun n t=>Qen N p1 k4 n t.1 t.2=some r) (fun ⟨y50,y51⟩=>⟨mk 68 [(1,(Qhm p1)),(2,.ref 0 1 0 0),(5,.ref 1 1 0 0),(14,(Qhm p1)),(15,(I ((p1.length:Int)))),(16,I y50)],[(.own 1 [[I p0]]),(.own 1 [[I y51]])]⟩) (fun t h=>by rw [Qen] at h; cases h) (fun n54 ih t h=>?_) N (0,0) h
   obtain ⟨y50,y51⟩:=t
   rw [Qen] at h
   skip
   refine wxz<|wsq ?_
   refine bfe h (fun hc55 h=>?_) fun hc55 h=>?_
   ·refine wft hc55<|Qam<|thn<|wsq<|Qal ?_
    obtain ⟨x56,hg57,h⟩:=bno h
    obtain ⟨hi58,hj59⟩:=gsm hg57
    exact wx tbk [(0,rp [(.tmp 14,(Qhm p1)),(.tmp 16,I y50)] (.dptr (Qaj (x56)) 0))] ⟨aid rfl Tryz.underlying27 ti3 rfl rfl hi58 (mgt Qaj hj59) rfl,tv⟩<|wxz1<|bln<|thn<|wxz1<|thn<|arm (mto (n:=68) [(1,(Qhm p1)),(2,.ref 0 1 0 0),(5,.ref 1 1 0 0),(14,(Qhm p1)),(15,(I ((p1.length:Int)))),(16,(I (w64 (y50+1))))] [0,1] [(.own 1 [[I p0]]),(.own 1 [[(I (w64 (y51+x56)))]])] hφ0 (pc (rnd Qaf) (prr (prr (pc (rnd Qaf) (pw (pw pn)))))) (qb (lc rwl ln) (qb (lc rwl ln) qn))) (ih (w64 (y50+1),w64 (y51+x56)) h)
   ·exact wfn hc55<|Qbf<|Qav<|Qav<|Qbe rfl<|thn<|⟨(y51),h,(mto (n:=68) [(1,(Qhm p1)),(2,.ref 0 1 0 0),(5,.ref 1 1 0 0)] [0,1] [(.own 1 [[I p0]]),(.own 1 [[I y51]])] hφ0 (pc (rnd Qaf) (prr (prr pn))) (qb (lc rwl ln) (qb (lc rwl ln) qn)))⟩
def Qfy (_N:Nat) (p0:Int) (p1:Int) (p2:Int) (_p3:Int) (_p4:Int) (_p5:Int):Option Int:=
  chk ((if p2>1 then p2 else 1) != 0)<|
  (some (w64 ((w64 (p0 * p1)).tdiv (if p2>1 then p2 else 1)))).bind fun x2=>
  some x2
theorem Qgq (N:Nat) (p0:Int) (p1:Int) (p2:Int) (p3:Int) (p4:Int) (p5:Int) (r:Int) (h:Qfy N p0 p1 p2 p3 p4 p5=some r):Spec Tryz.prog 154 [(I (p0)),(.dptr [(I (p1))] 0),(.dptr [(I (p2)),(I (p3)),(I (p4)),(I (p5))] 0)] [] (I (r)) []:=by
  refine Qah Tryz.func154 rfl 0 (nle rfl) (fun X φ0 w0 hφ0 hd0=>?_)
  unfold Qfy at h
  refine wxz ?_
  obtain ⟨hz1,h⟩:=cko h
  obtain ⟨x2,hl3,h⟩:=bno h
  refine wx tbk [(5,rp [ci 1,(.tmp 9,I p2)] (I ((if p2>1 then p2 else 1)))),(6,rp [(.tmp 7,(I (w64 (p0 * p1)))),(.tmp 10,(I ((if p2>1 then p2 else 1))))] (I (w64 ((w64 (p0 * p1)).tdiv (if p2>1 then p2 else 1))))),(7,rp [(.tmp 11,(I (w64 ((w64 (p0 * p1)).tdiv (if p2>1 then p2 else 1)))))] (I x2))] ⟨Qni rfl,Qnh rfl (Qqs hz1),Qjb hl3 (aas rfl),tv⟩<|Qad ?_
  obtain rfl:=osi h
  exact fend ⟨[I x2],⟨rot,tv⟩,rfl⟩ nll
def Qcj (_N:Nat) (_p0:Int) (_p1:Int) (_p2:Int) (_p3:Int):Option Unit:=
  some ()
def Qty (p0:Int) (p1:Int) (p2:Int) (p3:Int):Slot:=.own 4 [[(I (p0)),(I (p1)),(I (p2)),(I (p3))]]
def Zcu:AV:=.agg [(.ref 0 4 (0) 0),(.ref 0 4 (0) 1),(.ref 0 4 (0) 2),(.ref 0 4 (0) 3)]
def Zct:Slot:=.own 4 [[(.ref 0 4 (0) 0),(.ref 0 4 (0) 1),(.ref 0 4 (0) 2),(.ref 0 4 (0) 3)]]
theorem Qcz (N:Nat) (p0:Int) (p1:Int) (p2:Int) (p3:Int) (r:Unit) (h:Qcj N p0 p1 p2 p3=some r):Spec Tryz.prog 161 [(.ref 0 4 (0) 0)] [(Qty p0 p1 p2 p3)] Zcu [(Qty p0 p1 p2 p3),Zct]:=by
  refine Qah Tryz.func161 rfl 2 (nle rfl) (fun X φ0 w0 hφ0 hd0=>?_)
  unfold Qcj at h
  refine Qbh<|wxz ?_
  refine wxd tbk [(1,rb [(.tmp 3,.ref 0 4 0 0)] [(0,(Qty p0 p1 p2 p3))] (.ref 0 4 0 0)),(4,rb [(.tmp 6,.ref 0 4 0 0)] [(0,(Qty p0 p1 p2 p3))] (.ref 0 4 0 0)),(7,rb [(.tmp 9,.ref 0 4 0 0)] [(0,(Qty p0 p1 p2 p3))] (.ref 0 4 0 0)),(10,rb [(.tmp 12,.ref 0 4 0 0)] [(0,(Qty p0 p1 p2 p3))] (.ref 0 4 0 0)),(12,rp [(.tmp 5,.ref 0 4 0 0),(.tmp 8,.ref 0 4 0 1),(.tmp 11,.ref 0 4 0 2),(.tmp 14,.ref 0 4 0 3)] Zcu)] ⟨Qa6 rfl,Qa6 rfl,Qa6 rfl,Qa6 rfl,Qos (vs:=[.ref 0 4 0 0,.ref 0 4 0 1,.ref 0 4 0 2,.ref 0 4 0 3]) rfl Tryz.underlying235 Qq9 Zgs rfl (by rfl) rfl,tv⟩ ?_
  refine wmr (mto (n:=16) (l':=[(2,.ref 1 4 0 0)]) (own':=[(Qty p0 p1 p2 p3),Zct]) [(2,.ref 1 4 0 0)] [0,1] [(Qty p0 p1 p2 p3),Zct] hφ0 (prr pn) (qb (lcc (lcc ln)) (qb (lc (.rn (rqr rfl)) (lc (.rn (rqr rfl)) (lc (.rn (rqr rfl)) (lc (.rn (rqr rfl)) ln)))) qn)))<|Qad ?_
  obtain rfl:=osi h
  exact ⟨_,Mor.rfl,Qct (vs:=[Zcu]) ⟨Qbk (n:=1) (m:=4) (j:=0) (i:=0) (xs:=[[.ref 0 4 0 0,.ref 0 4 0 1,.ref 0 4 0 2,.ref 0 4 0 3]]) (by kernel_rfl) (by kernel_rfl) Zgx (by decide) rfl (nle rfl) rfl,tv⟩ rfl (NLt.agg _ (nlc (NLt.ref _ _ _ _ (by decide)) (nlc (NLt.ref _ _ _ _ (by decide)) (nlc (NLt.ref _ _ _ _ (by decide)) (nlc (NLt.ref _ _ _ _ (by decide)) nl0))))) (by kernel_rfl) (Qan (Qa7 (nlc (NLt.of0 nll) (nlc (NLt.of0 nll) (nlc (NLt.of0 nll) (nlc (NLt.of0 nll) nl0))))) (Qan (Qa7 (nlc (NLt.ref _ _ _ _ (by decide)) (nlc (NLt.ref _ _ _ _ (by decide)) (nlc (NLt.ref _ _ _ _ (by decide)) (nlc (NLt.ref _ _ _ _ (by decide)) nl0))))) Qbi))⟩
def Qjl (N:Nat) (p0:GStream) (p1:Int) (p2:Int) (p3:Int) (p4:Int):Option Unit:=
  (Qcj N p0.Mass p0.Heat p0.Silica p0.Gas).bind fun _=>
  (Qcj N p1 p2 p3 p4).bind fun _=>
  (Qcj N (w64 (p1+p0.Mass)) p2 p3 p4).bind fun _=>
  (Qcj N (w64 (p1+p0.Mass)) (w64 (p2+p0.Heat)) p3 p4).bind fun _=>
  (Qcj N (w64 (p1+p0.Mass)) (w64 (p2+p0.Heat)) (w64 (p3+p0.Silica)) p4).bind fun _=>
  some ()
def Qv2 (p1:Int) (p2:Int) (p3:Int) (p4:Int):Slot:=.own 4 [[(I (p1)),(I (p2)),(I (p3)),(I (p4))]]
def Q3m (p1:Int) (p0:GStream) (p2:Int) (p3:Int) (p4:Int):Slot:=.own 4 [[(I (w64 (p1+p0.Mass))),(I (w64 (p2+p0.Heat))),(I (w64 (p3+p0.Silica))),(I (w64 (p4+p0.Gas)))]]
def Qt0 (p0:GStream):Slot:=.own 4 [[(I (p0.Mass)),(I (p0.Heat)),(I (p0.Silica)),(I (p0.Gas))]]
def Q0n:AV:=.agg [(.ref 1 4 (0) 0),(.ref 1 4 (0) 1),(.ref 1 4 (0) 2),(.ref 1 4 (0) 3)]
def Zgd:Slot:=.own 4 [[(.ref 1 4 (0) 0),(.ref 1 4 (0) 1),(.ref 1 4 (0) 2),(.ref 1 4 (0) 3)]]
def Qov:AV:=.agg [(.ref 0 4 (0) 0),(.ref 0 4 (0) 1),(.ref 0 4 (0) 2),(.ref 0 4 (0) 3)]
def Qtz:Slot:=.own 4 [[(.ref 0 4 (0) 0),(.ref 0 4 (0) 1),(.ref 0 4 (0) 2),(.ref 0 4 (0) 3)]]
def Q0m (p1:Int) (p0:GStream) (p2:Int) (p3:Int) (p4:Int):Slot:=.own 4 [[(I (w64 (p1+p0.Mass))),(I (p2)),(I (p3)),(I (p4))]]
def Q0l (p1:Int) (p0:GStream) (p2:Int) (p3:Int) (p4:Int):Slot:=.own 4 [[(I (w64 (p1+p0.Mass))),(I (w64 (p2+p0.Heat))),(I (p3)),(I (p4))]]
def Q0k (p1:Int) (p0:GStream) (p2:Int) (p3:Int) (p4:Int):Slot:=.own 4 [[(I (w64 (p1+p0.Mass))),(I (w64 (p2+p0.Heat))),(I (w64 (p3+p0.Silica))),(I (p4))]]
theorem Qny (N:Nat) (p0:GStream) (p1:Int) (p2:Int) (p3:Int) (p4:Int) (r:Unit) (h:Qjl N p0 p1 p2 p3 p4=some r):Spec Tryz.prog 160 [(.agg [(I (p0.Mass)),(I (p0.Heat)),(I (p0.Silica)),(I (p0.Gas))]),(.ref 0 4 (0) 0)] [(Qv2 p1 p2 p3 p4)] (.tup []) [(Q3m p1 p0 p2 p3 p4)]:=by
  refine Qah Tryz.func160 rfl 1 (nle rfl) (fun X φ0 w0 hφ0 hd0=>?_)
  unfold Qjl at h
  refine Qbh<|wxz ?_
  obtain ⟨x2,hf1,h⟩:=bno h
  refine wx tbk [(0,⟨[fu 161,(.tmp 2,.ref 1 4 0 0)],[(1,(Qt0 p0)),(2,.unused)],Q0n,[(1,(Qt0 p0)),(2,Zgd)],false⟩)] ⟨Qat (first:=[]) (cap:=[]) (vs:=[.ref 1 4 0 0]) (σr:=[(Qt0 p0)]) (σr':=[(Qt0 p0),Zgd]) (res':=Q0n) [1,2] rfl Qm9 (Qcz N p0.Mass p0.Heat p0.Silica p0.Gas _ hf1) rfl (Qbn (rnc (Qbb rfl) rn0)) (slc (Qao (rncc (rncc rn0))) Qas) (slc (Qao (rncc (rncc rn0))) (slc (Qao (rnc (Qbg rfl) (rnc (Qbg rfl) (rnc (Qbg rfl) (rnc (Qbg rfl) rn0))))) Qas)) (Qbn (rnc (Qbg rfl) (rnc (Qbg rfl) (rnc (Qbg rfl) (rnc (Qbg rfl) rn0))))) rfl rfl rfl,tv⟩<|Qal<|Qz4 17<|Qsd<|wxz<|wsq<|wtr<|Qam<|thn<|wsq ?_
  refine Qal<|wx tbk [(1,rp [(.tmp 5,Q0n),(.tmp 6,I 0)] (.ref 1 4 0 0))] ⟨Qf9 rfl Tryz.underlying235 Qq9 (by decide) (by decide) (nle rfl) (by decide) rfl,tv⟩ ?_
  obtain ⟨x4,hf3,h⟩:=bno h
  refine wy1 tbk [(0,⟨[fu 161,(.tmp 1,.ref 0 4 0 0)],[(0,(Qv2 p1 p2 p3 p4)),(3,.unused)],Qov,[(0,(Qv2 p1 p2 p3 p4)),(3,Qtz)],false⟩),(2,rp [(.tmp 10,Qov),(.tmp 11,I 0)] (.ref 0 4 0 0)),(3,rb [(.tmp 12,.ref 0 4 0 0)] [(0,(Qv2 p1 p2 p3 p4))] (.ref 0 4 0 0)),(6,rb [(.tmp 15,.ref 1 4 0 0)] [(1,(Qt0 p0))] (.ref 1 4 0 0)),(9,rb [(.tmp 12,.ref 0 4 0 0)] [(0,(Qv2 p1 p2 p3 p4))] (.ref 0 4 0 0))] ⟨Qat (first:=[]) (cap:=[]) (vs:=[.ref 0 4 0 0]) (σr:=[(Qv2 p1 p2 p3 p4)]) (σr':=[(Qv2 p1 p2 p3 p4),Qtz]) (res':=Qov) [0,3] rfl Qm9 (Qcz N p1 p2 p3 p4 _ hf3) rfl (Qbn (rnc (Qbb rfl) rn0)) (slc (Qao (rncc (rncc rn0))) Qas) (slc (Qao (rncc (rncc rn0))) (slc (Qao (rnc (Qbg rfl) (rnc (Qbg rfl) (rnc (Qbg rfl) (rnc (Qbg rfl) rn0))))) Qas)) (Qbn (rnc (Qbg rfl) (rnc (Qbg rfl) (rnc (Qbg rfl) (rnc (Qbg rfl) rn0))))) rfl rfl rfl,Qf9 rfl Tryz.underlying235 Qq9 (by decide) (by decide) (nle rfl) (by decide) rfl,Qa6 rfl,Qa6 rfl,Qa6 rfl,tv⟩<|bln<|thn<|wxz1<|thn<|Qsd<|wxz<|wsq<|wtr<|Qam ?_
  refine thn<|wsq<|Qal ?_
  refine wx tbk [(1,rp [(.tmp 5,Q0n),(.tmp 6,I 1)] (.ref 1 4 0 1))] ⟨Qf9 rfl Tryz.underlying235 Qq9 (by decide) (by decide) (nle rfl) (by decide) rfl,tv⟩ ?_
  obtain ⟨x6,hf5,h⟩:=bno h
  refine wy1 tbk [(0,⟨[fu 161,(.tmp 1,.ref 0 4 0 0)],[(0,(Q0m p1 p0 p2 p3 p4)),(4,.unused)],Qov,[(0,(Q0m p1 p0 p2 p3 p4)),(4,Qtz)],false⟩),(2,rp [(.tmp 10,Qov),(.tmp 11,I 1)] (.ref 0 4 0 1)),(3,rb [(.tmp 12,.ref 0 4 0 1)] [(0,(Q0m p1 p0 p2 p3 p4))] (.ref 0 4 0 1)),(6,rb [(.tmp 15,.ref 1 4 0 1)] [(1,(Qt0 p0))] (.ref 1 4 0 1)),(9,rb [(.tmp 12,.ref 0 4 0 1)] [(0,(Q0m p1 p0 p2 p3 p4))] (.ref 0 4 0 1))] ⟨Qat (first:=[]) (cap:=[]) (vs:=[.ref 0 4 0 0]) (σr:=[(Q0m p1 p0 p2 p3 p4)]) (σr':=[(Q0m p1 p0 p2 p3 p4),Qtz]) (res':=Qov) [0,4] rfl Qm9 (Qcz N (w64 (p1+p0.Mass)) p2 p3 p4 _ hf5) rfl (Qbn (rnc (Qbb rfl) rn0)) (slc (Qao (rncc (rncc rn0))) Qas) (slc (Qao (rncc (rncc rn0))) (slc (Qao (rnc (Qbg rfl) (rnc (Qbg rfl) (rnc (Qbg rfl) (rnc (Qbg rfl) rn0))))) Qas)) (Qbn (rnc (Qbg rfl) (rnc (Qbg rfl) (rnc (Qbg rfl) (rnc (Qbg rfl) rn0))))) rfl rfl rfl,Qf9 rfl Tryz.underlying235 Qq9 (by decide) (by decide) (nle rfl) (by decide) rfl,Qa6 rfl,Qa6 rfl,Qa6 rfl,tv⟩<|bln<|thn<|wxz1<|thn<|Qsd<|wxz<|wsq<|wtr<|Qam ?_
  refine thn<|wsq<|Qal ?_
  refine wx tbk [(1,rp [(.tmp 5,Q0n),(.tmp 6,I 2)] (.ref 1 4 0 2))] ⟨Qf9 rfl Tryz.underlying235 Qq9 (by decide) (by decide) (nle rfl) (by decide) rfl,tv⟩ ?_
  obtain ⟨x8,hf7,h⟩:=bno h
  refine wy1 tbk [(0,⟨[fu 161,(.tmp 1,.ref 0 4 0 0)],[(0,(Q0l p1 p0 p2 p3 p4)),(5,.unused)],Qov,[(0,(Q0l p1 p0 p2 p3 p4)),(5,Qtz)],false⟩),(2,rp [(.tmp 10,Qov),(.tmp 11,I 2)] (.ref 0 4 0 2)),(3,rb [(.tmp 12,.ref 0 4 0 2)] [(0,(Q0l p1 p0 p2 p3 p4))] (.ref 0 4 0 2)),(6,rb [(.tmp 15,.ref 1 4 0 2)] [(1,(Qt0 p0))] (.ref 1 4 0 2)),(9,rb [(.tmp 12,.ref 0 4 0 2)] [(0,(Q0l p1 p0 p2 p3 p4))] (.ref 0 4 0 2))] ⟨Qat (first:=[]) (cap:=[]) (vs:=[.ref 0 4 0 0]) (σr:=[(Q0l p1 p0 p2 p3 p4)]) (σr':=[(Q0l p1 p0 p2 p3 p4),Qtz]) (res':=Qov) [0,5] rfl Qm9 (Qcz N (w64 (p1+p0.Mass)) (w64 (p2+p0.Heat)) p3 p4 _ hf7) rfl (Qbn (rnc (Qbb rfl) rn0)) (slc (Qao (rncc (rncc rn0))) Qas) (slc (Qao (rncc (rncc rn0))) (slc (Qao (rnc (Qbg rfl) (rnc (Qbg rfl) (rnc (Qbg rfl) (rnc (Qbg rfl) rn0))))) Qas)) (Qbn (rnc (Qbg rfl) (rnc (Qbg rfl) (rnc (Qbg rfl) (rnc (Qbg rfl) rn0))))) rfl rfl rfl,Qf9 rfl Tryz.underlying235 Qq9 (by decide) (by decide) (nle rfl) (by decide) rfl,Qa6 rfl,Qa6 rfl,Qa6 rfl,tv⟩<|bln<|thn<|wxz1<|thn<|Qsd<|wxz<|wsq<|wtr<|Qam ?_
  refine thn<|wsq<|Qal ?_
  refine wx tbk [(1,rp [(.tmp 5,Q0n),(.tmp 6,I 3)] (.ref 1 4 0 3))] ⟨Qf9 rfl Tryz.underlying235 Qq9 (by decide) (by decide) (nle rfl) (by decide) rfl,tv⟩ ?_
  obtain ⟨x10,hf9,h⟩:=bno h
  refine wy1 tbk [(0,⟨[fu 161,(.tmp 1,.ref 0 4 0 0)],[(0,(Q0k p1 p0 p2 p3 p4)),(6,.unused)],Qov,[(0,(Q0k p1 p0 p2 p3 p4)),(6,Qtz)],false⟩),(2,rp [(.tmp 10,Qov),(.tmp 11,I 3)] (.ref 0 4 0 3)),(3,rb [(.tmp 12,.ref 0 4 0 3)] [(0,(Q0k p1 p0 p2 p3 p4))] (.ref 0 4 0 3)),(6,rb [(.tmp 15,.ref 1 4 0 3)] [(1,(Qt0 p0))] (.ref 1 4 0 3)),(9,rb [(.tmp 12,.ref 0 4 0 3)] [(0,(Q0k p1 p0 p2 p3 p4))] (.ref 0 4 0 3))] ⟨Qat (first:=[]) (cap:=[]) (vs:=[.ref 0 4 0 0]) (σr:=[(Q0k p1 p0 p2 p3 p4)]) (σr':=[(Q0k p1 p0 p2 p3 p4),Qtz]) (res':=Qov) [0,6] rfl Qm9 (Qcz N (w64 (p1+p0.Mass)) (w64 (p2+p0.Heat)) (w64 (p3+p0.Silica)) p4 _ hf9) rfl (Qbn (rnc (Qbb rfl) rn0)) (slc (Qao (rncc (rncc rn0))) Qas) (slc (Qao (rncc (rncc rn0))) (slc (Qao (rnc (Qbg rfl) (rnc (Qbg rfl) (rnc (Qbg rfl) (rnc (Qbg rfl) rn0))))) Qas)) (Qbn (rnc (Qbg rfl) (rnc (Qbg rfl) (rnc (Qbg rfl) (rnc (Qbg rfl) rn0))))) rfl rfl rfl,Qf9 rfl Tryz.underlying235 Qq9 (by decide) (by decide) (nle rfl) (by decide) rfl,Qa6 rfl,Qa6 rfl,Qa6 rfl,tv⟩<|bln<|thn<|wxz1<|thn<|Qsd<|wxz<|wsq<|wfa<|Qbf ?_
  refine Qav<|Qav<|Qbe rfl ?_
  obtain rfl:=osi h
  exact ⟨_,(mto (n:=21) (l':=[]) (own':=[(Q3m p1 p0 p2 p3 p4)]) [] [0] [(Q3m p1 p0 p2 p3 p4)] hφ0 pn (qb (lcc (lcc ln)) qn)),Qct (vs:=[]) tv rfl (NLt.tup _ nl0) (by kernel_rfl) (Qan (Qa7 (nlc (NLt.of0 nll) (nlc (NLt.of0 nll) (nlc (NLt.of0 nll) (nlc (NLt.of0 nll) nl0))))) Qbi)⟩
def Qfx (N:Nat) (p0:(List GStream)) (k5:Int×Int×Int×Int→Option GStream):Nat→Int→Int→Int→Int→Int→Option GStream
  | 0,_,_,_,_,_=>none
  | n16+1,y6,y7,y8,y9,y10=>
    bif (decide (y6<(p0.length:Int))) then
     (getI p0 y6).bind fun x18=>
     (Qjl N x18 y7 y8 y9 y10).bind fun _=>
     Qfx N p0 k5 n16 (w64 (y6+1)) (w64 (y7+x18.Mass)) (w64 (y8+x18.Heat)) (w64 (y9+x18.Silica)) (w64 (y10+x18.Gas))
    else
     k5 (y7,y8,y9,y10)
def Qnz (N:Nat) (p0:(List GStream)):Option GStream:=
  Qby (fun ⟨y1,y2,y3,y4⟩=>
    some (⟨y1,y2,y3,y4⟩:GStream)) fun k5:Int×Int×Int×Int→Option GStream=>
  Qfx N p0 k5 N 0 0 0 0 0
def Q0p:AV:=.fn (.func 160) [] [(.ref 0 4 (0) 0)]
def Q0o (p0:(List GStream)):AV:=.dat 4 ((p0:List GStream).map Qai)
def Zge:Slot:=.own 4 [[(I (0)),(I (0)),(I (0)),(I (0))]]
def Qyl (y7:Int) (y8:Int) (y9:Int) (y10:Int):Slot:=.own 4 [[(I (y7)),(I (y8)),(I (y9)),(I (y10))]]
def Za7 (x18:GStream):AV:=.agg [(I (x18.Mass)),(I (x18.Heat)),(I (x18.Silica)),(I (x18.Gas))]
def Q3n (y7:Int) (x18:GStream) (y8:Int) (y9:Int) (y10:Int):Slot:=.own 4 [[(I (w64 (y7+x18.Mass))),(I (w64 (y8+x18.Heat))),(I (w64 (y9+x18.Silica))),(I (w64 (y10+x18.Gas)))]]
theorem Qsv (N:Nat) (p0:(List GStream)) (r:GStream) (h:Qnz N p0=some r):Spec Tryz.prog 155 [(.dat 4 (p0.map Qai))] [] (.agg (Qai r)) []:=by
  refine Qah Tryz.func155 rfl 0 (nle rfl) (fun X φ0 w0 hφ0 hd0=>?_)
  unfold Qnz at h
  refine wxz<|wx tbk [(0,rp [(.tmp 2,.ref 0 4 0 0)] Q0p)] ⟨Qe5 (fs:=[]) (cs:=[.ref 0 4 0 0]) rfl rfl rfl rfl,tv⟩ ?_
  obtain ⟨k5,hk_k5,h⟩:=jko h
  refine wjn (τ:=Int×Int×Int×Int) (fun t=>k5 t=some r) (fun ⟨y1,y2,y3,y4⟩=>⟨mk 18 [(2,.ref 0 4 0 0)],[(.own 4 [[I y1,I y2,I y3,I y4]])]⟩) (fun t h=>?_) ?_
  ·subst hk_k5
   obtain ⟨y1,y2,y3,y4⟩:=t
   refine wxz<|Qad ?_
   obtain rfl:=osi h
   exact fend ⟨[(.agg [I y1,I y2,I y3,I y4])],⟨Qbk (n:=0) (m:=4) (j:=0) (i:=0) (xs:=[[I y1,I y2,I y3,I y4]]) (by kernel_rfl) (by kernel_rfl) ti63 (by decide) rfl (nle rfl) rfl,tv⟩,rfl⟩ (NLt.agg _ (nlcc (nlcc nl0)))
  ·skip
   refine wx tbk [(1,rp [(.tmp 7,(Q0o p0))] (I ((p0.length:Int))))] ⟨alm (c:=Qai) (l:=p0) (aln rfl Tryz.underlying45 rfl),tv⟩<|Qal ?_
   refine wmr (mto (n:=18) (l':=[(2,.ref 0 4 0 0),(3,Q0p),(7,(Q0o p0)),(8,(I ((p0.length:Int)))),(9,I 0)]) (own':=[Zge]) [(2,.ref 0 4 0 0),(3,Q0p),(7,(Q0o p0)),(8,(I ((p0.length:Int)))),(9,I 0)] [0] [Zge] hφ0 (prr (pc (.rn (Qbd rn0 (rnc (rqr rfl) rn0))) (pc (rnd Qag) (pw (pw pn))))) (qb (lcc (lcc ln)) qn)) ?_
   refine Qbu (τ:=Int×Int×Int×Int×Int) (fun n t=>Qfx N p0 k5 n t.1 t.2.1 t.2.2.1 t.2.2.2.1 t.2.2.2.2=some r) (fun ⟨y6,y7,y8,y9,y10⟩=>⟨mk 18 [(2,.ref 0 4 0 0),(3,Q0p),(7,(Q0o p0)),(8,(I ((p0.length:Int)))),(9,I y6)],[(Qyl y7 y8 y9 y10)]⟩) (fun t h=>by rw [Qfx] at h; cases h) (fun n16 ih t h=>?_) N (0,0,0,0,0) h
   obtain ⟨y6,y7,y8,y9,y10⟩:=t
   rw [Qfx] at h
   skip
   refine wxz<|wsq ?_
   refine bfe h (fun hc17 h=>?_) fun hc17 h=>?_
   ·refine wft hc17<|Qam<|thn<|wsq<|Qal ?_
    obtain ⟨x18,hg19,h⟩:=bno h
    obtain ⟨hi20,hj21⟩:=gsm hg19
    refine wx tbk [(0,rp [(.tmp 7,(Q0o p0)),(.tmp 9,I y6)] (.dptr (Qai (x18)) 0))] ⟨aid rfl Tryz.underlying45 ti63 rfl rfl hi20 (mgt Qai hj21) rfl,tv⟩ ?_
    obtain ⟨x23,hf22,h⟩:=bno h
    refine wx1 tbk [(2,⟨[(.tmp 13,Q0p),(.tmp 14,(Za7 x18))],[(0,(Qyl y7 y8 y9 y10))],(.tup []),[(0,(Q3n y7 x18 y8 y9 y10))],false⟩)] ⟨Qat (first:=[]) (cap:=[.ref 0 4 0 0]) (vs:=[(Za7 x18)]) (σr:=[(Qyl y7 y8 y9 y10)]) (σr':=[(Q3n y7 x18 y8 y9 y10)]) (res':=(.tup [])) [0] rfl Q8z (Qny N x18 y7 y8 y9 y10 _ hf22) rfl (Qbn (rnc (.plain _ (NLt.agg _ (nlcc (nlcc nl0)))) (rnc (Qbb rfl) rn0))) (slc (Qao (rncc (rncc rn0))) Qas) (slc (Qao (rncc (rncc rn0))) Qas) (.plain _ (NLt.tup _ nl0)) rfl rfl rfl,tv⟩<|bln<|thn<|wxz1<|thn ?_
    exact arm (mto (n:=18) [(2,.ref 0 4 0 0),(3,Q0p),(7,(Q0o p0)),(8,(I ((p0.length:Int)))),(9,(I (w64 (y6+1))))] [0] [(Q3n y7 x18 y8 y9 y10)] hφ0 (prr (pc (.rn (Qbd rn0 (rnc (rqr rfl) rn0))) (pc (rnd Qag) (pw (pw pn))))) (qb (lcc (lcc ln)) qn)) (ih (w64 (y6+1),w64 (y7+x18.Mass),w64 (y8+x18.Heat),w64 (y9+x18.Silica),w64 (y10+x18.Gas)) h)
   ·exact wfn hc17<|Qbf<|Qav<|Qav<|Qbe rfl<|thn<|⟨(y7,y8,y9,y10),h,(mto (n:=18) [(2,.ref 0 4 0 0)] [0] [(Qyl y7 y8 y9 y10)] hφ0 (prr pn) (qb (lcc (lcc ln)) qn))⟩
def Qe7 (N:Nat) (p0:GStream) (k3:(List GStream)→Option ((List GStream)×GLoss×Int)) (x7:(List Int)):Nat→(List GStream)→Int→Option ((List GStream)×GLoss×Int)
  | 0,_,_=>none
  | n12+1,y8,y9=>
    bif (decide (y9<(x7.length:Int))) then
     (getI x7 y9).bind fun x14=>
     (Qfy N p0.Heat x14 p0.Mass p0.Heat p0.Silica p0.Gas).bind fun x19=>
     (Qfy N p0.Silica x14 p0.Mass p0.Heat p0.Silica p0.Gas).bind fun x21=>
     (Qfy N p0.Gas x14 p0.Mass p0.Heat p0.Silica p0.Gas).bind fun x23=>
     chk (decide ((y8.length+([(⟨x14,x19,x21,x23⟩:GStream)]).length) * 32≤140737488355328))<|
     Qe7 N p0 k3 x7 n12 (y8++([(⟨x14,x19,x21,x23⟩:GStream)])) (w64 (y9+1))
    else
     k3 (y8)
def Qky (N:Nat) (p0:GStream) (p1:(List Int)):Option ((List GStream)×GLoss×Int):=
  Qby (fun _=>
    Qby (fun y2=>
      (Qnz N y2).bind fun x5=>
      some (y2,(⟨w64 (p0.Heat - x5.Heat),w64 (p0.Silica - x5.Silica),w64 (p0.Gas - x5.Gas)⟩:GLoss),0)) fun k3:(List GStream)→Option ((List GStream)×GLoss×Int)=>
    (Qka N p0.Mass p1).bind fun x7=>
    Qe7 N p0 k3 x7 N ([]) 0) fun k1:Unit→Option ((List GStream)×GLoss×Int)=>
  (Qeq N p0).bind fun x26=>
  bif (!x26) then
   some ([],(⟨0,0,0⟩:GLoss),1)
  else
   bif (decide ((p1.length:Int)>20)) then
    some ([],(⟨0,0,0⟩:GLoss),1)
   else
    (Qie N p1).bind fun x30=>
    bif (!x30) then
     some ([],(⟨0,0,0⟩:GLoss),1)
    else
     (Qd3 N p1).bind fun x33=>
     bif (!x33) then
      some ([],(⟨0,0,0⟩:GLoss),1)
     else
      k1 ()
def Qt4 (p1:(List Int)):AV:=.dat 1 ((p1:List Int).map Qaj)
def Qpn (p0:GStream):Slot:=.own 4 [[(I (p0.Mass)),(I (p0.Heat)),(I (p0.Silica)),(I (p0.Gas))]]
def Qt6:Slot:=.own 3 [[(I (0)),(I (0)),(I (0))]]
def Q3x (y2:(List GStream)):AV:=.acc 1 63 4 ((y2:List GStream).map Qai)
def Za9 (y2:(List GStream)):AV:=.dat 4 ((y2:List GStream).map Qai)
def Za8 (p0:GStream) (x5:GStream):AV:=.agg [(I (w64 (p0.Heat - x5.Heat))),(I (w64 (p0.Silica - x5.Silica))),(I (w64 (p0.Gas - x5.Gas)))]
def Qpm (x7:(List Int)):AV:=.dat 1 ((x7:List Int).map Qaj)
def Q3w (y8:(List GStream)):AV:=.acc 1 63 4 ((y8:List GStream).map Qai)
def Qyt:AV:=.fn (.func 154) [] [(.ref 3 1 (0) 0),(.ref 0 4 (0) 0)]
def Q3v (x14:Int) (p0:GStream):AV:=.fn (.func 154) [] [(.dptr [(I (x14))] 0),(.dptr [(I (p0.Mass)),(I (p0.Heat)),(I (p0.Silica)),(I (p0.Gas))] 0)]
def Zhs (p0:GStream):AV:=.agg [(I (p0.Mass)),(I (p0.Heat)),(I (p0.Silica)),(I (p0.Gas))]
def Q3u (p0:GStream) (x26:Bool):List (Nat×Rec):=[(1,rp [fu 131,((.tmp 12),(Zhs p0))] (B (x26)))]
def Qt5:AV:=.agg [(I (0)),(I (0)),(I (0))]
def Qys:AV:=.dat 4 (([]:List GStream).map Qai)
def Q3t (p0) (x26) (p1:(List Int)):=hcat (Q3u p0 x26) [(3,rp [((.tmp 14),(B ((!x26))))] (B (false))),(5,rp [((.tmp 15),(B (false))),((.tmp 16),(Qt4 p1))] (I ((p1.length:Int))))]
def Q3s (p0) (x26) (p1) (x30:Bool):=hcat (Q3t p0 x26 p1) [(8,rp [((.tmp 19),(B ((decide ((p1.length:Int)>20)))))] (B (false))),(11,rp [((.tmp 20),(B (false))),fu 151,((.tmp 21),(Qt4 p1)),((.tmp 22),(.fn (.func 150) [] []))] (B (x30)))]
theorem Qpx (N:Nat) (p0:GStream) (p1:(List Int)) (r:((List GStream)×GLoss×Int)) (h:Qky N p0 p1=some r):Spec Tryz.prog 146 [(.agg (Qai p0)),(.dat 1 (p1.map Qaj))] [] (.tup [(.dat 4 (r.1.map Qai)),(.agg (Zfi r.2.1)),(I r.2.2)]) []:=by
  refine Qah Tryz.func146 rfl 0 (nle rfl) (fun X φ0 w0 hφ0 hd0=>?_)
  unfold Qky at h
  refine wxz<|wxz ?_
  obtain ⟨k1,hk_k1,h⟩:=jko h
  refine wjn (τ:=Unit) (fun t=>k1 t=some r) (fun _=>⟨mk 79 [(1,(Qt4 p1)),(2,.ref 0 4 0 0),(4,nilS),(5,.ref 1 3 0 0)],[(Qpn p0),Qt6]⟩) (fun t h=>?_) ?_
  ·subst hk_k1
   obtain ⟨k3,hk_k3,h⟩:=jko h
   refine wjn (τ:=(List GStream)) (fun t=>k3 t=some r) (fun y2=>⟨mk 79 [(2,.ref 0 4 0 0),(4,(Q3x y2)),(5,.ref 2 3 0 0)],[(Qpn p0),.tok,Qt6]⟩) (fun y2 h=>?_) ?_
   ·subst hk_k3
    obtain ⟨x5,hf4,h⟩:=bno h
    refine wx tbk [(1,rp [fu 155,(.tmp 60,(Q3x y2))] (.agg [I x5.Mass,I x5.Heat,I x5.Silica,I x5.Gas]))] ⟨awk (rd':=(.func 155,(.fn (.func 155) [] []))::[(.tmp 60,(Za9 y2))]) ⟨rfl,lrf,rfl,Less.acc,tv⟩ (apv Q83 (Qsv N y2 _ hf4) (nlc (nld Qag _) nl0) (NLt.agg _ (nlcc (nlcc nl0)))),tv⟩ ?_
    refine wxd tbk [(16,rp [(.tmp 67,(I (w64 (p0.Heat - x5.Heat)))),(.tmp 72,(I (w64 (p0.Silica - x5.Silica)))),(.tmp 77,(I (w64 (p0.Gas - x5.Gas))))] (Za8 p0 x5))] ⟨Qax (vs:=[(I (w64 (p0.Heat - x5.Heat))),(I (w64 (p0.Silica - x5.Silica))),(I (w64 (p0.Gas - x5.Gas)))]) rfl Q4n Q0z rfl (by rfl) rfl,tv⟩<|Qad ?_
    obtain rfl:=osi h
    exact fend ⟨[(Za9 y2),(Za8 p0 x5),I 0],⟨Qch (v:=(Q3x y2)) (rot) Less.acc,Qbk (n:=2) (m:=3) (j:=0) (i:=0) (xs:=[[(I (w64 (p0.Heat - x5.Heat))),(I (w64 (p0.Silica - x5.Silica))),(I (w64 (p0.Gas - x5.Gas)))]]) (by kernel_rfl) (by kernel_rfl) Q00 (by decide) rfl (nle rfl) rfl,rot,tv⟩,rfl⟩ (NLt.tup _ (nlc (nld Qag _) (nlc (NLt.agg _ (nlcc (nlc nll nl0))) (nlc nll nl0))))
   ·skip
    obtain ⟨x7,hf6,h⟩:=bno h
    refine wx tbk [(3,rp [fu 153,(.tmp 33,I p0.Mass),(.tmp 34,(Qt4 p1))] (Qpm x7)),(4,rp [(.tmp 35,(Qpm x7))] (I ((x7.length:Int))))] ⟨apv Q84 (Qo1 N p0.Mass p1 _ hf6) (nlc nll (nlc (nld Qaf _) nl0)) (nld Qaf _),alm (c:=Qaj) (l:=x7) (aln rfl Tryz.underlying27 rfl),tv⟩<|Qal ?_
    refine wmr (Mor.trans (Qs9 2 63 4 4 (by kernel_rfl) (by kernel_rfl)) (mto (n:=79) (l':=[(2,.ref 0 4 0 0),(4,(.acc 1 63 4 ((([]):List GStream).map Qai))),(5,.ref 2 3 0 0),(35,(Qpm x7)),(36,(I ((x7.length:Int)))),(37,I 0)]) (own':=[(Qpn p0),.tok,Qt6]) [(2,.ref 0 4 0 0),(4,(.acc 2 63 4 (([]:List GStream).map Qai))),(5,.ref 1 3 0 0),(35,(Qpm x7)),(36,(I ((x7.length:Int)))),(37,I 0)] [0,2,1] [(Qpn p0),.tok,Qt6] hφ0 (prr (pc (.rn (Qcw rfl (Qb9 Qag _))) (prr (pc (rnd Qaf) (pw (pw pn)))))) (qb (lcc (lcc ln)) (qc .tok (qb (lcc (lc rwl ln)) qn))))) ?_
    refine Qbu (τ:=(List GStream)×Int) (fun n t=>Qe7 N p0 k3 x7 n t.1 t.2=some r) (fun ⟨y8,y9⟩=>⟨mk 79 [(2,.ref 0 4 0 0),(4,(Q3w y8)),(5,.ref 2 3 0 0),(35,(Qpm x7)),(36,(I ((x7.length:Int)))),(37,I y9)],[(Qpn p0),.tok,Qt6]⟩) (fun t h=>by rw [Qe7] at h; cases h) (fun n12 ih t h=>?_) N ([],0) h
    obtain ⟨y8,y9⟩:=t
    rw [Qe7] at h
    skip
    refine wxz<|wsq ?_
    refine bfe h (fun hc13 h=>?_) fun hc13 h=>?_
    ·refine wft hc13<|Qam<|thn<|wsq<|Qal ?_
     obtain ⟨x14,hg15,h⟩:=bno h
     obtain ⟨hi16,hj17⟩:=gsm hg15
     refine wx tbk [(0,rp [(.tmp 35,(Qpm x7)),(.tmp 37,I y9)] (.dptr (Qaj (x14)) 0))] ⟨aid rfl Tryz.underlying27 ti3 rfl rfl hi16 (mgt Qaj hj17) rfl,tv⟩ ?_
     refine wx tbk [(0,rp [(.tmp 9,.ref 3 1 0 0),(.tmp 2,.ref 0 4 0 0)] Qyt)] ⟨Qe5 (fs:=[]) (cs:=[.ref 3 1 0 0,.ref 0 4 0 0]) rfl rfl rfl rfl,tv⟩ ?_
     obtain ⟨x19,hf18,h⟩:=bno h
     obtain ⟨x21,hf20,h⟩:=bno h
     obtain ⟨x23,hf22,h⟩:=bno h
     obtain ⟨ha24,h⟩:=cko h
     refine wy1 tbk [(5,rb [(.tmp 44,Qyt),(.tmp 46,I p0.Heat)] [(3,.own 1 [[I x14]]),(0,(Qpn p0))] (I x19)),(9,rb [(.tmp 48,Qyt),(.tmp 50,I p0.Silica)] [(3,.own 1 [[I x14]]),(0,(Qpn p0))] (I x21)),(13,rb [(.tmp 52,Qyt),(.tmp 54,I p0.Gas)] [(3,.own 1 [[I x14]]),(0,(Qpn p0))] (I x23)),(14,rp [(.tmp 43,I x14),(.tmp 47,I x19),(.tmp 51,I x21),(.tmp 55,I x23)] (.agg [I x14,I x19,I x21,I x23])),(15,rp [(.tmp 56,(.agg [I x14,I x19,I x21,I x23]))] (.dat 4 (([(⟨x14,x19,x21,x23⟩:GStream)]:List GStream).map Qai))),(16,⟨[(.tmp 42,(Q3w y8)),(.tmp 57,(.dat 4 (([(⟨x14,x19,x21,x23⟩:GStream)]:List GStream).map Qai)))],[(1,.tok),(4,.unused)],(.acc 4 63 4 ((y8++([(⟨x14,x19,x21,x23⟩:GStream)]):List GStream).map Qai)),[(1,.dead),(4,.tok)],false⟩)] ⟨Qio (rd':=[(.tmp 44,(Q3v x14 p0)),(.tmp 46,I p0.Heat)]) [(3,1,[[I x14]]),(0,4,[[I p0.Mass,I p0.Heat,I p0.Silica,I p0.Gas]])] ⟨rfl,(Zaa tv ⟨(Qnd 0 rfl (lc (.same _) ln)),(Qnd 1 rfl (lc (.same _) (lc (.same _) (lc (.same _) (lc (.same _) ln))))),tv⟩),rfl,.same _,tv⟩ (by rfl) (.lit _) Qsy (Qat (first:=[]) (cap:=[(.dptr [I x14] 0),(.dptr [I p0.Mass,I p0.Heat,I p0.Silica,I p0.Gas] 0)]) (vs:=[I p0.Heat]) (σr:=[]) (σr':=[]) (res':=(I x19)) [] rfl Qti (Qgq N p0.Heat x14 p0.Mass p0.Heat p0.Silica p0.Gas _ hf18) rfl (Qbn (rnc (.plain _ nll) (rnc (.plain _ (NLt.dptr _ _ (nlc nll nl0))) (rnc (.plain _ (NLt.dptr _ _ (nlcc (nlcc nl0)))) rn0)))) Qas Qas (.plain _ nll) rfl rfl rfl),Qio (rd':=[(.tmp 48,(Q3v x14 p0)),(.tmp 50,I p0.Silica)]) [(3,1,[[I x14]]),(0,4,[[I p0.Mass,I p0.Heat,I p0.Silica,I p0.Gas]])] ⟨rfl,(Zaa tv ⟨(Qnd 0 rfl (lc (.same _) ln)),(Qnd 1 rfl (lc (.same _) (lc (.same _) (lc (.same _) (lc (.same _) ln))))),tv⟩),rfl,.same _,tv⟩ (by rfl) (.lit _) Qsy (Qat (first:=[]) (cap:=[(.dptr [I x14] 0),(.dptr [I p0.Mass,I p0.Heat,I p0.Silica,I p0.Gas] 0)]) (vs:=[I p0.Silica]) (σr:=[]) (σr':=[]) (res':=(I x21)) [] rfl Qti (Qgq N p0.Silica x14 p0.Mass p0.Heat p0.Silica p0.Gas _ hf20) rfl (Qbn (rnc (.plain _ nll) (rnc (.plain _ (NLt.dptr _ _ (nlc nll nl0))) (rnc (.plain _ (NLt.dptr _ _ (nlcc (nlcc nl0)))) rn0)))) Qas Qas (.plain _ nll) rfl rfl rfl),Qio (rd':=[(.tmp 52,(Q3v x14 p0)),(.tmp 54,I p0.Gas)]) [(3,1,[[I x14]]),(0,4,[[I p0.Mass,I p0.Heat,I p0.Silica,I p0.Gas]])] ⟨rfl,(Zaa tv ⟨(Qnd 0 rfl (lc (.same _) ln)),(Qnd 1 rfl (lc (.same _) (lc (.same _) (lc (.same _) (lc (.same _) ln))))),tv⟩),rfl,.same _,tv⟩ (by rfl) (.lit _) Qsy (Qat (first:=[]) (cap:=[(.dptr [I x14] 0),(.dptr [I p0.Mass,I p0.Heat,I p0.Silica,I p0.Gas] 0)]) (vs:=[I p0.Gas]) (σr:=[]) (σr':=[]) (res':=(I x23)) [] rfl Qti (Qgq N p0.Gas x14 p0.Mass p0.Heat p0.Silica p0.Gas _ hf22) rfl (Qbn (rnc (.plain _ nll) (rnc (.plain _ (NLt.dptr _ _ (nlc nll nl0))) (rnc (.plain _ (NLt.dptr _ _ (nlcc (nlcc nl0)))) rn0)))) Qas Qas (.plain _ nll) rfl rfl rfl),Qax (vs:=[I x14,I x19,I x21,I x23]) rfl ts63 tz63 rfl (by rfl) rfl,Qbt (vs:=[(.agg [I x14,I x19,I x21,I x23])]) rfl Tryz.underlying45 ti63 tz63 rfl (by decide) rfl (by decide) (by rfl) (by rfl) (by rfl) rfl,Qej rfl Tryz.underlying45 te63 (Base.acc _ _) rfl rfl (by rfl) (Qgj Qai ha24) (Qgi Qai ha24 (by decide)) (Qgh Qai) rfl rfl,tv⟩<|bln<|thn<|wxz1<|thn ?_
     exact arm (mto (n:=79) [(2,.ref 0 4 0 0),(4,(.acc 4 63 4 ((y8++([(⟨x14,x19,x21,x23⟩:GStream)]):List GStream).map Qai))),(5,.ref 2 3 0 0),(35,(Qpm x7)),(36,(I ((x7.length:Int)))),(37,(I (w64 (y9+1))))] [0,4,2] [(Qpn p0),.tok,Qt6] hφ0 (prr (pc (.rn (Qcw rfl (Qb9 Qag _))) (prr (pc (rnd Qaf) (pw (pw pn)))))) (qb (lcc (lcc ln)) (qc .tok (qb (lcc (lc rwl ln)) qn)))) (ih (y8++([(⟨x14,x19,x21,x23⟩:GStream)]),w64 (y9+1)) h)
    ·exact wfn hc13<|Qbf<|Qav<|Qav<|Qbe rfl<|thn<|⟨(y8),h,(mto (n:=79) [(2,.ref 0 4 0 0),(4,(Q3w y8)),(5,.ref 2 3 0 0)] [0,1,2] [(Qpn p0),.tok,Qt6] hφ0 (prr (pc (.rn (Qcw rfl (Qb9 Qag _))) (prr pn))) (qb (lcc (lcc ln)) (qc .tok (qb (lcc (lc rwl ln)) qn))))⟩
  ·skip
   obtain ⟨x26,hf25,h⟩:=bno h
   refine hpre (A:=(Q3u p0 x26)) ⟨apv Qtj (Qf2 N p0 _ hf25) (nlc (NLt.agg _ (nlcc (nlcc nl0))) nl0) nll,tv⟩ fun q1_=>?_
   refine bfe h (fun hb27 h=>?_) fun hb27 h=>?_
   ·refine wx tbk (hcat (Q3u p0 x26) [(3,rp [(.tmp 14,(B ((!x26))))] (B true))]) (hap q1_ ⟨asb hb27 (amv rfl),tv⟩)<|wtr ?_
    refine wx tbk [(0,rp [] Qt5)] ⟨Qax (vs:=[]) rfl Q4n Q0z rfl (by rfl) rfl,tv⟩<|Qad<|Qac ?_
    obtain rfl:=osi h
    exact fend ⟨[Qys,Qt5,I 1],⟨Qch (v:=nilS) (rot) Less.nil,Qbk (n:=1) (m:=3) (j:=0) (i:=0) (xs:=[[I 0,I 0,I 0]]) (by kernel_rfl) (by kernel_rfl) Q00 (by decide) rfl (nle rfl) rfl,rot,tv⟩,rfl⟩ (NLt.tup _ (nlc (nld Qag _) (nlc (NLt.agg _ (nlcc (nlc nll nl0))) (nlc nll nl0))))
   ·refine hpre (A:=(Q3t p0 x26 p1)) (hap q1_ ⟨asb hb27 (amv rfl),ag_ (alm (c:=Qaj) (l:=p1) (aln rfl Tryz.underlying27 rfl)),tv⟩) fun q2_=>?_
    refine bfe h (fun hb28 h=>?_) fun hb28 h=>?_
    ·refine wx tbk (hcat (Q3t p0 x26 p1) [(8,rp [(.tmp 19,(B ((decide ((p1.length:Int)>20)))))] (B true))]) (hap q2_ ⟨asb hb28 (amv rfl),tv⟩)<|wtr ?_
     refine wx tbk [(0,rp [] Qt5)] ⟨Qax (vs:=[]) rfl Q4n Q0z rfl (by rfl) rfl,tv⟩<|Qad<|Qac ?_
     obtain rfl:=osi h
     exact fend ⟨[Qys,Qt5,I 1],⟨Qch (v:=nilS) (rot) Less.nil,Qbk (n:=1) (m:=3) (j:=0) (i:=0) (xs:=[[I 0,I 0,I 0]]) (by kernel_rfl) (by kernel_rfl) Q00 (by decide) rfl (nle rfl) rfl,rot,tv⟩,rfl⟩ (NLt.tup _ (nlc (nld Qag _) (nlc (NLt.agg _ (nlcc (nlc nll nl0))) (nlc nll nl0))))
    ·obtain ⟨x30,hf29,h⟩:=bno h
     refine hpre (A:=(Q3s p0 x26 p1 x30)) (hap q2_ ⟨asb hb28 (amv rfl),ag_ (Qat (first:=[]) (cap:=[]) (vs:=[(Qt4 p1),(.fn (.func 150) [] [])]) (σr:=[]) (σr':=[]) (res':=(B x30)) [] rfl Q86 (Ql5 N p1 _ hf29) rfl (Qbn (rnc (pld Qaf) (rnc (.plain _ (NLt.fn _ _ _ nl0 nl0)) rn0))) Qas Qas (.plain _ nll) rfl rfl rfl),tv⟩) fun q3_=>?_
     refine bfe h (fun hb31 h=>?_) fun hb31 h=>?_
     ·refine wx tbk (hcat (Q3s p0 x26 p1 x30) [(14,rp [(.tmp 25,(B ((!x30))))] (B true))]) (hap q3_ ⟨asb hb31 (amv rfl),tv⟩)<|wtr ?_
      refine wx tbk [(0,rp [] Qt5)] ⟨Qax (vs:=[]) rfl Q4n Q0z rfl (by rfl) rfl,tv⟩<|Qad<|Qac ?_
      obtain rfl:=osi h
      exact fend ⟨[Qys,Qt5,I 1],⟨Qch (v:=nilS) (rot) Less.nil,Qbk (n:=1) (m:=3) (j:=0) (i:=0) (xs:=[[I 0,I 0,I 0]]) (by kernel_rfl) (by kernel_rfl) Q00 (by decide) rfl (nle rfl) rfl,rot,tv⟩,rfl⟩ (NLt.tup _ (nlc (nld Qag _) (nlc (NLt.agg _ (nlcc (nlc nll nl0))) (nlc nll nl0))))
     ·obtain ⟨x33,hf32,h⟩:=bno h
      refine wx tbk (hcat (Q3s p0 x26 p1 x30) [(14,rp [(.tmp 25,(B ((!x30))))] (B false)),(16,rp [(.tmp 26,B false),fu 126,(.tmp 27,(Qt4 p1)),fu 152] (B x33))]) (hap q3_ ⟨asb hb31 (amv rfl),ag_ (Qat (first:=[]) (cap:=[]) (vs:=[(Qt4 p1),(.fn (.func 152) [] [])]) (σr:=[]) (σr':=[]) (res':=(B x33)) [] rfl Qnb (Qg6 N p1 _ hf32) rfl (Qbn (rnc (pld Qaf) (rnc (.plain _ (NLt.fn _ _ _ nl0 nl0)) rn0))) Qas Qas (.plain _ nll) rfl rfl rfl),tv⟩) ?_
      refine bfe h (fun hc34 h=>?_) fun hc34 h=>?_
      ·refine wft hc34<|wx tbk [(0,rp [] Qt5)] ⟨Qax (vs:=[]) rfl Q4n Q0z rfl (by rfl) rfl,tv⟩<|Qad<|Qac ?_
       obtain rfl:=osi h
       exact fend ⟨[Qys,Qt5,I 1],⟨Qch (v:=nilS) (rot) Less.nil,Qbk (n:=1) (m:=3) (j:=0) (i:=0) (xs:=[[I 0,I 0,I 0]]) (by kernel_rfl) (by kernel_rfl) Q00 (by decide) rfl (nle rfl) rfl,rot,tv⟩,rfl⟩ (NLt.tup _ (nlc (nld Qag _) (nlc (NLt.agg _ (nlcc (nlc nll nl0))) (nlc nll nl0))))
      ·exact wfn hc34<|Qam<|thn<|⟨(),h,(mto (n:=79) [(1,(Qt4 p1)),(2,.ref 0 4 0 0),(4,nilS),(5,.ref 1 3 0 0)] [0,1] [(Qpn p0),Qt6] hφ0 (pc (rnd Qaf) (prr (pw (prr pn)))) (qb (lcc (lcc ln)) (qb (lcc (lc rwl ln)) qn)))⟩
end Go.Proofs.YtmbhnllcfmiajaaGreat
