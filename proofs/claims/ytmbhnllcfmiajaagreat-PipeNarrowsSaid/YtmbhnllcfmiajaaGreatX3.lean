/-
  Functions of the program: what they compute, as plain functions, and that they do. No conditions.
-/
import Derived.Test.YtmbhnllcfmiajaaGreatX2
namespace Go.Proofs.YtmbhnllcfmiajaaGreat
set_option maxRecDepth 100000
set_option maxHeartbeats 4000000
open Go.RowKit
def Qil (N:Nat) (p0:Int):Option Bool:=
  (Qcn N p0 0 1000000000000).bind fun x2=>
  some x2
theorem Qpi (N:Nat) (p0:Int) (r:Bool) (h:Qil N p0=some r):Spec Tryz.prog 109 [(I p0)] [] (B r) []:=by
  refine Qah Tryz.func109 rfl 0 (nle rfl) (fun X φ0 w0 hφ0 hd0=>?_)
  unfold Qil at h
  refine wxz ?_
  obtain ⟨x2,hf1,h⟩:=bno h
  refine wx tbk [(1,rp [fu 65,(.tmp 3,I p0),ci 0,ci 1000000000000] (B x2))] ⟨apc (first:=[]) (cap:=[]) (vs:=[I p0,I 0,I 1000000000000]) rfl Qfm (Qbg N p0 0 1000000000000 _ hf1) rfl rfl (nlcc (nlc nll nl0)) nll rfl,trivial⟩<|Qaf ?_
  obtain rfl:=osi h
  exact fend ⟨[B x2],⟨rot,trivial⟩,rfl⟩ nll
def Qgb (N:Nat) (p0:Int):Option Bool:=
  (Qil N p0).bind fun x3=>
  some (!x3)
def Zaj:Slot:=.own 1 [[(.fn (.func 109) [] [])]]
theorem Qm9 (N:Nat) (p0:Int) (r:Bool) (h:Qgb N p0=some r):Spec Tryz.prog 128 [(I (p0)),(.ref 0 1 (0) 0)] [Zaj] (B (r)) [Zaj]:=by
  refine Qah Tryz.func128 rfl 1 (nle rfl) (fun X φ0 w0 hφ0 hd0=>?_)
  unfold Qgb at h
  refine Qbx<|wxz ?_
  obtain ⟨x3,hf2,h⟩:=bno h
  refine wx tbk [(2,rp [(.tmp 4,(.fn (.func 109) [] [])),(.tmp 5,I p0)] (B x3))] ⟨apc (first:=[]) (cap:=[]) (vs:=[I p0]) rfl Zc1 (Qpi N p0 _ hf2) rfl rfl (nlc nll nl0) nll rfl,trivial⟩ ?_
  refine wmr (mto (n:=8) (l':=[(3,(B ((!x3))))]) (own':=[Zaj]) [(3,(B ((!x3))))] [0] [Zaj] hφ0 (pc rwl pn) (qc (spb (lc (.rn (Qbn rn0 rn0)) ln)) qn))<|Qaf ?_
  obtain rfl:=osi h
  exact ⟨_,Mor.rfl,Qdc (vs:=[(B ((!x3)))]) ⟨rot,trivial⟩ rfl (NLt.of0 nll) (by kernel_rfl) (Qao (Qbd (nlc (NLt.of0 (NLt.fn _ _ _ nl0 nl0)) nl0)) Qbt)⟩
def Qb3 (N:Nat) (p0:(List Int)) (k2:Unit→Option Int):Nat→Int→Option Int
  | 0,_=>none
  | n5+1,y3=>
    bif (decide (y3<(p0.length:Int))) then
     (getI p0 y3).bind fun x7=>
     (Qgb N x7).bind fun x12=>
     bif x12 then
      some y3
     else
      Qb3 N p0 k2 n5 (w64 (y3+1))
    else
     k2 ()
def Qd2 (N:Nat) (p0:(List Int)):Option Int:=
  Qbp (fun _=>
    some (-1)) fun k2:Unit→Option Int=>
  Qb3 N p0 k2 N 0
def Qy1 (p0:(List Int)):AV:=.dat 1 ((p0:List Int).map Qak)
def Q31:AV:=.fn (.func 128) [] [(.ref 0 1 (0) 0)]
def Qm3:Slot:=.own 1 [[(.fn (.func 109) [] [])]]
theorem Qiw (N:Nat) (p0:(List Int)) (r:Int) (h:Qd2 N p0=some r):Spec Tryz.prog 141 [(Qy1 p0),Q31] [Qm3] (I (r)) [Qm3]:=by
  refine Qah Tryz.func141 rfl 1 (nle rfl) (fun X φ0 w0 hφ0 hd0=>?_)
  unfold Qd2 at h
  refine Qbx<|wxz ?_
  obtain ⟨k2,hk_k2,h⟩:=jko h
  refine wjn (τ:=Unit) (fun t=>k2 t=some r) (fun _=>⟨mk 19 [],[Qm3]⟩) (fun t h=>?_) ?_
  ·subst hk_k2
   refine wxz<|wmr (mto (n:=19) (l':=[(4,(I ((-1))))]) (own':=[Qm3]) [(4,(I ((-1))))] [0] [Qm3] hφ0 (pc rwl pn) (qc (spb (lc (.rn (Qbn rn0 rn0)) ln)) qn))<|Qaf ?_
   obtain rfl:=osi h
   exact ⟨_,Mor.rfl,Qdc (vs:=[(I ((-1)))]) ⟨rot,trivial⟩ rfl (NLt.of0 nll) (by kernel_rfl) (Qao (Qbd (nlc (NLt.of0 (NLt.fn _ _ _ nl0 nl0)) nl0)) Qbt)⟩
  ·skip
   refine wx tbk [(1,rp [(.tmp 6,(Qy1 p0))] (I ((p0.length:Int))))] ⟨alm (c:=Qak) (l:=p0) (aln rfl Tryz.underlying27 rfl),trivial⟩<|Qal ?_
   refine wmr (mto (n:=19) (l':=[(0,(Qy1 p0)),(1,Q31),(7,(I ((p0.length:Int)))),(8,I 0)]) (own':=[Qm3]) [(0,(Qy1 p0)),(1,Q31),(7,(I ((p0.length:Int)))),(8,I 0)] [0] [Qm3] hφ0 (pc (rnd Qag) (pc (.rn (Qbn rn0 (rnc (rqr rfl) rn0))) (pc rwl (pc rwl pn)))) (qc (spb (lc (.rn (Qbn rn0 rn0)) ln)) qn)) ?_
   refine Qcb (τ:=Int) (fun n t=>Qb3 N p0 k2 n t=some r) (fun y3=>⟨mk 19 [(0,(Qy1 p0)),(1,Q31),(7,(I ((p0.length:Int)))),(8,I y3)],[Qm3]⟩) (fun t h=>by rw [Qb3] at h; cases h) (fun n5 ih y3 h=>?_) N (0) h
   rw [Qb3] at h
   skip
   refine wxz<|wsq ?_
   refine bfe h (fun hc6 h=>?_) fun hc6 h=>?_
   ·refine wft hc6<|Qan<|thn<|wsq<|Qal<|wxz ?_
    obtain ⟨x7,hg8,h⟩:=bno h
    obtain ⟨hi9,hj10⟩:=gsm hg8
    obtain ⟨x12,hf11,h⟩:=bno h
    refine wx tbk [(3,rp [(.tmp 12,(Qy1 p0)),(.tmp 13,I y3)] (.dptr (Qak (x7)) 0)),(5,⟨[(.tmp 11,Q31),(.tmp 15,I x7)],[(0,Qm3)],B x12,[(0,Qm3)],false⟩)] ⟨aid rfl Tryz.underlying27 ti3 rfl rfl hi9 (mgt Qak hj10) rfl,Qas (first:=[]) (cap:=[.ref 0 1 0 0]) (vs:=[I x7]) (σr:=[Qm3]) (σr':=[Qm3]) (res':=(B x12)) [0] rfl Q20 (Qm9 N x7 _ hf11) rfl (Qbr (rnc (.plain _ nll) (rnc (Qbj rfl) rn0))) (slc (Qaq (rnc (.plain _ (NLt.fn _ _ _ nl0 nl0)) rn0)) Qar) (slc (Qaq (rnc (.plain _ (NLt.fn _ _ _ nl0 nl0)) rn0)) Qar) (.plain _ nll) rfl rfl rfl,trivial⟩ ?_
    refine bfe h (fun hc13 h=>?_) fun hc13 h=>?_
    ·refine wft hc13<|wxz ?_
     refine wmr (mto (n:=19) (l':=[(4,I y3)]) (own':=[Qm3]) [(4,I y3)] [0] [Qm3] hφ0 (pc rwl pn) (qc (spb (lc (.rn (Qbn rn0 rn0)) ln)) qn))<|Qaf<|Qam<|Qae<|Qae<|Qam<|Qae ?_
     obtain rfl:=osi h
     exact ⟨_,Mor.rfl,Qdc (vs:=[I y3]) ⟨rot,trivial⟩ rfl (NLt.of0 nll) (by kernel_rfl) (Qao (Qbd (nlc (NLt.of0 (NLt.fn _ _ _ nl0 nl0)) nl0)) Qbt)⟩
    ·exact wfn hc13<|Qan<|bln<|thn<|wxz1<|thn<|arm (mto (n:=19) [(0,(Qy1 p0)),(1,Q31),(7,(I ((p0.length:Int)))),(8,(I (w64 (y3+1))))] [0] [Qm3] hφ0 (pc (rnd Qag) (pc (.rn (Qbn rn0 (rnc (rqr rfl) rn0))) (pc rwl (pc rwl pn)))) (qc (spb (lc (.rn (Qbn rn0 rn0)) ln)) qn)) (ih (w64 (y3+1)) h)
   ·exact wfn hc6<|Qbl<|Qay<|Qay<|Qbk rfl<|thn<|⟨(),h,(mto (n:=19) [] [0] [Qm3] hφ0 pn (qc (spb (lc (.rn (Qbn rn0 rn0)) ln)) qn))⟩
def Qcz (N:Nat) (p0:(List Int)):Option Bool:=
  (Qd2 N p0).bind fun x3=>
  some (decide (x3≥0))
def Zga (p0:(List Int)):AV:=.dat 1 ((p0:List Int).map Qak)
def Zf9:AV:=.fn (.func 128) [] [(.ref 0 1 (0) 0)]
def Qwi:Slot:=.own 1 [[(.fn (.func 109) [] [])]]
theorem Qhu (N:Nat) (p0:(List Int)) (r:Bool) (h:Qcz N p0=some r):Spec Tryz.prog 126 [(Zga p0),Zf9] [Qwi] (B (r)) [Qwi]:=by
  refine Qah Tryz.func126 rfl 1 (nle rfl) (fun X φ0 w0 hφ0 hd0=>?_)
  unfold Qcz at h
  refine Qbx<|wxz ?_
  obtain ⟨x3,hf2,h⟩:=bno h
  refine wx tbk [(2,⟨[fu 141,(.tmp 5,(Zga p0)),(.tmp 6,Zf9)],[(0,Qwi)],I x3,[(0,Qwi)],false⟩)] ⟨Qas (first:=[]) (cap:=[]) (vs:=[(Zga p0),Zf9]) (σr:=[Qwi]) (σr':=[Qwi]) (res':=(I x3)) [0] rfl Qop (Qiw N p0 _ hf2) rfl (Qbr (rnc (pld Qag) (rnc (Qbn rn0 (rnc (Qbj rfl) rn0)) rn0))) (slc (Qaq (rnc (.plain _ (NLt.fn _ _ _ nl0 nl0)) rn0)) Qar) (slc (Qaq (rnc (.plain _ (NLt.fn _ _ _ nl0 nl0)) rn0)) Qar) (.plain _ nll) rfl rfl rfl,trivial⟩ ?_
  refine wmr (mto (n:=9) (l':=[(4,(B ((decide (x3≥0)))))]) (own':=[Qwi]) [(4,(B ((decide (x3≥0)))))] [0] [Qwi] hφ0 (pc rwl pn) (qc (spb (lc (.rn (Qbn rn0 rn0)) ln)) qn))<|Qaf ?_
  obtain rfl:=osi h
  exact ⟨_,Mor.rfl,Qdc (vs:=[(B ((decide (x3≥0))))]) ⟨rot,trivial⟩ rfl (NLt.of0 nll) (by kernel_rfl) (Qao (Qbd (nlc (NLt.of0 (NLt.fn _ _ _ nl0 nl0)) nl0)) Qbt)⟩
def Qh1 (N:Nat) (p0:(List Int)):Option Bool:=
  (Qcz N p0).bind fun x2=>
  some (!x2)
def Zgc (p0:(List Int)):AV:=.dat 1 ((p0:List Int).map Qak)
def Zgb:AV:=.fn (.func 128) [] [(.ref 0 1 (0) 0)]
def Zak:Slot:=.own 1 [[(.fn (.func 109) [] [])]]
theorem Qoi (N:Nat) (p0:(List Int)) (r:Bool) (h:Qh1 N p0=some r):Spec Tryz.prog 108 [(Zgc p0),(.fn (.func 109) [] [])] [] (B (r)) []:=by
  refine Qah Tryz.func108 rfl 0 (nle rfl) (fun X φ0 w0 hφ0 hd0=>?_)
  unfold Qh1 at h
  refine wxz ?_
  obtain ⟨x2,hf1,h⟩:=bno h
  refine wx tbk [(1,rp [(.tmp 3,.ref 0 1 0 0)] Zgb),(2,⟨[fu 126,(.tmp 5,(Zgc p0)),(.tmp 6,Zgb)],[(0,Zak)],B x2,[(0,Zak)],false⟩)] ⟨Qfn (fs:=[]) (cs:=[.ref 0 1 0 0]) rfl rfl rfl rfl,Qas (first:=[]) (cap:=[]) (vs:=[(Zgc p0),Zgb]) (σr:=[Zak]) (σr':=[Zak]) (res':=(B x2)) [0] rfl Qoq (Qhu N p0 _ hf1) rfl (Qbr (rnc (pld Qag) (rnc (Qbn rn0 (rnc (Qbj rfl) rn0)) rn0))) (slc (Qaq (rnc (.plain _ (NLt.fn _ _ _ nl0 nl0)) rn0)) Qar) (slc (Qaq (rnc (.plain _ (NLt.fn _ _ _ nl0 nl0)) rn0)) Qar) (.plain _ nll) rfl rfl rfl,trivial⟩<|Qaf ?_
  obtain rfl:=osi h
  exact fend ⟨[(B ((!x2)))],⟨rot,trivial⟩,rfl⟩ nll
def Qhj (N:Nat) (p0:GNet) (p1:(List Int)):Option Int:=
  (Qge N p0).bind fun x2=>
  bif (!x2) then
   some 1
  else
   bif ((p1.length:Int) != (p0.Elements.length:Int)) then
    some 1
   else
    (Qh1 N p1).bind fun x6=>
    bif (!x6) then
     some 1
    else
     some 0
def Zgd (p0:GNet):AV:=.dat 7 ((p0.Elements:List GElement).map Qac)
def Q32 (p0:GNet):AV:=.agg [(.dat 5 ((p0.Table:List GRow).map Qaw)),(Zgd p0)]
def Zal (p1:(List Int)):AV:=.dat 1 ((p1:List Int).map Qak)
theorem Qmh (N:Nat) (p0:GNet) (p1:(List Int)) (r:Int) (h:Qhj N p0 p1=some r):Spec Tryz.prog 73 [(.agg (Qhn p0)),(.dat 1 (p1.map Qak))] [] (I r) []:=by
  refine Qah Tryz.func73 rfl 0 (nle rfl) (fun X φ0 w0 hφ0 hd0=>?_)
  unfold Qhj at h
  refine wxz<|wsq ?_
  obtain ⟨x2,hf1,h⟩:=bno h
  refine bfe h (fun hb3 h=>?_) fun hb3 h=>?_
  ·refine wx tbk [(1,rp [fu 66,(.tmp 5,(Q32 p0))] (B x2)),(3,rp [(.tmp 7,(B ((!x2))))] (B true))] ⟨apc (first:=[]) (cap:=[]) (vs:=[(Q32 p0)]) rfl Qvm (Qgs N p0 _ hf1) rfl rfl (nlc (NLt.agg _ (nlc (nld Qai _) (nlc (nld Qaa _) nl0))) nl0) nll rfl,asb hb3 (amv rfl),trivial⟩<|wtr<|wxz<|Qaf<|Qae ?_
   obtain rfl:=osi h
   exact fend ⟨[I 1],⟨rot,trivial⟩,rfl⟩ nll
  ·refine bfe h (fun hb4 h=>?_) fun hb4 h=>?_
   ·refine wx tbk [(1,rp [fu 66,(.tmp 5,(Q32 p0))] (B x2)),(3,rp [(.tmp 7,(B ((!x2))))] (B false)),(5,rp [(.tmp 8,B false),(.tmp 9,(Zal p1))] (I ((p1.length:Int)))),(8,rp [(.tmp 8,B false),(.tmp 12,(Zgd p0))] (I ((p0.Elements.length:Int)))),(11,rp [(.tmp 15,(B (((p1.length:Int) != (p0.Elements.length:Int)))))] (B true))] ⟨apc (first:=[]) (cap:=[]) (vs:=[(Q32 p0)]) rfl Qvm (Qgs N p0 _ hf1) rfl rfl (nlc (NLt.agg _ (nlc (nld Qai _) (nlc (nld Qaa _) nl0))) nl0) nll rfl,asb hb3 (amv rfl),ag_ (alm (c:=Qak) (l:=p1) (aln rfl Tryz.underlying27 rfl)),ag_ (alm (c:=Qac) (l:=p0.Elements) (aln rfl Tryz.underlying40 rfl)),asb hb4 (amv rfl),trivial⟩<|wtr<|wxz<|Qaf<|Qae ?_
    obtain rfl:=osi h
    exact fend ⟨[I 1],⟨rot,trivial⟩,rfl⟩ nll
   ·obtain ⟨x6,hf5,h⟩:=bno h
    refine wx tbk [(1,rp [fu 66,(.tmp 5,(Q32 p0))] (B x2)),(3,rp [(.tmp 7,(B ((!x2))))] (B false)),(5,rp [(.tmp 8,B false),(.tmp 9,(Zal p1))] (I ((p1.length:Int)))),(8,rp [(.tmp 8,B false),(.tmp 12,(Zgd p0))] (I ((p0.Elements.length:Int)))),(11,rp [(.tmp 15,(B (((p1.length:Int) != (p0.Elements.length:Int)))))] (B false)),(13,rp [(.tmp 16,B false),fu 108,(.tmp 17,(Zal p1)),fu 109] (B x6))] ⟨apc (first:=[]) (cap:=[]) (vs:=[(Q32 p0)]) rfl Qvm (Qgs N p0 _ hf1) rfl rfl (nlc (NLt.agg _ (nlc (nld Qai _) (nlc (nld Qaa _) nl0))) nl0) nll rfl,asb hb3 (amv rfl),ag_ (alm (c:=Qak) (l:=p1) (aln rfl Tryz.underlying27 rfl)),ag_ (alm (c:=Qac) (l:=p0.Elements) (aln rfl Tryz.underlying40 rfl)),asb hb4 (amv rfl),ag_ (Qas (first:=[]) (cap:=[]) (vs:=[(Zal p1),(.fn (.func 109) [] [])]) (σr:=[]) (σr':=[]) (res':=(B x6)) [] rfl Qvq (Qoi N p1 _ hf5) rfl (Qbr (rnc (pld Qag) (rnc (.plain _ (NLt.fn _ _ _ nl0 nl0)) rn0))) Qar Qar (.plain _ nll) rfl rfl rfl),trivial⟩ ?_
    refine bfe h (fun hc7 h=>?_) fun hc7 h=>?_
    ·refine wft hc7<|wxz<|Qaf<|Qae ?_
     obtain rfl:=osi h
     exact fend ⟨[I 1],⟨rot,trivial⟩,rfl⟩ nll
    ·refine wfn hc7<|Qan<|thn<|wxz<|Qaf ?_
     obtain rfl:=osi h
     exact fend ⟨[I 0],⟨rot,trivial⟩,rfl⟩ nll
def Qdm (N:Nat) (p0:GNet) (p1:Int) (k2:(List Int)→Option (List Int)):Nat→(List Int)→Int→Option (List Int)
  | 0,_,_=>none
  | n7+1,y3,y4=>
    bif (decide (y4<(p0.Elements.length:Int))) then
     (getI p0.Elements y4).bind fun x9=>
     bif (x9.Kind==p1) then
      chk (decide ((y3.length+([y4]).length) * 8≤140737488355328))<|
      Qdm N p0 p1 k2 n7 (y3++([y4])) (w64 (y4+1))
     else
      Qdm N p0 p1 k2 n7 y3 (w64 (y4+1))
    else
     k2 (y3)
def Qhl (N:Nat) (p0:GNet) (p1:Int):Option (List Int):=
  Qbp (fun y1=>
    some y1) fun k2:(List Int)→Option (List Int)=>
  Qdm N p0 p1 k2 N ([]) 0
def Qy0 (p0:GNet):AV:=.dat 7 ((p0.Elements:List GElement).map Qac)
def Q1x (y3:(List Int)):AV:=.acc 0 3 1 ((y3:List Int).map Qak)
theorem Qh2 (N:Nat) (p0:GNet) (p1:Int) (r:(List Int)) (h:Qhl N p0 p1=some r):Spec Tryz.prog 67 [(.agg (Qhn p0)),(K .u8 p1)] [] (.dat 1 (r.map Qak)) []:=by
  refine Qah Tryz.func67 rfl 0 (nle rfl) (fun X φ0 w0 hφ0 hd0=>?_)
  unfold Qhl at h
  refine wxz ?_
  obtain ⟨k2,hk_k2,h⟩:=jko h
  refine wjn (τ:=(List Int)) (fun t=>k2 t=some r) (fun y1=>⟨mk 25 [(4,(.acc 0 3 1 ((y1:List Int).map Qak)))],[.tok]⟩) (fun y1 h=>?_) ?_
  ·subst hk_k2
   refine wxz<|Qaf ?_
   obtain rfl:=osi h
   exact fend ⟨[(.dat 1 ((y1:List Int).map Qak))],⟨Qe7 (v:=(.acc 0 3 1 ((y1:List Int).map Qak))) (rot) Less.acc,trivial⟩,rfl⟩ (nld Qag _)
  ·skip
   refine wx tbk [(2,rp [(.tmp 8,(Qy0 p0))] (I ((p0.Elements.length:Int))))] ⟨alm (c:=Qac) (l:=p0.Elements) (aln rfl Tryz.underlying40 rfl),trivial⟩<|Qal ?_
   refine wmr (Mor.trans (Qpl 1 3 1 4 (by kernel_rfl) (by kernel_rfl)) (mto (n:=25) (l':=[(1,(K .u8 (p1))),(4,(.acc 0 3 1 ((([]):List Int).map Qak))),(8,(Qy0 p0)),(9,(I ((p0.Elements.length:Int)))),(10,I 0)]) (own':=[.tok]) [(1,(K .u8 (p1))),(4,(.acc 1 3 1 (([]:List Int).map Qak))),(8,(Qy0 p0)),(9,(I ((p0.Elements.length:Int)))),(10,I 0)] [1] [.tok] hφ0 (pc rwl (pc (.rn (Qcu rfl (Qca Qag _))) (pc (rnd Qaa) (pc rwl (pc rwl pn))))) (qc .tok qn))) ?_
   refine Qcb (τ:=(List Int)×Int) (fun n t=>Qdm N p0 p1 k2 n t.1 t.2=some r) (fun ⟨y3,y4⟩=>⟨mk 25 [(1,(K .u8 (p1))),(4,(Q1x y3)),(8,(Qy0 p0)),(9,(I ((p0.Elements.length:Int)))),(10,I y4)],[.tok]⟩) (fun t h=>by rw [Qdm] at h; cases h) (fun n7 ih t h=>?_) N ([],0) h
   obtain ⟨y3,y4⟩:=t
   rw [Qdm] at h
   skip
   refine wxz<|wsq ?_
   refine bfe h (fun hc8 h=>?_) fun hc8 h=>?_
   ·refine wft hc8<|Qan<|thn<|wsq<|Qal ?_
    obtain ⟨x9,hg10,h⟩:=bno h
    obtain ⟨hi11,hj12⟩:=gsm hg10
    refine wx tbk [(1,rp [(.tmp 8,(Qy0 p0)),(.tmp 10,I y4)] (.dptr (Qac (x9)) 0))] ⟨aid rfl Tryz.underlying40 Qip rfl rfl hi11 (mgt Qac hj12) rfl,trivial⟩<|wxz ?_
    refine bfe h (fun hc13 h=>?_) fun hc13 h=>?_
    ·refine wft hc13 ?_
     obtain ⟨ha14,h⟩:=cko h
     refine wx1 tbk [(2,rp [(.tmp 20,I y4)] (.dat 1 (([y4]:List Int).map Qak))),(3,⟨[(.tmp 19,(Q1x y3)),(.tmp 21,(.dat 1 (([y4]:List Int).map Qak)))],[(0,.tok),(2,.unused)],(.acc 2 3 1 ((y3++([y4]):List Int).map Qak)),[(0,.dead),(2,.tok)],false⟩)] ⟨Qbw (vs:=[I y4]) rfl Tryz.underlying27 ti3 tz3 rfl (by decide) rfl (by decide) (by rfl) (by rfl) (by rfl) rfl,Qgo rfl Tryz.underlying27 te3 (Base.acc _ _) rfl rfl (by rfl) (Qjk Qak ha14) (Qjj Qak ha14 (by decide)) (Qji Qak) rfl rfl,trivial⟩<|bln<|thn<|wxz1<|thn ?_
     exact arm (mto (n:=25) [(1,(K .u8 (p1))),(4,(.acc 2 3 1 ((y3++([y4]):List Int).map Qak))),(8,(Qy0 p0)),(9,(I ((p0.Elements.length:Int)))),(10,(I (w64 (y4+1))))] [2] [.tok] hφ0 (pc rwl (pc (.rn (Qcu rfl (Qca Qag _))) (pc (rnd Qaa) (pc rwl (pc rwl pn))))) (qc .tok qn)) (ih (y3++([y4]),w64 (y4+1)) h)
    ·exact wfn hc13<|Qan<|bln<|thn<|wxz1<|thn<|arm (mto (n:=25) [(1,(K .u8 (p1))),(4,(Q1x y3)),(8,(Qy0 p0)),(9,(I ((p0.Elements.length:Int)))),(10,(I (w64 (y4+1))))] [0] [.tok] hφ0 (pc rwl (pc (.rn (Qcu rfl (Qca Qag _))) (pc (rnd Qaa) (pc rwl (pc rwl pn))))) (qc .tok qn)) (ih (y3,w64 (y4+1)) h)
   ·exact wfn hc8<|Qbl<|Qay<|Qay<|Qbk rfl<|thn<|⟨(y3),h,(mto (n:=25) [(4,(Q1x y3))] [0] [.tok] hφ0 (pc (.rn (Qcu rfl (Qca Qag _))) pn) (qc .tok qn))⟩
def Qdu (N:Nat) (p0:GStream):Option Bool:=
  (Qc2 N p0.Mass 0 1000000).bind fun x2=>
  bif x2 then
   (Qc2 N p0.Heat 0 (w64 (4000 * p0.Mass))).bind fun x5=>
   bif x5 then
    (Qc2 N p0.Silica 0 (w64 (10000 * p0.Mass))).bind fun x8=>
    bif x8 then
     (Qc2 N p0.Gas 0 1000000000).bind fun x11=>
     some x11
    else
     some false
   else
    some false
  else
   some false
theorem Qdn (N:Nat) (p0:GStream) (r:Bool) (h:Qdu N p0=some r):Spec Tryz.prog 131 [(.agg (Qab p0))] [] (B r) []:=by
  refine Qah Tryz.func131 rfl 0 (nle rfl) (fun X φ0 w0 hφ0 hd0=>?_)
  unfold Qdu at h
  refine wxz ?_
  obtain ⟨x2,hf1,h⟩:=bno h
  refine bfe h (fun hb3 h=>?_) fun hb3 h=>?_
  ·obtain ⟨x5,hf4,h⟩:=bno h
   refine bfe h (fun hb6 h=>?_) fun hb6 h=>?_
   ·obtain ⟨x8,hf7,h⟩:=bno h
    refine bfe h (fun hb9 h=>?_) fun hb9 h=>?_
    ·obtain ⟨x11,hf10,h⟩:=bno h
     refine wx tbk [(2,rp [fu 137,(.tmp 4,I p0.Mass),ci 0,ci 1000000] (B x2)),(3,rp [(.tmp 5,B x2)] (B true)),(9,rp [(.tmp 6,B true),fu 137,(.tmp 8,I p0.Heat),ci 0,(.tmp 11,(I (w64 (4000 * p0.Mass))))] (B x5)),(11,rp [(.tmp 13,B x5)] (B true)),(17,rp [(.tmp 14,B true),fu 137,(.tmp 16,I p0.Silica),ci 0,(.tmp 19,(I (w64 (10000 * p0.Mass))))] (B x8)),(19,rp [(.tmp 21,B x8)] (B true)),(22,rp [(.tmp 22,B true),fu 137,(.tmp 24,I p0.Gas),ci 0,ci 1000000000] (B x11))] ⟨apc (first:=[]) (cap:=[]) (vs:=[I p0.Mass,I 0,I 1000000]) rfl Qcw (Qav N p0.Mass 0 1000000 _ hf1) rfl rfl (nlcc (nlc nll nl0)) nll rfl,asb hb3 (amv rfl),ag_ (apc (first:=[]) (cap:=[]) (vs:=[I p0.Heat,I 0,(I (w64 (4000 * p0.Mass)))]) rfl Qcw (Qav N p0.Heat 0 (w64 (4000 * p0.Mass)) _ hf4) rfl rfl (nlcc (nlc nll nl0)) nll rfl),asb hb6 (amv rfl),ag_ (apc (first:=[]) (cap:=[]) (vs:=[I p0.Silica,I 0,(I (w64 (10000 * p0.Mass)))]) rfl Qcw (Qav N p0.Silica 0 (w64 (10000 * p0.Mass)) _ hf7) rfl rfl (nlcc (nlc nll nl0)) nll rfl),asb hb9 (amv rfl),ag_ (apc (first:=[]) (cap:=[]) (vs:=[I p0.Gas,I 0,I 1000000000]) rfl Qcw (Qav N p0.Gas 0 1000000000 _ hf10) rfl rfl (nlcc (nlc nll nl0)) nll rfl),trivial⟩<|Qaf ?_
     obtain rfl:=osi h
     exact fend ⟨[B x11],⟨rot,trivial⟩,rfl⟩ nll
    ·refine wx tbk [(2,rp [fu 137,(.tmp 4,I p0.Mass),ci 0,ci 1000000] (B x2)),(3,rp [(.tmp 5,B x2)] (B true)),(9,rp [(.tmp 6,B true),fu 137,(.tmp 8,I p0.Heat),ci 0,(.tmp 11,(I (w64 (4000 * p0.Mass))))] (B x5)),(11,rp [(.tmp 13,B x5)] (B true)),(17,rp [(.tmp 14,B true),fu 137,(.tmp 16,I p0.Silica),ci 0,(.tmp 19,(I (w64 (10000 * p0.Mass))))] (B x8)),(19,rp [(.tmp 21,B x8)] (B false))] ⟨apc (first:=[]) (cap:=[]) (vs:=[I p0.Mass,I 0,I 1000000]) rfl Qcw (Qav N p0.Mass 0 1000000 _ hf1) rfl rfl (nlcc (nlc nll nl0)) nll rfl,asb hb3 (amv rfl),ag_ (apc (first:=[]) (cap:=[]) (vs:=[I p0.Heat,I 0,(I (w64 (4000 * p0.Mass)))]) rfl Qcw (Qav N p0.Heat 0 (w64 (4000 * p0.Mass)) _ hf4) rfl rfl (nlcc (nlc nll nl0)) nll rfl),asb hb6 (amv rfl),ag_ (apc (first:=[]) (cap:=[]) (vs:=[I p0.Silica,I 0,(I (w64 (10000 * p0.Mass)))]) rfl Qcw (Qav N p0.Silica 0 (w64 (10000 * p0.Mass)) _ hf7) rfl rfl (nlcc (nlc nll nl0)) nll rfl),asb hb9 (amv rfl),trivial⟩<|Qaf ?_
     obtain rfl:=osi h
     exact fend ⟨[B false],⟨rot,trivial⟩,rfl⟩ nll
   ·refine wx tbk [(2,rp [fu 137,(.tmp 4,I p0.Mass),ci 0,ci 1000000] (B x2)),(3,rp [(.tmp 5,B x2)] (B true)),(9,rp [(.tmp 6,B true),fu 137,(.tmp 8,I p0.Heat),ci 0,(.tmp 11,(I (w64 (4000 * p0.Mass))))] (B x5)),(11,rp [(.tmp 13,B x5)] (B false))] ⟨apc (first:=[]) (cap:=[]) (vs:=[I p0.Mass,I 0,I 1000000]) rfl Qcw (Qav N p0.Mass 0 1000000 _ hf1) rfl rfl (nlcc (nlc nll nl0)) nll rfl,asb hb3 (amv rfl),ag_ (apc (first:=[]) (cap:=[]) (vs:=[I p0.Heat,I 0,(I (w64 (4000 * p0.Mass)))]) rfl Qcw (Qav N p0.Heat 0 (w64 (4000 * p0.Mass)) _ hf4) rfl rfl (nlcc (nlc nll nl0)) nll rfl),asb hb6 (amv rfl),trivial⟩<|Qaf ?_
    obtain rfl:=osi h
    exact fend ⟨[B false],⟨rot,trivial⟩,rfl⟩ nll
  ·refine wx tbk [(2,rp [fu 137,(.tmp 4,I p0.Mass),ci 0,ci 1000000] (B x2)),(3,rp [(.tmp 5,B x2)] (B false))] ⟨apc (first:=[]) (cap:=[]) (vs:=[I p0.Mass,I 0,I 1000000]) rfl Qcw (Qav N p0.Mass 0 1000000 _ hf1) rfl rfl (nlcc (nlc nll nl0)) nll rfl,asb hb3 (amv rfl),trivial⟩<|Qaf ?_
   obtain rfl:=osi h
   exact fend ⟨[B false],⟨rot,trivial⟩,rfl⟩ nll
def Qfr (N:Nat) (p0:GStream):Option Int:=
  (Qdu N p0).bind fun x2=>
  bif (!x2) then
   some 1
  else
   some 0
def Zje (p0:GStream):AV:=.agg [(I (p0.Mass)),(I (p0.Heat)),(I (p0.Silica)),(I (p0.Gas))]
theorem Ql9 (N:Nat) (p0:GStream) (r:Int) (h:Qfr N p0=some r):Spec Tryz.prog 114 [(.agg (Qab p0))] [] (I r) []:=by
  refine Qah Tryz.func114 rfl 0 (nle rfl) (fun X φ0 w0 hφ0 hd0=>?_)
  unfold Qfr at h
  refine wxz<|wsq ?_
  obtain ⟨x2,hf1,h⟩:=bno h
  refine wx tbk [(1,rp [fu 131,(.tmp 3,(Zje p0))] (B x2))] ⟨apc (first:=[]) (cap:=[]) (vs:=[(Zje p0)]) rfl Qmy (Qdn N p0 _ hf1) rfl rfl (nlc (NLt.agg _ (nlcc (nlcc nl0))) nl0) nll rfl,trivial⟩ ?_
  refine bfe h (fun hc3 h=>?_) fun hc3 h=>?_
  ·refine wft hc3<|wxz<|Qaf<|Qae ?_
   obtain rfl:=osi h
   exact fend ⟨[I 1],⟨rot,trivial⟩,rfl⟩ nll
  ·refine wfn hc3<|Qan<|thn<|wxz<|Qaf ?_
   obtain rfl:=osi h
   exact fend ⟨[I 0],⟨rot,trivial⟩,rfl⟩ nll
def Qh3 (N:Nat) (p0:GStream):Option Bool:=
  (Qfr N p0).bind fun x2=>
  some (x2==0)
def Zjf (p0:GStream):AV:=.agg [(I (p0.Mass)),(I (p0.Heat)),(I (p0.Silica)),(I (p0.Gas))]
theorem Qoj (N:Nat) (p0:GStream) (r:Bool) (h:Qh3 N p0=some r):Spec Tryz.prog 113 [(.agg (Qab p0))] [] (B r) []:=by
  refine Qah Tryz.func113 rfl 0 (nle rfl) (fun X φ0 w0 hφ0 hd0=>?_)
  unfold Qh3 at h
  refine wxz ?_
  obtain ⟨x2,hf1,h⟩:=bno h
  refine wx tbk [(1,rp [fu 114,(.tmp 3,(Zjf p0))] (I x2))] ⟨apc (first:=[]) (cap:=[]) (vs:=[(Zjf p0)]) rfl Zcw (Ql9 N p0 _ hf1) rfl rfl (nlc (NLt.agg _ (nlcc (nlcc nl0))) nl0) nll rfl,trivial⟩<|Qaf ?_
  obtain rfl:=osi h
  exact fend ⟨[(B ((x2==0)))],⟨rot,trivial⟩,rfl⟩ nll
def Qdf (N:Nat) (p0:GStream):Option Bool:=
  (Qh3 N p0).bind fun x3=>
  some (!x3)
def Zf4 (p0:GStream):AV:=.agg [(I (p0.Mass)),(I (p0.Heat)),(I (p0.Silica)),(I (p0.Gas))]
def Zaf:Slot:=.own 1 [[(.fn (.func 113) [] [])]]
theorem Qjd (N:Nat) (p0:GStream) (r:Bool) (h:Qdf N p0=some r):Spec Tryz.prog 130 [(Zf4 p0),(.ref 0 1 (0) 0)] [Zaf] (B (r)) [Zaf]:=by
  refine Qah Tryz.func130 rfl 1 (nle rfl) (fun X φ0 w0 hφ0 hd0=>?_)
  unfold Qdf at h
  refine Qbx<|wxz ?_
  obtain ⟨x3,hf2,h⟩:=bno h
  refine wx tbk [(2,rp [(.tmp 4,(.fn (.func 113) [] [])),(.tmp 5,(Zf4 p0))] (B x3))] ⟨apc (first:=[]) (cap:=[]) (vs:=[(Zf4 p0)]) rfl Zcx (Qoj N p0 _ hf2) rfl rfl (nlc (NLt.agg _ (nlcc (nlcc nl0))) nl0) nll rfl,trivial⟩ ?_
  refine wmr (mto (n:=8) (l':=[(3,(B ((!x3))))]) (own':=[Zaf]) [(3,(B ((!x3))))] [0] [Zaf] hφ0 (pc rwl pn) (qc (spb (lc (.rn (Qbn rn0 rn0)) ln)) qn))<|Qaf ?_
  obtain rfl:=osi h
  exact ⟨_,Mor.rfl,Qdc (vs:=[(B ((!x3)))]) ⟨rot,trivial⟩ rfl (NLt.of0 nll) (by kernel_rfl) (Qao (Qbd (nlc (NLt.of0 (NLt.fn _ _ _ nl0 nl0)) nl0)) Qbt)⟩
def Qa5 (N:Nat) (p0:(List GStream)) (k2:Unit→Option Int):Nat→Int→Option Int
  | 0,_=>none
  | n5+1,y3=>
    bif (decide (y3<(p0.length:Int))) then
     (getI p0 y3).bind fun x7=>
     (Qdf N x7).bind fun x12=>
     bif x12 then
      some y3
     else
      Qa5 N p0 k2 n5 (w64 (y3+1))
    else
     k2 ()
def Qbz (N:Nat) (p0:(List GStream)):Option Int:=
  Qbp (fun _=>
    some (-1)) fun k2:Unit→Option Int=>
  Qa5 N p0 k2 N 0
def Qyz (p0:(List GStream)):AV:=.dat 4 ((p0:List GStream).map Qab)
def Q30:AV:=.fn (.func 130) [] [(.ref 0 1 (0) 0)]
def Qm2:Slot:=.own 1 [[(.fn (.func 113) [] [])]]
def Zjg (x7:GStream):AV:=.agg [(I (x7.Mass)),(I (x7.Heat)),(I (x7.Silica)),(I (x7.Gas))]
theorem Qfs (N:Nat) (p0:(List GStream)) (r:Int) (h:Qbz N p0=some r):Spec Tryz.prog 142 [(Qyz p0),Q30] [Qm2] (I (r)) [Qm2]:=by
  refine Qah Tryz.func142 rfl 1 (nle rfl) (fun X φ0 w0 hφ0 hd0=>?_)
  unfold Qbz at h
  refine Qbx<|wxz ?_
  obtain ⟨k2,hk_k2,h⟩:=jko h
  refine wjn (τ:=Unit) (fun t=>k2 t=some r) (fun _=>⟨mk 19 [],[Qm2]⟩) (fun t h=>?_) ?_
  ·subst hk_k2
   refine wxz<|wmr (mto (n:=19) (l':=[(4,(I ((-1))))]) (own':=[Qm2]) [(4,(I ((-1))))] [0] [Qm2] hφ0 (pc rwl pn) (qc (spb (lc (.rn (Qbn rn0 rn0)) ln)) qn))<|Qaf ?_
   obtain rfl:=osi h
   exact ⟨_,Mor.rfl,Qdc (vs:=[(I ((-1)))]) ⟨rot,trivial⟩ rfl (NLt.of0 nll) (by kernel_rfl) (Qao (Qbd (nlc (NLt.of0 (NLt.fn _ _ _ nl0 nl0)) nl0)) Qbt)⟩
  ·skip
   refine wx tbk [(1,rp [(.tmp 6,(Qyz p0))] (I ((p0.length:Int))))] ⟨alm (c:=Qab) (l:=p0) (aln rfl Tryz.underlying45 rfl),trivial⟩<|Qal ?_
   refine wmr (mto (n:=19) (l':=[(0,(Qyz p0)),(1,Q30),(7,(I ((p0.length:Int)))),(8,I 0)]) (own':=[Qm2]) [(0,(Qyz p0)),(1,Q30),(7,(I ((p0.length:Int)))),(8,I 0)] [0] [Qm2] hφ0 (pc (rnd Qad) (pc (.rn (Qbn rn0 (rnc (rqr rfl) rn0))) (pc rwl (pc rwl pn)))) (qc (spb (lc (.rn (Qbn rn0 rn0)) ln)) qn)) ?_
   refine Qcb (τ:=Int) (fun n t=>Qa5 N p0 k2 n t=some r) (fun y3=>⟨mk 19 [(0,(Qyz p0)),(1,Q30),(7,(I ((p0.length:Int)))),(8,I y3)],[Qm2]⟩) (fun t h=>by rw [Qa5] at h; cases h) (fun n5 ih y3 h=>?_) N (0) h
   rw [Qa5] at h
   skip
   refine wxz<|wsq ?_
   refine bfe h (fun hc6 h=>?_) fun hc6 h=>?_
   ·refine wft hc6<|Qan<|thn<|wsq<|Qal<|wxz ?_
    obtain ⟨x7,hg8,h⟩:=bno h
    obtain ⟨hi9,hj10⟩:=gsm hg8
    obtain ⟨x12,hf11,h⟩:=bno h
    refine wx tbk [(3,rp [(.tmp 12,(Qyz p0)),(.tmp 13,I y3)] (.dptr (Qab (x7)) 0)),(5,⟨[(.tmp 11,Q30),(.tmp 15,(Zjg x7))],[(0,Qm2)],B x12,[(0,Qm2)],false⟩)] ⟨aid rfl Tryz.underlying45 ti63 rfl rfl hi9 (mgt Qab hj10) rfl,Qas (first:=[]) (cap:=[.ref 0 1 0 0]) (vs:=[(Zjg x7)]) (σr:=[Qm2]) (σr':=[Qm2]) (res':=(B x12)) [0] rfl Zck (Qjd N x7 _ hf11) rfl (Qbr (rnc (.plain _ (NLt.agg _ (nlcc (nlcc nl0)))) (rnc (Qbj rfl) rn0))) (slc (Qaq (rnc (.plain _ (NLt.fn _ _ _ nl0 nl0)) rn0)) Qar) (slc (Qaq (rnc (.plain _ (NLt.fn _ _ _ nl0 nl0)) rn0)) Qar) (.plain _ nll) rfl rfl rfl,trivial⟩ ?_
    refine bfe h (fun hc13 h=>?_) fun hc13 h=>?_
    ·refine wft hc13<|wxz ?_
     refine wmr (mto (n:=19) (l':=[(4,I y3)]) (own':=[Qm2]) [(4,I y3)] [0] [Qm2] hφ0 (pc rwl pn) (qc (spb (lc (.rn (Qbn rn0 rn0)) ln)) qn))<|Qaf<|Qam<|Qae<|Qae<|Qam<|Qae ?_
     obtain rfl:=osi h
     exact ⟨_,Mor.rfl,Qdc (vs:=[I y3]) ⟨rot,trivial⟩ rfl (NLt.of0 nll) (by kernel_rfl) (Qao (Qbd (nlc (NLt.of0 (NLt.fn _ _ _ nl0 nl0)) nl0)) Qbt)⟩
    ·exact wfn hc13<|Qan<|bln<|thn<|wxz1<|thn<|arm (mto (n:=19) [(0,(Qyz p0)),(1,Q30),(7,(I ((p0.length:Int)))),(8,(I (w64 (y3+1))))] [0] [Qm2] hφ0 (pc (rnd Qad) (pc (.rn (Qbn rn0 (rnc (rqr rfl) rn0))) (pc rwl (pc rwl pn)))) (qc (spb (lc (.rn (Qbn rn0 rn0)) ln)) qn)) (ih (w64 (y3+1)) h)
   ·exact wfn hc6<|Qbl<|Qay<|Qay<|Qbk rfl<|thn<|⟨(),h,(mto (n:=19) [] [0] [Qm2] hφ0 pn (qc (spb (lc (.rn (Qbn rn0 rn0)) ln)) qn))⟩
def Qbh (N:Nat) (p0:(List GStream)):Option Bool:=
  (Qbz N p0).bind fun x3=>
  some (decide (x3≥0))
def Zf6 (p0:(List GStream)):AV:=.dat 4 ((p0:List GStream).map Qab)
def Zf5:AV:=.fn (.func 130) [] [(.ref 0 1 (0) 0)]
def Qwg:Slot:=.own 1 [[(.fn (.func 113) [] [])]]
theorem Qfb (N:Nat) (p0:(List GStream)) (r:Bool) (h:Qbh N p0=some r):Spec Tryz.prog 129 [(Zf6 p0),Zf5] [Qwg] (B (r)) [Qwg]:=by
  refine Qah Tryz.func129 rfl 1 (nle rfl) (fun X φ0 w0 hφ0 hd0=>?_)
  unfold Qbh at h
  refine Qbx<|wxz ?_
  obtain ⟨x3,hf2,h⟩:=bno h
  refine wx tbk [(2,⟨[fu 142,(.tmp 5,(Zf6 p0)),(.tmp 6,Zf5)],[(0,Qwg)],I x3,[(0,Qwg)],false⟩)] ⟨Qas (first:=[]) (cap:=[]) (vs:=[(Zf6 p0),Zf5]) (σr:=[Qwg]) (σr':=[Qwg]) (res':=(I x3)) [0] rfl Zcd (Qfs N p0 _ hf2) rfl (Qbr (rnc (pld Qad) (rnc (Qbn rn0 (rnc (Qbj rfl) rn0)) rn0))) (slc (Qaq (rnc (.plain _ (NLt.fn _ _ _ nl0 nl0)) rn0)) Qar) (slc (Qaq (rnc (.plain _ (NLt.fn _ _ _ nl0 nl0)) rn0)) Qar) (.plain _ nll) rfl rfl rfl,trivial⟩ ?_
  refine wmr (mto (n:=9) (l':=[(4,(B ((decide (x3≥0)))))]) (own':=[Qwg]) [(4,(B ((decide (x3≥0)))))] [0] [Qwg] hφ0 (pc rwl pn) (qc (spb (lc (.rn (Qbn rn0 rn0)) ln)) qn))<|Qaf ?_
  obtain rfl:=osi h
  exact ⟨_,Mor.rfl,Qdc (vs:=[(B ((decide (x3≥0))))]) ⟨rot,trivial⟩ rfl (NLt.of0 nll) (by kernel_rfl) (Qao (Qbd (nlc (NLt.of0 (NLt.fn _ _ _ nl0 nl0)) nl0)) Qbt)⟩
def Qes (N:Nat) (p0:(List GStream)):Option Bool:=
  (Qbh N p0).bind fun x2=>
  some (!x2)
def Zf8 (p0:(List GStream)):AV:=.dat 4 ((p0:List GStream).map Qab)
def Zf7:AV:=.fn (.func 130) [] [(.ref 0 1 (0) 0)]
def Zag:Slot:=.own 1 [[(.fn (.func 113) [] [])]]
theorem Qj7 (N:Nat) (p0:(List GStream)) (r:Bool) (h:Qes N p0=some r):Spec Tryz.prog 112 [(Zf8 p0),(.fn (.func 113) [] [])] [] (B (r)) []:=by
  refine Qah Tryz.func112 rfl 0 (nle rfl) (fun X φ0 w0 hφ0 hd0=>?_)
  unfold Qes at h
  refine wxz ?_
  obtain ⟨x2,hf1,h⟩:=bno h
  refine wx tbk [(1,rp [(.tmp 3,.ref 0 1 0 0)] Zf7),(2,⟨[fu 129,(.tmp 5,(Zf8 p0)),(.tmp 6,Zf7)],[(0,Zag)],B x2,[(0,Zag)],false⟩)] ⟨Qfn (fs:=[]) (cs:=[.ref 0 1 0 0]) rfl rfl rfl rfl,Qas (first:=[]) (cap:=[]) (vs:=[(Zf8 p0),Zf7]) (σr:=[Zag]) (σr':=[Zag]) (res':=(B x2)) [0] rfl Zcl (Qfb N p0 _ hf1) rfl (Qbr (rnc (pld Qad) (rnc (Qbn rn0 (rnc (Qbj rfl) rn0)) rn0))) (slc (Qaq (rnc (.plain _ (NLt.fn _ _ _ nl0 nl0)) rn0)) Qar) (slc (Qaq (rnc (.plain _ (NLt.fn _ _ _ nl0 nl0)) rn0)) Qar) (.plain _ nll) rfl rfl rfl,trivial⟩<|Qaf ?_
  obtain rfl:=osi h
  exact fend ⟨[(B ((!x2)))],⟨rot,trivial⟩,rfl⟩ nll
def Qeh (N:Nat) (p0:(List GStream)) (k5:Int×Int×Int×Int→Option GStream):Nat→Int→Int→Int→Int→Int→Option GStream
  | 0,_,_,_,_,_=>none
  | n16+1,y6,y7,y8,y9,y10=>
    bif (decide (y6<(p0.length:Int))) then
     (getI p0 y6).bind fun x18=>
     Qeh N p0 k5 n16 (w64 (y6+1)) (w64 (y7+x18.Mass)) (w64 (y8+x18.Heat)) (w64 (y9+x18.Silica)) (w64 (y10+x18.Gas))
    else
     k5 (y7,y8,y9,y10)
def Qff (N:Nat) (p0:(List GStream)):Option GStream:=
  Qbp (fun ⟨y1,y2,y3,y4⟩=>
    some (⟨y1,y2,y3,y4⟩:GStream)) fun k5:Int×Int×Int×Int→Option GStream=>
  Qeh N p0 k5 N 0 0 0 0 0
def Q3z (p0:(List GStream)):AV:=.dat 4 ((p0:List GStream).map Qab)
def Zjd:Slot:=.own 4 [[(I (0)),(I (0)),(I (0)),(I (0))]]
theorem Qks (N:Nat) (p0:(List GStream)) (r:GStream) (h:Qff N p0=some r):Spec Tryz.prog 76 [(.dat 4 (p0.map Qab))] [] (.agg (Qab r)) []:=by
  refine Qah Tryz.func76 rfl 0 (nle rfl) (fun X φ0 w0 hφ0 hd0=>?_)
  unfold Qff at h
  refine wxz ?_
  obtain ⟨k5,hk_k5,h⟩:=jko h
  refine wjn (τ:=Int×Int×Int×Int) (fun t=>k5 t=some r) (fun ⟨y1,y2,y3,y4⟩=>⟨mk 34 [(2,.ref 0 4 0 0)],[(.own 4 [[I y1,I y2,I y3,I y4]])]⟩) (fun t h=>?_) ?_
  ·subst hk_k5
   obtain ⟨y1,y2,y3,y4⟩:=t
   refine wxz<|Qaf ?_
   obtain rfl:=osi h
   exact fend ⟨[(.agg [I y1,I y2,I y3,I y4])],⟨Qcd (n:=0) (m:=4) (j:=0) (i:=0) (xs:=[[I y1,I y2,I y3,I y4]]) (by kernel_rfl) (by kernel_rfl) ti63 (by decide) rfl (nle rfl) rfl,trivial⟩,rfl⟩ (NLt.agg _ (nlcc (nlcc nl0)))
  ·skip
   refine wx tbk [(1,rp [(.tmp 5,(Q3z p0))] (I ((p0.length:Int))))] ⟨alm (c:=Qab) (l:=p0) (aln rfl Tryz.underlying45 rfl),trivial⟩<|Qal ?_
   refine wmr (mto (n:=34) (l':=[(2,.ref 0 4 0 0),(5,(Q3z p0)),(6,(I ((p0.length:Int)))),(7,I 0)]) (own':=[Zjd]) [(2,.ref 0 4 0 0),(5,(Q3z p0)),(6,(I ((p0.length:Int)))),(7,I 0)] [0] [Zjd] hφ0 (pc (.rn (rqr rfl)) (pc (rnd Qad) (pc rwl (pc rwl pn)))) (qc (spb (lcc (lcc ln))) qn)) ?_
   refine Qcb (τ:=Int×Int×Int×Int×Int) (fun n t=>Qeh N p0 k5 n t.1 t.2.1 t.2.2.1 t.2.2.2.1 t.2.2.2.2=some r) (fun ⟨y6,y7,y8,y9,y10⟩=>⟨mk 34 [(2,.ref 0 4 0 0),(5,(Q3z p0)),(6,(I ((p0.length:Int)))),(7,I y6)],[(.own 4 [[I y7,I y8,I y9,I y10]])]⟩) (fun t h=>by rw [Qeh] at h; cases h) (fun n16 ih t h=>?_) N (0,0,0,0,0) h
   obtain ⟨y6,y7,y8,y9,y10⟩:=t
   rw [Qeh] at h
   skip
   refine wxz<|wsq ?_
   refine bfe h (fun hc17 h=>?_) fun hc17 h=>?_
   ·refine wft hc17<|Qan<|thn<|wsq<|Qal ?_
    obtain ⟨x18,hg19,h⟩:=bno h
    obtain ⟨hi20,hj21⟩:=gsm hg19
    refine wx tbk [(0,rp [(.tmp 5,(Q3z p0)),(.tmp 7,I y6)] (.dptr (Qab (x18)) 0))] ⟨aid rfl Tryz.underlying45 ti63 rfl rfl hi20 (mgt Qab hj21) rfl,trivial⟩ ?_
    refine wx1 tbk [(20,rp [(.tmp 15,(I (w64 (y7+x18.Mass)))),(.tmp 20,(I (w64 (y8+x18.Heat)))),(.tmp 25,(I (w64 (y9+x18.Silica)))),(.tmp 30,(I (w64 (y10+x18.Gas))))] (.agg [(I (w64 (y7+x18.Mass))),(I (w64 (y8+x18.Heat))),(I (w64 (y9+x18.Silica))),(I (w64 (y10+x18.Gas)))]))] ⟨Qax (vs:=[(I (w64 (y7+x18.Mass))),(I (w64 (y8+x18.Heat))),(I (w64 (y9+x18.Silica))),(I (w64 (y10+x18.Gas)))]) rfl ts63 tz63 rfl (by rfl) rfl,trivial⟩<|bln<|thn<|wxz1<|thn ?_
    exact arm (mto (n:=34) [(2,.ref 0 4 0 0),(5,(Q3z p0)),(6,(I ((p0.length:Int)))),(7,(I (w64 (y6+1))))] [0] [(.own 4 [[(I (w64 (y7+x18.Mass))),(I (w64 (y8+x18.Heat))),(I (w64 (y9+x18.Silica))),(I (w64 (y10+x18.Gas)))]])] hφ0 (pc (.rn (rqr rfl)) (pc (rnd Qad) (pc rwl (pc rwl pn)))) (qc (spb (lcc (lcc ln))) qn)) (ih (w64 (y6+1),w64 (y7+x18.Mass),w64 (y8+x18.Heat),w64 (y9+x18.Silica),w64 (y10+x18.Gas)) h)
   ·exact wfn hc17<|Qbl<|Qay<|Qay<|Qbk rfl<|thn<|⟨(y7,y8,y9,y10),h,(mto (n:=34) [(2,.ref 0 4 0 0)] [0] [(.own 4 [[I y7,I y8,I y9,I y10]])] hφ0 (pc (.rn (rqr rfl)) pn) (qc (spb (lcc (lcc ln))) qn))⟩
def Qh4 (N:Nat) (p0:GNet) (p1:(List GStream)):Option Int:=
  Qbp (fun _=>
    (Qff N p1).bind fun x3=>
    bif (decide (x3.Mass>1000000)) then
     some 3
    else
     bif (decide (x3.Gas>1000000000)) then
      some 3
     else
      some 0) fun k1:Unit→Option Int=>
  (Qhl N p0 1).bind fun x7=>
  bif ((p1.length:Int) != (x7.length:Int)) then
   some 1
  else
   (Qes N p1).bind fun x10=>
   bif (!x10) then
    some 1
   else
    k1 ()
def Qwh (p1:(List GStream)):AV:=.dat 4 ((p1:List GStream).map Qab)
def Zki (p0:GNet):AV:=.dat 7 ((p0.Elements:List GElement).map Qac)
def Zai (p0:GNet):AV:=.agg [(.dat 5 ((p0.Table:List GRow).map Qaw)),(Zki p0)]
def Zah (x7:(List Int)):AV:=.dat 1 ((x7:List Int).map Qak)
theorem Qql (N:Nat) (p0:GNet) (p1:(List GStream)) (r:Int) (h:Qh4 N p0 p1=some r):Spec Tryz.prog 94 [(.agg (Qhn p0)),(.dat 4 (p1.map Qab))] [] (I r) []:=by
  refine Qah Tryz.func94 rfl 0 (nle rfl) (fun X φ0 w0 hφ0 hd0=>?_)
  unfold Qh4 at h
  refine wxz ?_
  obtain ⟨k1,hk_k1,h⟩:=jko h
  refine wjn (τ:=Unit) (fun t=>k1 t=some r) (fun _=>⟨mk 27 [(1,(Qwh p1))],[]⟩) (fun t h=>?_) ?_
  ·subst hk_k1
   refine wsq ?_
   obtain ⟨x3,hf2,h⟩:=bno h
   refine wx tbk [(1,rp [fu 76,(.tmp 17,(Qwh p1))] (.agg [I x3.Mass,I x3.Heat,I x3.Silica,I x3.Gas]))] ⟨apc (first:=[]) (cap:=[]) (vs:=[(Qwh p1)]) rfl Qz9 (Qks N p1 _ hf2) rfl rfl (nlc (nld Qad _) nl0) (NLt.agg _ (nlcc (nlcc nl0))) rfl,trivial⟩ ?_
   refine bfe h (fun hb4 h=>?_) fun hb4 h=>?_
   ·refine wx tbk [(3,rp [(.tmp 21,(B ((decide (x3.Mass>1000000)))))] (B true))] ⟨asb hb4 (amv rfl),trivial⟩<|wtr<|wxz<|Qaf<|Qae ?_
    obtain rfl:=osi h
    exact fend ⟨[I 3],⟨rot,trivial⟩,rfl⟩ nll
   ·refine wx tbk [(3,rp [(.tmp 21,(B ((decide (x3.Mass>1000000)))))] (B false))] ⟨asb hb4 (amv rfl),trivial⟩ ?_
    refine bfe h (fun hc5 h=>?_) fun hc5 h=>?_
    ·refine wft hc5<|wxz<|Qaf<|Qae ?_
     obtain rfl:=osi h
     exact fend ⟨[I 3],⟨rot,trivial⟩,rfl⟩ nll
    ·refine wfn hc5<|Qan<|thn<|wxz<|Qaf ?_
     obtain rfl:=osi h
     exact fend ⟨[I 0],⟨rot,trivial⟩,rfl⟩ nll
  ·skip
   obtain ⟨x7,hf6,h⟩:=bno h
   refine bfe h (fun hb8 h=>?_) fun hb8 h=>?_
   ·refine wx tbk [(1,rp [(.tmp 6,(Qwh p1))] (I ((p1.length:Int)))),(3,rp [fu 67,(.tmp 8,(Zai p0)),(.const (.int .u8 1),(K .u8 (1)))] (Zah x7)),(4,rp [(.tmp 9,(Zah x7))] (I ((x7.length:Int)))),(6,rp [(.tmp 11,(B (((p1.length:Int) != (x7.length:Int)))))] (B true))] ⟨alm (c:=Qab) (l:=p1) (aln rfl Tryz.underlying45 rfl),apc (first:=[]) (cap:=[]) (vs:=[(Zai p0),(K .u8 (1))]) rfl Qvl (Qh2 N p0 1 _ hf6) rfl rfl (nlc (NLt.agg _ (nlc (nld Qai _) (nlc (nld Qaa _) nl0))) (nlc nll nl0)) (nld Qag _) rfl,alm (c:=Qak) (l:=x7) (aln rfl Tryz.underlying27 rfl),asb hb8 (amv rfl),trivial⟩<|wtr<|wxz<|Qaf<|Qae ?_
    obtain rfl:=osi h
    exact fend ⟨[I 1],⟨rot,trivial⟩,rfl⟩ nll
   ·obtain ⟨x10,hf9,h⟩:=bno h
    refine wx tbk [(1,rp [(.tmp 6,(Qwh p1))] (I ((p1.length:Int)))),(3,rp [fu 67,(.tmp 8,(Zai p0)),(.const (.int .u8 1),(K .u8 (1)))] (Zah x7)),(4,rp [(.tmp 9,(Zah x7))] (I ((x7.length:Int)))),(6,rp [(.tmp 11,(B (((p1.length:Int) != (x7.length:Int)))))] (B false)),(8,rp [(.tmp 12,B false),fu 112,(.tmp 13,(Qwh p1)),fu 113] (B x10))] ⟨alm (c:=Qab) (l:=p1) (aln rfl Tryz.underlying45 rfl),apc (first:=[]) (cap:=[]) (vs:=[(Zai p0),(K .u8 (1))]) rfl Qvl (Qh2 N p0 1 _ hf6) rfl rfl (nlc (NLt.agg _ (nlc (nld Qai _) (nlc (nld Qaa _) nl0))) (nlc nll nl0)) (nld Qag _) rfl,alm (c:=Qak) (l:=x7) (aln rfl Tryz.underlying27 rfl),asb hb8 (amv rfl),ag_ (Qas (first:=[]) (cap:=[]) (vs:=[(Qwh p1),(.fn (.func 113) [] [])]) (σr:=[]) (σr':=[]) (res':=(B x10)) [] rfl Zcy (Qj7 N p1 _ hf9) rfl (Qbr (rnc (pld Qad) (rnc (.plain _ (NLt.fn _ _ _ nl0 nl0)) rn0))) Qar Qar (.plain _ nll) rfl rfl rfl),trivial⟩ ?_
    refine bfe h (fun hc11 h=>?_) fun hc11 h=>?_
    ·refine wft hc11<|wxz<|Qaf<|Qae ?_
     obtain rfl:=osi h
     exact fend ⟨[I 1],⟨rot,trivial⟩,rfl⟩ nll
    ·exact wfn hc11<|Qan<|thn<|⟨(),h,(mto (n:=27) [(1,(Qwh p1))] [] [] hφ0 (pc (rnd Qad) pn) qn)⟩
def Qic (N:Nat) (p0:GNet) (p1:(List Int)) (p2:(List GStream)):Option Int:=
  (Qhj N p0 p1).bind fun x2=>
  bif (x2 != 0) then
   some x2
  else
   (Qh4 N p0 p2).bind fun x5=>
   some x5
def Zkj (p0:GNet):AV:=.dat 7 ((p0.Elements:List GElement).map Qac)
def Zam (p0:GNet):AV:=.agg [(.dat 5 ((p0.Table:List GRow).map Qaw)),(Zkj p0)]
theorem Qne (N:Nat) (p0:GNet) (p1:(List Int)) (p2:(List GStream)) (r:Int) (h:Qic N p0 p1 p2=some r):Spec Tryz.prog 57 [(.agg (Qhn p0)),(.dat 1 (p1.map Qak)),(.dat 4 (p2.map Qab))] [] (I r) []:=by
  refine Qah Tryz.func57 rfl 0 (nle rfl) (fun X φ0 w0 hφ0 hd0=>?_)
  unfold Qic at h
  refine wxz<|wsq ?_
  obtain ⟨x2,hf1,h⟩:=bno h
  refine wx tbk [(2,rp [fu 73,(.tmp 8,(Zam p0)),(.tmp 9,(.dat 1 ((p1:List Int).map Qak)))] (I x2))] ⟨apc (first:=[]) (cap:=[]) (vs:=[(Zam p0),(.dat 1 ((p1:List Int).map Qak))]) rfl Q8p (Qmh N p0 p1 _ hf1) rfl rfl (nlc (NLt.agg _ (nlc (nld Qai _) (nlc (nld Qaa _) nl0))) (nlc (nld Qag _) nl0)) nll rfl,trivial⟩<|wxz ?_
  refine bfe h (fun hc3 h=>?_) fun hc3 h=>?_
  ·refine wft hc3<|wxz<|Qaf<|Qae ?_
   obtain rfl:=osi h
   exact fend ⟨[I x2],⟨rot,trivial⟩,rfl⟩ nll
  ·refine wfn hc3<|Qan<|thn ?_
   obtain ⟨x5,hf4,h⟩:=bno h
   refine wx tbk [(2,rp [fu 94,(.tmp 14,(Zam p0)),(.tmp 15,(.dat 4 ((p2:List GStream).map Qab)))] (I x5))] ⟨apc (first:=[]) (cap:=[]) (vs:=[(Zam p0),(.dat 4 ((p2:List GStream).map Qab))]) rfl Zh6 (Qql N p0 p2 _ hf4) rfl rfl (nlc (NLt.agg _ (nlc (nld Qai _) (nlc (nld Qaa _) nl0))) (nlc (nld Qad _) nl0)) nll rfl,trivial⟩<|Qaf ?_
   obtain rfl:=osi h
   exact fend ⟨[I x5],⟨rot,trivial⟩,rfl⟩ nll
def Qik (N:Nat) (p0:Int):Option Bool:=
  (Qc2 N p0 0 1000).bind fun x2=>
  some x2
theorem Qpe (N:Nat) (p0:Int) (r:Bool) (h:Qik N p0=some r):Spec Tryz.prog 150 [(I p0)] [] (B r) []:=by
  refine Qah Tryz.func150 rfl 0 (nle rfl) (fun X φ0 w0 hφ0 hd0=>?_)
  unfold Qik at h
  refine wxz ?_
  obtain ⟨x2,hf1,h⟩:=bno h
  refine wx tbk [(1,rp [fu 137,(.tmp 3,I p0),ci 0,ci 1000] (B x2))] ⟨apc (first:=[]) (cap:=[]) (vs:=[I p0,I 0,I 1000]) rfl Qcw (Qav N p0 0 1000 _ hf1) rfl rfl (nlcc (nlc nll nl0)) nll rfl,trivial⟩<|Qaf ?_
  obtain rfl:=osi h
  exact fend ⟨[B x2],⟨rot,trivial⟩,rfl⟩ nll
def Qfq (N:Nat) (p0:Int):Option Bool:=
  (Qik N p0).bind fun x3=>
  some (!x3)
def Zad:Slot:=.own 1 [[(.fn (.func 150) [] [])]]
theorem Ql8 (N:Nat) (p0:Int) (r:Bool) (h:Qfq N p0=some r):Spec Tryz.prog 157 [(I (p0)),(.ref 0 1 (0) 0)] [Zad] (B (r)) [Zad]:=by
  refine Qah Tryz.func157 rfl 1 (nle rfl) (fun X φ0 w0 hφ0 hd0=>?_)
  unfold Qfq at h
  refine Qbx<|wxz ?_
  obtain ⟨x3,hf2,h⟩:=bno h
  refine wx tbk [(2,rp [(.tmp 4,(.fn (.func 150) [] [])),(.tmp 5,I p0)] (B x3))] ⟨apc (first:=[]) (cap:=[]) (vs:=[I p0]) rfl Zb5 (Qpe N p0 _ hf2) rfl rfl (nlc nll nl0) nll rfl,trivial⟩ ?_
  refine wmr (mto (n:=8) (l':=[(3,(B ((!x3))))]) (own':=[Zad]) [(3,(B ((!x3))))] [0] [Zad] hφ0 (pc rwl pn) (qc (spb (lc (.rn (Qbn rn0 rn0)) ln)) qn))<|Qaf ?_
  obtain rfl:=osi h
  exact ⟨_,Mor.rfl,Qdc (vs:=[(B ((!x3)))]) ⟨rot,trivial⟩ rfl (NLt.of0 nll) (by kernel_rfl) (Qao (Qbd (nlc (NLt.of0 (NLt.fn _ _ _ nl0 nl0)) nl0)) Qbt)⟩
def Qb2 (N:Nat) (p0:(List Int)) (k2:Unit→Option Int):Nat→Int→Option Int
  | 0,_=>none
  | n5+1,y3=>
    bif (decide (y3<(p0.length:Int))) then
     (getI p0 y3).bind fun x7=>
     (Qfq N x7).bind fun x12=>
     bif x12 then
      some y3
     else
      Qb2 N p0 k2 n5 (w64 (y3+1))
    else
     k2 ()
def Qd1 (N:Nat) (p0:(List Int)):Option Int:=
  Qbp (fun _=>
    some (-1)) fun k2:Unit→Option Int=>
  Qb2 N p0 k2 N 0
def Qyy (p0:(List Int)):AV:=.dat 1 ((p0:List Int).map Qak)
def Q3y:AV:=.fn (.func 157) [] [(.ref 0 1 (0) 0)]
def Qm1:Slot:=.own 1 [[(.fn (.func 150) [] [])]]
theorem Qiv (N:Nat) (p0:(List Int)) (r:Int) (h:Qd1 N p0=some r):Spec Tryz.prog 141 [(Qyy p0),Q3y] [Qm1] (I (r)) [Qm1]:=by
  refine Qah Tryz.func141 rfl 1 (nle rfl) (fun X φ0 w0 hφ0 hd0=>?_)
  unfold Qd1 at h
  refine Qbx<|wxz ?_
  obtain ⟨k2,hk_k2,h⟩:=jko h
  refine wjn (τ:=Unit) (fun t=>k2 t=some r) (fun _=>⟨mk 19 [],[Qm1]⟩) (fun t h=>?_) ?_
  ·subst hk_k2
   refine wxz<|wmr (mto (n:=19) (l':=[(4,(I ((-1))))]) (own':=[Qm1]) [(4,(I ((-1))))] [0] [Qm1] hφ0 (pc rwl pn) (qc (spb (lc (.rn (Qbn rn0 rn0)) ln)) qn))<|Qaf ?_
   obtain rfl:=osi h
   exact ⟨_,Mor.rfl,Qdc (vs:=[(I ((-1)))]) ⟨rot,trivial⟩ rfl (NLt.of0 nll) (by kernel_rfl) (Qao (Qbd (nlc (NLt.of0 (NLt.fn _ _ _ nl0 nl0)) nl0)) Qbt)⟩
  ·skip
   refine wx tbk [(1,rp [(.tmp 6,(Qyy p0))] (I ((p0.length:Int))))] ⟨alm (c:=Qak) (l:=p0) (aln rfl Tryz.underlying27 rfl),trivial⟩<|Qal ?_
   refine wmr (mto (n:=19) (l':=[(0,(Qyy p0)),(1,Q3y),(7,(I ((p0.length:Int)))),(8,I 0)]) (own':=[Qm1]) [(0,(Qyy p0)),(1,Q3y),(7,(I ((p0.length:Int)))),(8,I 0)] [0] [Qm1] hφ0 (pc (rnd Qag) (pc (.rn (Qbn rn0 (rnc (rqr rfl) rn0))) (pc rwl (pc rwl pn)))) (qc (spb (lc (.rn (Qbn rn0 rn0)) ln)) qn)) ?_
   refine Qcb (τ:=Int) (fun n t=>Qb2 N p0 k2 n t=some r) (fun y3=>⟨mk 19 [(0,(Qyy p0)),(1,Q3y),(7,(I ((p0.length:Int)))),(8,I y3)],[Qm1]⟩) (fun t h=>by rw [Qb2] at h; cases h) (fun n5 ih y3 h=>?_) N (0) h
   rw [Qb2] at h
   skip
   refine wxz<|wsq ?_
   refine bfe h (fun hc6 h=>?_) fun hc6 h=>?_
   ·refine wft hc6<|Qan<|thn<|wsq<|Qal<|wxz ?_
    obtain ⟨x7,hg8,h⟩:=bno h
    obtain ⟨hi9,hj10⟩:=gsm hg8
    obtain ⟨x12,hf11,h⟩:=bno h
    refine wx tbk [(3,rp [(.tmp 12,(Qyy p0)),(.tmp 13,I y3)] (.dptr (Qak (x7)) 0)),(5,⟨[(.tmp 11,Q3y),(.tmp 15,I x7)],[(0,Qm1)],B x12,[(0,Qm1)],false⟩)] ⟨aid rfl Tryz.underlying27 ti3 rfl rfl hi9 (mgt Qak hj10) rfl,Qas (first:=[]) (cap:=[.ref 0 1 0 0]) (vs:=[I x7]) (σr:=[Qm1]) (σr':=[Qm1]) (res':=(B x12)) [0] rfl Zb0 (Ql8 N x7 _ hf11) rfl (Qbr (rnc (.plain _ nll) (rnc (Qbj rfl) rn0))) (slc (Qaq (rnc (.plain _ (NLt.fn _ _ _ nl0 nl0)) rn0)) Qar) (slc (Qaq (rnc (.plain _ (NLt.fn _ _ _ nl0 nl0)) rn0)) Qar) (.plain _ nll) rfl rfl rfl,trivial⟩ ?_
    refine bfe h (fun hc13 h=>?_) fun hc13 h=>?_
    ·refine wft hc13<|wxz ?_
     refine wmr (mto (n:=19) (l':=[(4,I y3)]) (own':=[Qm1]) [(4,I y3)] [0] [Qm1] hφ0 (pc rwl pn) (qc (spb (lc (.rn (Qbn rn0 rn0)) ln)) qn))<|Qaf<|Qam<|Qae<|Qae<|Qam<|Qae ?_
     obtain rfl:=osi h
     exact ⟨_,Mor.rfl,Qdc (vs:=[I y3]) ⟨rot,trivial⟩ rfl (NLt.of0 nll) (by kernel_rfl) (Qao (Qbd (nlc (NLt.of0 (NLt.fn _ _ _ nl0 nl0)) nl0)) Qbt)⟩
    ·exact wfn hc13<|Qan<|bln<|thn<|wxz1<|thn<|arm (mto (n:=19) [(0,(Qyy p0)),(1,Q3y),(7,(I ((p0.length:Int)))),(8,(I (w64 (y3+1))))] [0] [Qm1] hφ0 (pc (rnd Qag) (pc (.rn (Qbn rn0 (rnc (rqr rfl) rn0))) (pc rwl (pc rwl pn)))) (qc (spb (lc (.rn (Qbn rn0 rn0)) ln)) qn)) (ih (w64 (y3+1)) h)
   ·exact wfn hc6<|Qbl<|Qay<|Qay<|Qbk rfl<|thn<|⟨(),h,(mto (n:=19) [] [0] [Qm1] hφ0 pn (qc (spb (lc (.rn (Qbn rn0 rn0)) ln)) qn))⟩
def Qcy (N:Nat) (p0:(List Int)):Option Bool:=
  (Qd1 N p0).bind fun x3=>
  some (decide (x3≥0))
def Zf1 (p0:(List Int)):AV:=.dat 1 ((p0:List Int).map Qak)
def Zf0:AV:=.fn (.func 157) [] [(.ref 0 1 (0) 0)]
def Qwc:Slot:=.own 1 [[(.fn (.func 150) [] [])]]
theorem Qht (N:Nat) (p0:(List Int)) (r:Bool) (h:Qcy N p0=some r):Spec Tryz.prog 126 [(Zf1 p0),Zf0] [Qwc] (B (r)) [Qwc]:=by
  refine Qah Tryz.func126 rfl 1 (nle rfl) (fun X φ0 w0 hφ0 hd0=>?_)
  unfold Qcy at h
  refine Qbx<|wxz ?_
  obtain ⟨x3,hf2,h⟩:=bno h
  refine wx tbk [(2,⟨[fu 141,(.tmp 5,(Zf1 p0)),(.tmp 6,Zf0)],[(0,Qwc)],I x3,[(0,Qwc)],false⟩)] ⟨Qas (first:=[]) (cap:=[]) (vs:=[(Zf1 p0),Zf0]) (σr:=[Qwc]) (σr':=[Qwc]) (res':=(I x3)) [0] rfl Qop (Qiv N p0 _ hf2) rfl (Qbr (rnc (pld Qag) (rnc (Qbn rn0 (rnc (Qbj rfl) rn0)) rn0))) (slc (Qaq (rnc (.plain _ (NLt.fn _ _ _ nl0 nl0)) rn0)) Qar) (slc (Qaq (rnc (.plain _ (NLt.fn _ _ _ nl0 nl0)) rn0)) Qar) (.plain _ nll) rfl rfl rfl,trivial⟩ ?_
  refine wmr (mto (n:=9) (l':=[(4,(B ((decide (x3≥0)))))]) (own':=[Qwc]) [(4,(B ((decide (x3≥0)))))] [0] [Qwc] hφ0 (pc rwl pn) (qc (spb (lc (.rn (Qbn rn0 rn0)) ln)) qn))<|Qaf ?_
  obtain rfl:=osi h
  exact ⟨_,Mor.rfl,Qdc (vs:=[(B ((decide (x3≥0))))]) ⟨rot,trivial⟩ rfl (NLt.of0 nll) (by kernel_rfl) (Qao (Qbd (nlc (NLt.of0 (NLt.fn _ _ _ nl0 nl0)) nl0)) Qbt)⟩
def Qgi (N:Nat) (p0:(List Int)):Option Bool:=
  (Qcy N p0).bind fun x2=>
  some (!x2)
def Zf3 (p0:(List Int)):AV:=.dat 1 ((p0:List Int).map Qak)
def Zf2:AV:=.fn (.func 157) [] [(.ref 0 1 (0) 0)]
def Zae:Slot:=.own 1 [[(.fn (.func 150) [] [])]]
theorem Qj3 (N:Nat) (p0:(List Int)) (r:Bool) (h:Qgi N p0=some r):Spec Tryz.prog 151 [(Zf3 p0),(.fn (.func 150) [] [])] [] (B (r)) []:=by
  refine Qah Tryz.func151 rfl 0 (nle rfl) (fun X φ0 w0 hφ0 hd0=>?_)
  unfold Qgi at h
  refine wxz ?_
  obtain ⟨x2,hf1,h⟩:=bno h
  refine wx tbk [(1,rp [(.tmp 3,.ref 0 1 0 0)] Zf2),(2,⟨[fu 126,(.tmp 5,(Zf3 p0)),(.tmp 6,Zf2)],[(0,Zae)],B x2,[(0,Zae)],false⟩)] ⟨Qfn (fs:=[]) (cs:=[.ref 0 1 0 0]) rfl rfl rfl rfl,Qas (first:=[]) (cap:=[]) (vs:=[(Zf3 p0),Zf2]) (σr:=[Zae]) (σr':=[Zae]) (res':=(B x2)) [0] rfl Qoq (Qht N p0 _ hf1) rfl (Qbr (rnc (pld Qag) (rnc (Qbn rn0 (rnc (Qbj rfl) rn0)) rn0))) (slc (Qaq (rnc (.plain _ (NLt.fn _ _ _ nl0 nl0)) rn0)) Qar) (slc (Qaq (rnc (.plain _ (NLt.fn _ _ _ nl0 nl0)) rn0)) Qar) (.plain _ nll) rfl rfl rfl,trivial⟩<|Qaf ?_
  obtain rfl:=osi h
  exact fend ⟨[(B ((!x2)))],⟨rot,trivial⟩,rfl⟩ nll
def Qij (_N:Nat) (p0:Int):Option Bool:=
  some (decide (p0>0))
theorem Qpd (N:Nat) (p0:Int) (r:Bool) (h:Qij N p0=some r):Spec Tryz.prog 152 [(I p0)] [] (B r) []:=by
  refine Qah Tryz.func152 rfl 0 (nle rfl) (fun X φ0 w0 hφ0 hd0=>?_)
  unfold Qij at h
  refine wxz<|wxz<|Qaf ?_
  obtain rfl:=osi h
  exact fend ⟨[(B ((decide (p0>0))))],⟨rot,trivial⟩,rfl⟩ nll
def Qb1 (N:Nat) (p0:(List Int)) (k1:Unit→Option Int):Nat→Int→Option Int
  | 0,_=>none
  | n4+1,y2=>
    bif (decide (y2<(p0.length:Int))) then
     (getI p0 y2).bind fun x6=>
     (Qij N x6).bind fun x11=>
     bif x11 then
      some y2
     else
      Qb1 N p0 k1 n4 (w64 (y2+1))
    else
     k1 ()
def Qd0 (N:Nat) (p0:(List Int)):Option Int:=
  Qbp (fun _=>
    some (-1)) fun k1:Unit→Option Int=>
  Qb1 N p0 k1 N 0
def Qyx (p0:(List Int)):AV:=.dat 1 ((p0:List Int).map Qak)
theorem Qiu (N:Nat) (p0:(List Int)) (r:Int) (h:Qd0 N p0=some r):Spec Tryz.prog 141 [(Qyx p0),(.fn (.func 152) [] [])] [] (I (r)) []:=by
  refine Qah Tryz.func141 rfl 0 (nle rfl) (fun X φ0 w0 hφ0 hd0=>?_)
  unfold Qd0 at h
  refine wxz ?_
  obtain ⟨k1,hk_k1,h⟩:=jko h
  refine wjn (τ:=Unit) (fun t=>k1 t=some r) (fun _=>⟨mk 19 [],[]⟩) (fun t h=>?_) ?_
  ·subst hk_k1
   refine wxz<|Qaf ?_
   obtain rfl:=osi h
   exact fend ⟨[(I ((-1)))],⟨rot,trivial⟩,rfl⟩ nll
  ·skip
   refine wx tbk [(1,rp [(.tmp 6,(Qyx p0))] (I ((p0.length:Int))))] ⟨alm (c:=Qak) (l:=p0) (aln rfl Tryz.underlying27 rfl),trivial⟩<|Qal ?_
   refine wmr (mto (n:=19) (l':=[(0,(Qyx p0)),(1,(.fn (.func 152) [] [])),(7,(I ((p0.length:Int)))),(8,I 0)]) (own':=[]) [(0,(Qyx p0)),(1,(.fn (.func 152) [] [])),(7,(I ((p0.length:Int)))),(8,I 0)] [] [] hφ0 (pc (rnd Qag) (pc (.rn (Qbn rn0 rn0)) (pc rwl (pc rwl pn)))) qn) ?_
   refine Qcb (τ:=Int) (fun n t=>Qb1 N p0 k1 n t=some r) (fun y2=>⟨mk 19 [(0,(Qyx p0)),(1,(.fn (.func 152) [] [])),(7,(I ((p0.length:Int)))),(8,I y2)],[]⟩) (fun t h=>by rw [Qb1] at h; cases h) (fun n4 ih y2 h=>?_) N (0) h
   rw [Qb1] at h
   skip
   refine wxz<|wsq ?_
   refine bfe h (fun hc5 h=>?_) fun hc5 h=>?_
   ·refine wft hc5<|Qan<|thn<|wsq<|Qal<|wxz ?_
    obtain ⟨x6,hg7,h⟩:=bno h
    obtain ⟨hi8,hj9⟩:=gsm hg7
    obtain ⟨x11,hf10,h⟩:=bno h
    refine wx tbk [(3,rp [(.tmp 12,(Qyx p0)),(.tmp 13,I y2)] (.dptr (Qak (x6)) 0)),(5,rp [(.tmp 11,(.fn (.func 152) [] [])),(.tmp 15,I x6)] (B x11))] ⟨aid rfl Tryz.underlying27 ti3 rfl rfl hi8 (mgt Qak hj9) rfl,apc (first:=[]) (cap:=[]) (vs:=[I x6]) rfl Zb4 (Qpd N x6 _ hf10) rfl rfl (nlc nll nl0) nll rfl,trivial⟩ ?_
    refine bfe h (fun hc12 h=>?_) fun hc12 h=>?_
    ·refine wft hc12<|wxz<|Qaf<|Qam<|Qae<|Qae<|Qam<|Qae ?_
     obtain rfl:=osi h
     exact fend ⟨[I y2],⟨rot,trivial⟩,rfl⟩ nll
    ·exact wfn hc12<|Qan<|bln<|thn<|wxz1<|thn<|arm (mto (n:=19) [(0,(Qyx p0)),(1,(.fn (.func 152) [] [])),(7,(I ((p0.length:Int)))),(8,(I (w64 (y2+1))))] [] [] hφ0 (pc (rnd Qag) (pc (.rn (Qbn rn0 rn0)) (pc rwl (pc rwl pn)))) qn) (ih (w64 (y2+1)) h)
   ·exact wfn hc5<|Qbl<|Qay<|Qay<|Qbk rfl<|thn<|⟨(),h,(mto (n:=19) [] [] [] hφ0 pn qn)⟩
def Qcg (N:Nat) (p0:(List Int)):Option Bool:=
  (Qd0 N p0).bind fun x2=>
  some (decide (x2≥0))
def Zfz (p0:(List Int)):AV:=.dat 1 ((p0:List Int).map Qak)
theorem Qhs (N:Nat) (p0:(List Int)) (r:Bool) (h:Qcg N p0=some r):Spec Tryz.prog 126 [(Zfz p0),(.fn (.func 152) [] [])] [] (B (r)) []:=by
  refine Qah Tryz.func126 rfl 0 (nle rfl) (fun X φ0 w0 hφ0 hd0=>?_)
  unfold Qcg at h
  refine wxz ?_
  obtain ⟨x2,hf1,h⟩:=bno h
  refine wx tbk [(2,rp [fu 141,(.tmp 5,(Zfz p0)),(.tmp 6,(.fn (.func 152) [] []))] (I x2))] ⟨Qas (first:=[]) (cap:=[]) (vs:=[(Zfz p0),(.fn (.func 152) [] [])]) (σr:=[]) (σr':=[]) (res':=(I x2)) [] rfl Qop (Qiu N p0 _ hf1) rfl (Qbr (rnc (pld Qag) (rnc (.plain _ (NLt.fn _ _ _ nl0 nl0)) rn0))) Qar Qar (.plain _ nll) rfl rfl rfl,trivial⟩<|Qaf ?_
  obtain rfl:=osi h
  exact fend ⟨[(B ((decide (x2≥0))))],⟨rot,trivial⟩,rfl⟩ nll
def Qe6 (_N:Nat) (p0:Int) (p1:Int) (p2:Int):Option Int:=
  chk (p2 != 0)<|
  some ((w64 (p1 * p0)).tmod p2)
theorem Qjo (N:Nat) (p0:Int) (p1:Int) (p2:Int) (r:Int) (h:Qe6 N p0 p1 p2=some r):Spec Tryz.prog 159 [(I (p0)),(.ref 0 1 (0) 0),(.ref 1 1 (0) 0)] [(.own 1 [[(I (p1))]]),(.own 1 [[(I (p2))]])] (I (r)) [(.own 1 [[(I (p1))]]),(.own 1 [[(I (p2))]])]:=by
  refine Qah Tryz.func159 rfl 2 (nle rfl) (fun X φ0 w0 hφ0 hd0=>?_)
  unfold Qe6 at h
  refine Qbx<|wxz ?_
  obtain ⟨hz2,h⟩:=cko h
  refine wx tbk [(4,rp [(.tmp 7,(I (w64 (p1 * p0)))),(.tmp 8,I p2)] (I ((w64 (p1 * p0)).tmod p2)))] ⟨Qyc rfl (Qsi hz2),trivial⟩ ?_
  refine wmr (mto (n:=10) (l':=[(4,(I ((w64 (p1 * p0)).tmod p2)))]) (own':=[(.own 1 [[I p1]]),(.own 1 [[I p2]])]) [(4,(I ((w64 (p1 * p0)).tmod p2)))] [0,1] [(.own 1 [[I p1]]),(.own 1 [[I p2]])] hφ0 (pc rwl pn) (qc (spb (lc rwl ln)) (qc (spb (lc rwl ln)) qn)))<|Qaf ?_
  obtain rfl:=osi h
  exact ⟨_,Mor.rfl,Qdc (vs:=[(I ((w64 (p1 * p0)).tmod p2))]) ⟨rot,trivial⟩ rfl (NLt.of0 nll) (by kernel_rfl) (Qao (Qbd (nlc (NLt.of0 nll) nl0)) (Qao (Qbd (nlc (NLt.of0 nll) nl0)) Qbt))⟩
def Qek (N:Nat) (p0:Int) (p1:Int) (p2:(List Int)) (p3:Int) (p4:Int):Option Int:=
  (getI p2 p1).bind fun x2=>
  (Qe6 N x2 p3 p4).bind fun x7=>
  (getI p2 p0).bind fun x8=>
  (Qe6 N x8 p3 p4).bind fun x13=>
  some (w64 (x7 - x13))
def Q3x:AV:=.fn (.func 159) [] [(.ref 2 1 (0) 0),(.ref 3 1 (0) 0)]
def Q3w (p2:(List Int)):AV:=.dat 1 ((p2:List Int).map Qak)
theorem Qk0 (N:Nat) (p0:Int) (p1:Int) (p2:(List Int)) (p3:Int) (p4:Int) (r:Int) (h:Qek N p0 p1 p2 p3 p4=some r):Spec Tryz.prog 163 [(I (p0)),(I (p1)),(.ref 0 1 (0) 0),(.ref 1 1 (0) 0)] [(.own 1 [[Q3x]]),(.own 1 [[(Q3w p2)]]),(.own 1 [[(I (p3))]]),(.own 1 [[(I (p4))]])] (I (r)) [(.own 1 [[Q3x]]),(.own 1 [[(Q3w p2)]]),(.own 1 [[(I (p3))]]),(.own 1 [[(I (p4))]])]:=by
  refine Qah Tryz.func163 rfl 4 (nle rfl) (fun X φ0 w0 hφ0 hd0=>?_)
  unfold Qek at h
  refine Qbx<|wxz ?_
  obtain ⟨x2,hg3,h⟩:=bno h
  obtain ⟨hi4,hj5⟩:=gsm hg3
  obtain ⟨x7,hf6,h⟩:=bno h
  obtain ⟨x8,hg9,h⟩:=bno h
  obtain ⟨hi10,hj11⟩:=gsm hg9
  obtain ⟨x13,hf12,h⟩:=bno h
  refine wxd tbk [(3,rp [(.tmp 8,(Q3w p2)),(.tmp 9,I p1)] (.dptr (Qak (x2)) 0)),(5,⟨[(.tmp 7,Q3x),(.tmp 11,I x2)],[(2,.own 1 [[I p3]]),(3,.own 1 [[I p4]])],I x7,[(2,.own 1 [[I p3]]),(3,.own 1 [[I p4]])],false⟩),(9,rp [(.tmp 14,(Q3w p2)),(.tmp 15,I p0)] (.dptr (Qak (x8)) 0)),(11,⟨[(.tmp 13,Q3x),(.tmp 17,I x8)],[(2,.own 1 [[I p3]]),(3,.own 1 [[I p4]])],I x13,[(2,.own 1 [[I p3]]),(3,.own 1 [[I p4]])],false⟩)] ⟨aid rfl Tryz.underlying27 ti3 rfl rfl hi4 (mgt Qak hj5) rfl,Qas (first:=[]) (cap:=[.ref 2 1 0 0,.ref 3 1 0 0]) (vs:=[I x2]) (σr:=[(.own 1 [[I p3]]),(.own 1 [[I p4]])]) (σr':=[(.own 1 [[I p3]]),(.own 1 [[I p4]])]) (res':=(I x7)) [2,3] rfl Q2w (Qjo N x2 p3 p4 _ hf6) rfl (Qbr (rnc (.plain _ nll) (rnc (Qbj rfl) (rnc (Qbj rfl) rn0)))) (slc (Qaq (rnc (.plain _ nll) rn0)) (slc (Qaq (rnc (.plain _ nll) rn0)) Qar)) (slc (Qaq (rnc (.plain _ nll) rn0)) (slc (Qaq (rnc (.plain _ nll) rn0)) Qar)) (.plain _ nll) rfl rfl rfl,aid rfl Tryz.underlying27 ti3 rfl rfl hi10 (mgt Qak hj11) rfl,Qas (first:=[]) (cap:=[.ref 2 1 0 0,.ref 3 1 0 0]) (vs:=[I x8]) (σr:=[(.own 1 [[I p3]]),(.own 1 [[I p4]])]) (σr':=[(.own 1 [[I p3]]),(.own 1 [[I p4]])]) (res':=(I x13)) [2,3] rfl Q2w (Qjo N x8 p3 p4 _ hf12) rfl (Qbr (rnc (.plain _ nll) (rnc (Qbj rfl) (rnc (Qbj rfl) rn0)))) (slc (Qaq (rnc (.plain _ nll) rn0)) (slc (Qaq (rnc (.plain _ nll) rn0)) Qar)) (slc (Qaq (rnc (.plain _ nll) rn0)) (slc (Qaq (rnc (.plain _ nll) rn0)) Qar)) (.plain _ nll) rfl rfl rfl,trivial⟩ ?_
  refine wmr (mto (n:=20) (l':=[(6,(I (w64 (x7 - x13))))]) (own':=[(.own 1 [[Q3x]]),(.own 1 [[(Q3w p2)]]),(.own 1 [[I p3]]),(.own 1 [[I p4]])]) [(6,(I (w64 (x7 - x13))))] [0,1,2,3] [(.own 1 [[Q3x]]),(.own 1 [[(Q3w p2)]]),(.own 1 [[I p3]]),(.own 1 [[I p4]])] hφ0 (pc rwl pn) (qc (spb (lc (.rn (Qbn rn0 (rnc (rqr rfl) (rnc (rqr rfl) rn0)))) ln)) (qc (spb (lc (rnd Qag) ln)) (qc (spb (lc rwl ln)) (qc (spb (lc rwl ln)) qn)))))<|Qaf ?_
  obtain rfl:=osi h
  exact ⟨_,Mor.rfl,Qdc (vs:=[(I (w64 (x7 - x13)))]) ⟨rot,trivial⟩ rfl (NLt.of0 nll) (by kernel_rfl) (Qao (Qbd (nlc (NLt.fn _ _ _ nl0 (nlc (NLt.ref _ _ _ _ (by decide)) (nlc (NLt.ref _ _ _ _ (by decide)) nl0))) nl0)) (Qao (Qbd (nlc (NLt.of0 (nld Qag _)) nl0)) (Qao (Qbd (nlc (NLt.of0 nll) nl0)) (Qao (Qbd (nlc (NLt.of0 nll) nl0)) Qbt))))⟩
def Qbc (N:Nat) (p0:Nat) (p1:Int) (p4:(List Int)) (p5:Int) (p6:Int) (k9:(List Int)→Option (List Int)):Nat→Int→(List Int)→Option (List Int)
  | 0,_,_=>none
  | n14+1,y10,y11=>
    Qbp (fun _=>
      chk (decide (0≤w64 (y10 - 1))&&decide ((w64 (y10 - 1)).toNat<p0))<|
      (y11[(w64 (y10 - 1)).toNat]?).bind fun x17=>
      chk (decide (0≤y10)&&decide (y10.toNat<p0))<|
      (y11[y10.toNat]?).bind fun x20=>
      chk (decide (0≤y10)&&decide (y10.toNat<p0))<|
      (y11[y10.toNat]?).bind fun _=>
      chk (decide (0≤w64 (y10 - 1))&&decide ((w64 (y10 - 1)).toNat<p0))<|
      ((y11.set y10.toNat x17)[(w64 (y10 - 1)).toNat]?).bind fun _=>
      Qbc N p0 p1 p4 p5 p6 k9 n14 (w64 (y10 - 1)) ((y11.set y10.toNat x17).set ((w64 (y10 - 1)).toNat) x20)) fun k15:Unit→Option (List Int)=>
    bif (decide (y10>p1)) then
     chk (decide (0≤y10)&&decide (y10.toNat<p0))<|
     (y11[y10.toNat]?).bind fun x30=>
     chk (decide (0≤w64 (y10 - 1))&&decide ((w64 (y10 - 1)).toNat<p0))<|
     (y11[(w64 (y10 - 1)).toNat]?).bind fun x33=>
     (Qek N x30 x33 p4 p5 p6).bind fun x36=>
     bif (decide (x36<0)) then
      k15 ()
     else
      k9 (y11)
    else
     k9 (y11)
def Qa2 (N:Nat) (p0:Nat) (p1:Int) (p2:Int) (p4:(List Int)) (p5:Int) (p6:Int):Nat→Int→(List Int)→Option (List Int)
  | 0,_,_=>none
  | n6+1,y2,y3=>
    bif (decide (y2<p2)) then
     Qbp (fun y8=>
       Qa2 N p0 p1 p2 p4 p5 p6 n6 (w64 (y2+1)) y8) fun k9:(List Int)→Option (List Int)=>
     Qbc N p0 p1 p4 p5 p6 k9 N y2 y3
    else
     some y3
def Qbf (N:Nat) (p0:Nat) (p1:Int) (p2:Int) (p3:(List Int)) (p4:(List Int)) (p5:Int) (p6:Int):Option (List Int):=
  Qa2 N p0 p1 p2 p4 p5 p6 N (w64 (p1+1)) p3
def Qnk:AV:=.fn (.func 163) [] [(.ref 1 1 (0) 0),(.ref 2 1 (0) 0)]
def Zfu (p3:(List Int)):Slot:=.own 1 ((p3:List Int).map Qak)
def Qkq:AV:=.fn (.func 159) [] [(.ref 3 1 (0) 0),(.ref 4 1 (0) 0)]
def Qkp (p4:(List Int)):AV:=.dat 1 ((p4:List Int).map Qak)
def Q6g (y3:(List Int)):Slot:=.own 1 ((y3:List Int).map Qak)
def Qj0 (y11:(List Int)):Slot:=.own 1 ((y11:List Int).map Qak)
theorem Qe0 (N:Nat) (p0:Nat) (p1:Int) (p2:Int) (p3:(List Int)) (p4:(List Int)) (p5:Int) (p6:Int) (r:(List Int)) (h:Qbf N p0 p1 p2 p3 p4 p5 p6=some r):Spec Tryz.prog 165 [(.own 0 1 (0) (p0)),(I (p1)),(I (p2)),Qnk] [(Zfu p3),(.own 1 [[Qkq]]),(.own 1 [[(Qkp p4)]]),(.own 1 [[(I (p5))]]),(.own 1 [[(I (p6))]])] (.tup []) [(.own 1 ((r:List Int).map Qak)),(.own 1 [[Qkq]]),(.own 1 [[(Qkp p4)]]),(.own 1 [[(I (p5))]]),(.own 1 [[(I (p6))]])]:=by
  refine Qah Tryz.func165 rfl 5 (nle rfl) (fun X φ0 w0 hφ0 hd0=>?_)
  unfold Qbf at h
  refine Qbx<|wxz<|Qal ?_
  refine wmr (mto (n:=53) (l':=[(0,(.own 0 1 (0) (p0))),(1,I p1),(2,I p2),(3,Qnk),(8,(I ((w64 (p1+1)))))]) (own':=[(Zfu p3),(.own 1 [[Qkq]]),(.own 1 [[(Qkp p4)]]),(.own 1 [[I p5]]),(.own 1 [[I p6]])]) [(0,(.own 0 1 (0) (p0))),(1,I p1),(2,I p2),(3,Qnk),(8,(I (w64 (p1+1))))] [0,1,2,3,4] [(Zfu p3),(.own 1 [[Qkq]]),(.own 1 [[(Qkp p4)]]),(.own 1 [[I p5]]),(.own 1 [[I p6]])] hφ0 (pc (.rn (Qbb rfl)) (pc rwl (pc rwl (pc (.rn (Qbn rn0 (rnc (rqr rfl) (rnc (rqr rfl) rn0)))) (pc rwl pn))))) (qc (spr Qag) (qc (spb (lc (.rn (Qbn rn0 (rnc (rqr rfl) (rnc (rqr rfl) rn0)))) ln)) (qc (spb (lc (rnd Qag) ln)) (qc (spb (lc rwl ln)) (qc (spb (lc rwl ln)) qn)))))) ?_
  refine Qcb (τ:=Int×(List Int)) (fun n t=>Qa2 N p0 p1 p2 p4 p5 p6 n t.1 t.2=some r) (fun ⟨y2,y3⟩=>⟨mk 53 [(0,(.own 0 1 (0) (p0))),(1,I p1),(2,I p2),(3,Qnk),(8,I y2)],[(Q6g y3),(.own 1 [[Qkq]]),(.own 1 [[(Qkp p4)]]),(.own 1 [[I p5]]),(.own 1 [[I p6]])]⟩) (fun t h=>by rw [Qa2] at h; cases h) (fun n6 ih t h=>?_) N (w64 (p1+1),p3) h
  obtain ⟨y2,y3⟩:=t
  rw [Qa2] at h
  skip
  refine wsq<|wxz ?_
  refine bfe h (fun hc7 h=>?_) fun hc7 h=>?_
  ·refine wft hc7<|Qan<|thn ?_
   obtain ⟨k9,hk_k9,h⟩:=jko h
   refine wjn (τ:=(List Int)) (fun t=>k9 t=some r) (fun y8=>⟨mk 53 [(0,(.own 0 1 (0) (p0))),(1,I p1),(2,I p2),(3,Qnk),(8,I y2)],[(.own 1 ((y8:List Int).map Qak)),(.own 1 [[Qkq]]),(.own 1 [[(Qkp p4)]]),(.own 1 [[I p5]]),(.own 1 [[I p6]])]⟩) (fun y8 h=>?_) ?_
   ·subst hk_k9
    exact wxz1<|thn<|arm (mto (n:=53) [(0,(.own 0 1 (0) (p0))),(1,I p1),(2,I p2),(3,Qnk),(8,(I (w64 (y2+1))))] [0,1,2,3,4] [(.own 1 ((y8:List Int).map Qak)),(.own 1 [[Qkq]]),(.own 1 [[(Qkp p4)]]),(.own 1 [[I p5]]),(.own 1 [[I p6]])] hφ0 (pc (.rn (Qbb rfl)) (pc rwl (pc rwl (pc (.rn (Qbn rn0 (rnc (rqr rfl) (rnc (rqr rfl) rn0)))) (pc rwl pn))))) (qc (spr Qag) (qc (spb (lc (.rn (Qbn rn0 (rnc (rqr rfl) (rnc (rqr rfl) rn0)))) ln)) (qc (spb (lc (rnd Qag) ln)) (qc (spb (lc rwl ln)) (qc (spb (lc rwl ln)) qn)))))) (ih (w64 (y2+1),y8) h)
   ·skip
    refine Qal<|wxz<|Qal ?_
    refine wmr (mto (n:=53) (l':=[(0,(.own 0 1 (0) (p0))),(1,I p1),(2,I p2),(3,Qnk),(8,I y2),(9,I y2)]) (own':=[(Q6g y3),(.own 1 [[Qkq]]),(.own 1 [[(Qkp p4)]]),(.own 1 [[I p5]]),(.own 1 [[I p6]])]) [(0,(.own 0 1 (0) (p0))),(1,I p1),(2,I p2),(3,Qnk),(8,I y2),(9,I y2)] [0,1,2,3,4] [(Q6g y3),(.own 1 [[Qkq]]),(.own 1 [[(Qkp p4)]]),(.own 1 [[I p5]]),(.own 1 [[I p6]])] hφ0 (pc (.rn (Qbb rfl)) (pc rwl (pc rwl (pc (.rn (Qbn rn0 (rnc (rqr rfl) (rnc (rqr rfl) rn0)))) (pc rwl (pc rwl pn)))))) (qc (spr Qag) (qc (spb (lc (.rn (Qbn rn0 (rnc (rqr rfl) (rnc (rqr rfl) rn0)))) ln)) (qc (spb (lc (rnd Qag) ln)) (qc (spb (lc rwl ln)) (qc (spb (lc rwl ln)) qn)))))) ?_
    refine Qcb (τ:=Int×(List Int)) (fun n t=>Qbc N p0 p1 p4 p5 p6 k9 n t.1 t.2=some r) (fun ⟨y10,y11⟩=>⟨mk 53 [(0,(.own 0 1 (0) (p0))),(1,I p1),(2,I p2),(3,Qnk),(8,I y2),(9,I y10)],[(Qj0 y11),(.own 1 [[Qkq]]),(.own 1 [[(Qkp p4)]]),(.own 1 [[I p5]]),(.own 1 [[I p6]])]⟩) (fun t h=>by rw [Qbc] at h; cases h) (fun n14 ih t h=>?_) N (y2,y3) h
    obtain ⟨y10,y11⟩:=t
    rw [Qbc] at h
    skip
    obtain ⟨k15,hk_k15,h⟩:=jko h
    refine wjn (τ:=Unit) (fun t=>k15 t=some r) (fun _=>⟨mk 53 [(0,(.own 0 1 (0) (p0))),(1,I p1),(2,I p2),(3,Qnk),(8,I y2),(9,I y10)],[(Qj0 y11),(.own 1 [[Qkq]]),(.own 1 [[(Qkp p4)]]),(.own 1 [[I p5]]),(.own 1 [[I p6]])]⟩) (fun t h=>?_) ?_
    ·subst hk_k15
     refine wsq<|Qal ?_
     obtain ⟨hi16,h⟩:=cko h
     obtain ⟨hi16a,hi16b⟩:=Qfh hi16
     obtain ⟨x17,hg18,h⟩:=bno h
     obtain ⟨hi19,h⟩:=cko h
     obtain ⟨hi19a,hi19b⟩:=Qfh hi19
     obtain ⟨x20,hg21,h⟩:=bno h
     obtain ⟨hi22,h⟩:=cko h
     obtain ⟨hi22a,hi22b⟩:=Qfh hi22
     obtain ⟨x23,hg24,h⟩:=bno h
     obtain ⟨hi25,h⟩:=cko h
     obtain ⟨hi25a,hi25b⟩:=Qfh hi25
     obtain ⟨x26,hg27,h⟩:=bno h
     refine wy1 tbk [(8,rb [(.tmp 42,(.own 0 1 (0) (p0))),(.tmp 44,(I (w64 (y10 - 1))))] [(0,(Qj0 y11))] (.ref 0 1 ((w64 (y10 - 1)).toNat) 0)),(9,rb [(.tmp 45,(.ref 0 1 ((w64 (y10 - 1)).toNat) 0))] [(0,(Qj0 y11))] (I x17)),(12,rb [(.tmp 47,(.own 0 1 (0) (p0))),(.tmp 48,I y10)] [(0,(Qj0 y11))] (.ref 0 1 (y10.toNat) 0)),(13,rb [(.tmp 49,(.ref 0 1 (y10.toNat) 0))] [(0,(Qj0 y11))] (I x20)),(14,rb [(.tmp 37,(.own 0 1 (0) (p0))),(.tmp 38,I y10)] [(0,(Qj0 y11))] (.ref 0 1 (y10.toNat) 0)),(15,⟨[(.tmp 51,(.ref 0 1 (y10.toNat) 0)),(.tmp 46,I x17)],[(0,(Qj0 y11))],.any,[(0,(.own 1 ((y11.set y10.toNat x17:List Int).map Qak)))],false⟩),(16,rb [(.tmp 39,(.own 0 1 (0) (p0))),(.tmp 41,(I (w64 (y10 - 1))))] [(0,(.own 1 ((y11.set y10.toNat x17:List Int).map Qak)))] (.ref 0 1 ((w64 (y10 - 1)).toNat) 0)),(17,⟨[(.tmp 52,(.ref 0 1 ((w64 (y10 - 1)).toNat) 0)),(.tmp 50,I x20)],[(0,(.own 1 ((y11.set y10.toNat x17:List Int).map Qak)))],.any,[(0,(.own 1 (((y11.set y10.toNat x17).set ((w64 (y10 - 1)).toNat) x20:List Int).map Qak)))],false⟩)] ⟨aio rfl Tryz.underlying27 ti3 (odt hi16a) (odt hi16b) (Nat.zero_add _),ald rfl ti3 (by decide) (mgt Qak hg18) (nle rfl) rfl,aio rfl Tryz.underlying27 ti3 (odt hi19a) (odt hi19b) (Nat.zero_add _),ald rfl ti3 (by decide) (mgt Qak hg21) (nle rfl) rfl,aio rfl Tryz.underlying27 ti3 (odt hi22a) (odt hi22b) (Nat.zero_add _),ast rfl ti3 (by rfl) (mgt Qak hg24) (nle rfl) (Qg5 Qak rfl),aio rfl Tryz.underlying27 ti3 (odt hi25a) (odt hi25b) (Nat.zero_add _),ast rfl ti3 (by rfl) (mgt Qak hg27) (nle rfl) (Qg5 Qak rfl),trivial⟩<|bln<|thn<|wxz1<|thn ?_
     exact arm (mto (n:=53) [(0,(.own 0 1 (0) (p0))),(1,I p1),(2,I p2),(3,Qnk),(8,I y2),(9,(I (w64 (y10 - 1))))] [0,1,2,3,4] [(.own 1 (((y11.set y10.toNat x17).set ((w64 (y10 - 1)).toNat) x20:List Int).map Qak)),(.own 1 [[Qkq]]),(.own 1 [[(Qkp p4)]]),(.own 1 [[I p5]]),(.own 1 [[I p6]])] hφ0 (pc (.rn (Qbb rfl)) (pc rwl (pc rwl (pc (.rn (Qbn rn0 (rnc (rqr rfl) (rnc (rqr rfl) rn0)))) (pc rwl (pc rwl pn)))))) (qc (spr Qag) (qc (spb (lc (.rn (Qbn rn0 (rnc (rqr rfl) (rnc (rqr rfl) rn0)))) ln)) (qc (spb (lc (rnd Qag) ln)) (qc (spb (lc rwl ln)) (qc (spb (lc rwl ln)) qn)))))) (ih (w64 (y10 - 1),(y11.set y10.toNat x17).set ((w64 (y10 - 1)).toNat) x20) h)
    ·skip
     refine bfe h (fun hb28 h=>?_) fun hb28 h=>?_
     ·obtain ⟨hi29,h⟩:=cko h
      obtain ⟨hi29a,hi29b⟩:=Qfh hi29
      obtain ⟨x30,hg31,h⟩:=bno h
      obtain ⟨hi32,h⟩:=cko h
      obtain ⟨hi32a,hi32b⟩:=Qfh hi32
      obtain ⟨x33,hg34,h⟩:=bno h
      obtain ⟨x36,hf35,h⟩:=bno h
      refine wxd tbk [(3,rp [(.tmp 20,(B ((decide (y10>p1)))))] (B true)),(7,rb [(.tmp 21,B true),(.tmp 23,(.own 0 1 (0) (p0))),(.tmp 24,I y10)] [(0,(Qj0 y11))] (.ref 0 1 (y10.toNat) 0)),(8,rb [(.tmp 21,B true),(.tmp 25,(.ref 0 1 (y10.toNat) 0))] [(0,(Qj0 y11))] (I x30)),(12,rb [(.tmp 21,B true),(.tmp 27,(.own 0 1 (0) (p0))),(.tmp 29,(I (w64 (y10 - 1))))] [(0,(Qj0 y11))] (.ref 0 1 ((w64 (y10 - 1)).toNat) 0)),(13,rb [(.tmp 21,B true),(.tmp 30,(.ref 0 1 ((w64 (y10 - 1)).toNat) 0))] [(0,(Qj0 y11))] (I x33)),(14,⟨[(.tmp 21,B true),(.tmp 22,Qnk),(.tmp 26,I x30),(.tmp 31,I x33)],[(1,.own 1 [[Qkq]]),(2,(.own 1 [[(Qkp p4)]])),(3,.own 1 [[I p5]]),(4,.own 1 [[I p6]])],I x36,[(1,.own 1 [[Qkq]]),(2,(.own 1 [[(Qkp p4)]])),(3,.own 1 [[I p5]]),(4,.own 1 [[I p6]])],false⟩)] ⟨asb hb28 (amv rfl),ag_ (aio rfl Tryz.underlying27 ti3 (odt hi29a) (odt hi29b) (Nat.zero_add _)),ag_ (ald rfl ti3 (by decide) (mgt Qak hg31) (nle rfl) rfl),ag_ (aio rfl Tryz.underlying27 ti3 (odt hi32a) (odt hi32b) (Nat.zero_add _)),ag_ (ald rfl ti3 (by decide) (mgt Qak hg34) (nle rfl) rfl),ag_ (Qas (first:=[]) (cap:=[.ref 1 1 0 0,.ref 2 1 0 0]) (vs:=[I x30,I x33]) (σr:=[(.own 1 [[Qkq]]),(.own 1 [[(Qkp p4)]]),(.own 1 [[I p5]]),(.own 1 [[I p6]])]) (σr':=[(.own 1 [[Qkq]]),(.own 1 [[(Qkp p4)]]),(.own 1 [[I p5]]),(.own 1 [[I p6]])]) (res':=(I x36)) [1,2,3,4] rfl Zbw (Qk0 N x30 x33 p4 p5 p6 _ hf35) rfl (Qbr (rncc (rnc (Qbj rfl) (rnc (Qbj rfl) rn0)))) (slc (Qaq (rnc (Qbn rn0 (rnc (Qbj rfl) (rnc (Qbj rfl) rn0))) rn0)) (slc (Qaq (rnc (pld Qag) rn0)) (slc (Qaq (rnc (.plain _ nll) rn0)) (slc (Qaq (rnc (.plain _ nll) rn0)) Qar)))) (slc (Qaq (rnc (Qbn rn0 (rnc (Qbo rfl) (rnc (Qbo rfl) rn0))) rn0)) (slc (Qaq (rnc (pld Qag) rn0)) (slc (Qaq (rnc (.plain _ nll) rn0)) (slc (Qaq (rnc (.plain _ nll) rn0)) Qar)))) (.plain _ nll) rfl rfl rfl),trivial⟩ ?_
      refine bfe h (fun hc37 h=>?_) fun hc37 h=>?_
      ·exact wft hc37<|Qan<|thn<|⟨(),h,(mto (n:=53) [(0,(.own 0 1 (0) (p0))),(1,I p1),(2,I p2),(3,Qnk),(8,I y2),(9,I y10)] [0,1,2,3,4] [(Qj0 y11),(.own 1 [[Qkq]]),(.own 1 [[(Qkp p4)]]),(.own 1 [[I p5]]),(.own 1 [[I p6]])] hφ0 (pc (.rn (Qbb rfl)) (pc rwl (pc rwl (pc (.rn (Qbn rn0 (rnc (rqr rfl) (rnc (rqr rfl) rn0)))) (pc rwl (pc rwl pn)))))) (qc (spr Qag) (qc (spb (lc (.rn (Qbn rn0 (rnc (rqr rfl) (rnc (rqr rfl) rn0)))) ln)) (qc (spb (lc (rnd Qag) ln)) (qc (spb (lc rwl ln)) (qc (spb (lc rwl ln)) qn))))))⟩
      ·exact wfn hc37<|Qbl<|Qay<|Qay<|Qbk rfl<|bln<|thn<|⟨(y11),h,(mto (n:=53) [(0,(.own 0 1 (0) (p0))),(1,I p1),(2,I p2),(3,Qnk),(8,I y2)] [0,1,2,3,4] [(Qj0 y11),(.own 1 [[Qkq]]),(.own 1 [[(Qkp p4)]]),(.own 1 [[I p5]]),(.own 1 [[I p6]])] hφ0 (pc (.rn (Qbb rfl)) (pc rwl (pc rwl (pc (.rn (Qbn rn0 (rnc (rqr rfl) (rnc (rqr rfl) rn0)))) (pc rwl pn))))) (qc (spr Qag) (qc (spb (lc (.rn (Qbn rn0 (rnc (rqr rfl) (rnc (rqr rfl) rn0)))) ln)) (qc (spb (lc (rnd Qag) ln)) (qc (spb (lc rwl ln)) (qc (spb (lc rwl ln)) qn))))))⟩
     ·exact wxd tbk [(3,rp [(.tmp 20,(B ((decide (y10>p1)))))] (B false))] ⟨asb hb28 (amv rfl),trivial⟩<|wfa<|Qbl<|Qay<|Qay<|Qbk rfl<|bln<|thn<|⟨(y11),h,(mto (n:=53) [(0,(.own 0 1 (0) (p0))),(1,I p1),(2,I p2),(3,Qnk),(8,I y2)] [0,1,2,3,4] [(Qj0 y11),(.own 1 [[Qkq]]),(.own 1 [[(Qkp p4)]]),(.own 1 [[I p5]]),(.own 1 [[I p6]])] hφ0 (pc (.rn (Qbb rfl)) (pc rwl (pc rwl (pc (.rn (Qbn rn0 (rnc (rqr rfl) (rnc (rqr rfl) rn0)))) (pc rwl pn))))) (qc (spr Qag) (qc (spb (lc (.rn (Qbn rn0 (rnc (rqr rfl) (rnc (rqr rfl) rn0)))) ln)) (qc (spb (lc (rnd Qag) ln)) (qc (spb (lc rwl ln)) (qc (spb (lc rwl ln)) qn))))))⟩
  ·refine wfn hc7<|Qbl<|Qay<|Qay<|Qbk rfl ?_
   obtain rfl:=osi h
   exact ⟨_,(mto (n:=53) (l':=[]) (own':=[(Q6g y3),(.own 1 [[Qkq]]),(.own 1 [[(Qkp p4)]]),(.own 1 [[I p5]]),(.own 1 [[I p6]])]) [] [0,1,2,3,4] [(Q6g y3),(.own 1 [[Qkq]]),(.own 1 [[(Qkp p4)]]),(.own 1 [[I p5]]),(.own 1 [[I p6]])] hφ0 pn (qc (spr Qag) (qc (spb (lc (.rn (Qbn rn0 (rnc (rqr rfl) (rnc (rqr rfl) rn0)))) ln)) (qc (spb (lc (rnd Qag) ln)) (qc (spb (lc rwl ln)) (qc (spb (lc rwl ln)) qn)))))),Qdc (vs:=[]) trivial rfl (NLt.tup _ nl0) (by kernel_rfl) (Qao (Qcj Qag _) (Qao (Qbd (nlc (NLt.fn _ _ _ nl0 (nlc (NLt.ref _ _ _ _ (by decide)) (nlc (NLt.ref _ _ _ _ (by decide)) nl0))) nl0)) (Qao (Qbd (nlc (NLt.of0 (nld Qag _)) nl0)) (Qao (Qbd (nlc (NLt.of0 nll) nl0)) (Qao (Qbd (nlc (NLt.of0 nll) nl0)) Qbt)))))⟩
def Qc8 (N:Nat) (p1:Int) (k9:Unit→Option (List Int)):Nat→Option (List Int)
  | 0=>none
  | n10+1=>
    bif (decide (40≤p1)) then
     none
    else
     k9 ()
def Qby (N:Nat) (p1:Int) (x6:(List Int)):Nat→Option (List Int)
  | 0=>none
  | n7+1=>
    bif (decide (20<p1)) then
     Qbp (fun _=>
       none) fun k9:Unit→Option (List Int)=>
     Qc8 N p1 k9 N
    else
     some x6
def Qbq (N:Nat) (p0:Nat) (p1:Int) (p3:(List Int)) (k4:Int×(List Int)→Option (List Int)) (p4:Int) (p5:Int):Nat→Int→Int→(List Int)→Option (List Int)
  | 0,_,_,_=>none
  | n18+1,y12,y13,y14=>
    bif (decide (y13≤p1)) then
     (Qbf N p0 y12 y13 y14 p3 p4 p5).bind fun x21=>
     Qbq N p0 p1 p3 k4 p4 p5 n18 y13 (w64 (y13+20)) x21
    else
     k4 (y12,y14)
def Qdz (N:Nat) (p0:Nat) (p1:Int) (p2:(List Int)) (p3:(List Int)) (p4:Int) (p5:Int):Option (List Int):=
  Qbp (fun ⟨y2,y3⟩=>
    (Qbf N p0 y2 p1 y3 p3 p4 p5).bind fun x6=>
    Qby N p1 x6 N) fun k4:Int×(List Int)→Option (List Int)=>
  Qbq N p0 p1 p3 k4 p4 p5 N 0 20 p2
def Qle:AV:=.fn (.func 163) [] [(.ref 1 1 (0) 0),(.ref 2 1 (0) 0)]
def Zfw (p2:(List Int)):Slot:=.own 1 ((p2:List Int).map Qak)
def Qio:AV:=.fn (.func 159) [] [(.ref 3 1 (0) 0),(.ref 4 1 (0) 0)]
def Qin (p3:(List Int)):AV:=.dat 1 ((p3:List Int).map Qak)
def Zfv (y3:(List Int)):Slot:=.own 1 ((y3:List Int).map Qak)
def Qqg (x6:(List Int)):Slot:=.own 1 ((x6:List Int).map Qak)
def Q1p (y14:(List Int)):Slot:=.own 1 ((y14:List Int).map Qak)
theorem Qit (N:Nat) (p0:Nat) (p1:Int) (p2:(List Int)) (p3:(List Int)) (p4:Int) (p5:Int) (r:(List Int)) (h:Qdz N p0 p1 p2 p3 p4 p5=some r):Spec Tryz.prog 164 [(.own 0 1 (0) (p0)),(I (p1)),Qle] [(Zfw p2),(.own 1 [[Qio]]),(.own 1 [[(Qin p3)]]),(.own 1 [[(I (p4))]]),(.own 1 [[(I (p5))]])] (.tup []) [(.own 1 ((r:List Int).map Qak)),(.own 1 [[Qio]]),(.own 1 [[(Qin p3)]]),(.own 1 [[(I (p4))]]),(.own 1 [[(I (p5))]])]:=by
  refine Qah Tryz.func164 rfl 5 (nle rfl) (fun X φ0 w0 hφ0 hd0=>?_)
  unfold Qdz at h
  refine Qbx<|wxz<|wxz ?_
  obtain ⟨k4,hk_k4,h⟩:=jko h
  refine wjn (τ:=Int×(List Int)) (fun t=>k4 t=some r) (fun ⟨y2,y3⟩=>⟨mk 63 [(0,(.own 0 1 (0) (p0))),(1,I p1),(2,Qle),(6,I 20),(7,I y2)],[(Zfv y3),(.own 1 [[Qio]]),(.own 1 [[(Qin p3)]]),(.own 1 [[I p4]]),(.own 1 [[I p5]])]⟩) (fun t h=>?_) ?_
  ·subst hk_k4
   obtain ⟨y2,y3⟩:=t
   obtain ⟨x6,hf5,h⟩:=bno h
   refine wx tbk [(4,⟨[fu 165,(.tmp 23,(.own 0 1 (0) (p0))),(.tmp 24,I y2),(.tmp 25,I p1),(.tmp 26,Qle)],[(0,(Zfv y3)),(1,.own 1 [[Qio]]),(2,(.own 1 [[(Qin p3)]])),(3,.own 1 [[I p4]]),(4,.own 1 [[I p5]])],(.tup []),[(0,(Qqg x6)),(1,.own 1 [[Qio]]),(2,(.own 1 [[(Qin p3)]])),(3,.own 1 [[I p4]]),(4,.own 1 [[I p5]])],false⟩)] ⟨Qas (first:=[]) (cap:=[]) (vs:=[(.own 0 1 (0) (p0)),I y2,I p1,Qle]) (σr:=[(Zfv y3),(.own 1 [[Qio]]),(.own 1 [[(Qin p3)]]),(.own 1 [[I p4]]),(.own 1 [[I p5]])]) (σr':=[(Qqg x6),(.own 1 [[Qio]]),(.own 1 [[(Qin p3)]]),(.own 1 [[I p4]]),(.own 1 [[I p5]])]) (res':=(.tup [])) [0,1,2,3,4] rfl Q2v (Qe0 N p0 y2 p1 y3 p3 p4 p5 _ hf5) rfl (Qbr (rnc (Qc6 rfl) (rncc (rnc (Qbn rn0 (rnc (Qbj rfl) (rnc (Qbj rfl) rn0))) rn0)))) (slc (Qa8 Qag) (slc (Qaq (rnc (Qbn rn0 (rnc (Qbj rfl) (rnc (Qbj rfl) rn0))) rn0)) (slc (Qaq (rnc (pld Qag) rn0)) (slc (Qaq (rnc (.plain _ nll) rn0)) (slc (Qaq (rnc (.plain _ nll) rn0)) Qar))))) (slc (Qa8 Qag) (slc (Qaq (rnc (Qbn rn0 (rnc (Qbo rfl) (rnc (Qbo rfl) rn0))) rn0)) (slc (Qaq (rnc (pld Qag) rn0)) (slc (Qaq (rnc (.plain _ nll) rn0)) (slc (Qaq (rnc (.plain _ nll) rn0)) Qar))))) (.plain _ (NLt.tup _ nl0)) rfl rfl rfl,trivial⟩<|Qal ?_
   refine wmr (mto (n:=63) (l':=[(0,(.own 0 1 (0) (p0))),(1,I p1),(2,Qle),(6,I 20)]) (own':=[(Qqg x6),(.own 1 [[Qio]]),(.own 1 [[(Qin p3)]]),(.own 1 [[I p4]]),(.own 1 [[I p5]])]) [(0,(.own 0 1 (0) (p0))),(1,I p1),(2,Qle),(6,I 20)] [0,1,2,3,4] [(Qqg x6),(.own 1 [[Qio]]),(.own 1 [[(Qin p3)]]),(.own 1 [[I p4]]),(.own 1 [[I p5]])] hφ0 (pc (.rn (Qbb rfl)) (pc rwl (pc (.rn (Qbn rn0 (rnc (rqr rfl) (rnc (rqr rfl) rn0)))) (pc rwl pn)))) (qc (spr Qag) (qc (spb (lc (.rn (Qbn rn0 (rnc (rqr rfl) (rnc (rqr rfl) rn0)))) ln)) (qc (spb (lc (rnd Qag) ln)) (qc (spb (lc rwl ln)) (qc (spb (lc rwl ln)) qn)))))) ?_
   refine Qcb (τ:=Unit) (fun n t=>Qby N p1 x6 n=some r) (fun _=>⟨mk 63 [(0,(.own 0 1 (0) (p0))),(1,I p1),(2,Qle),(6,I 20)],[(Qqg x6),(.own 1 [[Qio]]),(.own 1 [[(Qin p3)]]),(.own 1 [[I p4]]),(.own 1 [[I p5]])]⟩) (fun t h=>by rw [Qby] at h; cases h) (fun n7 ih t h=>?_) N () h
   rw [Qby] at h
   skip
   refine wsq<|wxz ?_
   refine bfe h (fun hc8 h=>?_) fun hc8 h=>?_
   ·refine wft hc8<|Qan<|thn<|Qal<|wxz ?_
    obtain ⟨k9,hk_k9,h⟩:=jko h
    refine wjn (τ:=Unit) (fun t=>k9 t=some r) (fun _=>⟨mk 63 [(0,(.own 0 1 (0) (p0))),(1,I p1),(2,Qle),(6,I 20),(7,I 0)],[(Qqg x6),(.own 1 [[Qio]]),(.own 1 [[(Qin p3)]]),(.own 1 [[I p4]]),(.own 1 [[I p5]])]⟩) (fun t h=>?_) ?_
    ·subst hk_k9
     refine wsq<|wxz<|wxz<|wft hc8 ?_
     cases h
    ·skip
     refine Qal<|wmr (mto (n:=63) (l':=[(0,(.own 0 1 (0) (p0))),(1,I p1),(2,Qle),(6,I 20),(7,I 0),(8,I 40)]) (own':=[(Qqg x6),(.own 1 [[Qio]]),(.own 1 [[(Qin p3)]]),(.own 1 [[I p4]]),(.own 1 [[I p5]])]) [(0,(.own 0 1 (0) (p0))),(1,I p1),(2,Qle),(6,I 20),(7,I 0),(8,I 40)] [0,1,2,3,4] [(Qqg x6),(.own 1 [[Qio]]),(.own 1 [[(Qin p3)]]),(.own 1 [[I p4]]),(.own 1 [[I p5]])] hφ0 (pc (.rn (Qbb rfl)) (pc rwl (pc (.rn (Qbn rn0 (rnc (rqr rfl) (rnc (rqr rfl) rn0)))) (pc rwl (pc rwl (pc rwl pn)))))) (qc (spr Qag) (qc (spb (lc (.rn (Qbn rn0 (rnc (rqr rfl) (rnc (rqr rfl) rn0)))) ln)) (qc (spb (lc (rnd Qag) ln)) (qc (spb (lc rwl ln)) (qc (spb (lc rwl ln)) qn)))))) ?_
     refine Qcb (τ:=Unit) (fun n t=>Qc8 N p1 k9 n=some r) (fun _=>⟨mk 63 [(0,(.own 0 1 (0) (p0))),(1,I p1),(2,Qle),(6,I 20),(7,I 0),(8,I 40)],[(Qqg x6),(.own 1 [[Qio]]),(.own 1 [[(Qin p3)]]),(.own 1 [[I p4]]),(.own 1 [[I p5]])]⟩) (fun t h=>by rw [Qc8] at h; cases h) (fun n10 ih t h=>?_) N () h
     rw [Qc8] at h
     skip
     refine wsq<|wxz ?_
     refine bfe h (fun hc11 h=>?_) fun hc11 h=>?_
     ·refine wft hc11<|Qan<|thn<|Qal ?_
      cases h
     ·exact wfn hc11<|Qbl<|Qay<|Qay<|Qbk rfl<|thn<|⟨(),h,(mto (n:=63) [(0,(.own 0 1 (0) (p0))),(1,I p1),(2,Qle),(6,I 20),(7,I 0)] [0,1,2,3,4] [(Qqg x6),(.own 1 [[Qio]]),(.own 1 [[(Qin p3)]]),(.own 1 [[I p4]]),(.own 1 [[I p5]])] hφ0 (pc (.rn (Qbb rfl)) (pc rwl (pc (.rn (Qbn rn0 (rnc (rqr rfl) (rnc (rqr rfl) rn0)))) (pc rwl (pc rwl pn))))) (qc (spr Qag) (qc (spb (lc (.rn (Qbn rn0 (rnc (rqr rfl) (rnc (rqr rfl) rn0)))) ln)) (qc (spb (lc (rnd Qag) ln)) (qc (spb (lc rwl ln)) (qc (spb (lc rwl ln)) qn))))))⟩
   ·refine wfn hc8<|Qbl<|Qay<|Qay<|Qbk rfl ?_
    obtain rfl:=osi h
    exact ⟨_,(mto (n:=63) (l':=[]) (own':=[(Qqg x6),(.own 1 [[Qio]]),(.own 1 [[(Qin p3)]]),(.own 1 [[I p4]]),(.own 1 [[I p5]])]) [] [0,1,2,3,4] [(Qqg x6),(.own 1 [[Qio]]),(.own 1 [[(Qin p3)]]),(.own 1 [[I p4]]),(.own 1 [[I p5]])] hφ0 pn (qc (spr Qag) (qc (spb (lc (.rn (Qbn rn0 (rnc (rqr rfl) (rnc (rqr rfl) rn0)))) ln)) (qc (spb (lc (rnd Qag) ln)) (qc (spb (lc rwl ln)) (qc (spb (lc rwl ln)) qn)))))),Qdc (vs:=[]) trivial rfl (NLt.tup _ nl0) (by kernel_rfl) (Qao (Qcj Qag _) (Qao (Qbd (nlc (NLt.fn _ _ _ nl0 (nlc (NLt.ref _ _ _ _ (by decide)) (nlc (NLt.ref _ _ _ _ (by decide)) nl0))) nl0)) (Qao (Qbd (nlc (NLt.of0 (nld Qag _)) nl0)) (Qao (Qbd (nlc (NLt.of0 nll) nl0)) (Qao (Qbd (nlc (NLt.of0 nll) nl0)) Qbt)))))⟩
  ·skip
   refine Qal<|wmr (mto (n:=63) (l':=[(0,(.own 0 1 (0) (p0))),(1,I p1),(2,Qle),(6,I 20),(7,I 0),(8,I 20)]) (own':=[(Zfw p2),(.own 1 [[Qio]]),(.own 1 [[(Qin p3)]]),(.own 1 [[I p4]]),(.own 1 [[I p5]])]) [(0,(.own 0 1 (0) (p0))),(1,I p1),(2,Qle),(6,I 20),(7,I 0),(8,I 20)] [0,1,2,3,4] [(Zfw p2),(.own 1 [[Qio]]),(.own 1 [[(Qin p3)]]),(.own 1 [[I p4]]),(.own 1 [[I p5]])] hφ0 (pc (.rn (Qbb rfl)) (pc rwl (pc (.rn (Qbn rn0 (rnc (rqr rfl) (rnc (rqr rfl) rn0)))) (pc rwl (pc rwl (pc rwl pn)))))) (qc (spr Qag) (qc (spb (lc (.rn (Qbn rn0 (rnc (rqr rfl) (rnc (rqr rfl) rn0)))) ln)) (qc (spb (lc (rnd Qag) ln)) (qc (spb (lc rwl ln)) (qc (spb (lc rwl ln)) qn)))))) ?_
   refine Qcb (τ:=Int×Int×(List Int)) (fun n t=>Qbq N p0 p1 p3 k4 p4 p5 n t.1 t.2.1 t.2.2=some r) (fun ⟨y12,y13,y14⟩=>⟨mk 63 [(0,(.own 0 1 (0) (p0))),(1,I p1),(2,Qle),(6,I 20),(7,I y12),(8,I y13)],[(Q1p y14),(.own 1 [[Qio]]),(.own 1 [[(Qin p3)]]),(.own 1 [[I p4]]),(.own 1 [[I p5]])]⟩) (fun t h=>by rw [Qbq] at h; cases h) (fun n18 ih t h=>?_) N (0,20,p2) h
   obtain ⟨y12,y13,y14⟩:=t
   rw [Qbq] at h
   skip
   refine wsq<|wxz ?_
   refine bfe h (fun hc19 h=>?_) fun hc19 h=>?_
   ·refine wft hc19<|Qan<|thn<|Qal ?_
    obtain ⟨x21,hf20,h⟩:=bno h
    refine wx tbk [(4,⟨[fu 165,(.tmp 14,(.own 0 1 (0) (p0))),(.tmp 15,I y12),(.tmp 16,I y13),(.tmp 17,Qle)],[(0,(Q1p y14)),(1,.own 1 [[Qio]]),(2,(.own 1 [[(Qin p3)]])),(3,.own 1 [[I p4]]),(4,.own 1 [[I p5]])],(.tup []),[(0,(.own 1 ((x21:List Int).map Qak))),(1,.own 1 [[Qio]]),(2,(.own 1 [[(Qin p3)]])),(3,.own 1 [[I p4]]),(4,.own 1 [[I p5]])],false⟩)] ⟨Qas (first:=[]) (cap:=[]) (vs:=[(.own 0 1 (0) (p0)),I y12,I y13,Qle]) (σr:=[(Q1p y14),(.own 1 [[Qio]]),(.own 1 [[(Qin p3)]]),(.own 1 [[I p4]]),(.own 1 [[I p5]])]) (σr':=[(.own 1 ((x21:List Int).map Qak)),(.own 1 [[Qio]]),(.own 1 [[(Qin p3)]]),(.own 1 [[I p4]]),(.own 1 [[I p5]])]) (res':=(.tup [])) [0,1,2,3,4] rfl Q2v (Qe0 N p0 y12 y13 y14 p3 p4 p5 _ hf20) rfl (Qbr (rnc (Qc6 rfl) (rncc (rnc (Qbn rn0 (rnc (Qbj rfl) (rnc (Qbj rfl) rn0))) rn0)))) (slc (Qa8 Qag) (slc (Qaq (rnc (Qbn rn0 (rnc (Qbj rfl) (rnc (Qbj rfl) rn0))) rn0)) (slc (Qaq (rnc (pld Qag) rn0)) (slc (Qaq (rnc (.plain _ nll) rn0)) (slc (Qaq (rnc (.plain _ nll) rn0)) Qar))))) (slc (Qa8 Qag) (slc (Qaq (rnc (Qbn rn0 (rnc (Qbo rfl) (rnc (Qbo rfl) rn0))) rn0)) (slc (Qaq (rnc (pld Qag) rn0)) (slc (Qaq (rnc (.plain _ nll) rn0)) (slc (Qaq (rnc (.plain _ nll) rn0)) Qar))))) (.plain _ (NLt.tup _ nl0)) rfl rfl rfl,trivial⟩<|wxz<|wxz1<|bln<|thn ?_
    exact arm (mto (n:=63) [(0,(.own 0 1 (0) (p0))),(1,I p1),(2,Qle),(6,I 20),(7,I y13),(8,(I (w64 (y13+20))))] [0,1,2,3,4] [(.own 1 ((x21:List Int).map Qak)),(.own 1 [[Qio]]),(.own 1 [[(Qin p3)]]),(.own 1 [[I p4]]),(.own 1 [[I p5]])] hφ0 (pc (.rn (Qbb rfl)) (pc rwl (pc (.rn (Qbn rn0 (rnc (rqr rfl) (rnc (rqr rfl) rn0)))) (pc rwl (pc rwl (pc rwl pn)))))) (qc (spr Qag) (qc (spb (lc (.rn (Qbn rn0 (rnc (rqr rfl) (rnc (rqr rfl) rn0)))) ln)) (qc (spb (lc (rnd Qag) ln)) (qc (spb (lc rwl ln)) (qc (spb (lc rwl ln)) qn)))))) (ih (y13,w64 (y13+20),x21) h)
   ·exact wfn hc19<|Qbl<|Qay<|Qay<|Qbk rfl<|thn<|⟨(y12,y14),h,(mto (n:=63) [(0,(.own 0 1 (0) (p0))),(1,I p1),(2,Qle),(6,I 20),(7,I y12)] [0,1,2,3,4] [(Q1p y14),(.own 1 [[Qio]]),(.own 1 [[(Qin p3)]]),(.own 1 [[I p4]]),(.own 1 [[I p5]])] hφ0 (pc (.rn (Qbb rfl)) (pc rwl (pc (.rn (Qbn rn0 (rnc (rqr rfl) (rnc (rqr rfl) rn0)))) (pc rwl (pc rwl pn))))) (qc (spr Qag) (qc (spb (lc (.rn (Qbn rn0 (rnc (rqr rfl) (rnc (rqr rfl) rn0)))) ln)) (qc (spb (lc (rnd Qag) ln)) (qc (spb (lc rwl ln)) (qc (spb (lc rwl ln)) qn))))))⟩
def Qb8 (N:Nat) (p0:Nat) (p1:(List Int)) (p2:(List Int)) (p3:Int) (p4:Int):Option (List Int):=
  (Qdz N p0 ((p0:Nat):Int) p1 p2 p3 p4).bind fun x3=>
  some x3
def Zfy:AV:=.fn (.func 163) [] [(.ref 1 1 (0) 0),(.ref 2 1 (0) 0)]
def Zfx (p1:(List Int)):Slot:=.own 1 ((p1:List Int).map Qak)
def Qwb:AV:=.fn (.func 159) [] [(.ref 3 1 (0) 0),(.ref 4 1 (0) 0)]
def Qwa (p2:(List Int)):AV:=.dat 1 ((p2:List Int).map Qak)
def Zac (x3:(List Int)):Slot:=.own 1 ((x3:List Int).map Qak)
theorem Qhc (N:Nat) (p0:Nat) (p1:(List Int)) (p2:(List Int)) (p3:Int) (p4:Int) (r:(List Int)) (h:Qb8 N p0 p1 p2 p3 p4=some r):Spec Tryz.prog 162 [(.own 0 1 (0) (p0)),Zfy] [(Zfx p1),(.own 1 [[Qwb]]),(.own 1 [[(Qwa p2)]]),(.own 1 [[(I (p3))]]),(.own 1 [[(I (p4))]])] (.tup []) [(.own 1 ((r:List Int).map Qak)),(.own 1 [[Qwb]]),(.own 1 [[(Qwa p2)]]),(.own 1 [[(I (p3))]]),(.own 1 [[(I (p4))]])]:=by
  refine Qah Tryz.func162 rfl 5 (nle rfl) (fun X φ0 w0 hφ0 hd0=>?_)
  unfold Qb8 at h
  refine Qbx ?_
  obtain ⟨x3,hf2,h⟩:=bno h
  refine wx1 tbk [(2,rp [(.tmp 5,(.own 0 1 (0) (p0)))] (I (((p0:Nat):Int)))),(4,⟨[fu 164,(.tmp 4,(.own 0 1 (0) (p0))),(.tmp 6,(I (((p0:Nat):Int)))),(.tmp 7,Zfy)],[(0,(Zfx p1)),(1,.own 1 [[Qwb]]),(2,(.own 1 [[(Qwa p2)]])),(3,.own 1 [[I p3]]),(4,.own 1 [[I p4]])],(.tup []),[(0,(Zac x3)),(1,.own 1 [[Qwb]]),(2,(.own 1 [[(Qwa p2)]])),(3,.own 1 [[I p3]]),(4,.own 1 [[I p4]])],false⟩)] ⟨aln rfl Tryz.underlying27 rfl,Qas (first:=[]) (cap:=[]) (vs:=[(.own 0 1 (0) (p0)),(I (((p0:Nat):Int))),Zfy]) (σr:=[(Zfx p1),(.own 1 [[Qwb]]),(.own 1 [[(Qwa p2)]]),(.own 1 [[I p3]]),(.own 1 [[I p4]])]) (σr':=[(Zac x3),(.own 1 [[Qwb]]),(.own 1 [[(Qwa p2)]]),(.own 1 [[I p3]]),(.own 1 [[I p4]])]) (res':=(.tup [])) [0,1,2,3,4] rfl Zbv (Qit N p0 ((p0:Nat):Int) p1 p2 p3 p4 _ hf2) rfl (Qbr (rnc (Qc6 rfl) (rnc (.plain _ nll) (rnc (Qbn rn0 (rnc (Qbj rfl) (rnc (Qbj rfl) rn0))) rn0)))) (slc (Qa8 Qag) (slc (Qaq (rnc (Qbn rn0 (rnc (Qbj rfl) (rnc (Qbj rfl) rn0))) rn0)) (slc (Qaq (rnc (pld Qag) rn0)) (slc (Qaq (rnc (.plain _ nll) rn0)) (slc (Qaq (rnc (.plain _ nll) rn0)) Qar))))) (slc (Qa8 Qag) (slc (Qaq (rnc (Qbn rn0 (rnc (Qbo rfl) (rnc (Qbo rfl) rn0))) rn0)) (slc (Qaq (rnc (pld Qag) rn0)) (slc (Qaq (rnc (.plain _ nll) rn0)) (slc (Qaq (rnc (.plain _ nll) rn0)) Qar))))) (.plain _ (NLt.tup _ nl0)) rfl rfl rfl,trivial⟩ ?_
  obtain rfl:=osi h
  exact ⟨_,(mto (n:=9) (l':=[]) (own':=[(Zac x3),(.own 1 [[Qwb]]),(.own 1 [[(Qwa p2)]]),(.own 1 [[I p3]]),(.own 1 [[I p4]])]) [] [0,1,2,3,4] [(Zac x3),(.own 1 [[Qwb]]),(.own 1 [[(Qwa p2)]]),(.own 1 [[I p3]]),(.own 1 [[I p4]])] hφ0 pn (qc (spr Qag) (qc (spb (lc (.rn (Qbn rn0 (rnc (rqr rfl) (rnc (rqr rfl) rn0)))) ln)) (qc (spb (lc (rnd Qag) ln)) (qc (spb (lc rwl ln)) (qc (spb (lc rwl ln)) qn)))))),Qdc (vs:=[]) trivial rfl (NLt.tup _ nl0) (by kernel_rfl) (Qao (Qcj Qag _) (Qao (Qbd (nlc (NLt.fn _ _ _ nl0 (nlc (NLt.ref _ _ _ _ (by decide)) (nlc (NLt.ref _ _ _ _ (by decide)) nl0))) nl0)) (Qao (Qbd (nlc (NLt.of0 (nld Qag _)) nl0)) (Qao (Qbd (nlc (NLt.of0 nll) nl0)) (Qao (Qbd (nlc (NLt.of0 nll) nl0)) Qbt)))))⟩
def Qcq (N:Nat) (p0:(List Int)) (k4:(List Int)→Option (List Int)):Nat→Int→(List Int)→Option (List Int)
  | 0,_,_=>none
  | n13+1,y9,y10=>
    bif (decide (y9<(p0.length:Int))) then
     chk (decide ((y10.length+([y9]).length) * 8≤140737488355328))<|
     Qcq N p0 k4 n13 (w64 (y9+1)) (y10++([y9]))
    else
     k4 (y10)
def Qfa (N:Nat) (p0:(List Int)) (p1:Int) (p2:Int):Option (List Int):=
  Qbp (fun y3=>
    chk (!y3.isEmpty)<|
    (Qb8 N y3.length y3 p0 p1 p2).bind fun x7=>
    chk (decide (y3.length≤x7.length))<|
    some (x7.take y3.length)) fun k4:(List Int)→Option (List Int)=>
  Qcq N p0 k4 N 0 ([]:List Int)
def Qo9 (p0:(List Int)):AV:=.dat 1 ((p0:List Int).map Qak)
def Qqh:AV:=.fn (.func 159) [] [(.ref 0 1 (0) 0),(.ref 1 1 (0) 0)]
def Q1r:AV:=.fn (.func 163) [] [(.ref 3 1 (0) 0),(.ref 2 1 (0) 0)]
def Q1q (x7:(List Int)) (y3:(List Int)):AV:=.dat 1 ((x7.take y3.length:List Int).map Qak)
def Zjb:Slot:=.gro 1 ((([]:List Int):List Int).map Qak)
theorem Qlx (N:Nat) (p0:(List Int)) (p1:Int) (p2:Int) (r:(List Int)) (h:Qfa N p0 p1 p2=some r):Spec Tryz.prog 158 [(Qo9 p0),Qqh] [(.own 1 [[(I (p1))]]),(.own 1 [[(I (p2))]])] (.dat 1 ((r:List Int).map Qak)) [(.own 1 [[(I (p1))]]),(.own 1 [[(I (p2))]])]:=by
  refine Qah Tryz.func158 rfl 2 (nle rfl) (fun X φ0 w0 hφ0 hd0=>?_)
  unfold Qfa at h
  refine Qbx<|wxz<|wxz ?_
  obtain ⟨k4,hk_k4,h⟩:=jko h
  refine wjn (τ:=(List Int)) (fun t=>k4 t=some r) (fun y3=>⟨mk 21 [(2,.ref 2 1 0 0),(3,.ref 3 1 0 0),(5,(.gro 4 3 1 (y3.length)))],[(.own 1 [[I p1]]),(.own 1 [[I p2]]),(.own 1 [[(Qo9 p0)]]),(.own 1 [[Qqh]]),(.gro 1 ((y3:List Int).map Qak))]⟩) (fun y3 h=>?_) ?_
  ·subst hk_k4
   obtain ⟨hz5,h⟩:=cko h
   obtain ⟨x7,hf6,h⟩:=bno h
   refine wx tbk [(1,rp [(.tmp 3,.ref 3 1 0 0),(.tmp 2,.ref 2 1 0 0)] Q1r),(2,⟨[fu 162,(.tmp 17,(.gro 4 3 1 (y3.length))),(.tmp 18,Q1r)],[(4,(.gro 1 ((y3:List Int).map Qak))),(3,.own 1 [[Qqh]]),(2,(.own 1 [[(Qo9 p0)]])),(0,.own 1 [[I p1]]),(1,.own 1 [[I p2]])],(.tup []),[(4,(.own 1 ((x7:List Int).map Qak))),(3,.own 1 [[Qqh]]),(2,(.own 1 [[(Qo9 p0)]])),(0,.own 1 [[I p1]]),(1,.own 1 [[I p2]])],false⟩)] ⟨Qfn (fs:=[]) (cs:=[.ref 3 1 0 0,.ref 2 1 0 0]) rfl rfl rfl rfl,Q0p (bl':=[(4,(.own 1 ((y3:List Int).map Qak))),(3,.own 1 [[Qqh]]),(2,(.own 1 [[(Qo9 p0)]])),(0,.own 1 [[I p1]]),(1,.own 1 [[I p2]])]) ⟨rfl,SLess.gro (Qll hz5),rfl,SLess.rfl,rfl,SLess.rfl,rfl,SLess.rfl,rfl,SLess.rfl,trivial⟩ (awk (rd':=[fu 162,(.tmp 17,(.own 4 1 (0) (y3.length))),(.tmp 18,Q1r)]) ⟨rfl,lrf,rfl,Less.gro,rfl,lrf,trivial⟩ (Qas (first:=[]) (cap:=[]) (vs:=[(.own 4 1 (0) (y3.length)),Q1r]) (σr:=[(.own 1 ((y3:List Int).map Qak)),(.own 1 [[Qqh]]),(.own 1 [[(Qo9 p0)]]),(.own 1 [[I p1]]),(.own 1 [[I p2]])]) (σr':=[(.own 1 ((x7:List Int).map Qak)),(.own 1 [[Qqh]]),(.own 1 [[(Qo9 p0)]]),(.own 1 [[I p1]]),(.own 1 [[I p2]])]) (res':=(.tup [])) [4,3,2,0,1] rfl Zbx (Qhc N y3.length y3 p0 p1 p2 _ hf6) rfl (Qbr (rnc (Qc6 rfl) (rnc (Qbn rn0 (rnc (Qbj rfl) (rnc (Qbj rfl) rn0))) rn0))) (slc (Qa8 Qag) (slc (Qaq (rnc (Qbn rn0 (rnc (Qbj rfl) (rnc (Qbj rfl) rn0))) rn0)) (slc (Qaq (rnc (pld Qag) rn0)) (slc (Qaq (rnc (.plain _ nll) rn0)) (slc (Qaq (rnc (.plain _ nll) rn0)) Qar))))) (slc (Qa8 Qag) (slc (Qaq (rnc (Qbn rn0 (rnc (Qbo rfl) (rnc (Qbo rfl) rn0))) rn0)) (slc (Qaq (rnc (pld Qag) rn0)) (slc (Qaq (rnc (.plain _ nll) rn0)) (slc (Qaq (rnc (.plain _ nll) rn0)) Qar))))) (.plain _ (NLt.tup _ nl0)) rfl rfl rfl)),trivial⟩<|wxz ?_
   obtain ⟨hz8,h⟩:=cko h
   refine wmr (Zbj (n:=21) (l':=[(4,(.own 4 1 (0) (y3.length)))]) [(4,(.gro 4 3 1 (y3.length)))] (by kernel_rfl) (by kernel_rfl) ⟨rfl,Less.gro,trivial⟩) ?_
   refine wmr (Q71 (n:=21) (l':=[(4,(Q1q x7 y3))]) 4 [(4,(.own 4 1 (0) (y3.length)))] (by kernel_rfl) (by kernel_rfl) (by kernel_rfl) ⟨rfl,(Qpo hz8),trivial⟩ rfl) ?_
   refine wmr (mto (n:=21) (l':=[(4,(Q1q x7 y3))]) (own':=[(.own 1 [[I p1]]),(.own 1 [[I p2]])]) [(4,(Q1q x7 y3))] [0,1] [(.own 1 [[I p1]]),(.own 1 [[I p2]])] hφ0 (pc (rnd Qag) pn) (qc (spb (lc rwl ln)) (qc (spb (lc rwl ln)) qn)))<|Qaf ?_
   obtain rfl:=osi h
   exact ⟨_,Mor.rfl,Qdc (vs:=[(Q1q x7 y3)]) ⟨rot,trivial⟩ rfl (NLt.of0 (nld Qag _)) (by kernel_rfl) (Qao (Qbd (nlc (NLt.of0 nll) nl0)) (Qao (Qbd (nlc (NLt.of0 nll) nl0)) Qbt))⟩
  ·skip
   refine wx tbk [(1,rp [(.tmp 7,(Qo9 p0))] (I ((p0.length:Int))))] ⟨alm (c:=Qak) (l:=p0) (aln rfl Tryz.underlying27 rfl),trivial⟩<|Qal ?_
   refine wmr (Mor.trans (Zbi 4 3 1 5 (by kernel_rfl) (by kernel_rfl)) (mto (n:=21) (l':=[(2,.ref 2 1 0 0),(3,.ref 3 1 0 0),(5,(.gro 4 3 1 (([]:List Int).length))),(8,(I ((p0.length:Int)))),(9,I 0)]) (own':=[(.own 1 [[I p1]]),(.own 1 [[I p2]]),(.own 1 [[(Qo9 p0)]]),(.own 1 [[Qqh]]),Zjb]) [(2,.ref 2 1 0 0),(3,.ref 3 1 0 0),(5,(.gro 4 3 1 (([]:List Int).length))),(8,(I ((p0.length:Int)))),(9,I 0)] [0,1,2,3,4] [(.own 1 [[I p1]]),(.own 1 [[I p2]]),(.own 1 [[(Qo9 p0)]]),(.own 1 [[Qqh]]),Zjb] hφ0 (pc (.rn (rqr rfl)) (pc (.rn (rqr rfl)) (pc (.rn (Qzl rfl)) (pc rwl (pc rwl pn))))) (qc (spb (lc rwl ln)) (qc (spb (lc rwl ln)) (qc (spb (lc (rnd Qag) ln)) (qc (spb (lc (.rn (Qbn rn0 (rnc (rqr rfl) (rnc (rqr rfl) rn0)))) ln)) (qc (Qu1 Qag) qn))))))) ?_
   refine Qcb (τ:=Int×(List Int)) (fun n t=>Qcq N p0 k4 n t.1 t.2=some r) (fun ⟨y9,y10⟩=>⟨mk 21 [(2,.ref 2 1 0 0),(3,.ref 3 1 0 0),(5,(.gro 4 3 1 (y10.length))),(8,(I ((p0.length:Int)))),(9,I y9)],[(.own 1 [[I p1]]),(.own 1 [[I p2]]),(.own 1 [[(Qo9 p0)]]),(.own 1 [[Qqh]]),(.gro 1 ((y10:List Int).map Qak))]⟩) (fun t h=>by rw [Qcq] at h; cases h) (fun n13 ih t h=>?_) N (0,([]:List Int)) h
   obtain ⟨y9,y10⟩:=t
   rw [Qcq] at h
   skip
   refine wxz<|wsq ?_
   refine bfe h (fun hc14 h=>?_) fun hc14 h=>?_
   ·refine wft hc14<|Qan<|thn<|wsq<|Qal<|wxz ?_
    obtain ⟨ha15,h⟩:=cko h
    refine wx1 tbk [(2,rp [(.tmp 13,I y9)] (.dat 1 (([y9]:List Int).map Qak))),(3,⟨[(.tmp 12,(.gro 4 3 1 (y10.length))),(.tmp 14,(.dat 1 (([y9]:List Int).map Qak)))],[(4,(.gro 1 ((y10:List Int).map Qak))),(5,.unused)],(.gro 5 3 1 ((y10++([y9])).length)),[(4,.dead),(5,(.gro 1 ((y10++([y9]):List Int).map Qak)))],false⟩)] ?_ ?_
    ·exact ⟨Qbw (vs:=[I y9]) rfl Tryz.underlying27 ti3 tz3 rfl (by decide) rfl (by decide) (by rfl) (by rfl) (by rfl) rfl,Q0w (c:=Qak) (a:=y10) (b:=[y9]) rfl Tryz.underlying27 te3 rfl (Qll rfl) (by rfl) ha15 (by decide),trivial⟩
    exact bln<|thn<|wxz1<|thn<|arm (mto (n:=21) [(2,.ref 2 1 0 0),(3,.ref 3 1 0 0),(5,(.gro 5 3 1 ((y10++([y9])).length))),(8,(I ((p0.length:Int)))),(9,(I (w64 (y9+1))))] [0,1,2,3,5] [(.own 1 [[I p1]]),(.own 1 [[I p2]]),(.own 1 [[(Qo9 p0)]]),(.own 1 [[Qqh]]),(.gro 1 ((y10++([y9]):List Int).map Qak))] hφ0 (pc (.rn (rqr rfl)) (pc (.rn (rqr rfl)) (pc (.rn (Qzl rfl)) (pc rwl (pc rwl pn))))) (qc (spb (lc rwl ln)) (qc (spb (lc rwl ln)) (qc (spb (lc (rnd Qag) ln)) (qc (spb (lc (.rn (Qbn rn0 (rnc (rqr rfl) (rnc (rqr rfl) rn0)))) ln)) (qc (Qu1 Qag) qn)))))) (ih (w64 (y9+1),y10++([y9])) h)
   ·exact wfn hc14<|Qbl<|Qay<|Qay<|Qbk rfl<|thn<|⟨(y10),h,(mto (n:=21) [(2,.ref 2 1 0 0),(3,.ref 3 1 0 0),(5,(.gro 4 3 1 (y10.length)))] [0,1,2,3,4] [(.own 1 [[I p1]]),(.own 1 [[I p2]]),(.own 1 [[(Qo9 p0)]]),(.own 1 [[Qqh]]),(.gro 1 ((y10:List Int).map Qak))] hφ0 (pc (.rn (rqr rfl)) (pc (.rn (rqr rfl)) (pc (.rn (Qzl rfl)) pn))) (qc (spb (lc rwl ln)) (qc (spb (lc rwl ln)) (qc (spb (lc (rnd Qag) ln)) (qc (spb (lc (.rn (Qbn rn0 (rnc (rqr rfl) (rnc (rqr rfl) rn0)))) ln)) (qc (Qu1 Qag) qn))))))⟩
def Qdt (N:Nat) (p1:(List Int)) (y6:Int) (k10:(List Int)→Option (List Int)) (x13:(List Int)):Nat→Int→(List Int)→Option (List Int)
  | 0,_,_=>none
  | n19+1,y15,y16=>
    bif (decide (y15<(((x13).take (y6.toNat - 0)).length:Int))) then
     (getI ((x13).take (y6.toNat - 0)) y15).bind fun x21=>
     chk (decide (0≤x21)&&decide (x21.toNat<(p1.length:Int).toNat))<|
     (y16[x21.toNat]?).bind fun x26=>
     chk (decide (0≤x21)&&decide (x21.toNat<(p1.length:Int).toNat))<|
     (y16[x21.toNat]?).bind fun _=>
     Qdt N p1 y6 k10 x13 n19 (w64 (y15+1)) (y16.set x21.toNat (w64 (x26+1)))
    else
     k10 (y16)
def Qds (N:Nat) (p0:Int) (p1:(List Int)) (y3:Int) (k8:Int×(List Int)→Option (List Int)):Nat→Int→Int→(List Int)→Option (List Int)
  | 0,_,_,_=>none
  | n37+1,y31,y32,y33=>
    bif (decide (y32<(p1.length:Int))) then
     (getI p1 y32).bind fun x39=>
     chk (y3 != 0)<|
     chk (decide (0≤y32)&&decide (y32.toNat<(p1.length:Int).toNat))<|
     (y33[y32.toNat]?).bind fun _=>
     chk (decide (0≤y32)&&decide (y32.toNat<(p1.length:Int).toNat))<|
     ((y33.set y32.toNat (w64 ((w64 (p0 * x39)).tdiv y3)))[y32.toNat]?).bind fun x48=>
     Qds N p0 p1 y3 k8 n37 (w64 (y31 - x48)) (w64 (y32+1)) (y33.set y32.toNat (w64 ((w64 (p0 * x39)).tdiv y3)))
    else
     k8 (y31,y33)
def Qdr (N:Nat) (p1:(List Int)) (k4:Int→Option (List Int)):Nat→Int→Int→Option (List Int)
  | 0,_,_=>none
  | n54+1,y50,y51=>
    bif (decide (y50<(p1.length:Int))) then
     (getI p1 y50).bind fun x56=>
     Qdr N p1 k4 n54 (w64 (y50+1)) (w64 (y51+x56))
    else
     k4 (y51)
def Qhq (N:Nat) (p0:Int) (p1:(List Int)):Option (List Int):=
  Qbp (fun y3=>
    chk (decide (0≤(p1.length:Int))&&decide (8 * (p1.length:Int)≤281474976710656)&&decide ((p1.length:Int)≤9223372036854775807))<|
    Qbp (fun ⟨y6,y7⟩=>
      Qbp (fun y9=>
        chk (decide ((p1.length:Int).toNat≤y9.length))<|
        some (y9.take ((p1.length:Int).toNat))) fun k10:(List Int)→Option (List Int)=>
      (Qfa N p1 p0 y3).bind fun x13=>
      chk (decide (0≤0)&&decide (0≤y6)&&decide (y6≤(x13.length:Int)))<|
      Qdt N p1 y6 k10 x13 N 0 y7) fun k8:Int×(List Int)→Option (List Int)=>
    Qds N p0 p1 y3 k8 N p0 0 (List.replicate (p1.length:Int).toNat 0)) fun k4:Int→Option (List Int)=>
  Qdr N p1 k4 N 0 0
def Qh9 (p1:(List Int)):AV:=.dat 1 ((p1:List Int).map Qak)
def Zjc (p1:(List Int)):Slot:=.own 1 ((List.replicate (p1.length:Int).toNat 0:List Int).map Qak)
def Q6i (y7:(List Int)):Slot:=.own 1 ((y7:List Int).map Qak)
def Q1u (y9:(List Int)) (p1:(List Int)):AV:=.dat 1 ((y9.take ((p1.length:Int).toNat):List Int).map Qak)
def Q6j:AV:=.fn (.func 159) [] [(.ref 0 1 (0) 0),(.ref 1 1 (0) 0)]
def Q6h (x13:(List Int)):AV:=.dat 1 ((x13:List Int).map Qak)
def Qq6 (x13:(List Int)) (y6:Int):AV:=.dat 1 (((x13).take (y6.toNat - 0):List Int).map Qak)
def Qte (y16:(List Int)):Slot:=.own 1 ((y16:List Int).map Qak)
def Q1t (y33:(List Int)):Slot:=.own 1 ((y33:List Int).map Qak)
def Q1s (y33:(List Int)) (y32:Int) (p0:Int) (x39:Int) (y3:Int):Slot:=.own 1 ((y33.set y32.toNat (w64 ((w64 (p0 * x39)).tdiv y3)):List Int).map Qak)
theorem Qqk (N:Nat) (p0:Int) (p1:(List Int)) (r:(List Int)) (h:Qhq N p0 p1=some r):Spec Tryz.prog 153 [(I p0),(.dat 1 (p1.map Qak))] [] (.dat 1 ((r:List Int).map Qak)) []:=by
  refine Qah Tryz.func153 rfl 0 (nle rfl) (fun X φ0 w0 hφ0 hd0=>?_)
  unfold Qhq at h
  refine Qbx<|wxz<|wxz ?_
  obtain ⟨k4,hk_k4,h⟩:=jko h
  refine wjn (τ:=Int) (fun t=>k4 t=some r) (fun y3=>⟨mk 68 [(1,(Qh9 p1)),(2,.ref 0 1 0 0),(5,.ref 1 1 0 0)],[(.own 1 [[I p0]]),(.own 1 [[I y3]])]⟩) (fun y3 h=>?_) ?_
  ·subst hk_k4
   obtain ⟨hm5,h⟩:=cko h
   refine wxd tbk [(1,rp [(.tmp 24,(Qh9 p1))] (I ((p1.length:Int)))),(2,⟨[(.tmp 25,(I ((p1.length:Int)))),(.tmp 25,(I ((p1.length:Int))))],[(2,.unused)],(.own 2 1 (0) ((p1.length:Int).toNat)),[(2,(Zjc p1))],false⟩)] ⟨alm (c:=Qak) (l:=p1) (aln rfl Tryz.underlying27 rfl),Qpt rfl Tryz.underlying27 te3 tz3 rfl (Q9s hm5) rfl (Q9r hm5) (Q9q hm5) (Q7l Qak rfl),trivial⟩ ?_
   obtain ⟨k8,hk_k8,h⟩:=jko h
   refine wjn (τ:=Int×(List Int)) (fun t=>k8 t=some r) (fun ⟨y6,y7⟩=>⟨mk 68 [(1,(Qh9 p1)),(2,.ref 0 1 0 0),(5,.ref 1 1 0 0),(8,(.own 2 1 (0) ((p1.length:Int).toNat))),(9,I y6)],[(.own 1 [[I p0]]),(.own 1 [[I y3]]),(Q6i y7)]⟩) (fun t h=>?_) ?_
   ·subst hk_k8
    obtain ⟨y6,y7⟩:=t
    obtain ⟨k10,hk_k10,h⟩:=jko h
    refine wjn (τ:=(List Int)) (fun t=>k10 t=some r) (fun y9=>⟨mk 68 [(8,(.own 0 1 (0) ((p1.length:Int).toNat)))],[(.own 1 ((y9:List Int).map Qak))]⟩) (fun y9 h=>?_) ?_
    ·subst hk_k10
     refine wxz ?_
     obtain ⟨hz11,h⟩:=cko h
     refine wmr (Q71 (n:=68) (l':=[(4,(Q1u y9 p1))]) 0 [(4,(.own 0 1 (0) ((p1.length:Int).toNat)))] (by kernel_rfl) (by kernel_rfl) (by kernel_rfl) ⟨rfl,(Qpo hz11),trivial⟩ rfl) ?_
     refine wmr (mto (n:=68) (l':=[(4,(Q1u y9 p1))]) (own':=[]) [(4,(Q1u y9 p1))] [] [] hφ0 (pc (rnd Qag) pn) qn)<|Qaf ?_
     obtain rfl:=osi h
     exact ⟨_,Mor.rfl,Qdc (vs:=[(Q1u y9 p1)]) ⟨rot,trivial⟩ rfl (nld Qag _) (by kernel_rfl) Qbt⟩
    ·skip
     obtain ⟨x13,hf12,h⟩:=bno h
     obtain ⟨hs14,h⟩:=cko h
     refine wx tbk [(1,rp [(.tmp 2,.ref 0 1 0 0),(.tmp 5,.ref 1 1 0 0)] Q6j),(2,⟨[fu 158,(.tmp 50,(Qh9 p1)),(.tmp 51,Q6j)],[(0,.own 1 [[I p0]]),(1,.own 1 [[I y3]])],(Q6h x13),[(0,.own 1 [[I p0]]),(1,.own 1 [[I y3]])],false⟩),(4,rp [(.tmp 52,(Q6h x13)),(.tmp 53,I y6)] (Qq6 x13 y6)),(5,rp [(.tmp 54,(Qq6 x13 y6))] (I ((((x13).take (y6.toNat - 0)).length:Int))))] ⟨Qfn (fs:=[]) (cs:=[.ref 0 1 0 0,.ref 1 1 0 0]) rfl rfl rfl rfl,Qas (first:=[]) (cap:=[]) (vs:=[(Qh9 p1),Q6j]) (σr:=[(.own 1 [[I p0]]),(.own 1 [[I y3]])]) (σr':=[(.own 1 [[I p0]]),(.own 1 [[I y3]])]) (res':=(Q6h x13)) [0,1] rfl Zbz (Qlx N p1 p0 y3 _ hf12) rfl (Qbr (rnc (pld Qag) (rnc (Qbn rn0 (rnc (Qbj rfl) (rnc (Qbj rfl) rn0))) rn0))) (slc (Qaq (rnc (.plain _ nll) rn0)) (slc (Qaq (rnc (.plain _ nll) rn0)) Qar)) (slc (Qaq (rnc (.plain _ nll) rn0)) (slc (Qaq (rnc (.plain _ nll) rn0)) Qar)) (pld Qag) rfl rfl rfl,Qp9 (k:=.i64) (k':=.i64) (lo:=none) (hi:=some (.tmp 53)) (l:=0) (hh:=y6) rfl Tryz.underlying27 ti3 rfl (fun _=>rfl) (fun e=>nomatch e) (Q9s hs14) (Q9r hs14) (Zkf (Qak) hs14) (Zk5 Qak),alm (c:=Qak) (l:=(x13).take (y6.toNat - 0)) (aln rfl Tryz.underlying27 rfl),trivial⟩<|Qal ?_
     refine wmr (mto (n:=68) (l':=[(8,(.own 0 1 (0) ((p1.length:Int).toNat))),(54,(Qq6 x13 y6)),(55,(I ((((x13).take (y6.toNat - 0)).length:Int)))),(56,I 0)]) (own':=[(Q6i y7)]) [(8,(.own 2 1 (0) ((p1.length:Int).toNat))),(54,(Qq6 x13 y6)),(55,(I ((((x13).take (y6.toNat - 0)).length:Int)))),(56,I 0)] [2] [(Q6i y7)] hφ0 (pc (.rn (Qbb rfl)) (pc (rnd Qag) (pc rwl (pc rwl pn)))) (qc (spr Qag) qn)) ?_
     refine Qcb (τ:=Int×(List Int)) (fun n t=>Qdt N p1 y6 k10 x13 n t.1 t.2=some r) (fun ⟨y15,y16⟩=>⟨mk 68 [(8,(.own 0 1 (0) ((p1.length:Int).toNat))),(54,(Qq6 x13 y6)),(55,(I ((((x13).take (y6.toNat - 0)).length:Int)))),(56,I y15)],[(Qte y16)]⟩) (fun t h=>by rw [Qdt] at h; cases h) (fun n19 ih t h=>?_) N (0,y7) h
     obtain ⟨y15,y16⟩:=t
     rw [Qdt] at h
     skip
     refine wxz<|wsq ?_
     refine bfe h (fun hc20 h=>?_) fun hc20 h=>?_
     ·refine wft hc20<|Qan<|thn<|wsq<|Qal ?_
      obtain ⟨x21,hg22,h⟩:=bno h
      obtain ⟨hi23,hj24⟩:=gsm hg22
      refine wx tbk [(0,rp [(.tmp 54,(Qq6 x13 y6)),(.tmp 56,I y15)] (.dptr (Qak (x21)) 0))] ⟨aid rfl Tryz.underlying27 ti3 rfl rfl hi23 (mgt Qak hj24) rfl,trivial⟩ ?_
      obtain ⟨hi25,h⟩:=cko h
      obtain ⟨hi25a,hi25b⟩:=Qfh hi25
      obtain ⟨x26,hg27,h⟩:=bno h
      obtain ⟨hi28,h⟩:=cko h
      obtain ⟨hi28a,hi28b⟩:=Qfh hi28
      obtain ⟨x29,hg30,h⟩:=bno h
      refine wx1 tbk [(2,rb [(.tmp 60,(.own 0 1 (0) ((p1.length:Int).toNat))),(.tmp 61,I x21)] [(0,(Qte y16))] (.ref 0 1 (x21.toNat) 0)),(3,rb [(.tmp 62,(.ref 0 1 (x21.toNat) 0))] [(0,(Qte y16))] (I x26)),(5,rb [(.tmp 60,(.own 0 1 (0) ((p1.length:Int).toNat))),(.tmp 61,I x21)] [(0,(Qte y16))] (.ref 0 1 (x21.toNat) 0)),(6,⟨[(.tmp 65,(.ref 0 1 (x21.toNat) 0)),(.tmp 64,(I (w64 (x26+1))))],[(0,(Qte y16))],.any,[(0,(.own 1 ((y16.set x21.toNat (w64 (x26+1)):List Int).map Qak)))],false⟩)] ⟨aio rfl Tryz.underlying27 ti3 (odt hi25a) (odt hi25b) (Nat.zero_add _),ald rfl ti3 (by decide) (mgt Qak hg27) (nle rfl) rfl,aio rfl Tryz.underlying27 ti3 (odt hi28a) (odt hi28b) (Nat.zero_add _),ast rfl ti3 (by rfl) (mgt Qak hg30) (nle rfl) (Qg5 Qak rfl),trivial⟩<|bln<|thn<|wxz1<|thn ?_
      exact arm (mto (n:=68) [(8,(.own 0 1 (0) ((p1.length:Int).toNat))),(54,(Qq6 x13 y6)),(55,(I ((((x13).take (y6.toNat - 0)).length:Int)))),(56,(I (w64 (y15+1))))] [0] [(.own 1 ((y16.set x21.toNat (w64 (x26+1)):List Int).map Qak))] hφ0 (pc (.rn (Qbb rfl)) (pc (rnd Qag) (pc rwl (pc rwl pn)))) (qc (spr Qag) qn)) (ih (w64 (y15+1),y16.set x21.toNat (w64 (x26+1))) h)
     ·exact wfn hc20<|Qbl<|Qay<|Qay<|Qbk rfl<|thn<|⟨(y16),h,(mto (n:=68) [(8,(.own 0 1 (0) ((p1.length:Int).toNat)))] [0] [(Qte y16)] hφ0 (pc (.rn (Qbb rfl)) pn) (qc (spr Qag) qn))⟩
   ·skip
    refine wx tbk [(1,rp [(.tmp 28,(Qh9 p1))] (I ((p1.length:Int))))] ⟨alm (c:=Qak) (l:=p1) (aln rfl Tryz.underlying27 rfl),trivial⟩<|Qal ?_
    refine wmr (mto (n:=68) (l':=[(1,(Qh9 p1)),(2,.ref 0 1 0 0),(5,.ref 1 1 0 0),(8,(.own 2 1 (0) ((p1.length:Int).toNat))),(9,I p0),(28,(Qh9 p1)),(29,(I ((p1.length:Int)))),(30,I 0)]) (own':=[(.own 1 [[I p0]]),(.own 1 [[I y3]]),(.own 1 (((List.replicate (p1.length:Int).toNat 0):List Int).map Qak))]) [(1,(Qh9 p1)),(2,.ref 0 1 0 0),(5,.ref 1 1 0 0),(8,(.own 2 1 (0) ((p1.length:Int).toNat))),(9,I p0),(28,(Qh9 p1)),(29,(I ((p1.length:Int)))),(30,I 0)] [0,1,2] [(.own 1 [[I p0]]),(.own 1 [[I y3]]),(Zjc p1)] hφ0 (pc (rnd Qag) (pc (.rn (rqr rfl)) (pc (.rn (rqr rfl)) (pc (.rn (Qbb rfl)) (pc rwl (pc (rnd Qag) (pc rwl (pc rwl pn)))))))) (qc (spb (lc rwl ln)) (qc (spb (lc rwl ln)) (qc (spr Qag) qn)))) ?_
    refine Qcb (τ:=Int×Int×(List Int)) (fun n t=>Qds N p0 p1 y3 k8 n t.1 t.2.1 t.2.2=some r) (fun ⟨y31,y32,y33⟩=>⟨mk 68 [(1,(Qh9 p1)),(2,.ref 0 1 0 0),(5,.ref 1 1 0 0),(8,(.own 2 1 (0) ((p1.length:Int).toNat))),(9,I y31),(28,(Qh9 p1)),(29,(I ((p1.length:Int)))),(30,I y32)],[(.own 1 [[I p0]]),(.own 1 [[I y3]]),(Q1t y33)]⟩) (fun t h=>by rw [Qds] at h; cases h) (fun n37 ih t h=>?_) N (p0,0,List.replicate (p1.length:Int).toNat 0) h
    obtain ⟨y31,y32,y33⟩:=t
    rw [Qds] at h
    skip
    refine wxz<|wsq ?_
    refine bfe h (fun hc38 h=>?_) fun hc38 h=>?_
    ·refine wft hc38<|Qan<|thn<|wsq<|Qal ?_
     obtain ⟨x39,hg40,h⟩:=bno h
     obtain ⟨hi41,hj42⟩:=gsm hg40
     refine wx tbk [(1,rp [(.tmp 28,(Qh9 p1)),(.tmp 30,I y32)] (.dptr (Qak (x39)) 0))] ⟨aid rfl Tryz.underlying27 ti3 rfl rfl hi41 (mgt Qak hj42) rfl,trivial⟩ ?_
     obtain ⟨hz43,h⟩:=cko h
     obtain ⟨hi44,h⟩:=cko h
     obtain ⟨hi44a,hi44b⟩:=Qfh hi44
     obtain ⟨x45,hg46,h⟩:=bno h
     refine wx tbk [(6,rp [(.tmp 39,(I (w64 (p0 * x39)))),(.tmp 40,I y3)] (I (w64 ((w64 (p0 * x39)).tdiv y3)))),(7,rb [(.tmp 35,(.own 2 1 (0) ((p1.length:Int).toNat))),(.tmp 36,I y32)] [(2,(Q1t y33))] (.ref 2 1 (y32.toNat) 0)),(8,⟨[(.tmp 42,(.ref 2 1 (y32.toNat) 0)),(.tmp 41,(I (w64 ((w64 (p0 * x39)).tdiv y3))))],[(2,(Q1t y33))],.any,[(2,(Q1s y33 y32 p0 x39 y3))],false⟩)] ⟨Qox rfl (Qsi hz43),aio rfl Tryz.underlying27 ti3 (odt hi44a) (odt hi44b) (Nat.zero_add _),ast rfl ti3 (by rfl) (mgt Qak hg46) (nle rfl) (Qg5 Qak rfl),trivial⟩ ?_
     obtain ⟨hi47,h⟩:=cko h
     obtain ⟨hi47a,hi47b⟩:=Qfh hi47
     obtain ⟨x48,hg49,h⟩:=bno h
     refine wx1 tbk [(3,rb [(.tmp 44,(.own 2 1 (0) ((p1.length:Int).toNat))),(.tmp 45,I y32)] [(2,(Q1s y33 y32 p0 x39 y3))] (.ref 2 1 (y32.toNat) 0)),(4,rb [(.tmp 46,(.ref 2 1 (y32.toNat) 0))] [(2,(Q1s y33 y32 p0 x39 y3))] (I x48))] ⟨aio rfl Tryz.underlying27 ti3 (odt hi47a) (odt hi47b) (Nat.zero_add _),ald rfl ti3 (by decide) (mgt Qak hg49) (nle rfl) rfl,trivial⟩<|bln<|thn<|wxz1<|thn ?_
     exact arm (mto (n:=68) [(1,(Qh9 p1)),(2,.ref 0 1 0 0),(5,.ref 1 1 0 0),(8,(.own 2 1 (0) ((p1.length:Int).toNat))),(9,(I (w64 (y31 - x48)))),(28,(Qh9 p1)),(29,(I ((p1.length:Int)))),(30,(I (w64 (y32+1))))] [0,1,2] [(.own 1 [[I p0]]),(.own 1 [[I y3]]),(Q1s y33 y32 p0 x39 y3)] hφ0 (pc (rnd Qag) (pc (.rn (rqr rfl)) (pc (.rn (rqr rfl)) (pc (.rn (Qbb rfl)) (pc rwl (pc (rnd Qag) (pc rwl (pc rwl pn)))))))) (qc (spb (lc rwl ln)) (qc (spb (lc rwl ln)) (qc (spr Qag) qn)))) (ih (w64 (y31 - x48),w64 (y32+1),y33.set y32.toNat (w64 ((w64 (p0 * x39)).tdiv y3))) h)
    ·exact wfn hc38<|Qbl<|Qay<|Qay<|Qbk rfl<|thn<|⟨(y31,y33),h,(mto (n:=68) [(1,(Qh9 p1)),(2,.ref 0 1 0 0),(5,.ref 1 1 0 0),(8,(.own 2 1 (0) ((p1.length:Int).toNat))),(9,I y31)] [0,1,2] [(.own 1 [[I p0]]),(.own 1 [[I y3]]),(Q1t y33)] hφ0 (pc (rnd Qag) (pc (.rn (rqr rfl)) (pc (.rn (rqr rfl)) (pc (.rn (Qbb rfl)) (pc rwl pn))))) (qc (spb (lc rwl ln)) (qc (spb (lc rwl ln)) (qc (spr Qag) qn))))⟩
  ·skip
   refine wx tbk [(1,rp [(.tmp 14,(Qh9 p1))] (I ((p1.length:Int))))] ⟨alm (c:=Qak) (l:=p1) (aln rfl Tryz.underlying27 rfl),trivial⟩<|Qal ?_
   refine wmr (mto (n:=68) (l':=[(1,(Qh9 p1)),(2,.ref 0 1 0 0),(5,.ref 1 1 0 0),(14,(Qh9 p1)),(15,(I ((p1.length:Int)))),(16,I 0)]) (own':=[(.own 1 [[I p0]]),(.own 1 [[I 0]])]) [(1,(Qh9 p1)),(2,.ref 0 1 0 0),(5,.ref 1 1 0 0),(14,(Qh9 p1)),(15,(I ((p1.length:Int)))),(16,I 0)] [0,1] [(.own 1 [[I p0]]),(.own 1 [[I 0]])] hφ0 (pc (rnd Qag) (pc (.rn (rqr rfl)) (pc (.rn (rqr rfl)) (pc (rnd Qag) (pc rwl (pc rwl pn)))))) (qc (spb (lc rwl ln)) (qc (spb (lc rwl ln)) qn))) ?_
   refine Qcb (τ:=Int×Int) (fun n t=>Qdr N p1 k4 n t.1 t.2=some r) (fun ⟨y50,y51⟩=>⟨mk 68 [(1,(Qh9 p1)),(2,.ref 0 1 0 0),(5,.ref 1 1 0 0),(14,(Qh9 p1)),(15,(I ((p1.length:Int)))),(16,I y50)],[(.own 1 [[I p0]]),(.own 1 [[I y51]])]⟩) (fun t h=>by rw [Qdr] at h; cases h) (fun n54 ih t h=>?_) N (0,0) h
   obtain ⟨y50,y51⟩:=t
   rw [Qdr] at h
   skip
   refine wxz<|wsq ?_
   refine bfe h (fun hc55 h=>?_) fun hc55 h=>?_
   ·refine wft hc55<|Qan<|thn<|wsq<|Qal ?_
    obtain ⟨x56,hg57,h⟩:=bno h
    obtain ⟨hi58,hj59⟩:=gsm hg57
    exact wx tbk [(0,rp [(.tmp 14,(Qh9 p1)),(.tmp 16,I y50)] (.dptr (Qak (x56)) 0))] ⟨aid rfl Tryz.underlying27 ti3 rfl rfl hi58 (mgt Qak hj59) rfl,trivial⟩<|wxz1<|bln<|thn<|wxz1<|thn<|arm (mto (n:=68) [(1,(Qh9 p1)),(2,.ref 0 1 0 0),(5,.ref 1 1 0 0),(14,(Qh9 p1)),(15,(I ((p1.length:Int)))),(16,(I (w64 (y50+1))))] [0,1] [(.own 1 [[I p0]]),(.own 1 [[(I (w64 (y51+x56)))]])] hφ0 (pc (rnd Qag) (pc (.rn (rqr rfl)) (pc (.rn (rqr rfl)) (pc (rnd Qag) (pc rwl (pc rwl pn)))))) (qc (spb (lc rwl ln)) (qc (spb (lc rwl ln)) qn))) (ih (w64 (y50+1),w64 (y51+x56)) h)
   ·exact wfn hc55<|Qbl<|Qay<|Qay<|Qbk rfl<|thn<|⟨(y51),h,(mto (n:=68) [(1,(Qh9 p1)),(2,.ref 0 1 0 0),(5,.ref 1 1 0 0)] [0,1] [(.own 1 [[I p0]]),(.own 1 [[I y51]])] hφ0 (pc (rnd Qag) (pc (.rn (rqr rfl)) (pc (.rn (rqr rfl)) pn))) (qc (spb (lc rwl ln)) (qc (spb (lc rwl ln)) qn)))⟩
def Qev (_N:Nat) (p0:Int) (p1:Int) (p2:Int) (_p3:Int) (_p4:Int) (_p5:Int):Option Int:=
  chk ((if p2>1 then p2 else 1) != 0)<|
  (some (w64 ((w64 (p0 * p1)).tdiv (if p2>1 then p2 else 1)))).bind fun x2=>
  some x2
theorem Qhb (N:Nat) (p0:Int) (p1:Int) (p2:Int) (p3:Int) (p4:Int) (p5:Int) (r:Int) (h:Qev N p0 p1 p2 p3 p4 p5=some r):Spec Tryz.prog 154 [(I (p0)),(.dptr [(I (p1))] 0),(.dptr [(I (p2)),(I (p3)),(I (p4)),(I (p5))] 0)] [] (I (r)) []:=by
  refine Qah Tryz.func154 rfl 0 (nle rfl) (fun X φ0 w0 hφ0 hd0=>?_)
  unfold Qev at h
  refine wxz ?_
  obtain ⟨hz1,h⟩:=cko h
  obtain ⟨x2,hl3,h⟩:=bno h
  refine wx tbk [(5,rp [ci 1,(.tmp 9,I p2)] (I ((if p2>1 then p2 else 1)))),(6,rp [(.tmp 7,(I (w64 (p0 * p1)))),(.tmp 10,(I ((if p2>1 then p2 else 1))))] (I (w64 ((w64 (p0 * p1)).tdiv (if p2>1 then p2 else 1))))),(7,rp [(.tmp 11,(I (w64 ((w64 (p0 * p1)).tdiv (if p2>1 then p2 else 1)))))] (I x2))] ⟨Qoy rfl,Qox rfl (Qsi hz1),Qjh hl3 (aas rfl),trivial⟩<|Qaf ?_
  obtain rfl:=osi h
  exact fend ⟨[I x2],⟨rot,trivial⟩,rfl⟩ nll
def Qcl (_N:Nat) (_p0:Int) (_p1:Int) (_p2:Int) (_p3:Int):Option Unit:=
  some ()
def Qv7 (p0:Int) (p1:Int) (p2:Int) (p3:Int):Slot:=.own 4 [[(I (p0)),(I (p1)),(I (p2)),(I (p3))]]
def Zft:AV:=.agg [(.ref 0 4 (0) 0),(.ref 0 4 (0) 1),(.ref 0 4 (0) 2),(.ref 0 4 (0) 3)]
def Zfs:Slot:=.own 4 [[(.ref 0 4 (0) 0),(.ref 0 4 (0) 1),(.ref 0 4 (0) 2),(.ref 0 4 (0) 3)]]
theorem Qde (N:Nat) (p0:Int) (p1:Int) (p2:Int) (p3:Int) (r:Unit) (h:Qcl N p0 p1 p2 p3=some r):Spec Tryz.prog 161 [(.ref 0 4 (0) 0)] [(Qv7 p0 p1 p2 p3)] Zft [(Qv7 p0 p1 p2 p3),Zfs]:=by
  refine Qah Tryz.func161 rfl 2 (nle rfl) (fun X φ0 w0 hφ0 hd0=>?_)
  unfold Qcl at h
  refine Qbx<|wxz ?_
  refine wxd tbk [(1,rb [(.tmp 3,.ref 0 4 0 0)] [(0,(Qv7 p0 p1 p2 p3))] (.ref 0 4 0 0)),(4,rb [(.tmp 6,.ref 0 4 0 0)] [(0,(Qv7 p0 p1 p2 p3))] (.ref 0 4 0 0)),(7,rb [(.tmp 9,.ref 0 4 0 0)] [(0,(Qv7 p0 p1 p2 p3))] (.ref 0 4 0 0)),(10,rb [(.tmp 12,.ref 0 4 0 0)] [(0,(Qv7 p0 p1 p2 p3))] (.ref 0 4 0 0)),(12,rp [(.tmp 5,.ref 0 4 0 0),(.tmp 8,.ref 0 4 0 1),(.tmp 11,.ref 0 4 0 2),(.tmp 14,.ref 0 4 0 3)] Zft)] ⟨Qba rfl,Qba rfl,Qba rfl,Qba rfl,Qqc (vs:=[.ref 0 4 0 0,.ref 0 4 0 1,.ref 0 4 0 2,.ref 0 4 0 3]) rfl Tryz.underlying235 Qs0 Zjl rfl (by rfl) rfl,trivial⟩ ?_
  refine wmr (mto (n:=16) (l':=[(2,.ref 1 4 0 0)]) (own':=[(Qv7 p0 p1 p2 p3),Zfs]) [(2,.ref 1 4 0 0)] [0,1] [(Qv7 p0 p1 p2 p3),Zfs] hφ0 (pc (.rn (rqr rfl)) pn) (qc (spb (lcc (lcc ln))) (qc (spb (lc (.rn (rqr rfl)) (lc (.rn (rqr rfl)) (lc (.rn (rqr rfl)) (lc (.rn (rqr rfl)) ln))))) qn)))<|Qaf ?_
  obtain rfl:=osi h
  exact ⟨_,Mor.rfl,Qdc (vs:=[Zft]) ⟨Qcd (n:=1) (m:=4) (j:=0) (i:=0) (xs:=[[.ref 0 4 0 0,.ref 0 4 0 1,.ref 0 4 0 2,.ref 0 4 0 3]]) (by kernel_rfl) (by kernel_rfl) Zjr (by decide) rfl (nle rfl) rfl,trivial⟩ rfl (NLt.agg _ (nlc (NLt.ref _ _ _ _ (by decide)) (nlc (NLt.ref _ _ _ _ (by decide)) (nlc (NLt.ref _ _ _ _ (by decide)) (nlc (NLt.ref _ _ _ _ (by decide)) nl0))))) (by kernel_rfl) (Qao (Qbd (nlc (NLt.of0 nll) (nlc (NLt.of0 nll) (nlc (NLt.of0 nll) (nlc (NLt.of0 nll) nl0))))) (Qao (Qbd (nlc (NLt.ref _ _ _ _ (by decide)) (nlc (NLt.ref _ _ _ _ (by decide)) (nlc (NLt.ref _ _ _ _ (by decide)) (nlc (NLt.ref _ _ _ _ (by decide)) nl0))))) Qbt))⟩
def Qii (N:Nat) (p0:GStream) (p1:Int) (p2:Int) (p3:Int) (p4:Int):Option Unit:=
  (Qcl N p0.Mass p0.Heat p0.Silica p0.Gas).bind fun _=>
  (Qcl N p1 p2 p3 p4).bind fun _=>
  (Qcl N (w64 (p1+p0.Mass)) p2 p3 p4).bind fun _=>
  (Qcl N (w64 (p1+p0.Mass)) (w64 (p2+p0.Heat)) p3 p4).bind fun _=>
  (Qcl N (w64 (p1+p0.Mass)) (w64 (p2+p0.Heat)) (w64 (p3+p0.Silica)) p4).bind fun _=>
  some ()
def Qyw (p1:Int) (p2:Int) (p3:Int) (p4:Int):Slot:=.own 4 [[(I (p1)),(I (p2)),(I (p3)),(I (p4))]]
def Q6e (p1:Int) (p0:GStream) (p2:Int) (p3:Int) (p4:Int):Slot:=.own 4 [[(I (w64 (p1+p0.Mass))),(I (w64 (p2+p0.Heat))),(I (w64 (p3+p0.Silica))),(I (w64 (p4+p0.Gas)))]]
def Qv9 (p0:GStream):Slot:=.own 4 [[(I (p0.Mass)),(I (p0.Heat)),(I (p0.Silica)),(I (p0.Gas))]]
def Q3t:AV:=.agg [(.ref 1 4 (0) 0),(.ref 1 4 (0) 1),(.ref 1 4 (0) 2),(.ref 1 4 (0) 3)]
def Zi9:Slot:=.own 4 [[(.ref 1 4 (0) 0),(.ref 1 4 (0) 1),(.ref 1 4 (0) 2),(.ref 1 4 (0) 3)]]
def Qqf:AV:=.agg [(.ref 0 4 (0) 0),(.ref 0 4 (0) 1),(.ref 0 4 (0) 2),(.ref 0 4 (0) 3)]
def Qv8:Slot:=.own 4 [[(.ref 0 4 (0) 0),(.ref 0 4 (0) 1),(.ref 0 4 (0) 2),(.ref 0 4 (0) 3)]]
def Q3s (p1:Int) (p0:GStream) (p2:Int) (p3:Int) (p4:Int):Slot:=.own 4 [[(I (w64 (p1+p0.Mass))),(I (p2)),(I (p3)),(I (p4))]]
def Q3r (p1:Int) (p0:GStream) (p2:Int) (p3:Int) (p4:Int):Slot:=.own 4 [[(I (w64 (p1+p0.Mass))),(I (w64 (p2+p0.Heat))),(I (p3)),(I (p4))]]
def Q3q (p1:Int) (p0:GStream) (p2:Int) (p3:Int) (p4:Int):Slot:=.own 4 [[(I (w64 (p1+p0.Mass))),(I (w64 (p2+p0.Heat))),(I (w64 (p3+p0.Silica))),(I (p4))]]
theorem Qpc (N:Nat) (p0:GStream) (p1:Int) (p2:Int) (p3:Int) (p4:Int) (r:Unit) (h:Qii N p0 p1 p2 p3 p4=some r):Spec Tryz.prog 160 [(.agg [(I (p0.Mass)),(I (p0.Heat)),(I (p0.Silica)),(I (p0.Gas))]),(.ref 0 4 (0) 0)] [(Qyw p1 p2 p3 p4)] (.tup []) [(Q6e p1 p0 p2 p3 p4)]:=by
  refine Qah Tryz.func160 rfl 1 (nle rfl) (fun X φ0 w0 hφ0 hd0=>?_)
  unfold Qii at h
  refine Qbx<|wxz ?_
  obtain ⟨x2,hf1,h⟩:=bno h
  refine wx tbk [(0,⟨[fu 161,(.tmp 2,.ref 1 4 0 0)],[(1,(Qv9 p0)),(2,.unused)],Q3t,[(1,(Qv9 p0)),(2,Zi9)],false⟩)] ⟨Qas (first:=[]) (cap:=[]) (vs:=[.ref 1 4 0 0]) (σr:=[(Qv9 p0)]) (σr':=[(Qv9 p0),Zi9]) (res':=Q3t) [1,2] rfl Qoo (Qde N p0.Mass p0.Heat p0.Silica p0.Gas _ hf1) rfl (Qbr (rnc (Qbj rfl) rn0)) (slc (Qaq (rncc (rncc rn0))) Qar) (slc (Qaq (rncc (rncc rn0))) (slc (Qaq (rnc (Qbo rfl) (rnc (Qbo rfl) (rnc (Qbo rfl) (rnc (Qbo rfl) rn0))))) Qar)) (Qbr (rnc (Qbo rfl) (rnc (Qbo rfl) (rnc (Qbo rfl) (rnc (Qbo rfl) rn0))))) rfl rfl rfl,trivial⟩<|Qal<|Q26 17<|Que<|wxz<|wsq<|wtr<|Qan<|thn<|wsq ?_
  refine Qal<|wx tbk [(1,rp [(.tmp 5,Q3t),(.tmp 6,I 0)] (.ref 1 4 0 0))] ⟨Qgy rfl Tryz.underlying235 Qs0 (by decide) (by decide) (nle rfl) (by decide) rfl,trivial⟩ ?_
  obtain ⟨x4,hf3,h⟩:=bno h
  refine wy1 tbk [(0,⟨[fu 161,(.tmp 1,.ref 0 4 0 0)],[(0,(Qyw p1 p2 p3 p4)),(3,.unused)],Qqf,[(0,(Qyw p1 p2 p3 p4)),(3,Qv8)],false⟩),(2,rp [(.tmp 10,Qqf),(.tmp 11,I 0)] (.ref 0 4 0 0)),(3,rb [(.tmp 12,.ref 0 4 0 0)] [(0,(Qyw p1 p2 p3 p4))] (.ref 0 4 0 0)),(6,rb [(.tmp 15,.ref 1 4 0 0)] [(1,(Qv9 p0))] (.ref 1 4 0 0)),(9,rb [(.tmp 12,.ref 0 4 0 0)] [(0,(Qyw p1 p2 p3 p4))] (.ref 0 4 0 0))] ⟨Qas (first:=[]) (cap:=[]) (vs:=[.ref 0 4 0 0]) (σr:=[(Qyw p1 p2 p3 p4)]) (σr':=[(Qyw p1 p2 p3 p4),Qv8]) (res':=Qqf) [0,3] rfl Qoo (Qde N p1 p2 p3 p4 _ hf3) rfl (Qbr (rnc (Qbj rfl) rn0)) (slc (Qaq (rncc (rncc rn0))) Qar) (slc (Qaq (rncc (rncc rn0))) (slc (Qaq (rnc (Qbo rfl) (rnc (Qbo rfl) (rnc (Qbo rfl) (rnc (Qbo rfl) rn0))))) Qar)) (Qbr (rnc (Qbo rfl) (rnc (Qbo rfl) (rnc (Qbo rfl) (rnc (Qbo rfl) rn0))))) rfl rfl rfl,Qgy rfl Tryz.underlying235 Qs0 (by decide) (by decide) (nle rfl) (by decide) rfl,Qba rfl,Qba rfl,Qba rfl,trivial⟩<|bln<|thn<|wxz1<|thn<|Que<|wxz<|wsq<|wtr<|Qan ?_
  refine thn<|wsq<|Qal ?_
  refine wx tbk [(1,rp [(.tmp 5,Q3t),(.tmp 6,I 1)] (.ref 1 4 0 1))] ⟨Qgy rfl Tryz.underlying235 Qs0 (by decide) (by decide) (nle rfl) (by decide) rfl,trivial⟩ ?_
  obtain ⟨x6,hf5,h⟩:=bno h
  refine wy1 tbk [(0,⟨[fu 161,(.tmp 1,.ref 0 4 0 0)],[(0,(Q3s p1 p0 p2 p3 p4)),(4,.unused)],Qqf,[(0,(Q3s p1 p0 p2 p3 p4)),(4,Qv8)],false⟩),(2,rp [(.tmp 10,Qqf),(.tmp 11,I 1)] (.ref 0 4 0 1)),(3,rb [(.tmp 12,.ref 0 4 0 1)] [(0,(Q3s p1 p0 p2 p3 p4))] (.ref 0 4 0 1)),(6,rb [(.tmp 15,.ref 1 4 0 1)] [(1,(Qv9 p0))] (.ref 1 4 0 1)),(9,rb [(.tmp 12,.ref 0 4 0 1)] [(0,(Q3s p1 p0 p2 p3 p4))] (.ref 0 4 0 1))] ⟨Qas (first:=[]) (cap:=[]) (vs:=[.ref 0 4 0 0]) (σr:=[(Q3s p1 p0 p2 p3 p4)]) (σr':=[(Q3s p1 p0 p2 p3 p4),Qv8]) (res':=Qqf) [0,4] rfl Qoo (Qde N (w64 (p1+p0.Mass)) p2 p3 p4 _ hf5) rfl (Qbr (rnc (Qbj rfl) rn0)) (slc (Qaq (rncc (rncc rn0))) Qar) (slc (Qaq (rncc (rncc rn0))) (slc (Qaq (rnc (Qbo rfl) (rnc (Qbo rfl) (rnc (Qbo rfl) (rnc (Qbo rfl) rn0))))) Qar)) (Qbr (rnc (Qbo rfl) (rnc (Qbo rfl) (rnc (Qbo rfl) (rnc (Qbo rfl) rn0))))) rfl rfl rfl,Qgy rfl Tryz.underlying235 Qs0 (by decide) (by decide) (nle rfl) (by decide) rfl,Qba rfl,Qba rfl,Qba rfl,trivial⟩<|bln<|thn<|wxz1<|thn<|Que<|wxz<|wsq<|wtr<|Qan ?_
  refine thn<|wsq<|Qal ?_
  refine wx tbk [(1,rp [(.tmp 5,Q3t),(.tmp 6,I 2)] (.ref 1 4 0 2))] ⟨Qgy rfl Tryz.underlying235 Qs0 (by decide) (by decide) (nle rfl) (by decide) rfl,trivial⟩ ?_
  obtain ⟨x8,hf7,h⟩:=bno h
  refine wy1 tbk [(0,⟨[fu 161,(.tmp 1,.ref 0 4 0 0)],[(0,(Q3r p1 p0 p2 p3 p4)),(5,.unused)],Qqf,[(0,(Q3r p1 p0 p2 p3 p4)),(5,Qv8)],false⟩),(2,rp [(.tmp 10,Qqf),(.tmp 11,I 2)] (.ref 0 4 0 2)),(3,rb [(.tmp 12,.ref 0 4 0 2)] [(0,(Q3r p1 p0 p2 p3 p4))] (.ref 0 4 0 2)),(6,rb [(.tmp 15,.ref 1 4 0 2)] [(1,(Qv9 p0))] (.ref 1 4 0 2)),(9,rb [(.tmp 12,.ref 0 4 0 2)] [(0,(Q3r p1 p0 p2 p3 p4))] (.ref 0 4 0 2))] ⟨Qas (first:=[]) (cap:=[]) (vs:=[.ref 0 4 0 0]) (σr:=[(Q3r p1 p0 p2 p3 p4)]) (σr':=[(Q3r p1 p0 p2 p3 p4),Qv8]) (res':=Qqf) [0,5] rfl Qoo (Qde N (w64 (p1+p0.Mass)) (w64 (p2+p0.Heat)) p3 p4 _ hf7) rfl (Qbr (rnc (Qbj rfl) rn0)) (slc (Qaq (rncc (rncc rn0))) Qar) (slc (Qaq (rncc (rncc rn0))) (slc (Qaq (rnc (Qbo rfl) (rnc (Qbo rfl) (rnc (Qbo rfl) (rnc (Qbo rfl) rn0))))) Qar)) (Qbr (rnc (Qbo rfl) (rnc (Qbo rfl) (rnc (Qbo rfl) (rnc (Qbo rfl) rn0))))) rfl rfl rfl,Qgy rfl Tryz.underlying235 Qs0 (by decide) (by decide) (nle rfl) (by decide) rfl,Qba rfl,Qba rfl,Qba rfl,trivial⟩<|bln<|thn<|wxz1<|thn<|Que<|wxz<|wsq<|wtr<|Qan ?_
  refine thn<|wsq<|Qal ?_
  refine wx tbk [(1,rp [(.tmp 5,Q3t),(.tmp 6,I 3)] (.ref 1 4 0 3))] ⟨Qgy rfl Tryz.underlying235 Qs0 (by decide) (by decide) (nle rfl) (by decide) rfl,trivial⟩ ?_
  obtain ⟨x10,hf9,h⟩:=bno h
  refine wy1 tbk [(0,⟨[fu 161,(.tmp 1,.ref 0 4 0 0)],[(0,(Q3q p1 p0 p2 p3 p4)),(6,.unused)],Qqf,[(0,(Q3q p1 p0 p2 p3 p4)),(6,Qv8)],false⟩),(2,rp [(.tmp 10,Qqf),(.tmp 11,I 3)] (.ref 0 4 0 3)),(3,rb [(.tmp 12,.ref 0 4 0 3)] [(0,(Q3q p1 p0 p2 p3 p4))] (.ref 0 4 0 3)),(6,rb [(.tmp 15,.ref 1 4 0 3)] [(1,(Qv9 p0))] (.ref 1 4 0 3)),(9,rb [(.tmp 12,.ref 0 4 0 3)] [(0,(Q3q p1 p0 p2 p3 p4))] (.ref 0 4 0 3))] ⟨Qas (first:=[]) (cap:=[]) (vs:=[.ref 0 4 0 0]) (σr:=[(Q3q p1 p0 p2 p3 p4)]) (σr':=[(Q3q p1 p0 p2 p3 p4),Qv8]) (res':=Qqf) [0,6] rfl Qoo (Qde N (w64 (p1+p0.Mass)) (w64 (p2+p0.Heat)) (w64 (p3+p0.Silica)) p4 _ hf9) rfl (Qbr (rnc (Qbj rfl) rn0)) (slc (Qaq (rncc (rncc rn0))) Qar) (slc (Qaq (rncc (rncc rn0))) (slc (Qaq (rnc (Qbo rfl) (rnc (Qbo rfl) (rnc (Qbo rfl) (rnc (Qbo rfl) rn0))))) Qar)) (Qbr (rnc (Qbo rfl) (rnc (Qbo rfl) (rnc (Qbo rfl) (rnc (Qbo rfl) rn0))))) rfl rfl rfl,Qgy rfl Tryz.underlying235 Qs0 (by decide) (by decide) (nle rfl) (by decide) rfl,Qba rfl,Qba rfl,Qba rfl,trivial⟩<|bln<|thn<|wxz1<|thn<|Que<|wxz<|wsq<|wfa<|Qbl ?_
  refine Qay<|Qay<|Qbk rfl ?_
  obtain rfl:=osi h
  exact ⟨_,(mto (n:=21) (l':=[]) (own':=[(Q6e p1 p0 p2 p3 p4)]) [] [0] [(Q6e p1 p0 p2 p3 p4)] hφ0 pn (qc (spb (lcc (lcc ln))) qn)),Qdc (vs:=[]) trivial rfl (NLt.tup _ nl0) (by kernel_rfl) (Qao (Qbd (nlc (NLt.of0 nll) (nlc (NLt.of0 nll) (nlc (NLt.of0 nll) (nlc (NLt.of0 nll) nl0))))) Qbt)⟩
def Qeu (N:Nat) (p0:(List GStream)) (k5:Int×Int×Int×Int→Option GStream):Nat→Int→Int→Int→Int→Int→Option GStream
  | 0,_,_,_,_,_=>none
  | n16+1,y6,y7,y8,y9,y10=>
    bif (decide (y6<(p0.length:Int))) then
     (getI p0 y6).bind fun x18=>
     (Qii N x18 y7 y8 y9 y10).bind fun _=>
     Qeu N p0 k5 n16 (w64 (y6+1)) (w64 (y7+x18.Mass)) (w64 (y8+x18.Heat)) (w64 (y9+x18.Silica)) (w64 (y10+x18.Gas))
    else
     k5 (y7,y8,y9,y10)
def Qjv (N:Nat) (p0:(List GStream)):Option GStream:=
  Qbp (fun ⟨y1,y2,y3,y4⟩=>
    some (⟨y1,y2,y3,y4⟩:GStream)) fun k5:Int×Int×Int×Int→Option GStream=>
  Qeu N p0 k5 N 0 0 0 0 0
def Q3v:AV:=.fn (.func 160) [] [(.ref 0 4 (0) 0)]
def Q3u (p0:(List GStream)):AV:=.dat 4 ((p0:List GStream).map Qab)
def Zja:Slot:=.own 4 [[(I (0)),(I (0)),(I (0)),(I (0))]]
def Q1o (y7:Int) (y8:Int) (y9:Int) (y10:Int):Slot:=.own 4 [[(I (y7)),(I (y8)),(I (y9)),(I (y10))]]
def Zd3 (x18:GStream):AV:=.agg [(I (x18.Mass)),(I (x18.Heat)),(I (x18.Silica)),(I (x18.Gas))]
def Q6f (y7:Int) (x18:GStream) (y8:Int) (y9:Int) (y10:Int):Slot:=.own 4 [[(I (w64 (y7+x18.Mass))),(I (w64 (y8+x18.Heat))),(I (w64 (y9+x18.Silica))),(I (w64 (y10+x18.Gas)))]]
theorem Quy (N:Nat) (p0:(List GStream)) (r:GStream) (h:Qjv N p0=some r):Spec Tryz.prog 155 [(.dat 4 (p0.map Qab))] [] (.agg (Qab r)) []:=by
  refine Qah Tryz.func155 rfl 0 (nle rfl) (fun X φ0 w0 hφ0 hd0=>?_)
  unfold Qjv at h
  refine wxz<|wx tbk [(0,rp [(.tmp 2,.ref 0 4 0 0)] Q3v)] ⟨Qfn (fs:=[]) (cs:=[.ref 0 4 0 0]) rfl rfl rfl rfl,trivial⟩ ?_
  obtain ⟨k5,hk_k5,h⟩:=jko h
  refine wjn (τ:=Int×Int×Int×Int) (fun t=>k5 t=some r) (fun ⟨y1,y2,y3,y4⟩=>⟨mk 18 [(2,.ref 0 4 0 0)],[(.own 4 [[I y1,I y2,I y3,I y4]])]⟩) (fun t h=>?_) ?_
  ·subst hk_k5
   obtain ⟨y1,y2,y3,y4⟩:=t
   refine wxz<|Qaf ?_
   obtain rfl:=osi h
   exact fend ⟨[(.agg [I y1,I y2,I y3,I y4])],⟨Qcd (n:=0) (m:=4) (j:=0) (i:=0) (xs:=[[I y1,I y2,I y3,I y4]]) (by kernel_rfl) (by kernel_rfl) ti63 (by decide) rfl (nle rfl) rfl,trivial⟩,rfl⟩ (NLt.agg _ (nlcc (nlcc nl0)))
  ·skip
   refine wx tbk [(1,rp [(.tmp 7,(Q3u p0))] (I ((p0.length:Int))))] ⟨alm (c:=Qab) (l:=p0) (aln rfl Tryz.underlying45 rfl),trivial⟩<|Qal ?_
   refine wmr (mto (n:=18) (l':=[(2,.ref 0 4 0 0),(3,Q3v),(7,(Q3u p0)),(8,(I ((p0.length:Int)))),(9,I 0)]) (own':=[Zja]) [(2,.ref 0 4 0 0),(3,Q3v),(7,(Q3u p0)),(8,(I ((p0.length:Int)))),(9,I 0)] [0] [Zja] hφ0 (pc (.rn (rqr rfl)) (pc (.rn (Qbn rn0 (rnc (rqr rfl) rn0))) (pc (rnd Qad) (pc rwl (pc rwl pn))))) (qc (spb (lcc (lcc ln))) qn)) ?_
   refine Qcb (τ:=Int×Int×Int×Int×Int) (fun n t=>Qeu N p0 k5 n t.1 t.2.1 t.2.2.1 t.2.2.2.1 t.2.2.2.2=some r) (fun ⟨y6,y7,y8,y9,y10⟩=>⟨mk 18 [(2,.ref 0 4 0 0),(3,Q3v),(7,(Q3u p0)),(8,(I ((p0.length:Int)))),(9,I y6)],[(Q1o y7 y8 y9 y10)]⟩) (fun t h=>by rw [Qeu] at h; cases h) (fun n16 ih t h=>?_) N (0,0,0,0,0) h
   obtain ⟨y6,y7,y8,y9,y10⟩:=t
   rw [Qeu] at h
   skip
   refine wxz<|wsq ?_
   refine bfe h (fun hc17 h=>?_) fun hc17 h=>?_
   ·refine wft hc17<|Qan<|thn<|wsq<|Qal ?_
    obtain ⟨x18,hg19,h⟩:=bno h
    obtain ⟨hi20,hj21⟩:=gsm hg19
    refine wx tbk [(0,rp [(.tmp 7,(Q3u p0)),(.tmp 9,I y6)] (.dptr (Qab (x18)) 0))] ⟨aid rfl Tryz.underlying45 ti63 rfl rfl hi20 (mgt Qab hj21) rfl,trivial⟩ ?_
    obtain ⟨x23,hf22,h⟩:=bno h
    refine wx1 tbk [(2,⟨[(.tmp 13,Q3v),(.tmp 14,(Zd3 x18))],[(0,(Q1o y7 y8 y9 y10))],(.tup []),[(0,(Q6f y7 x18 y8 y9 y10))],false⟩)] ⟨Qas (first:=[]) (cap:=[.ref 0 4 0 0]) (vs:=[(Zd3 x18)]) (σr:=[(Q1o y7 y8 y9 y10)]) (σr':=[(Q6f y7 x18 y8 y9 y10)]) (res':=(.tup [])) [0] rfl Zby (Qpc N x18 y7 y8 y9 y10 _ hf22) rfl (Qbr (rnc (.plain _ (NLt.agg _ (nlcc (nlcc nl0)))) (rnc (Qbj rfl) rn0))) (slc (Qaq (rncc (rncc rn0))) Qar) (slc (Qaq (rncc (rncc rn0))) Qar) (.plain _ (NLt.tup _ nl0)) rfl rfl rfl,trivial⟩<|bln<|thn<|wxz1<|thn ?_
    exact arm (mto (n:=18) [(2,.ref 0 4 0 0),(3,Q3v),(7,(Q3u p0)),(8,(I ((p0.length:Int)))),(9,(I (w64 (y6+1))))] [0] [(Q6f y7 x18 y8 y9 y10)] hφ0 (pc (.rn (rqr rfl)) (pc (.rn (Qbn rn0 (rnc (rqr rfl) rn0))) (pc (rnd Qad) (pc rwl (pc rwl pn))))) (qc (spb (lcc (lcc ln))) qn)) (ih (w64 (y6+1),w64 (y7+x18.Mass),w64 (y8+x18.Heat),w64 (y9+x18.Silica),w64 (y10+x18.Gas)) h)
   ·exact wfn hc17<|Qbl<|Qay<|Qay<|Qbk rfl<|thn<|⟨(y7,y8,y9,y10),h,(mto (n:=18) [(2,.ref 0 4 0 0)] [0] [(Q1o y7 y8 y9 y10)] hφ0 (pc (.rn (rqr rfl)) pn) (qc (spb (lcc (lcc ln))) qn))⟩
def Qdy (N:Nat) (p0:GStream) (k3:(List GStream)→Option ((List GStream)×GLoss×Int)) (x7:(List Int)):Nat→(List GStream)→Int→Option ((List GStream)×GLoss×Int)
  | 0,_,_=>none
  | n12+1,y8,y9=>
    bif (decide (y9<(x7.length:Int))) then
     (getI x7 y9).bind fun x14=>
     (Qev N p0.Heat x14 p0.Mass p0.Heat p0.Silica p0.Gas).bind fun x19=>
     (Qev N p0.Silica x14 p0.Mass p0.Heat p0.Silica p0.Gas).bind fun x21=>
     (Qev N p0.Gas x14 p0.Mass p0.Heat p0.Silica p0.Gas).bind fun x23=>
     chk (decide ((y8.length+([(⟨x14,x19,x21,x23⟩:GStream)]).length) * 32≤140737488355328))<|
     Qdy N p0 k3 x7 n12 (y8++([(⟨x14,x19,x21,x23⟩:GStream)])) (w64 (y9+1))
    else
     k3 (y8)
def Qir (N:Nat) (p0:GStream) (p1:(List Int)):Option ((List GStream)×GLoss×Int):=
  Qbp (fun _=>
    Qbp (fun y2=>
      (Qjv N y2).bind fun x5=>
      some (y2,(⟨w64 (p0.Heat - x5.Heat),w64 (p0.Silica - x5.Silica),w64 (p0.Gas - x5.Gas)⟩:GLoss),0)) fun k3:(List GStream)→Option ((List GStream)×GLoss×Int)=>
    (Qhq N p0.Mass p1).bind fun x7=>
    Qdy N p0 k3 x7 N ([]) 0) fun k1:Unit→Option ((List GStream)×GLoss×Int)=>
  (Qdu N p0).bind fun x26=>
  bif (!x26) then
   some ([],(⟨0,0,0⟩:GLoss),1)
  else
   bif (decide ((p1.length:Int)>20)) then
    some ([],(⟨0,0,0⟩:GLoss),1)
   else
    (Qgi N p1).bind fun x30=>
    bif (!x30) then
     some ([],(⟨0,0,0⟩:GLoss),1)
    else
     (Qcg N p1).bind fun x33=>
     bif (!x33) then
      some ([],(⟨0,0,0⟩:GLoss),1)
     else
      k1 ()
def Qpa (p1:(List Int)):AV:=.dat 1 ((p1:List Int).map Qak)
def Qq8 (p0:GStream):Slot:=.own 4 [[(I (p0.Mass)),(I (p0.Heat)),(I (p0.Silica)),(I (p0.Gas))]]
def Qwe:Slot:=.own 3 [[(I (0)),(I (0)),(I (0))]]
def Q6n (y2:(List GStream)):AV:=.acc 1 63 4 ((y2:List GStream).map Qab)
def Q6m (y2:(List GStream)):AV:=.dat 4 ((y2:List GStream).map Qab)
def Zd4 (p0:GStream) (x5:GStream):AV:=.agg [(I (w64 (p0.Heat - x5.Heat))),(I (w64 (p0.Silica - x5.Silica))),(I (w64 (p0.Gas - x5.Gas)))]
def Qq7 (x7:(List Int)):AV:=.dat 1 ((x7:List Int).map Qak)
def Q6l (y8:(List GStream)):AV:=.acc 1 63 4 ((y8:List GStream).map Qab)
def Q1w:AV:=.fn (.func 154) [] [(.ref 3 1 (0) 0),(.ref 0 4 (0) 0)]
def Q6k (x14:Int) (p0:GStream):AV:=.fn (.func 154) [] [(.dptr [(I (x14))] 0),(.dptr [(I (p0.Mass)),(I (p0.Heat)),(I (p0.Silica)),(I (p0.Gas))] 0)]
def Qwf (p0:GStream):AV:=.agg [(I (p0.Mass)),(I (p0.Heat)),(I (p0.Silica)),(I (p0.Gas))]
def Qwd:AV:=.agg [(I (0)),(I (0)),(I (0))]
def Q1v:AV:=.dat 4 (([]:List GStream).map Qab)
theorem Qrh (N:Nat) (p0:GStream) (p1:(List Int)) (r:((List GStream)×GLoss×Int)) (h:Qir N p0 p1=some r):Spec Tryz.prog 146 [(.agg (Qab p0)),(.dat 1 (p1.map Qak))] [] (.tup [(.dat 4 (r.1.map Qab)),(.agg (Zim r.2.1)),(I r.2.2)]) []:=by
  refine Qah Tryz.func146 rfl 0 (nle rfl) (fun X φ0 w0 hφ0 hd0=>?_)
  unfold Qir at h
  refine wxz<|wxz ?_
  obtain ⟨k1,hk_k1,h⟩:=jko h
  refine wjn (τ:=Unit) (fun t=>k1 t=some r) (fun _=>⟨mk 79 [(1,(Qpa p1)),(2,.ref 0 4 0 0),(4,nilS),(5,.ref 1 3 0 0)],[(Qq8 p0),Qwe]⟩) (fun t h=>?_) ?_
  ·subst hk_k1
   obtain ⟨k3,hk_k3,h⟩:=jko h
   refine wjn (τ:=(List GStream)) (fun t=>k3 t=some r) (fun y2=>⟨mk 79 [(2,.ref 0 4 0 0),(4,(Q6n y2)),(5,.ref 2 3 0 0)],[(Qq8 p0),.tok,Qwe]⟩) (fun y2 h=>?_) ?_
   ·subst hk_k3
    obtain ⟨x5,hf4,h⟩:=bno h
    refine wx tbk [(1,rp [fu 155,(.tmp 60,(Q6n y2))] (.agg [I x5.Mass,I x5.Heat,I x5.Silica,I x5.Gas]))] ⟨awk (rd':=(.func 155,(.fn (.func 155) [] []))::[(.tmp 60,(Q6m y2))]) ⟨rfl,lrf,rfl,Less.acc,trivial⟩ (apc (first:=[]) (cap:=[]) (vs:=[(Q6m y2)]) rfl Zb2 (Quy N y2 _ hf4) rfl rfl (nlc (nld Qad _) nl0) (NLt.agg _ (nlcc (nlcc nl0))) rfl),trivial⟩ ?_
    refine wxd tbk [(16,rp [(.tmp 67,(I (w64 (p0.Heat - x5.Heat)))),(.tmp 72,(I (w64 (p0.Silica - x5.Silica)))),(.tmp 77,(I (w64 (p0.Gas - x5.Gas))))] (Zd4 p0 x5))] ⟨Qax (vs:=[(I (w64 (p0.Heat - x5.Heat))),(I (w64 (p0.Silica - x5.Silica))),(I (w64 (p0.Gas - x5.Gas)))]) rfl Q63 Q38 rfl (by rfl) rfl,trivial⟩<|Qaf ?_
    obtain rfl:=osi h
    exact fend ⟨[(Q6m y2),(Zd4 p0 x5),I 0],⟨Qe7 (v:=(Q6n y2)) (rot) Less.acc,Qcd (n:=2) (m:=3) (j:=0) (i:=0) (xs:=[[(I (w64 (p0.Heat - x5.Heat))),(I (w64 (p0.Silica - x5.Silica))),(I (w64 (p0.Gas - x5.Gas)))]]) (by kernel_rfl) (by kernel_rfl) Q4a (by decide) rfl (nle rfl) rfl,rot,trivial⟩,rfl⟩ (NLt.tup _ (nlc (nld Qad _) (nlc (NLt.agg _ (nlcc (nlc nll nl0))) (nlc nll nl0))))
   ·skip
    obtain ⟨x7,hf6,h⟩:=bno h
    refine wx tbk [(3,rp [fu 153,(.tmp 33,I p0.Mass),(.tmp 34,(Qpa p1))] (Qq7 x7)),(4,rp [(.tmp 35,(Qq7 x7))] (I ((x7.length:Int))))] ⟨apc (first:=[]) (cap:=[]) (vs:=[I p0.Mass,(Qpa p1)]) rfl Zb3 (Qqk N p0.Mass p1 _ hf6) rfl rfl (nlc nll (nlc (nld Qag _) nl0)) (nld Qag _) rfl,alm (c:=Qak) (l:=x7) (aln rfl Tryz.underlying27 rfl),trivial⟩<|Qal ?_
    refine wmr (Mor.trans (Qpl 2 63 4 4 (by kernel_rfl) (by kernel_rfl)) (mto (n:=79) (l':=[(2,.ref 0 4 0 0),(4,(.acc 1 63 4 ((([]):List GStream).map Qab))),(5,.ref 2 3 0 0),(35,(Qq7 x7)),(36,(I ((x7.length:Int)))),(37,I 0)]) (own':=[(Qq8 p0),.tok,Qwe]) [(2,.ref 0 4 0 0),(4,(.acc 2 63 4 (([]:List GStream).map Qab))),(5,.ref 1 3 0 0),(35,(Qq7 x7)),(36,(I ((x7.length:Int)))),(37,I 0)] [0,2,1] [(Qq8 p0),.tok,Qwe] hφ0 (pc (.rn (rqr rfl)) (pc (.rn (Qcu rfl (Qca Qad _))) (pc (.rn (rqr rfl)) (pc (rnd Qag) (pc rwl (pc rwl pn)))))) (qc (spb (lcc (lcc ln))) (qc .tok (qc (spb (lcc (lc rwl ln))) qn))))) ?_
    refine Qcb (τ:=(List GStream)×Int) (fun n t=>Qdy N p0 k3 x7 n t.1 t.2=some r) (fun ⟨y8,y9⟩=>⟨mk 79 [(2,.ref 0 4 0 0),(4,(Q6l y8)),(5,.ref 2 3 0 0),(35,(Qq7 x7)),(36,(I ((x7.length:Int)))),(37,I y9)],[(Qq8 p0),.tok,Qwe]⟩) (fun t h=>by rw [Qdy] at h; cases h) (fun n12 ih t h=>?_) N ([],0) h
    obtain ⟨y8,y9⟩:=t
    rw [Qdy] at h
    skip
    refine wxz<|wsq ?_
    refine bfe h (fun hc13 h=>?_) fun hc13 h=>?_
    ·refine wft hc13<|Qan<|thn<|wsq<|Qal ?_
     obtain ⟨x14,hg15,h⟩:=bno h
     obtain ⟨hi16,hj17⟩:=gsm hg15
     refine wx tbk [(0,rp [(.tmp 35,(Qq7 x7)),(.tmp 37,I y9)] (.dptr (Qak (x14)) 0))] ⟨aid rfl Tryz.underlying27 ti3 rfl rfl hi16 (mgt Qak hj17) rfl,trivial⟩ ?_
     refine wx tbk [(0,rp [(.tmp 9,.ref 3 1 0 0),(.tmp 2,.ref 0 4 0 0)] Q1w)] ⟨Qfn (fs:=[]) (cs:=[.ref 3 1 0 0,.ref 0 4 0 0]) rfl rfl rfl rfl,trivial⟩ ?_
     obtain ⟨x19,hf18,h⟩:=bno h
     obtain ⟨x21,hf20,h⟩:=bno h
     obtain ⟨x23,hf22,h⟩:=bno h
     obtain ⟨ha24,h⟩:=cko h
     refine wy1 tbk [(5,rb [(.tmp 44,Q1w),(.tmp 46,I p0.Heat)] [(3,.own 1 [[I x14]]),(0,(Qq8 p0))] (I x19)),(9,rb [(.tmp 48,Q1w),(.tmp 50,I p0.Silica)] [(3,.own 1 [[I x14]]),(0,(Qq8 p0))] (I x21)),(13,rb [(.tmp 52,Q1w),(.tmp 54,I p0.Gas)] [(3,.own 1 [[I x14]]),(0,(Qq8 p0))] (I x23)),(14,rp [(.tmp 43,I x14),(.tmp 47,I x19),(.tmp 51,I x21),(.tmp 55,I x23)] (.agg [I x14,I x19,I x21,I x23])),(15,rp [(.tmp 56,(.agg [I x14,I x19,I x21,I x23]))] (.dat 4 (([(⟨x14,x19,x21,x23⟩:GStream)]:List GStream).map Qab))),(16,⟨[(.tmp 42,(Q6l y8)),(.tmp 57,(.dat 4 (([(⟨x14,x19,x21,x23⟩:GStream)]:List GStream).map Qab)))],[(1,.tok),(4,.unused)],(.acc 4 63 4 ((y8++([(⟨x14,x19,x21,x23⟩:GStream)]):List GStream).map Qab)),[(1,.dead),(4,.tok)],false⟩)] ⟨Qju (rd':=[(.tmp 44,(Q6k x14 p0)),(.tmp 46,I p0.Heat)]) [(3,1,[[I x14]]),(0,4,[[I p0.Mass,I p0.Heat,I p0.Silica,I p0.Gas]])] ⟨rfl,(Zc5 trivial ⟨(Qos 0 rfl (lc (.same _) ln)),(Qos 1 rfl (lc (.same _) (lc (.same _) (lc (.same _) (lc (.same _) ln))))),trivial⟩),rfl,.same _,trivial⟩ (by rfl) (.lit _) Qu2 (Qas (first:=[]) (cap:=[(.dptr [I x14] 0),(.dptr [I p0.Mass,I p0.Heat,I p0.Silica,I p0.Gas] 0)]) (vs:=[I p0.Heat]) (σr:=[]) (σr':=[]) (res':=(I x19)) [] rfl Qvo (Qhb N p0.Heat x14 p0.Mass p0.Heat p0.Silica p0.Gas _ hf18) rfl (Qbr (rnc (.plain _ nll) (rnc (.plain _ (NLt.dptr _ _ (nlc nll nl0))) (rnc (.plain _ (NLt.dptr _ _ (nlcc (nlcc nl0)))) rn0)))) Qar Qar (.plain _ nll) rfl rfl rfl),Qju (rd':=[(.tmp 48,(Q6k x14 p0)),(.tmp 50,I p0.Silica)]) [(3,1,[[I x14]]),(0,4,[[I p0.Mass,I p0.Heat,I p0.Silica,I p0.Gas]])] ⟨rfl,(Zc5 trivial ⟨(Qos 0 rfl (lc (.same _) ln)),(Qos 1 rfl (lc (.same _) (lc (.same _) (lc (.same _) (lc (.same _) ln))))),trivial⟩),rfl,.same _,trivial⟩ (by rfl) (.lit _) Qu2 (Qas (first:=[]) (cap:=[(.dptr [I x14] 0),(.dptr [I p0.Mass,I p0.Heat,I p0.Silica,I p0.Gas] 0)]) (vs:=[I p0.Silica]) (σr:=[]) (σr':=[]) (res':=(I x21)) [] rfl Qvo (Qhb N p0.Silica x14 p0.Mass p0.Heat p0.Silica p0.Gas _ hf20) rfl (Qbr (rnc (.plain _ nll) (rnc (.plain _ (NLt.dptr _ _ (nlc nll nl0))) (rnc (.plain _ (NLt.dptr _ _ (nlcc (nlcc nl0)))) rn0)))) Qar Qar (.plain _ nll) rfl rfl rfl),Qju (rd':=[(.tmp 52,(Q6k x14 p0)),(.tmp 54,I p0.Gas)]) [(3,1,[[I x14]]),(0,4,[[I p0.Mass,I p0.Heat,I p0.Silica,I p0.Gas]])] ⟨rfl,(Zc5 trivial ⟨(Qos 0 rfl (lc (.same _) ln)),(Qos 1 rfl (lc (.same _) (lc (.same _) (lc (.same _) (lc (.same _) ln))))),trivial⟩),rfl,.same _,trivial⟩ (by rfl) (.lit _) Qu2 (Qas (first:=[]) (cap:=[(.dptr [I x14] 0),(.dptr [I p0.Mass,I p0.Heat,I p0.Silica,I p0.Gas] 0)]) (vs:=[I p0.Gas]) (σr:=[]) (σr':=[]) (res':=(I x23)) [] rfl Qvo (Qhb N p0.Gas x14 p0.Mass p0.Heat p0.Silica p0.Gas _ hf22) rfl (Qbr (rnc (.plain _ nll) (rnc (.plain _ (NLt.dptr _ _ (nlc nll nl0))) (rnc (.plain _ (NLt.dptr _ _ (nlcc (nlcc nl0)))) rn0)))) Qar Qar (.plain _ nll) rfl rfl rfl),Qax (vs:=[I x14,I x19,I x21,I x23]) rfl ts63 tz63 rfl (by rfl) rfl,Qbw (vs:=[(.agg [I x14,I x19,I x21,I x23])]) rfl Tryz.underlying45 ti63 tz63 rfl (by decide) rfl (by decide) (by rfl) (by rfl) (by rfl) rfl,Qgo rfl Tryz.underlying45 te63 (Base.acc _ _) rfl rfl (by rfl) (Qjk Qab ha24) (Qjj Qab ha24 (by decide)) (Qji Qab) rfl rfl,trivial⟩<|bln<|thn<|wxz1<|thn ?_
     exact arm (mto (n:=79) [(2,.ref 0 4 0 0),(4,(.acc 4 63 4 ((y8++([(⟨x14,x19,x21,x23⟩:GStream)]):List GStream).map Qab))),(5,.ref 2 3 0 0),(35,(Qq7 x7)),(36,(I ((x7.length:Int)))),(37,(I (w64 (y9+1))))] [0,4,2] [(Qq8 p0),.tok,Qwe] hφ0 (pc (.rn (rqr rfl)) (pc (.rn (Qcu rfl (Qca Qad _))) (pc (.rn (rqr rfl)) (pc (rnd Qag) (pc rwl (pc rwl pn)))))) (qc (spb (lcc (lcc ln))) (qc .tok (qc (spb (lcc (lc rwl ln))) qn)))) (ih (y8++([(⟨x14,x19,x21,x23⟩:GStream)]),w64 (y9+1)) h)
    ·exact wfn hc13<|Qbl<|Qay<|Qay<|Qbk rfl<|thn<|⟨(y8),h,(mto (n:=79) [(2,.ref 0 4 0 0),(4,(Q6l y8)),(5,.ref 2 3 0 0)] [0,1,2] [(Qq8 p0),.tok,Qwe] hφ0 (pc (.rn (rqr rfl)) (pc (.rn (Qcu rfl (Qca Qad _))) (pc (.rn (rqr rfl)) pn))) (qc (spb (lcc (lcc ln))) (qc .tok (qc (spb (lcc (lc rwl ln))) qn))))⟩
  ·skip
   obtain ⟨x26,hf25,h⟩:=bno h
   refine bfe h (fun hb27 h=>?_) fun hb27 h=>?_
   ·refine wx tbk [(1,rp [fu 131,(.tmp 12,(Qwf p0))] (B x26)),(3,rp [(.tmp 14,(B ((!x26))))] (B true))] ⟨apc (first:=[]) (cap:=[]) (vs:=[(Qwf p0)]) rfl Qmy (Qdn N p0 _ hf25) rfl rfl (nlc (NLt.agg _ (nlcc (nlcc nl0))) nl0) nll rfl,asb hb27 (amv rfl),trivial⟩<|wtr ?_
    refine wx tbk [(0,rp [] Qwd)] ⟨Qax (vs:=[]) rfl Q63 Q38 rfl (by rfl) rfl,trivial⟩<|Qaf<|Qae ?_
    obtain rfl:=osi h
    exact fend ⟨[Q1v,Qwd,I 1],⟨Qe7 (v:=nilS) (rot) Less.nil,Qcd (n:=1) (m:=3) (j:=0) (i:=0) (xs:=[[I 0,I 0,I 0]]) (by kernel_rfl) (by kernel_rfl) Q4a (by decide) rfl (nle rfl) rfl,rot,trivial⟩,rfl⟩ (NLt.tup _ (nlc (nld Qad _) (nlc (NLt.agg _ (nlcc (nlc nll nl0))) (nlc nll nl0))))
   ·refine bfe h (fun hb28 h=>?_) fun hb28 h=>?_
    ·refine wx tbk [(1,rp [fu 131,(.tmp 12,(Qwf p0))] (B x26)),(3,rp [(.tmp 14,(B ((!x26))))] (B false)),(5,rp [(.tmp 15,B false),(.tmp 16,(Qpa p1))] (I ((p1.length:Int)))),(8,rp [(.tmp 19,(B ((decide ((p1.length:Int)>20)))))] (B true))] ⟨apc (first:=[]) (cap:=[]) (vs:=[(Qwf p0)]) rfl Qmy (Qdn N p0 _ hf25) rfl rfl (nlc (NLt.agg _ (nlcc (nlcc nl0))) nl0) nll rfl,asb hb27 (amv rfl),ag_ (alm (c:=Qak) (l:=p1) (aln rfl Tryz.underlying27 rfl)),asb hb28 (amv rfl),trivial⟩<|wtr ?_
     refine wx tbk [(0,rp [] Qwd)] ⟨Qax (vs:=[]) rfl Q63 Q38 rfl (by rfl) rfl,trivial⟩<|Qaf<|Qae ?_
     obtain rfl:=osi h
     exact fend ⟨[Q1v,Qwd,I 1],⟨Qe7 (v:=nilS) (rot) Less.nil,Qcd (n:=1) (m:=3) (j:=0) (i:=0) (xs:=[[I 0,I 0,I 0]]) (by kernel_rfl) (by kernel_rfl) Q4a (by decide) rfl (nle rfl) rfl,rot,trivial⟩,rfl⟩ (NLt.tup _ (nlc (nld Qad _) (nlc (NLt.agg _ (nlcc (nlc nll nl0))) (nlc nll nl0))))
    ·obtain ⟨x30,hf29,h⟩:=bno h
     refine bfe h (fun hb31 h=>?_) fun hb31 h=>?_
     ·refine wx tbk [(1,rp [fu 131,(.tmp 12,(Qwf p0))] (B x26)),(3,rp [(.tmp 14,(B ((!x26))))] (B false)),(5,rp [(.tmp 15,B false),(.tmp 16,(Qpa p1))] (I ((p1.length:Int)))),(8,rp [(.tmp 19,(B ((decide ((p1.length:Int)>20)))))] (B false)),(11,rp [(.tmp 20,B false),fu 151,(.tmp 21,(Qpa p1)),(.tmp 22,(.fn (.func 150) [] []))] (B x30)),(14,rp [(.tmp 25,(B ((!x30))))] (B true))] ⟨apc (first:=[]) (cap:=[]) (vs:=[(Qwf p0)]) rfl Qmy (Qdn N p0 _ hf25) rfl rfl (nlc (NLt.agg _ (nlcc (nlcc nl0))) nl0) nll rfl,asb hb27 (amv rfl),ag_ (alm (c:=Qak) (l:=p1) (aln rfl Tryz.underlying27 rfl)),asb hb28 (amv rfl),ag_ (Qas (first:=[]) (cap:=[]) (vs:=[(Qpa p1),(.fn (.func 150) [] [])]) (σr:=[]) (σr':=[]) (res':=(B x30)) [] rfl Q2x (Qj3 N p1 _ hf29) rfl (Qbr (rnc (pld Qag) (rnc (.plain _ (NLt.fn _ _ _ nl0 nl0)) rn0))) Qar Qar (.plain _ nll) rfl rfl rfl),asb hb31 (amv rfl),trivial⟩<|wtr ?_
      refine wx tbk [(0,rp [] Qwd)] ⟨Qax (vs:=[]) rfl Q63 Q38 rfl (by rfl) rfl,trivial⟩<|Qaf<|Qae ?_
      obtain rfl:=osi h
      exact fend ⟨[Q1v,Qwd,I 1],⟨Qe7 (v:=nilS) (rot) Less.nil,Qcd (n:=1) (m:=3) (j:=0) (i:=0) (xs:=[[I 0,I 0,I 0]]) (by kernel_rfl) (by kernel_rfl) Q4a (by decide) rfl (nle rfl) rfl,rot,trivial⟩,rfl⟩ (NLt.tup _ (nlc (nld Qad _) (nlc (NLt.agg _ (nlcc (nlc nll nl0))) (nlc nll nl0))))
     ·obtain ⟨x33,hf32,h⟩:=bno h
      refine wx tbk [(1,rp [fu 131,(.tmp 12,(Qwf p0))] (B x26)),(3,rp [(.tmp 14,(B ((!x26))))] (B false)),(5,rp [(.tmp 15,B false),(.tmp 16,(Qpa p1))] (I ((p1.length:Int)))),(8,rp [(.tmp 19,(B ((decide ((p1.length:Int)>20)))))] (B false)),(11,rp [(.tmp 20,B false),fu 151,(.tmp 21,(Qpa p1)),(.tmp 22,(.fn (.func 150) [] []))] (B x30)),(14,rp [(.tmp 25,(B ((!x30))))] (B false)),(16,rp [(.tmp 26,B false),fu 126,(.tmp 27,(Qpa p1)),fu 152] (B x33))] ⟨apc (first:=[]) (cap:=[]) (vs:=[(Qwf p0)]) rfl Qmy (Qdn N p0 _ hf25) rfl rfl (nlc (NLt.agg _ (nlcc (nlcc nl0))) nl0) nll rfl,asb hb27 (amv rfl),ag_ (alm (c:=Qak) (l:=p1) (aln rfl Tryz.underlying27 rfl)),asb hb28 (amv rfl),ag_ (Qas (first:=[]) (cap:=[]) (vs:=[(Qpa p1),(.fn (.func 150) [] [])]) (σr:=[]) (σr':=[]) (res':=(B x30)) [] rfl Q2x (Qj3 N p1 _ hf29) rfl (Qbr (rnc (pld Qag) (rnc (.plain _ (NLt.fn _ _ _ nl0 nl0)) rn0))) Qar Qar (.plain _ nll) rfl rfl rfl),asb hb31 (amv rfl),ag_ (Qas (first:=[]) (cap:=[]) (vs:=[(Qpa p1),(.fn (.func 152) [] [])]) (σr:=[]) (σr':=[]) (res':=(B x33)) [] rfl Qoq (Qhs N p1 _ hf32) rfl (Qbr (rnc (pld Qag) (rnc (.plain _ (NLt.fn _ _ _ nl0 nl0)) rn0))) Qar Qar (.plain _ nll) rfl rfl rfl),trivial⟩ ?_
      refine bfe h (fun hc34 h=>?_) fun hc34 h=>?_
      ·refine wft hc34<|wx tbk [(0,rp [] Qwd)] ⟨Qax (vs:=[]) rfl Q63 Q38 rfl (by rfl) rfl,trivial⟩<|Qaf<|Qae ?_
       obtain rfl:=osi h
       exact fend ⟨[Q1v,Qwd,I 1],⟨Qe7 (v:=nilS) (rot) Less.nil,Qcd (n:=1) (m:=3) (j:=0) (i:=0) (xs:=[[I 0,I 0,I 0]]) (by kernel_rfl) (by kernel_rfl) Q4a (by decide) rfl (nle rfl) rfl,rot,trivial⟩,rfl⟩ (NLt.tup _ (nlc (nld Qad _) (nlc (NLt.agg _ (nlcc (nlc nll nl0))) (nlc nll nl0))))
      ·exact wfn hc34<|Qan<|thn<|⟨(),h,(mto (n:=79) [(1,(Qpa p1)),(2,.ref 0 4 0 0),(4,nilS),(5,.ref 1 3 0 0)] [0,1] [(Qq8 p0),Qwe] hφ0 (pc (rnd Qag) (pc (.rn (rqr rfl)) (pc rwl (pc (.rn (rqr rfl)) pn)))) (qc (spb (lcc (lcc ln))) (qc (spb (lcc (lc rwl ln))) qn)))⟩
end Go.Proofs.YtmbhnllcfmiajaaGreat
