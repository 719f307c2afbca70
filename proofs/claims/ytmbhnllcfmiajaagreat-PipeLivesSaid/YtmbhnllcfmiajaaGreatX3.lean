/-
  Functions of the program: what they compute, as plain functions, and that they do. No conditions.
-/
import Derived.Test.YtmbhnllcfmiajaaGreatX2
namespace Go.Proofs.YtmbhnllcfmiajaaGreat
set_option maxRecDepth 100000
set_option maxHeartbeats 4000000
open Go.RowKit
def Qi5 (N:Nat) (p0:Int):Option Bool:=
  (Qcp N p0 0 1000000000000).bind fun x2=>
  some x2
theorem Qqs (N:Nat) (p0:Int) (r:Bool) (h:Qi5 N p0=some r):Spec Tryz.prog 109 [(I p0)] [] (B r) []:=by
  refine Qai Tryz.func109 rfl 0 (nle rfl) (fun X φ0 w0 hφ0 hd0=>?_)
  unfold Qi5 at h
  refine wxz ?_
  obtain ⟨x2,hf1,h⟩:=bno h
  refine wx tbk [(1,rp [fu 65,(.tmp 3,I p0),ci 0,ci 1000000000000] (B x2))] ⟨apc (first:=[]) (cap:=[]) (vs:=[I p0,I 0,I 1000000000000]) rfl Qfy (Qbl N p0 0 1000000000000 _ hf1) rfl rfl (nlcc (nlc nll nl0)) nll rfl,trivial⟩<|Qaf ?_
  obtain rfl:=osi h
  exact fend ⟨[B x2],⟨rot,trivial⟩,rfl⟩ nll
def Qgq (N:Nat) (p0:Int):Option Bool:=
  (Qi5 N p0).bind fun x3=>
  some (!x3)
def Zct:Slot:=.own 1 [[(.fn (.func 109) [] [])]]
theorem Qn6 (N:Nat) (p0:Int) (r:Bool) (h:Qgq N p0=some r):Spec Tryz.prog 128 [(I (p0)),(.ref 0 1 (0) 0)] [Zct] (B (r)) [Zct]:=by
  refine Qai Tryz.func128 rfl 1 (nle rfl) (fun X φ0 w0 hφ0 hd0=>?_)
  unfold Qgq at h
  refine Qb1<|wxz ?_
  obtain ⟨x3,hf2,h⟩:=bno h
  refine wx tbk [(2,rp [(.tmp 4,(.fn (.func 109) [] [])),(.tmp 5,I p0)] (B x3))] ⟨apc (first:=[]) (cap:=[]) (vs:=[I p0]) rfl Zfc (Qqs N p0 _ hf2) rfl rfl (nlc nll nl0) nll rfl,trivial⟩ ?_
  refine wmr (mto (n:=8) (l':=[(3,(B ((!x3))))]) (own':=[Zct]) [(3,(B ((!x3))))] [0] [Zct] hφ0 (pc rwl pn) (qc (spb (lc (.rn (Qbr rn0 rn0)) ln)) qn))<|Qaf ?_
  obtain rfl:=osi h
  exact ⟨_,Mor.rfl,Qdb (vs:=[(B ((!x3)))]) ⟨rot,trivial⟩ rfl (NLt.of0 nll) (by kernel_rfl) (Qao (Qbg (nlc (NLt.of0 (NLt.fn _ _ _ nl0 nl0)) nl0)) Qbx)⟩
def Qb7 (N:Nat) (p0:(List Int)) (k2:Unit→Option Int):Nat→Int→Option Int
  | 0,_=>none
  | n5+1,y3=>
    bif (decide (y3<(p0.length:Int))) then
     (getI p0 y3).bind fun x7=>
     (Qgq N x7).bind fun x12=>
     bif x12 then
      some y3
     else
      Qb7 N p0 k2 n5 (w64 (y3+1))
    else
     k2 ()
def Qd7 (N:Nat) (p0:(List Int)):Option Int:=
  Qbh (fun _=>
    some (-1)) fun k2:Unit→Option Int=>
  Qb7 N p0 k2 N 0
def Q1c (p0:(List Int)):AV:=.dat 1 ((p0:List Int).map Qak)
def Q6c:AV:=.fn (.func 128) [] [(.ref 0 1 (0) 0)]
def Qnz:Slot:=.own 1 [[(.fn (.func 109) [] [])]]
theorem Qjf (N:Nat) (p0:(List Int)) (r:Int) (h:Qd7 N p0=some r):Spec Tryz.prog 141 [(Q1c p0),Q6c] [Qnz] (I (r)) [Qnz]:=by
  refine Qai Tryz.func141 rfl 1 (nle rfl) (fun X φ0 w0 hφ0 hd0=>?_)
  unfold Qd7 at h
  refine Qb1<|wxz ?_
  obtain ⟨k2,hk_k2,h⟩:=jko h
  refine wjn (τ:=Unit) (fun t=>k2 t=some r) (fun _=>⟨mk 19 [],[Qnz]⟩) (fun t h=>?_) ?_
  ·subst hk_k2
   refine wxz<|wmr (mto (n:=19) (l':=[(4,(I ((-1))))]) (own':=[Qnz]) [(4,(I ((-1))))] [0] [Qnz] hφ0 (pc rwl pn) (qc (spb (lc (.rn (Qbr rn0 rn0)) ln)) qn))<|Qaf ?_
   obtain rfl:=osi h
   exact ⟨_,Mor.rfl,Qdb (vs:=[(I ((-1)))]) ⟨rot,trivial⟩ rfl (NLt.of0 nll) (by kernel_rfl) (Qao (Qbg (nlc (NLt.of0 (NLt.fn _ _ _ nl0 nl0)) nl0)) Qbx)⟩
  ·skip
   refine wx tbk [(1,rp [(.tmp 6,(Q1c p0))] (I ((p0.length:Int))))] ⟨alm (c:=Qak) (l:=p0) (aln rfl Tryz.underlying27 rfl),trivial⟩<|Qal ?_
   refine wmr (mto (n:=19) (l':=[(0,(Q1c p0)),(1,Q6c),(7,(I ((p0.length:Int)))),(8,I 0)]) (own':=[Qnz]) [(0,(Q1c p0)),(1,Q6c),(7,(I ((p0.length:Int)))),(8,I 0)] [0] [Qnz] hφ0 (pc (rnd Qae) (pc (.rn (Qbr rn0 (rnc (rqr rfl) rn0))) (pc rwl (pc rwl pn)))) (qc (spb (lc (.rn (Qbr rn0 rn0)) ln)) qn)) ?_
   refine Qby (τ:=Int) (fun n t=>Qb7 N p0 k2 n t=some r) (fun y3=>⟨mk 19 [(0,(Q1c p0)),(1,Q6c),(7,(I ((p0.length:Int)))),(8,I y3)],[Qnz]⟩) (fun t h=>by rw [Qb7] at h; cases h) (fun n5 ih y3 h=>?_) N (0) h
   rw [Qb7] at h
   skip
   refine wxz<|wsq ?_
   refine bfe h (fun hc6 h=>?_) fun hc6 h=>?_
   ·refine wft hc6<|Qam<|thn<|wsq<|Qal<|wxz ?_
    obtain ⟨x7,hg8,h⟩:=bno h
    obtain ⟨hi9,hj10⟩:=gsm hg8
    obtain ⟨x12,hf11,h⟩:=bno h
    refine wx tbk [(3,rp [(.tmp 12,(Q1c p0)),(.tmp 13,I y3)] (.dptr (Qak (x7)) 0)),(5,⟨[(.tmp 11,Q6c),(.tmp 15,I x7)],[(0,Qnz)],B x12,[(0,Qnz)],false⟩)] ⟨aid rfl Tryz.underlying27 ti3 rfl rfl hi9 (mgt Qak hj10) rfl,Qat (first:=[]) (cap:=[.ref 0 1 0 0]) (vs:=[I x7]) (σr:=[Qnz]) (σr':=[Qnz]) (res':=(B x12)) [0] rfl Q5b (Qn6 N x7 _ hf11) rfl (Qbu (rnc (.plain _ nll) (rnc (Qbp rfl) rn0))) (slc (Qaq (rnc (.plain _ (NLt.fn _ _ _ nl0 nl0)) rn0)) Qar) (slc (Qaq (rnc (.plain _ (NLt.fn _ _ _ nl0 nl0)) rn0)) Qar) (.plain _ nll) rfl rfl rfl,trivial⟩ ?_
    refine bfe h (fun hc13 h=>?_) fun hc13 h=>?_
    ·refine wft hc13<|wxz ?_
     refine wmr (mto (n:=19) (l':=[(4,I y3)]) (own':=[Qnz]) [(4,I y3)] [0] [Qnz] hφ0 (pc rwl pn) (qc (spb (lc (.rn (Qbr rn0 rn0)) ln)) qn))<|Qaf<|Qap<|Qag<|Qag<|Qap<|Qag ?_
     obtain rfl:=osi h
     exact ⟨_,Mor.rfl,Qdb (vs:=[I y3]) ⟨rot,trivial⟩ rfl (NLt.of0 nll) (by kernel_rfl) (Qao (Qbg (nlc (NLt.of0 (NLt.fn _ _ _ nl0 nl0)) nl0)) Qbx)⟩
    ·exact wfn hc13<|Qam<|bln<|thn<|wxz1<|thn<|arm (mto (n:=19) [(0,(Q1c p0)),(1,Q6c),(7,(I ((p0.length:Int)))),(8,(I (w64 (y3+1))))] [0] [Qnz] hφ0 (pc (rnd Qae) (pc (.rn (Qbr rn0 (rnc (rqr rfl) rn0))) (pc rwl (pc rwl pn)))) (qc (spb (lc (.rn (Qbr rn0 rn0)) ln)) qn)) (ih (w64 (y3+1)) h)
   ·exact wfn hc6<|Qbj<|Qav<|Qav<|Qbi rfl<|thn<|⟨(),h,(mto (n:=19) [] [0] [Qnz] hφ0 pn (qc (spb (lc (.rn (Qbr rn0 rn0)) ln)) qn))⟩
def Qcy (N:Nat) (p0:(List Int)):Option Bool:=
  (Qd7 N p0).bind fun x3=>
  some (decide (x3≥0))
def Zio (p0:(List Int)):AV:=.dat 1 ((p0:List Int).map Qak)
def Zin:AV:=.fn (.func 128) [] [(.ref 0 1 (0) 0)]
def Qyi:Slot:=.own 1 [[(.fn (.func 109) [] [])]]
theorem Qif (N:Nat) (p0:(List Int)) (r:Bool) (h:Qcy N p0=some r):Spec Tryz.prog 126 [(Zio p0),Zin] [Qyi] (B (r)) [Qyi]:=by
  refine Qai Tryz.func126 rfl 1 (nle rfl) (fun X φ0 w0 hφ0 hd0=>?_)
  unfold Qcy at h
  refine Qb1<|wxz ?_
  obtain ⟨x3,hf2,h⟩:=bno h
  refine wx tbk [(2,⟨[fu 141,(.tmp 5,(Zio p0)),(.tmp 6,Zin)],[(0,Qyi)],I x3,[(0,Qyi)],false⟩)] ⟨Qat (first:=[]) (cap:=[]) (vs:=[(Zio p0),Zin]) (σr:=[Qyi]) (σr':=[Qyi]) (res':=(I x3)) [0] rfl Qpz (Qjf N p0 _ hf2) rfl (Qbu (rnc (pld Qae) (rnc (Qbr rn0 (rnc (Qbp rfl) rn0)) rn0))) (slc (Qaq (rnc (.plain _ (NLt.fn _ _ _ nl0 nl0)) rn0)) Qar) (slc (Qaq (rnc (.plain _ (NLt.fn _ _ _ nl0 nl0)) rn0)) Qar) (.plain _ nll) rfl rfl rfl,trivial⟩ ?_
  refine wmr (mto (n:=9) (l':=[(4,(B ((decide (x3≥0)))))]) (own':=[Qyi]) [(4,(B ((decide (x3≥0)))))] [0] [Qyi] hφ0 (pc rwl pn) (qc (spb (lc (.rn (Qbr rn0 rn0)) ln)) qn))<|Qaf ?_
  obtain rfl:=osi h
  exact ⟨_,Mor.rfl,Qdb (vs:=[(B ((decide (x3≥0))))]) ⟨rot,trivial⟩ rfl (NLt.of0 nll) (by kernel_rfl) (Qao (Qbg (nlc (NLt.of0 (NLt.fn _ _ _ nl0 nl0)) nl0)) Qbx)⟩
def Qim (N:Nat) (p0:(List Int)):Option Bool:=
  (Qcy N p0).bind fun x2=>
  some (!x2)
def Ziq (p0:(List Int)):AV:=.dat 1 ((p0:List Int).map Qak)
def Zip:AV:=.fn (.func 128) [] [(.ref 0 1 (0) 0)]
def Zcu:Slot:=.own 1 [[(.fn (.func 109) [] [])]]
theorem Qpr (N:Nat) (p0:(List Int)) (r:Bool) (h:Qim N p0=some r):Spec Tryz.prog 108 [(Ziq p0),(.fn (.func 109) [] [])] [] (B (r)) []:=by
  refine Qai Tryz.func108 rfl 0 (nle rfl) (fun X φ0 w0 hφ0 hd0=>?_)
  unfold Qim at h
  refine wxz ?_
  obtain ⟨x2,hf1,h⟩:=bno h
  refine wx tbk [(1,rp [(.tmp 3,.ref 0 1 0 0)] Zip),(2,⟨[fu 126,(.tmp 5,(Ziq p0)),(.tmp 6,Zip)],[(0,Zcu)],B x2,[(0,Zcu)],false⟩)] ⟨Qfz (fs:=[]) (cs:=[.ref 0 1 0 0]) rfl rfl rfl rfl,Qat (first:=[]) (cap:=[]) (vs:=[(Ziq p0),Zip]) (σr:=[Zcu]) (σr':=[Zcu]) (res':=(B x2)) [0] rfl Qp0 (Qif N p0 _ hf1) rfl (Qbu (rnc (pld Qae) (rnc (Qbr rn0 (rnc (Qbp rfl) rn0)) rn0))) (slc (Qaq (rnc (.plain _ (NLt.fn _ _ _ nl0 nl0)) rn0)) Qar) (slc (Qaq (rnc (.plain _ (NLt.fn _ _ _ nl0 nl0)) rn0)) Qar) (.plain _ nll) rfl rfl rfl,trivial⟩<|Qaf ?_
  obtain rfl:=osi h
  exact fend ⟨[(B ((!x2)))],⟨rot,trivial⟩,rfl⟩ nll
def Qjq (N:Nat) (p0:GNet) (p1:(List Int)):Option Int:=
  (Qgt N p0).bind fun x2=>
  bif (!x2) then
   some 1
  else
   bif ((p1.length:Int) != (p0.Elements.length:Int)) then
    some 1
   else
    (Qim N p1).bind fun x6=>
    bif (!x6) then
     some 1
    else
     some 0
def Zir (p0:GNet):AV:=.dat 7 ((p0.Elements:List GElement).map Qad)
def Q6d (p0:GNet):AV:=.agg [(.dat 5 ((p0.Table:List GRow).map Qa0)),(Zir p0)]
def Zcv (p1:(List Int)):AV:=.dat 1 ((p1:List Int).map Qak)
theorem Qtf (N:Nat) (p0:GNet) (p1:(List Int)) (r:Int) (h:Qjq N p0 p1=some r):Spec Tryz.prog 73 [(.agg (Qhv p0)),(.dat 1 (p1.map Qak))] [] (I r) []:=by
  refine Qai Tryz.func73 rfl 0 (nle rfl) (fun X φ0 w0 hφ0 hd0=>?_)
  unfold Qjq at h
  refine wxz<|wsq ?_
  obtain ⟨x2,hf1,h⟩:=bno h
  refine bfe h (fun hb3 h=>?_) fun hb3 h=>?_
  ·refine wx tbk [(1,rp [fu 66,(.tmp 5,(Q6d p0))] (B x2)),(3,rp [(.tmp 7,(B ((!x2))))] (B true))] ⟨apc (first:=[]) (cap:=[]) (vs:=[(Q6d p0)]) rfl Qxl (Qhb N p0 _ hf1) rfl rfl (nlc (NLt.agg _ (nlc (nld Qaj _) (nlc (nld Qab _) nl0))) nl0) nll rfl,asb hb3 (amv rfl),trivial⟩<|wtr<|wxz<|Qaf<|Qag ?_
   obtain rfl:=osi h
   exact fend ⟨[I 1],⟨rot,trivial⟩,rfl⟩ nll
  ·refine bfe h (fun hb4 h=>?_) fun hb4 h=>?_
   ·refine wx tbk [(1,rp [fu 66,(.tmp 5,(Q6d p0))] (B x2)),(3,rp [(.tmp 7,(B ((!x2))))] (B false)),(5,rp [(.tmp 8,B false),(.tmp 9,(Zcv p1))] (I ((p1.length:Int)))),(8,rp [(.tmp 8,B false),(.tmp 12,(Zir p0))] (I ((p0.Elements.length:Int)))),(11,rp [(.tmp 15,(B (((p1.length:Int) != (p0.Elements.length:Int)))))] (B true))] ⟨apc (first:=[]) (cap:=[]) (vs:=[(Q6d p0)]) rfl Qxl (Qhb N p0 _ hf1) rfl rfl (nlc (NLt.agg _ (nlc (nld Qaj _) (nlc (nld Qab _) nl0))) nl0) nll rfl,asb hb3 (amv rfl),ag_ (alm (c:=Qak) (l:=p1) (aln rfl Tryz.underlying27 rfl)),ag_ (alm (c:=Qad) (l:=p0.Elements) (aln rfl Tryz.underlying40 rfl)),asb hb4 (amv rfl),trivial⟩<|wtr<|wxz<|Qaf<|Qag ?_
    obtain rfl:=osi h
    exact fend ⟨[I 1],⟨rot,trivial⟩,rfl⟩ nll
   ·obtain ⟨x6,hf5,h⟩:=bno h
    refine wx tbk [(1,rp [fu 66,(.tmp 5,(Q6d p0))] (B x2)),(3,rp [(.tmp 7,(B ((!x2))))] (B false)),(5,rp [(.tmp 8,B false),(.tmp 9,(Zcv p1))] (I ((p1.length:Int)))),(8,rp [(.tmp 8,B false),(.tmp 12,(Zir p0))] (I ((p0.Elements.length:Int)))),(11,rp [(.tmp 15,(B (((p1.length:Int) != (p0.Elements.length:Int)))))] (B false)),(13,rp [(.tmp 16,B false),fu 108,(.tmp 17,(Zcv p1)),fu 109] (B x6))] ⟨apc (first:=[]) (cap:=[]) (vs:=[(Q6d p0)]) rfl Qxl (Qhb N p0 _ hf1) rfl rfl (nlc (NLt.agg _ (nlc (nld Qaj _) (nlc (nld Qab _) nl0))) nl0) nll rfl,asb hb3 (amv rfl),ag_ (alm (c:=Qak) (l:=p1) (aln rfl Tryz.underlying27 rfl)),ag_ (alm (c:=Qad) (l:=p0.Elements) (aln rfl Tryz.underlying40 rfl)),asb hb4 (amv rfl),ag_ (Qat (first:=[]) (cap:=[]) (vs:=[(Zcv p1),(.fn (.func 109) [] [])]) (σr:=[]) (σr':=[]) (res':=(B x6)) [] rfl Qxq (Qpr N p1 _ hf5) rfl (Qbu (rnc (pld Qae) (rnc (.plain _ (NLt.fn _ _ _ nl0 nl0)) rn0))) Qar Qar (.plain _ nll) rfl rfl rfl),trivial⟩ ?_
    refine bfe h (fun hc7 h=>?_) fun hc7 h=>?_
    ·refine wft hc7<|wxz<|Qaf<|Qag ?_
     obtain rfl:=osi h
     exact fend ⟨[I 1],⟨rot,trivial⟩,rfl⟩ nll
    ·refine wfn hc7<|Qam<|thn<|wxz<|Qaf ?_
     obtain rfl:=osi h
     exact fend ⟨[I 0],⟨rot,trivial⟩,rfl⟩ nll
def Qdm (N:Nat) (p0:GNet) (p1:Int) (k2:(List Int)→Option (List Int)):Nat→(List Int)→Int→Option (List Int)
  | 0,_,_=>none
  | n7+1,y3,y4=>
    bif (decide (y4<(p0.Elements.length:Int))) then
     (getI p0.Elements y4).bind fun x9=>
     bif (x9.Kind==p1) then
      chk (decide ((y3.length+([y4]).length) * 8≤140737488355328))<|
      Qdm N p0 p1 k2 n7 (y3++([y4])) (w64 (y4+1))
     else
      Qdm N p0 p1 k2 n7 y3 (w64 (y4+1))
    else
     k2 (y3)
def Qh6 (N:Nat) (p0:GNet) (p1:Int):Option (List Int):=
  Qbh (fun y1=>
    some y1) fun k2:(List Int)→Option (List Int)=>
  Qdm N p0 p1 k2 N ([]) 0
def Q1b (p0:GNet):AV:=.dat 7 ((p0.Elements:List GElement).map Qad)
def Q34 (y3:(List Int)):AV:=.acc 0 3 1 ((y3:List Int).map Qak)
theorem Qin (N:Nat) (p0:GNet) (p1:Int) (r:(List Int)) (h:Qh6 N p0 p1=some r):Spec Tryz.prog 67 [(.agg (Qhv p0)),(K .u8 p1)] [] (.dat 1 (r.map Qak)) []:=by
  refine Qai Tryz.func67 rfl 0 (nle rfl) (fun X φ0 w0 hφ0 hd0=>?_)
  unfold Qh6 at h
  refine wxz ?_
  obtain ⟨k2,hk_k2,h⟩:=jko h
  refine wjn (τ:=(List Int)) (fun t=>k2 t=some r) (fun y1=>⟨mk 25 [(4,(.acc 0 3 1 ((y1:List Int).map Qak)))],[.tok]⟩) (fun y1 h=>?_) ?_
  ·subst hk_k2
   refine wxz<|Qaf ?_
   obtain rfl:=osi h
   exact fend ⟨[(.dat 1 ((y1:List Int).map Qak))],⟨Qez (v:=(.acc 0 3 1 ((y1:List Int).map Qak))) (rot) Less.acc,trivial⟩,rfl⟩ (nld Qae _)
  ·skip
   refine wx tbk [(2,rp [(.tmp 8,(Q1b p0))] (I ((p0.Elements.length:Int))))] ⟨alm (c:=Qad) (l:=p0.Elements) (aln rfl Tryz.underlying40 rfl),trivial⟩<|Qal ?_
   refine wmr (Mor.trans (Qqx 1 3 1 4 (by kernel_rfl) (by kernel_rfl)) (mto (n:=25) (l':=[(1,(K .u8 (p1))),(4,(.acc 0 3 1 ((([]):List Int).map Qak))),(8,(Q1b p0)),(9,(I ((p0.Elements.length:Int)))),(10,I 0)]) (own':=[.tok]) [(1,(K .u8 (p1))),(4,(.acc 1 3 1 (([]:List Int).map Qak))),(8,(Q1b p0)),(9,(I ((p0.Elements.length:Int)))),(10,I 0)] [1] [.tok] hφ0 (pc rwl (pc (.rn (Qa7 rfl (Qa2 Qae _))) (pc (rnd Qab) (pc rwl (pc rwl pn))))) (qc .tok qn))) ?_
   refine Qby (τ:=(List Int)×Int) (fun n t=>Qdm N p0 p1 k2 n t.1 t.2=some r) (fun ⟨y3,y4⟩=>⟨mk 25 [(1,(K .u8 (p1))),(4,(Q34 y3)),(8,(Q1b p0)),(9,(I ((p0.Elements.length:Int)))),(10,I y4)],[.tok]⟩) (fun t h=>by rw [Qdm] at h; cases h) (fun n7 ih t h=>?_) N ([],0) h
   obtain ⟨y3,y4⟩:=t
   rw [Qdm] at h
   skip
   refine wxz<|wsq ?_
   refine bfe h (fun hc8 h=>?_) fun hc8 h=>?_
   ·refine wft hc8<|Qam<|thn<|wsq<|Qal ?_
    obtain ⟨x9,hg10,h⟩:=bno h
    obtain ⟨hi11,hj12⟩:=gsm hg10
    refine wx tbk [(1,rp [(.tmp 8,(Q1b p0)),(.tmp 10,I y4)] (.dptr (Qad (x9)) 0))] ⟨aid rfl Tryz.underlying40 Qjz rfl rfl hi11 (mgt Qad hj12) rfl,trivial⟩<|wxz ?_
    refine bfe h (fun hc13 h=>?_) fun hc13 h=>?_
    ·refine wft hc13 ?_
     obtain ⟨ha14,h⟩:=cko h
     refine wx1 tbk [(2,rp [(.tmp 20,I y4)] (.dat 1 (([y4]:List Int).map Qak))),(3,⟨[(.tmp 19,(Q34 y3)),(.tmp 21,(.dat 1 (([y4]:List Int).map Qak)))],[(0,.tok),(2,.unused)],(.acc 2 3 1 ((y3++([y4]):List Int).map Qak)),[(0,.dead),(2,.tok)],false⟩)] ⟨Qbo (vs:=[I y4]) rfl Tryz.underlying27 ti3 tz3 rfl (by decide) rfl (by decide) (by rfl) (by rfl) (by rfl) rfl,Qeq rfl Tryz.underlying27 te3 (Base.acc _ _) rfl rfl (by rfl) (Qg9 Qak ha14) (Qg8 Qak ha14 (by decide)) (Qg7 Qak) rfl rfl,trivial⟩<|bln<|thn<|wxz1<|thn ?_
     exact arm (mto (n:=25) [(1,(K .u8 (p1))),(4,(.acc 2 3 1 ((y3++([y4]):List Int).map Qak))),(8,(Q1b p0)),(9,(I ((p0.Elements.length:Int)))),(10,(I (w64 (y4+1))))] [2] [.tok] hφ0 (pc rwl (pc (.rn (Qa7 rfl (Qa2 Qae _))) (pc (rnd Qab) (pc rwl (pc rwl pn))))) (qc .tok qn)) (ih (y3++([y4]),w64 (y4+1)) h)
    ·exact wfn hc13<|Qam<|bln<|thn<|wxz1<|thn<|arm (mto (n:=25) [(1,(K .u8 (p1))),(4,(Q34 y3)),(8,(Q1b p0)),(9,(I ((p0.Elements.length:Int)))),(10,(I (w64 (y4+1))))] [0] [.tok] hφ0 (pc rwl (pc (.rn (Qa7 rfl (Qa2 Qae _))) (pc (rnd Qab) (pc rwl (pc rwl pn))))) (qc .tok qn)) (ih (y3,w64 (y4+1)) h)
   ·exact wfn hc8<|Qbj<|Qav<|Qav<|Qbi rfl<|thn<|⟨(y3),h,(mto (n:=25) [(4,(Q34 y3))] [0] [.tok] hφ0 (pc (.rn (Qa7 rfl (Qa2 Qae _))) pn) (qc .tok qn))⟩
def Qdu (N:Nat) (p0:GStream):Option Bool:=
  (Qc1 N p0.Mass 0 1000000).bind fun x2=>
  bif x2 then
   (Qc1 N p0.Heat 0 (w64 (4000 * p0.Mass))).bind fun x5=>
   bif x5 then
    (Qc1 N p0.Silica 0 (w64 (10000 * p0.Mass))).bind fun x8=>
    bif x8 then
     (Qc1 N p0.Gas 0 1000000000).bind fun x11=>
     some x11
    else
     some false
   else
    some false
  else
   some false
theorem Qdn (N:Nat) (p0:GStream) (r:Bool) (h:Qdu N p0=some r):Spec Tryz.prog 131 [(.agg (Qaa p0))] [] (B r) []:=by
  refine Qai Tryz.func131 rfl 0 (nle rfl) (fun X φ0 w0 hφ0 hd0=>?_)
  unfold Qdu at h
  refine wxz ?_
  obtain ⟨x2,hf1,h⟩:=bno h
  refine bfe h (fun hb3 h=>?_) fun hb3 h=>?_
  ·obtain ⟨x5,hf4,h⟩:=bno h
   refine bfe h (fun hb6 h=>?_) fun hb6 h=>?_
   ·obtain ⟨x8,hf7,h⟩:=bno h
    refine bfe h (fun hb9 h=>?_) fun hb9 h=>?_
    ·obtain ⟨x11,hf10,h⟩:=bno h
     refine wx tbk [(2,rp [fu 137,(.tmp 4,I p0.Mass),ci 0,ci 1000000] (B x2)),(3,rp [(.tmp 5,B x2)] (B true)),(9,rp [(.tmp 6,B true),fu 137,(.tmp 8,I p0.Heat),ci 0,(.tmp 11,(I (w64 (4000 * p0.Mass))))] (B x5)),(11,rp [(.tmp 13,B x5)] (B true)),(17,rp [(.tmp 14,B true),fu 137,(.tmp 16,I p0.Silica),ci 0,(.tmp 19,(I (w64 (10000 * p0.Mass))))] (B x8)),(19,rp [(.tmp 21,B x8)] (B true)),(22,rp [(.tmp 22,B true),fu 137,(.tmp 24,I p0.Gas),ci 0,ci 1000000000] (B x11))] ⟨apc (first:=[]) (cap:=[]) (vs:=[I p0.Mass,I 0,I 1000000]) rfl Qcw (Qaz N p0.Mass 0 1000000 _ hf1) rfl rfl (nlcc (nlc nll nl0)) nll rfl,asb hb3 (amv rfl),ag_ (apc (first:=[]) (cap:=[]) (vs:=[I p0.Heat,I 0,(I (w64 (4000 * p0.Mass)))]) rfl Qcw (Qaz N p0.Heat 0 (w64 (4000 * p0.Mass)) _ hf4) rfl rfl (nlcc (nlc nll nl0)) nll rfl),asb hb6 (amv rfl),ag_ (apc (first:=[]) (cap:=[]) (vs:=[I p0.Silica,I 0,(I (w64 (10000 * p0.Mass)))]) rfl Qcw (Qaz N p0.Silica 0 (w64 (10000 * p0.Mass)) _ hf7) rfl rfl (nlcc (nlc nll nl0)) nll rfl),asb hb9 (amv rfl),ag_ (apc (first:=[]) (cap:=[]) (vs:=[I p0.Gas,I 0,I 1000000000]) rfl Qcw (Qaz N p0.Gas 0 1000000000 _ hf10) rfl rfl (nlcc (nlc nll nl0)) nll rfl),trivial⟩<|Qaf ?_
     obtain rfl:=osi h
     exact fend ⟨[B x11],⟨rot,trivial⟩,rfl⟩ nll
    ·refine wx tbk [(2,rp [fu 137,(.tmp 4,I p0.Mass),ci 0,ci 1000000] (B x2)),(3,rp [(.tmp 5,B x2)] (B true)),(9,rp [(.tmp 6,B true),fu 137,(.tmp 8,I p0.Heat),ci 0,(.tmp 11,(I (w64 (4000 * p0.Mass))))] (B x5)),(11,rp [(.tmp 13,B x5)] (B true)),(17,rp [(.tmp 14,B true),fu 137,(.tmp 16,I p0.Silica),ci 0,(.tmp 19,(I (w64 (10000 * p0.Mass))))] (B x8)),(19,rp [(.tmp 21,B x8)] (B false))] ⟨apc (first:=[]) (cap:=[]) (vs:=[I p0.Mass,I 0,I 1000000]) rfl Qcw (Qaz N p0.Mass 0 1000000 _ hf1) rfl rfl (nlcc (nlc nll nl0)) nll rfl,asb hb3 (amv rfl),ag_ (apc (first:=[]) (cap:=[]) (vs:=[I p0.Heat,I 0,(I (w64 (4000 * p0.Mass)))]) rfl Qcw (Qaz N p0.Heat 0 (w64 (4000 * p0.Mass)) _ hf4) rfl rfl (nlcc (nlc nll nl0)) nll rfl),asb hb6 (amv rfl),ag_ (apc (first:=[]) (cap:=[]) (vs:=[I p0.Silica,I 0,(I (w64 (10000 * p0.Mass)))]) rfl Qcw (Qaz N p0.Silica 0 (w64 (10000 * p0.Mass)) _ hf7) rfl rfl (nlcc (nlc nll nl0)) nll rfl),asb hb9 (amv rfl),trivial⟩<|Qaf ?_
     obtain rfl:=osi h
     exact fend ⟨[B false],⟨rot,trivial⟩,rfl⟩ nll
   ·refine wx tbk [(2,rp [fu 137,(.tmp 4,I p0.Mass),ci 0,ci 1000000] (B x2)),(3,rp [(.tmp 5,B x2)] (B true)),(9,rp [(.tmp 6,B true),fu 137,(.tmp 8,I p0.Heat),ci 0,(.tmp 11,(I (w64 (4000 * p0.Mass))))] (B x5)),(11,rp [(.tmp 13,B x5)] (B false))] ⟨apc (first:=[]) (cap:=[]) (vs:=[I p0.Mass,I 0,I 1000000]) rfl Qcw (Qaz N p0.Mass 0 1000000 _ hf1) rfl rfl (nlcc (nlc nll nl0)) nll rfl,asb hb3 (amv rfl),ag_ (apc (first:=[]) (cap:=[]) (vs:=[I p0.Heat,I 0,(I (w64 (4000 * p0.Mass)))]) rfl Qcw (Qaz N p0.Heat 0 (w64 (4000 * p0.Mass)) _ hf4) rfl rfl (nlcc (nlc nll nl0)) nll rfl),asb hb6 (amv rfl),trivial⟩<|Qaf ?_
    obtain rfl:=osi h
    exact fend ⟨[B false],⟨rot,trivial⟩,rfl⟩ nll
  ·refine wx tbk [(2,rp [fu 137,(.tmp 4,I p0.Mass),ci 0,ci 1000000] (B x2)),(3,rp [(.tmp 5,B x2)] (B false))] ⟨apc (first:=[]) (cap:=[]) (vs:=[I p0.Mass,I 0,I 1000000]) rfl Qcw (Qaz N p0.Mass 0 1000000 _ hf1) rfl rfl (nlcc (nlc nll nl0)) nll rfl,asb hb3 (amv rfl),trivial⟩<|Qaf ?_
   obtain rfl:=osi h
   exact fend ⟨[B false],⟨rot,trivial⟩,rfl⟩ nll
def Qf3 (N:Nat) (p0:GStream):Option Int:=
  (Qdu N p0).bind fun x2=>
  bif (!x2) then
   some 1
  else
   some 0
def Zl2 (p0:GStream):AV:=.agg [(I (p0.Mass)),(I (p0.Heat)),(I (p0.Silica)),(I (p0.Gas))]
theorem Qm5 (N:Nat) (p0:GStream) (r:Int) (h:Qf3 N p0=some r):Spec Tryz.prog 114 [(.agg (Qaa p0))] [] (I r) []:=by
  refine Qai Tryz.func114 rfl 0 (nle rfl) (fun X φ0 w0 hφ0 hd0=>?_)
  unfold Qf3 at h
  refine wxz<|wsq ?_
  obtain ⟨x2,hf1,h⟩:=bno h
  refine wx tbk [(1,rp [fu 131,(.tmp 3,(Zl2 p0))] (B x2))] ⟨apc (first:=[]) (cap:=[]) (vs:=[(Zl2 p0)]) rfl Qnu (Qdn N p0 _ hf1) rfl rfl (nlc (NLt.agg _ (nlcc (nlcc nl0))) nl0) nll rfl,trivial⟩ ?_
  refine bfe h (fun hc3 h=>?_) fun hc3 h=>?_
  ·refine wft hc3<|wxz<|Qaf<|Qag ?_
   obtain rfl:=osi h
   exact fend ⟨[I 1],⟨rot,trivial⟩,rfl⟩ nll
  ·refine wfn hc3<|Qam<|thn<|wxz<|Qaf ?_
   obtain rfl:=osi h
   exact fend ⟨[I 0],⟨rot,trivial⟩,rfl⟩ nll
def Qio (N:Nat) (p0:GStream):Option Bool:=
  (Qf3 N p0).bind fun x2=>
  some (x2==0)
def Zl3 (p0:GStream):AV:=.agg [(I (p0.Mass)),(I (p0.Heat)),(I (p0.Silica)),(I (p0.Gas))]
theorem Qps (N:Nat) (p0:GStream) (r:Bool) (h:Qio N p0=some r):Spec Tryz.prog 113 [(.agg (Qaa p0))] [] (B r) []:=by
  refine Qai Tryz.func113 rfl 0 (nle rfl) (fun X φ0 w0 hφ0 hd0=>?_)
  unfold Qio at h
  refine wxz ?_
  obtain ⟨x2,hf1,h⟩:=bno h
  refine wx tbk [(1,rp [fu 114,(.tmp 3,(Zl3 p0))] (I x2))] ⟨apc (first:=[]) (cap:=[]) (vs:=[(Zl3 p0)]) rfl Ze7 (Qm5 N p0 _ hf1) rfl rfl (nlc (NLt.agg _ (nlcc (nlcc nl0))) nl0) nll rfl,trivial⟩<|Qaf ?_
  obtain rfl:=osi h
  exact fend ⟨[(B ((x2==0)))],⟨rot,trivial⟩,rfl⟩ nll
def Qdf (N:Nat) (p0:GStream):Option Bool:=
  (Qio N p0).bind fun x3=>
  some (!x3)
def Zii (p0:GStream):AV:=.agg [(I (p0.Mass)),(I (p0.Heat)),(I (p0.Silica)),(I (p0.Gas))]
def Zcp:Slot:=.own 1 [[(.fn (.func 113) [] [])]]
theorem Qj0 (N:Nat) (p0:GStream) (r:Bool) (h:Qdf N p0=some r):Spec Tryz.prog 130 [(Zii p0),(.ref 0 1 (0) 0)] [Zcp] (B (r)) [Zcp]:=by
  refine Qai Tryz.func130 rfl 1 (nle rfl) (fun X φ0 w0 hφ0 hd0=>?_)
  unfold Qdf at h
  refine Qb1<|wxz ?_
  obtain ⟨x3,hf2,h⟩:=bno h
  refine wx tbk [(2,rp [(.tmp 4,(.fn (.func 113) [] [])),(.tmp 5,(Zii p0))] (B x3))] ⟨apc (first:=[]) (cap:=[]) (vs:=[(Zii p0)]) rfl Ze8 (Qps N p0 _ hf2) rfl rfl (nlc (NLt.agg _ (nlcc (nlcc nl0))) nl0) nll rfl,trivial⟩ ?_
  refine wmr (mto (n:=8) (l':=[(3,(B ((!x3))))]) (own':=[Zcp]) [(3,(B ((!x3))))] [0] [Zcp] hφ0 (pc rwl pn) (qc (spb (lc (.rn (Qbr rn0 rn0)) ln)) qn))<|Qaf ?_
  obtain rfl:=osi h
  exact ⟨_,Mor.rfl,Qdb (vs:=[(B ((!x3)))]) ⟨rot,trivial⟩ rfl (NLt.of0 nll) (by kernel_rfl) (Qao (Qbg (nlc (NLt.of0 (NLt.fn _ _ _ nl0 nl0)) nl0)) Qbx)⟩
def Qba (N:Nat) (p0:(List GStream)) (k2:Unit→Option Int):Nat→Int→Option Int
  | 0,_=>none
  | n5+1,y3=>
    bif (decide (y3<(p0.length:Int))) then
     (getI p0 y3).bind fun x7=>
     (Qdf N x7).bind fun x12=>
     bif x12 then
      some y3
     else
      Qba N p0 k2 n5 (w64 (y3+1))
    else
     k2 ()
def Qb3 (N:Nat) (p0:(List GStream)):Option Int:=
  Qbh (fun _=>
    some (-1)) fun k2:Unit→Option Int=>
  Qba N p0 k2 N 0
def Q1a (p0:(List GStream)):AV:=.dat 4 ((p0:List GStream).map Qaa)
def Q6b:AV:=.fn (.func 130) [] [(.ref 0 1 (0) 0)]
def Qny:Slot:=.own 1 [[(.fn (.func 113) [] [])]]
def Zl4 (x7:GStream):AV:=.agg [(I (x7.Mass)),(I (x7.Heat)),(I (x7.Silica)),(I (x7.Gas))]
theorem Qf4 (N:Nat) (p0:(List GStream)) (r:Int) (h:Qb3 N p0=some r):Spec Tryz.prog 142 [(Q1a p0),Q6b] [Qny] (I (r)) [Qny]:=by
  refine Qai Tryz.func142 rfl 1 (nle rfl) (fun X φ0 w0 hφ0 hd0=>?_)
  unfold Qb3 at h
  refine Qb1<|wxz ?_
  obtain ⟨k2,hk_k2,h⟩:=jko h
  refine wjn (τ:=Unit) (fun t=>k2 t=some r) (fun _=>⟨mk 19 [],[Qny]⟩) (fun t h=>?_) ?_
  ·subst hk_k2
   refine wxz<|wmr (mto (n:=19) (l':=[(4,(I ((-1))))]) (own':=[Qny]) [(4,(I ((-1))))] [0] [Qny] hφ0 (pc rwl pn) (qc (spb (lc (.rn (Qbr rn0 rn0)) ln)) qn))<|Qaf ?_
   obtain rfl:=osi h
   exact ⟨_,Mor.rfl,Qdb (vs:=[(I ((-1)))]) ⟨rot,trivial⟩ rfl (NLt.of0 nll) (by kernel_rfl) (Qao (Qbg (nlc (NLt.of0 (NLt.fn _ _ _ nl0 nl0)) nl0)) Qbx)⟩
  ·skip
   refine wx tbk [(1,rp [(.tmp 6,(Q1a p0))] (I ((p0.length:Int))))] ⟨alm (c:=Qaa) (l:=p0) (aln rfl Tryz.underlying45 rfl),trivial⟩<|Qal ?_
   refine wmr (mto (n:=19) (l':=[(0,(Q1a p0)),(1,Q6b),(7,(I ((p0.length:Int)))),(8,I 0)]) (own':=[Qny]) [(0,(Q1a p0)),(1,Q6b),(7,(I ((p0.length:Int)))),(8,I 0)] [0] [Qny] hφ0 (pc (rnd Qac) (pc (.rn (Qbr rn0 (rnc (rqr rfl) rn0))) (pc rwl (pc rwl pn)))) (qc (spb (lc (.rn (Qbr rn0 rn0)) ln)) qn)) ?_
   refine Qby (τ:=Int) (fun n t=>Qba N p0 k2 n t=some r) (fun y3=>⟨mk 19 [(0,(Q1a p0)),(1,Q6b),(7,(I ((p0.length:Int)))),(8,I y3)],[Qny]⟩) (fun t h=>by rw [Qba] at h; cases h) (fun n5 ih y3 h=>?_) N (0) h
   rw [Qba] at h
   skip
   refine wxz<|wsq ?_
   refine bfe h (fun hc6 h=>?_) fun hc6 h=>?_
   ·refine wft hc6<|Qam<|thn<|wsq<|Qal<|wxz ?_
    obtain ⟨x7,hg8,h⟩:=bno h
    obtain ⟨hi9,hj10⟩:=gsm hg8
    obtain ⟨x12,hf11,h⟩:=bno h
    refine wx tbk [(3,rp [(.tmp 12,(Q1a p0)),(.tmp 13,I y3)] (.dptr (Qaa (x7)) 0)),(5,⟨[(.tmp 11,Q6b),(.tmp 15,(Zl4 x7))],[(0,Qny)],B x12,[(0,Qny)],false⟩)] ⟨aid rfl Tryz.underlying45 ti63 rfl rfl hi9 (mgt Qaa hj10) rfl,Qat (first:=[]) (cap:=[.ref 0 1 0 0]) (vs:=[(Zl4 x7)]) (σr:=[Qny]) (σr':=[Qny]) (res':=(B x12)) [0] rfl Zev (Qj0 N x7 _ hf11) rfl (Qbu (rnc (.plain _ (NLt.agg _ (nlcc (nlcc nl0)))) (rnc (Qbp rfl) rn0))) (slc (Qaq (rnc (.plain _ (NLt.fn _ _ _ nl0 nl0)) rn0)) Qar) (slc (Qaq (rnc (.plain _ (NLt.fn _ _ _ nl0 nl0)) rn0)) Qar) (.plain _ nll) rfl rfl rfl,trivial⟩ ?_
    refine bfe h (fun hc13 h=>?_) fun hc13 h=>?_
    ·refine wft hc13<|wxz ?_
     refine wmr (mto (n:=19) (l':=[(4,I y3)]) (own':=[Qny]) [(4,I y3)] [0] [Qny] hφ0 (pc rwl pn) (qc (spb (lc (.rn (Qbr rn0 rn0)) ln)) qn))<|Qaf<|Qap<|Qag<|Qag<|Qap<|Qag ?_
     obtain rfl:=osi h
     exact ⟨_,Mor.rfl,Qdb (vs:=[I y3]) ⟨rot,trivial⟩ rfl (NLt.of0 nll) (by kernel_rfl) (Qao (Qbg (nlc (NLt.of0 (NLt.fn _ _ _ nl0 nl0)) nl0)) Qbx)⟩
    ·exact wfn hc13<|Qam<|bln<|thn<|wxz1<|thn<|arm (mto (n:=19) [(0,(Q1a p0)),(1,Q6b),(7,(I ((p0.length:Int)))),(8,(I (w64 (y3+1))))] [0] [Qny] hφ0 (pc (rnd Qac) (pc (.rn (Qbr rn0 (rnc (rqr rfl) rn0))) (pc rwl (pc rwl pn)))) (qc (spb (lc (.rn (Qbr rn0 rn0)) ln)) qn)) (ih (w64 (y3+1)) h)
   ·exact wfn hc6<|Qbj<|Qav<|Qav<|Qbi rfl<|thn<|⟨(),h,(mto (n:=19) [] [0] [Qny] hφ0 pn (qc (spb (lc (.rn (Qbr rn0 rn0)) ln)) qn))⟩
def Qbm (N:Nat) (p0:(List GStream)):Option Bool:=
  (Qb3 N p0).bind fun x3=>
  some (decide (x3≥0))
def Zik (p0:(List GStream)):AV:=.dat 4 ((p0:List GStream).map Qaa)
def Zij:AV:=.fn (.func 130) [] [(.ref 0 1 (0) 0)]
def Qyg:Slot:=.own 1 [[(.fn (.func 113) [] [])]]
theorem Qfk (N:Nat) (p0:(List GStream)) (r:Bool) (h:Qbm N p0=some r):Spec Tryz.prog 129 [(Zik p0),Zij] [Qyg] (B (r)) [Qyg]:=by
  refine Qai Tryz.func129 rfl 1 (nle rfl) (fun X φ0 w0 hφ0 hd0=>?_)
  unfold Qbm at h
  refine Qb1<|wxz ?_
  obtain ⟨x3,hf2,h⟩:=bno h
  refine wx tbk [(2,⟨[fu 142,(.tmp 5,(Zik p0)),(.tmp 6,Zij)],[(0,Qyg)],I x3,[(0,Qyg)],false⟩)] ⟨Qat (first:=[]) (cap:=[]) (vs:=[(Zik p0),Zij]) (σr:=[Qyg]) (σr':=[Qyg]) (res':=(I x3)) [0] rfl Zeo (Qf4 N p0 _ hf2) rfl (Qbu (rnc (pld Qac) (rnc (Qbr rn0 (rnc (Qbp rfl) rn0)) rn0))) (slc (Qaq (rnc (.plain _ (NLt.fn _ _ _ nl0 nl0)) rn0)) Qar) (slc (Qaq (rnc (.plain _ (NLt.fn _ _ _ nl0 nl0)) rn0)) Qar) (.plain _ nll) rfl rfl rfl,trivial⟩ ?_
  refine wmr (mto (n:=9) (l':=[(4,(B ((decide (x3≥0)))))]) (own':=[Qyg]) [(4,(B ((decide (x3≥0)))))] [0] [Qyg] hφ0 (pc rwl pn) (qc (spb (lc (.rn (Qbr rn0 rn0)) ln)) qn))<|Qaf ?_
  obtain rfl:=osi h
  exact ⟨_,Mor.rfl,Qdb (vs:=[(B ((decide (x3≥0))))]) ⟨rot,trivial⟩ rfl (NLt.of0 nll) (by kernel_rfl) (Qao (Qbg (nlc (NLt.of0 (NLt.fn _ _ _ nl0 nl0)) nl0)) Qbx)⟩
def Qe1 (N:Nat) (p0:(List GStream)):Option Bool:=
  (Qbm N p0).bind fun x2=>
  some (!x2)
def Zim (p0:(List GStream)):AV:=.dat 4 ((p0:List GStream).map Qaa)
def Zil:AV:=.fn (.func 130) [] [(.ref 0 1 (0) 0)]
def Zcq:Slot:=.own 1 [[(.fn (.func 113) [] [])]]
theorem Qks (N:Nat) (p0:(List GStream)) (r:Bool) (h:Qe1 N p0=some r):Spec Tryz.prog 112 [(Zim p0),(.fn (.func 113) [] [])] [] (B (r)) []:=by
  refine Qai Tryz.func112 rfl 0 (nle rfl) (fun X φ0 w0 hφ0 hd0=>?_)
  unfold Qe1 at h
  refine wxz ?_
  obtain ⟨x2,hf1,h⟩:=bno h
  refine wx tbk [(1,rp [(.tmp 3,.ref 0 1 0 0)] Zil),(2,⟨[fu 129,(.tmp 5,(Zim p0)),(.tmp 6,Zil)],[(0,Zcq)],B x2,[(0,Zcq)],false⟩)] ⟨Qfz (fs:=[]) (cs:=[.ref 0 1 0 0]) rfl rfl rfl rfl,Qat (first:=[]) (cap:=[]) (vs:=[(Zim p0),Zil]) (σr:=[Zcq]) (σr':=[Zcq]) (res':=(B x2)) [0] rfl Zew (Qfk N p0 _ hf1) rfl (Qbu (rnc (pld Qac) (rnc (Qbr rn0 (rnc (Qbp rfl) rn0)) rn0))) (slc (Qaq (rnc (.plain _ (NLt.fn _ _ _ nl0 nl0)) rn0)) Qar) (slc (Qaq (rnc (.plain _ (NLt.fn _ _ _ nl0 nl0)) rn0)) Qar) (.plain _ nll) rfl rfl rfl,trivial⟩<|Qaf ?_
  obtain rfl:=osi h
  exact fend ⟨[(B ((!x2)))],⟨rot,trivial⟩,rfl⟩ nll
def Qer (N:Nat) (p0:(List GStream)) (k5:Int×Int×Int×Int→Option GStream):Nat→Int→Int→Int→Int→Int→Option GStream
  | 0,_,_,_,_,_=>none
  | n16+1,y6,y7,y8,y9,y10=>
    bif (decide (y6<(p0.length:Int))) then
     (getI p0 y6).bind fun x18=>
     Qer N p0 k5 n16 (w64 (y6+1)) (w64 (y7+x18.Mass)) (w64 (y8+x18.Heat)) (w64 (y9+x18.Silica)) (w64 (y10+x18.Gas))
    else
     k5 (y7,y8,y9,y10)
def Qfq (N:Nat) (p0:(List GStream)):Option GStream:=
  Qbh (fun ⟨y1,y2,y3,y4⟩=>
    some (⟨y1,y2,y3,y4⟩:GStream)) fun k5:Int×Int×Int×Int→Option GStream=>
  Qer N p0 k5 N 0 0 0 0 0
def Q6a (p0:(List GStream)):AV:=.dat 4 ((p0:List GStream).map Qaa)
def Zl1:Slot:=.own 4 [[(I (0)),(I (0)),(I (0)),(I (0))]]
theorem Qlg (N:Nat) (p0:(List GStream)) (r:GStream) (h:Qfq N p0=some r):Spec Tryz.prog 76 [(.dat 4 (p0.map Qaa))] [] (.agg (Qaa r)) []:=by
  refine Qai Tryz.func76 rfl 0 (nle rfl) (fun X φ0 w0 hφ0 hd0=>?_)
  unfold Qfq at h
  refine wxz ?_
  obtain ⟨k5,hk_k5,h⟩:=jko h
  refine wjn (τ:=Int×Int×Int×Int) (fun t=>k5 t=some r) (fun ⟨y1,y2,y3,y4⟩=>⟨mk 34 [(2,.ref 0 4 0 0)],[(.own 4 [[I y1,I y2,I y3,I y4]])]⟩) (fun t h=>?_) ?_
  ·subst hk_k5
   obtain ⟨y1,y2,y3,y4⟩:=t
   refine wxz<|Qaf ?_
   obtain rfl:=osi h
   exact fend ⟨[(.agg [I y1,I y2,I y3,I y4])],⟨Qbv (n:=0) (m:=4) (j:=0) (i:=0) (xs:=[[I y1,I y2,I y3,I y4]]) (by kernel_rfl) (by kernel_rfl) ti63 (by decide) rfl (nle rfl) rfl,trivial⟩,rfl⟩ (NLt.agg _ (nlcc (nlcc nl0)))
  ·skip
   refine wx tbk [(1,rp [(.tmp 5,(Q6a p0))] (I ((p0.length:Int))))] ⟨alm (c:=Qaa) (l:=p0) (aln rfl Tryz.underlying45 rfl),trivial⟩<|Qal ?_
   refine wmr (mto (n:=34) (l':=[(2,.ref 0 4 0 0),(5,(Q6a p0)),(6,(I ((p0.length:Int)))),(7,I 0)]) (own':=[Zl1]) [(2,.ref 0 4 0 0),(5,(Q6a p0)),(6,(I ((p0.length:Int)))),(7,I 0)] [0] [Zl1] hφ0 (pc (.rn (rqr rfl)) (pc (rnd Qac) (pc rwl (pc rwl pn)))) (qc (spb (lcc (lcc ln))) qn)) ?_
   refine Qby (τ:=Int×Int×Int×Int×Int) (fun n t=>Qer N p0 k5 n t.1 t.2.1 t.2.2.1 t.2.2.2.1 t.2.2.2.2=some r) (fun ⟨y6,y7,y8,y9,y10⟩=>⟨mk 34 [(2,.ref 0 4 0 0),(5,(Q6a p0)),(6,(I ((p0.length:Int)))),(7,I y6)],[(.own 4 [[I y7,I y8,I y9,I y10]])]⟩) (fun t h=>by rw [Qer] at h; cases h) (fun n16 ih t h=>?_) N (0,0,0,0,0) h
   obtain ⟨y6,y7,y8,y9,y10⟩:=t
   rw [Qer] at h
   skip
   refine wxz<|wsq ?_
   refine bfe h (fun hc17 h=>?_) fun hc17 h=>?_
   ·refine wft hc17<|Qam<|thn<|wsq<|Qal ?_
    obtain ⟨x18,hg19,h⟩:=bno h
    obtain ⟨hi20,hj21⟩:=gsm hg19
    refine wx tbk [(0,rp [(.tmp 5,(Q6a p0)),(.tmp 7,I y6)] (.dptr (Qaa (x18)) 0))] ⟨aid rfl Tryz.underlying45 ti63 rfl rfl hi20 (mgt Qaa hj21) rfl,trivial⟩ ?_
    refine wx1 tbk [(20,rp [(.tmp 15,(I (w64 (y7+x18.Mass)))),(.tmp 20,(I (w64 (y8+x18.Heat)))),(.tmp 25,(I (w64 (y9+x18.Silica)))),(.tmp 30,(I (w64 (y10+x18.Gas))))] (.agg [(I (w64 (y7+x18.Mass))),(I (w64 (y8+x18.Heat))),(I (w64 (y9+x18.Silica))),(I (w64 (y10+x18.Gas)))]))] ⟨Qau (vs:=[(I (w64 (y7+x18.Mass))),(I (w64 (y8+x18.Heat))),(I (w64 (y9+x18.Silica))),(I (w64 (y10+x18.Gas)))]) rfl ts63 tz63 rfl (by rfl) rfl,trivial⟩<|bln<|thn<|wxz1<|thn ?_
    exact arm (mto (n:=34) [(2,.ref 0 4 0 0),(5,(Q6a p0)),(6,(I ((p0.length:Int)))),(7,(I (w64 (y6+1))))] [0] [(.own 4 [[(I (w64 (y7+x18.Mass))),(I (w64 (y8+x18.Heat))),(I (w64 (y9+x18.Silica))),(I (w64 (y10+x18.Gas)))]])] hφ0 (pc (.rn (rqr rfl)) (pc (rnd Qac) (pc rwl (pc rwl pn)))) (qc (spb (lcc (lcc ln))) qn)) (ih (w64 (y6+1),w64 (y7+x18.Mass),w64 (y8+x18.Heat),w64 (y9+x18.Silica),w64 (y10+x18.Gas)) h)
   ·exact wfn hc17<|Qbj<|Qav<|Qav<|Qbi rfl<|thn<|⟨(y7,y8,y9,y10),h,(mto (n:=34) [(2,.ref 0 4 0 0)] [0] [(.own 4 [[I y7,I y8,I y9,I y10]])] hφ0 (pc (.rn (rqr rfl)) pn) (qc (spb (lcc (lcc ln))) qn))⟩
def Qip (N:Nat) (p0:GNet) (p1:(List GStream)):Option Int:=
  Qbh (fun _=>
    (Qfq N p1).bind fun x3=>
    bif (decide (x3.Mass>1000000)) then
     some 3
    else
     bif (decide (x3.Gas>1000000000)) then
      some 3
     else
      some 0) fun k1:Unit→Option Int=>
  (Qh6 N p0 1).bind fun x7=>
  bif ((p1.length:Int) != (x7.length:Int)) then
   some 1
  else
   (Qe1 N p1).bind fun x10=>
   bif (!x10) then
    some 1
   else
    k1 ()
def Qyh (p1:(List GStream)):AV:=.dat 4 ((p1:List GStream).map Qaa)
def Zm5 (p0:GNet):AV:=.dat 7 ((p0.Elements:List GElement).map Qad)
def Zcs (p0:GNet):AV:=.agg [(.dat 5 ((p0.Table:List GRow).map Qa0)),(Zm5 p0)]
def Zcr (x7:(List Int)):AV:=.dat 1 ((x7:List Int).map Qak)
theorem Qrx (N:Nat) (p0:GNet) (p1:(List GStream)) (r:Int) (h:Qip N p0 p1=some r):Spec Tryz.prog 94 [(.agg (Qhv p0)),(.dat 4 (p1.map Qaa))] [] (I r) []:=by
  refine Qai Tryz.func94 rfl 0 (nle rfl) (fun X φ0 w0 hφ0 hd0=>?_)
  unfold Qip at h
  refine wxz ?_
  obtain ⟨k1,hk_k1,h⟩:=jko h
  refine wjn (τ:=Unit) (fun t=>k1 t=some r) (fun _=>⟨mk 27 [(1,(Qyh p1))],[]⟩) (fun t h=>?_) ?_
  ·subst hk_k1
   refine wsq ?_
   obtain ⟨x3,hf2,h⟩:=bno h
   refine wx tbk [(1,rp [fu 76,(.tmp 17,(Qyh p1))] (.agg [I x3.Mass,I x3.Heat,I x3.Silica,I x3.Gas]))] ⟨apc (first:=[]) (cap:=[]) (vs:=[(Qyh p1)]) rfl Q2h (Qlg N p1 _ hf2) rfl rfl (nlc (nld Qac _) nl0) (NLt.agg _ (nlcc (nlcc nl0))) rfl,trivial⟩ ?_
   refine bfe h (fun hb4 h=>?_) fun hb4 h=>?_
   ·refine wx tbk [(3,rp [(.tmp 21,(B ((decide (x3.Mass>1000000)))))] (B true))] ⟨asb hb4 (amv rfl),trivial⟩<|wtr<|wxz<|Qaf<|Qag ?_
    obtain rfl:=osi h
    exact fend ⟨[I 3],⟨rot,trivial⟩,rfl⟩ nll
   ·refine wx tbk [(3,rp [(.tmp 21,(B ((decide (x3.Mass>1000000)))))] (B false))] ⟨asb hb4 (amv rfl),trivial⟩ ?_
    refine bfe h (fun hc5 h=>?_) fun hc5 h=>?_
    ·refine wft hc5<|wxz<|Qaf<|Qag ?_
     obtain rfl:=osi h
     exact fend ⟨[I 3],⟨rot,trivial⟩,rfl⟩ nll
    ·refine wfn hc5<|Qam<|thn<|wxz<|Qaf ?_
     obtain rfl:=osi h
     exact fend ⟨[I 0],⟨rot,trivial⟩,rfl⟩ nll
  ·skip
   obtain ⟨x7,hf6,h⟩:=bno h
   refine bfe h (fun hb8 h=>?_) fun hb8 h=>?_
   ·refine wx tbk [(1,rp [(.tmp 6,(Qyh p1))] (I ((p1.length:Int)))),(3,rp [fu 67,(.tmp 8,(Zcs p0)),(.const (.int .u8 1),(K .u8 (1)))] (Zcr x7)),(4,rp [(.tmp 9,(Zcr x7))] (I ((x7.length:Int)))),(6,rp [(.tmp 11,(B (((p1.length:Int) != (x7.length:Int)))))] (B true))] ⟨alm (c:=Qaa) (l:=p1) (aln rfl Tryz.underlying45 rfl),apc (first:=[]) (cap:=[]) (vs:=[(Zcs p0),(K .u8 (1))]) rfl Qxk (Qin N p0 1 _ hf6) rfl rfl (nlc (NLt.agg _ (nlc (nld Qaj _) (nlc (nld Qab _) nl0))) (nlc nll nl0)) (nld Qae _) rfl,alm (c:=Qak) (l:=x7) (aln rfl Tryz.underlying27 rfl),asb hb8 (amv rfl),trivial⟩<|wtr<|wxz<|Qaf<|Qag ?_
    obtain rfl:=osi h
    exact fend ⟨[I 1],⟨rot,trivial⟩,rfl⟩ nll
   ·obtain ⟨x10,hf9,h⟩:=bno h
    refine wx tbk [(1,rp [(.tmp 6,(Qyh p1))] (I ((p1.length:Int)))),(3,rp [fu 67,(.tmp 8,(Zcs p0)),(.const (.int .u8 1),(K .u8 (1)))] (Zcr x7)),(4,rp [(.tmp 9,(Zcr x7))] (I ((x7.length:Int)))),(6,rp [(.tmp 11,(B (((p1.length:Int) != (x7.length:Int)))))] (B false)),(8,rp [(.tmp 12,B false),fu 112,(.tmp 13,(Qyh p1)),fu 113] (B x10))] ⟨alm (c:=Qaa) (l:=p1) (aln rfl Tryz.underlying45 rfl),apc (first:=[]) (cap:=[]) (vs:=[(Zcs p0),(K .u8 (1))]) rfl Qxk (Qin N p0 1 _ hf6) rfl rfl (nlc (NLt.agg _ (nlc (nld Qaj _) (nlc (nld Qab _) nl0))) (nlc nll nl0)) (nld Qae _) rfl,alm (c:=Qak) (l:=x7) (aln rfl Tryz.underlying27 rfl),asb hb8 (amv rfl),ag_ (Qat (first:=[]) (cap:=[]) (vs:=[(Qyh p1),(.fn (.func 113) [] [])]) (σr:=[]) (σr':=[]) (res':=(B x10)) [] rfl Ze9 (Qks N p1 _ hf9) rfl (Qbu (rnc (pld Qac) (rnc (.plain _ (NLt.fn _ _ _ nl0 nl0)) rn0))) Qar Qar (.plain _ nll) rfl rfl rfl),trivial⟩ ?_
    refine bfe h (fun hc11 h=>?_) fun hc11 h=>?_
    ·refine wft hc11<|wxz<|Qaf<|Qag ?_
     obtain rfl:=osi h
     exact fend ⟨[I 1],⟨rot,trivial⟩,rfl⟩ nll
    ·exact wfn hc11<|Qam<|thn<|⟨(),h,(mto (n:=27) [(1,(Qyh p1))] [] [] hφ0 (pc (rnd Qac) pn) qn)⟩
def Qiy (N:Nat) (p0:GNet) (p1:(List Int)) (p2:(List GStream)):Option Int:=
  (Qjq N p0 p1).bind fun x2=>
  bif (x2 != 0) then
   some x2
  else
   (Qip N p0 p2).bind fun x5=>
   some x5
def Zm6 (p0:GNet):AV:=.dat 7 ((p0.Elements:List GElement).map Qad)
def Zcw (p0:GNet):AV:=.agg [(.dat 5 ((p0.Table:List GRow).map Qa0)),(Zm6 p0)]
theorem Qob (N:Nat) (p0:GNet) (p1:(List Int)) (p2:(List GStream)) (r:Int) (h:Qiy N p0 p1 p2=some r):Spec Tryz.prog 57 [(.agg (Qhv p0)),(.dat 1 (p1.map Qak)),(.dat 4 (p2.map Qaa))] [] (I r) []:=by
  refine Qai Tryz.func57 rfl 0 (nle rfl) (fun X φ0 w0 hφ0 hd0=>?_)
  unfold Qiy at h
  refine wxz<|wsq ?_
  obtain ⟨x2,hf1,h⟩:=bno h
  refine wx tbk [(2,rp [fu 73,(.tmp 8,(Zcw p0)),(.tmp 9,(.dat 1 ((p1:List Int).map Qak)))] (I x2))] ⟨apc (first:=[]) (cap:=[]) (vs:=[(Zcw p0),(.dat 1 ((p1:List Int).map Qak))]) rfl Zkn (Qtf N p0 p1 _ hf1) rfl rfl (nlc (NLt.agg _ (nlc (nld Qaj _) (nlc (nld Qab _) nl0))) (nlc (nld Qae _) nl0)) nll rfl,trivial⟩<|wxz ?_
  refine bfe h (fun hc3 h=>?_) fun hc3 h=>?_
  ·refine wft hc3<|wxz<|Qaf<|Qag ?_
   obtain rfl:=osi h
   exact fend ⟨[I x2],⟨rot,trivial⟩,rfl⟩ nll
  ·refine wfn hc3<|Qam<|thn ?_
   obtain ⟨x5,hf4,h⟩:=bno h
   refine wx tbk [(2,rp [fu 94,(.tmp 14,(Zcw p0)),(.tmp 15,(.dat 4 ((p2:List GStream).map Qaa)))] (I x5))] ⟨apc (first:=[]) (cap:=[]) (vs:=[(Zcw p0),(.dat 4 ((p2:List GStream).map Qaa))]) rfl Zkk (Qrx N p0 p2 _ hf4) rfl rfl (nlc (NLt.agg _ (nlc (nld Qaj _) (nlc (nld Qab _) nl0))) (nlc (nld Qac _) nl0)) nll rfl,trivial⟩<|Qaf ?_
   obtain rfl:=osi h
   exact fend ⟨[I x5],⟨rot,trivial⟩,rfl⟩ nll
def Qi4 (N:Nat) (p0:Int):Option Bool:=
  (Qc1 N p0 0 1000).bind fun x2=>
  some x2
theorem Qqo (N:Nat) (p0:Int) (r:Bool) (h:Qi4 N p0=some r):Spec Tryz.prog 150 [(I p0)] [] (B r) []:=by
  refine Qai Tryz.func150 rfl 0 (nle rfl) (fun X φ0 w0 hφ0 hd0=>?_)
  unfold Qi4 at h
  refine wxz ?_
  obtain ⟨x2,hf1,h⟩:=bno h
  refine wx tbk [(1,rp [fu 137,(.tmp 3,I p0),ci 0,ci 1000] (B x2))] ⟨apc (first:=[]) (cap:=[]) (vs:=[I p0,I 0,I 1000]) rfl Qcw (Qaz N p0 0 1000 _ hf1) rfl rfl (nlcc (nlc nll nl0)) nll rfl,trivial⟩<|Qaf ?_
  obtain rfl:=osi h
  exact fend ⟨[B x2],⟨rot,trivial⟩,rfl⟩ nll
def Qf2 (N:Nat) (p0:Int):Option Bool:=
  (Qi4 N p0).bind fun x3=>
  some (!x3)
def Zcn:Slot:=.own 1 [[(.fn (.func 150) [] [])]]
theorem Qm4 (N:Nat) (p0:Int) (r:Bool) (h:Qf2 N p0=some r):Spec Tryz.prog 157 [(I (p0)),(.ref 0 1 (0) 0)] [Zcn] (B (r)) [Zcn]:=by
  refine Qai Tryz.func157 rfl 1 (nle rfl) (fun X φ0 w0 hφ0 hd0=>?_)
  unfold Qf2 at h
  refine Qb1<|wxz ?_
  obtain ⟨x3,hf2,h⟩:=bno h
  refine wx tbk [(2,rp [(.tmp 4,(.fn (.func 150) [] [])),(.tmp 5,I p0)] (B x3))] ⟨apc (first:=[]) (cap:=[]) (vs:=[I p0]) rfl Zeg (Qqo N p0 _ hf2) rfl rfl (nlc nll nl0) nll rfl,trivial⟩ ?_
  refine wmr (mto (n:=8) (l':=[(3,(B ((!x3))))]) (own':=[Zcn]) [(3,(B ((!x3))))] [0] [Zcn] hφ0 (pc rwl pn) (qc (spb (lc (.rn (Qbr rn0 rn0)) ln)) qn))<|Qaf ?_
  obtain rfl:=osi h
  exact ⟨_,Mor.rfl,Qdb (vs:=[(B ((!x3)))]) ⟨rot,trivial⟩ rfl (NLt.of0 nll) (by kernel_rfl) (Qao (Qbg (nlc (NLt.of0 (NLt.fn _ _ _ nl0 nl0)) nl0)) Qbx)⟩
def Qb6 (N:Nat) (p0:(List Int)) (k2:Unit→Option Int):Nat→Int→Option Int
  | 0,_=>none
  | n5+1,y3=>
    bif (decide (y3<(p0.length:Int))) then
     (getI p0 y3).bind fun x7=>
     (Qf2 N x7).bind fun x12=>
     bif x12 then
      some y3
     else
      Qb6 N p0 k2 n5 (w64 (y3+1))
    else
     k2 ()
def Qd6 (N:Nat) (p0:(List Int)):Option Int:=
  Qbh (fun _=>
    some (-1)) fun k2:Unit→Option Int=>
  Qb6 N p0 k2 N 0
def Q09 (p0:(List Int)):AV:=.dat 1 ((p0:List Int).map Qak)
def Q59:AV:=.fn (.func 157) [] [(.ref 0 1 (0) 0)]
def Qnx:Slot:=.own 1 [[(.fn (.func 150) [] [])]]
theorem Qje (N:Nat) (p0:(List Int)) (r:Int) (h:Qd6 N p0=some r):Spec Tryz.prog 141 [(Q09 p0),Q59] [Qnx] (I (r)) [Qnx]:=by
  refine Qai Tryz.func141 rfl 1 (nle rfl) (fun X φ0 w0 hφ0 hd0=>?_)
  unfold Qd6 at h
  refine Qb1<|wxz ?_
  obtain ⟨k2,hk_k2,h⟩:=jko h
  refine wjn (τ:=Unit) (fun t=>k2 t=some r) (fun _=>⟨mk 19 [],[Qnx]⟩) (fun t h=>?_) ?_
  ·subst hk_k2
   refine wxz<|wmr (mto (n:=19) (l':=[(4,(I ((-1))))]) (own':=[Qnx]) [(4,(I ((-1))))] [0] [Qnx] hφ0 (pc rwl pn) (qc (spb (lc (.rn (Qbr rn0 rn0)) ln)) qn))<|Qaf ?_
   obtain rfl:=osi h
   exact ⟨_,Mor.rfl,Qdb (vs:=[(I ((-1)))]) ⟨rot,trivial⟩ rfl (NLt.of0 nll) (by kernel_rfl) (Qao (Qbg (nlc (NLt.of0 (NLt.fn _ _ _ nl0 nl0)) nl0)) Qbx)⟩
  ·skip
   refine wx tbk [(1,rp [(.tmp 6,(Q09 p0))] (I ((p0.length:Int))))] ⟨alm (c:=Qak) (l:=p0) (aln rfl Tryz.underlying27 rfl),trivial⟩<|Qal ?_
   refine wmr (mto (n:=19) (l':=[(0,(Q09 p0)),(1,Q59),(7,(I ((p0.length:Int)))),(8,I 0)]) (own':=[Qnx]) [(0,(Q09 p0)),(1,Q59),(7,(I ((p0.length:Int)))),(8,I 0)] [0] [Qnx] hφ0 (pc (rnd Qae) (pc (.rn (Qbr rn0 (rnc (rqr rfl) rn0))) (pc rwl (pc rwl pn)))) (qc (spb (lc (.rn (Qbr rn0 rn0)) ln)) qn)) ?_
   refine Qby (τ:=Int) (fun n t=>Qb6 N p0 k2 n t=some r) (fun y3=>⟨mk 19 [(0,(Q09 p0)),(1,Q59),(7,(I ((p0.length:Int)))),(8,I y3)],[Qnx]⟩) (fun t h=>by rw [Qb6] at h; cases h) (fun n5 ih y3 h=>?_) N (0) h
   rw [Qb6] at h
   skip
   refine wxz<|wsq ?_
   refine bfe h (fun hc6 h=>?_) fun hc6 h=>?_
   ·refine wft hc6<|Qam<|thn<|wsq<|Qal<|wxz ?_
    obtain ⟨x7,hg8,h⟩:=bno h
    obtain ⟨hi9,hj10⟩:=gsm hg8
    obtain ⟨x12,hf11,h⟩:=bno h
    refine wx tbk [(3,rp [(.tmp 12,(Q09 p0)),(.tmp 13,I y3)] (.dptr (Qak (x7)) 0)),(5,⟨[(.tmp 11,Q59),(.tmp 15,I x7)],[(0,Qnx)],B x12,[(0,Qnx)],false⟩)] ⟨aid rfl Tryz.underlying27 ti3 rfl rfl hi9 (mgt Qak hj10) rfl,Qat (first:=[]) (cap:=[.ref 0 1 0 0]) (vs:=[I x7]) (σr:=[Qnx]) (σr':=[Qnx]) (res':=(B x12)) [0] rfl Zeb (Qm4 N x7 _ hf11) rfl (Qbu (rnc (.plain _ nll) (rnc (Qbp rfl) rn0))) (slc (Qaq (rnc (.plain _ (NLt.fn _ _ _ nl0 nl0)) rn0)) Qar) (slc (Qaq (rnc (.plain _ (NLt.fn _ _ _ nl0 nl0)) rn0)) Qar) (.plain _ nll) rfl rfl rfl,trivial⟩ ?_
    refine bfe h (fun hc13 h=>?_) fun hc13 h=>?_
    ·refine wft hc13<|wxz ?_
     refine wmr (mto (n:=19) (l':=[(4,I y3)]) (own':=[Qnx]) [(4,I y3)] [0] [Qnx] hφ0 (pc rwl pn) (qc (spb (lc (.rn (Qbr rn0 rn0)) ln)) qn))<|Qaf<|Qap<|Qag<|Qag<|Qap<|Qag ?_
     obtain rfl:=osi h
     exact ⟨_,Mor.rfl,Qdb (vs:=[I y3]) ⟨rot,trivial⟩ rfl (NLt.of0 nll) (by kernel_rfl) (Qao (Qbg (nlc (NLt.of0 (NLt.fn _ _ _ nl0 nl0)) nl0)) Qbx)⟩
    ·exact wfn hc13<|Qam<|bln<|thn<|wxz1<|thn<|arm (mto (n:=19) [(0,(Q09 p0)),(1,Q59),(7,(I ((p0.length:Int)))),(8,(I (w64 (y3+1))))] [0] [Qnx] hφ0 (pc (rnd Qae) (pc (.rn (Qbr rn0 (rnc (rqr rfl) rn0))) (pc rwl (pc rwl pn)))) (qc (spb (lc (.rn (Qbr rn0 rn0)) ln)) qn)) (ih (w64 (y3+1)) h)
   ·exact wfn hc6<|Qbj<|Qav<|Qav<|Qbi rfl<|thn<|⟨(),h,(mto (n:=19) [] [0] [Qnx] hφ0 pn (qc (spb (lc (.rn (Qbr rn0 rn0)) ln)) qn))⟩
def Qcx (N:Nat) (p0:(List Int)):Option Bool:=
  (Qd6 N p0).bind fun x3=>
  some (decide (x3≥0))
def Zif (p0:(List Int)):AV:=.dat 1 ((p0:List Int).map Qak)
def Zie:AV:=.fn (.func 157) [] [(.ref 0 1 (0) 0)]
def Qyc:Slot:=.own 1 [[(.fn (.func 150) [] [])]]
theorem Qie (N:Nat) (p0:(List Int)) (r:Bool) (h:Qcx N p0=some r):Spec Tryz.prog 126 [(Zif p0),Zie] [Qyc] (B (r)) [Qyc]:=by
  refine Qai Tryz.func126 rfl 1 (nle rfl) (fun X φ0 w0 hφ0 hd0=>?_)
  unfold Qcx at h
  refine Qb1<|wxz ?_
  obtain ⟨x3,hf2,h⟩:=bno h
  refine wx tbk [(2,⟨[fu 141,(.tmp 5,(Zif p0)),(.tmp 6,Zie)],[(0,Qyc)],I x3,[(0,Qyc)],false⟩)] ⟨Qat (first:=[]) (cap:=[]) (vs:=[(Zif p0),Zie]) (σr:=[Qyc]) (σr':=[Qyc]) (res':=(I x3)) [0] rfl Qpz (Qje N p0 _ hf2) rfl (Qbu (rnc (pld Qae) (rnc (Qbr rn0 (rnc (Qbp rfl) rn0)) rn0))) (slc (Qaq (rnc (.plain _ (NLt.fn _ _ _ nl0 nl0)) rn0)) Qar) (slc (Qaq (rnc (.plain _ (NLt.fn _ _ _ nl0 nl0)) rn0)) Qar) (.plain _ nll) rfl rfl rfl,trivial⟩ ?_
  refine wmr (mto (n:=9) (l':=[(4,(B ((decide (x3≥0)))))]) (own':=[Qyc]) [(4,(B ((decide (x3≥0)))))] [0] [Qyc] hφ0 (pc rwl pn) (qc (spb (lc (.rn (Qbr rn0 rn0)) ln)) qn))<|Qaf ?_
  obtain rfl:=osi h
  exact ⟨_,Mor.rfl,Qdb (vs:=[(B ((decide (x3≥0))))]) ⟨rot,trivial⟩ rfl (NLt.of0 nll) (by kernel_rfl) (Qao (Qbg (nlc (NLt.of0 (NLt.fn _ _ _ nl0 nl0)) nl0)) Qbx)⟩
def Qgx (N:Nat) (p0:(List Int)):Option Bool:=
  (Qcx N p0).bind fun x2=>
  some (!x2)
def Zih (p0:(List Int)):AV:=.dat 1 ((p0:List Int).map Qak)
def Zig:AV:=.fn (.func 157) [] [(.ref 0 1 (0) 0)]
def Zco:Slot:=.own 1 [[(.fn (.func 150) [] [])]]
theorem Qkn (N:Nat) (p0:(List Int)) (r:Bool) (h:Qgx N p0=some r):Spec Tryz.prog 151 [(Zih p0),(.fn (.func 150) [] [])] [] (B (r)) []:=by
  refine Qai Tryz.func151 rfl 0 (nle rfl) (fun X φ0 w0 hφ0 hd0=>?_)
  unfold Qgx at h
  refine wxz ?_
  obtain ⟨x2,hf1,h⟩:=bno h
  refine wx tbk [(1,rp [(.tmp 3,.ref 0 1 0 0)] Zig),(2,⟨[fu 126,(.tmp 5,(Zih p0)),(.tmp 6,Zig)],[(0,Zco)],B x2,[(0,Zco)],false⟩)] ⟨Qfz (fs:=[]) (cs:=[.ref 0 1 0 0]) rfl rfl rfl rfl,Qat (first:=[]) (cap:=[]) (vs:=[(Zih p0),Zig]) (σr:=[Zco]) (σr':=[Zco]) (res':=(B x2)) [0] rfl Qp0 (Qie N p0 _ hf1) rfl (Qbu (rnc (pld Qae) (rnc (Qbr rn0 (rnc (Qbp rfl) rn0)) rn0))) (slc (Qaq (rnc (.plain _ (NLt.fn _ _ _ nl0 nl0)) rn0)) Qar) (slc (Qaq (rnc (.plain _ (NLt.fn _ _ _ nl0 nl0)) rn0)) Qar) (.plain _ nll) rfl rfl rfl,trivial⟩<|Qaf ?_
  obtain rfl:=osi h
  exact fend ⟨[(B ((!x2)))],⟨rot,trivial⟩,rfl⟩ nll
def Qi3 (_N:Nat) (p0:Int):Option Bool:=
  some (decide (p0>0))
theorem Qqn (N:Nat) (p0:Int) (r:Bool) (h:Qi3 N p0=some r):Spec Tryz.prog 152 [(I p0)] [] (B r) []:=by
  refine Qai Tryz.func152 rfl 0 (nle rfl) (fun X φ0 w0 hφ0 hd0=>?_)
  unfold Qi3 at h
  refine wxz<|wxz<|Qaf ?_
  obtain rfl:=osi h
  exact fend ⟨[(B ((decide (p0>0))))],⟨rot,trivial⟩,rfl⟩ nll
def Qb5 (N:Nat) (p0:(List Int)) (k1:Unit→Option Int):Nat→Int→Option Int
  | 0,_=>none
  | n4+1,y2=>
    bif (decide (y2<(p0.length:Int))) then
     (getI p0 y2).bind fun x6=>
     (Qi3 N x6).bind fun x11=>
     bif x11 then
      some y2
     else
      Qb5 N p0 k1 n4 (w64 (y2+1))
    else
     k1 ()
def Qd5 (N:Nat) (p0:(List Int)):Option Int:=
  Qbh (fun _=>
    some (-1)) fun k1:Unit→Option Int=>
  Qb5 N p0 k1 N 0
def Q08 (p0:(List Int)):AV:=.dat 1 ((p0:List Int).map Qak)
theorem Qjd (N:Nat) (p0:(List Int)) (r:Int) (h:Qd5 N p0=some r):Spec Tryz.prog 141 [(Q08 p0),(.fn (.func 152) [] [])] [] (I (r)) []:=by
  refine Qai Tryz.func141 rfl 0 (nle rfl) (fun X φ0 w0 hφ0 hd0=>?_)
  unfold Qd5 at h
  refine wxz ?_
  obtain ⟨k1,hk_k1,h⟩:=jko h
  refine wjn (τ:=Unit) (fun t=>k1 t=some r) (fun _=>⟨mk 19 [],[]⟩) (fun t h=>?_) ?_
  ·subst hk_k1
   refine wxz<|Qaf ?_
   obtain rfl:=osi h
   exact fend ⟨[(I ((-1)))],⟨rot,trivial⟩,rfl⟩ nll
  ·skip
   refine wx tbk [(1,rp [(.tmp 6,(Q08 p0))] (I ((p0.length:Int))))] ⟨alm (c:=Qak) (l:=p0) (aln rfl Tryz.underlying27 rfl),trivial⟩<|Qal ?_
   refine wmr (mto (n:=19) (l':=[(0,(Q08 p0)),(1,(.fn (.func 152) [] [])),(7,(I ((p0.length:Int)))),(8,I 0)]) (own':=[]) [(0,(Q08 p0)),(1,(.fn (.func 152) [] [])),(7,(I ((p0.length:Int)))),(8,I 0)] [] [] hφ0 (pc (rnd Qae) (pc (.rn (Qbr rn0 rn0)) (pc rwl (pc rwl pn)))) qn) ?_
   refine Qby (τ:=Int) (fun n t=>Qb5 N p0 k1 n t=some r) (fun y2=>⟨mk 19 [(0,(Q08 p0)),(1,(.fn (.func 152) [] [])),(7,(I ((p0.length:Int)))),(8,I y2)],[]⟩) (fun t h=>by rw [Qb5] at h; cases h) (fun n4 ih y2 h=>?_) N (0) h
   rw [Qb5] at h
   skip
   refine wxz<|wsq ?_
   refine bfe h (fun hc5 h=>?_) fun hc5 h=>?_
   ·refine wft hc5<|Qam<|thn<|wsq<|Qal<|wxz ?_
    obtain ⟨x6,hg7,h⟩:=bno h
    obtain ⟨hi8,hj9⟩:=gsm hg7
    obtain ⟨x11,hf10,h⟩:=bno h
    refine wx tbk [(3,rp [(.tmp 12,(Q08 p0)),(.tmp 13,I y2)] (.dptr (Qak (x6)) 0)),(5,rp [(.tmp 11,(.fn (.func 152) [] [])),(.tmp 15,I x6)] (B x11))] ⟨aid rfl Tryz.underlying27 ti3 rfl rfl hi8 (mgt Qak hj9) rfl,apc (first:=[]) (cap:=[]) (vs:=[I x6]) rfl Zef (Qqn N x6 _ hf10) rfl rfl (nlc nll nl0) nll rfl,trivial⟩ ?_
    refine bfe h (fun hc12 h=>?_) fun hc12 h=>?_
    ·refine wft hc12<|wxz<|Qaf<|Qap<|Qag<|Qag<|Qap<|Qag ?_
     obtain rfl:=osi h
     exact fend ⟨[I y2],⟨rot,trivial⟩,rfl⟩ nll
    ·exact wfn hc12<|Qam<|bln<|thn<|wxz1<|thn<|arm (mto (n:=19) [(0,(Q08 p0)),(1,(.fn (.func 152) [] [])),(7,(I ((p0.length:Int)))),(8,(I (w64 (y2+1))))] [] [] hφ0 (pc (rnd Qae) (pc (.rn (Qbr rn0 rn0)) (pc rwl (pc rwl pn)))) qn) (ih (w64 (y2+1)) h)
   ·exact wfn hc5<|Qbj<|Qav<|Qav<|Qbi rfl<|thn<|⟨(),h,(mto (n:=19) [] [] [] hφ0 pn qn)⟩
def Qcg (N:Nat) (p0:(List Int)):Option Bool:=
  (Qd5 N p0).bind fun x2=>
  some (decide (x2≥0))
def Zid (p0:(List Int)):AV:=.dat 1 ((p0:List Int).map Qak)
theorem Qid (N:Nat) (p0:(List Int)) (r:Bool) (h:Qcg N p0=some r):Spec Tryz.prog 126 [(Zid p0),(.fn (.func 152) [] [])] [] (B (r)) []:=by
  refine Qai Tryz.func126 rfl 0 (nle rfl) (fun X φ0 w0 hφ0 hd0=>?_)
  unfold Qcg at h
  refine wxz ?_
  obtain ⟨x2,hf1,h⟩:=bno h
  refine wx tbk [(2,rp [fu 141,(.tmp 5,(Zid p0)),(.tmp 6,(.fn (.func 152) [] []))] (I x2))] ⟨Qat (first:=[]) (cap:=[]) (vs:=[(Zid p0),(.fn (.func 152) [] [])]) (σr:=[]) (σr':=[]) (res':=(I x2)) [] rfl Qpz (Qjd N p0 _ hf1) rfl (Qbu (rnc (pld Qae) (rnc (.plain _ (NLt.fn _ _ _ nl0 nl0)) rn0))) Qar Qar (.plain _ nll) rfl rfl rfl,trivial⟩<|Qaf ?_
  obtain rfl:=osi h
  exact fend ⟨[(B ((decide (x2≥0))))],⟨rot,trivial⟩,rfl⟩ nll
def Qfg (_N:Nat) (p0:Int) (p1:Int) (p2:Int):Option Int:=
  chk (p2 != 0)<|
  some ((w64 (p1 * p0)).tmod p2)
theorem Qj9 (N:Nat) (p0:Int) (p1:Int) (p2:Int) (r:Int) (h:Qfg N p0 p1 p2=some r):Spec Tryz.prog 159 [(I (p0)),(.ref 0 1 (0) 0),(.ref 1 1 (0) 0)] [(.own 1 [[(I (p1))]]),(.own 1 [[(I (p2))]])] (I (r)) [(.own 1 [[(I (p1))]]),(.own 1 [[(I (p2))]])]:=by
  refine Qai Tryz.func159 rfl 2 (nle rfl) (fun X φ0 w0 hφ0 hd0=>?_)
  unfold Qfg at h
  refine Qb1<|wxz ?_
  obtain ⟨hz2,h⟩:=cko h
  refine wx tbk [(4,rp [(.tmp 7,(I (w64 (p1 * p0)))),(.tmp 8,I p2)] (I ((w64 (p1 * p0)).tmod p2)))] ⟨Que rfl (Qkx hz2),trivial⟩ ?_
  refine wmr (mto (n:=10) (l':=[(4,(I ((w64 (p1 * p0)).tmod p2)))]) (own':=[(.own 1 [[I p1]]),(.own 1 [[I p2]])]) [(4,(I ((w64 (p1 * p0)).tmod p2)))] [0,1] [(.own 1 [[I p1]]),(.own 1 [[I p2]])] hφ0 (pc rwl pn) (qc (spb (lc rwl ln)) (qc (spb (lc rwl ln)) qn)))<|Qaf ?_
  obtain rfl:=osi h
  exact ⟨_,Mor.rfl,Qdb (vs:=[(I ((w64 (p1 * p0)).tmod p2))]) ⟨rot,trivial⟩ rfl (NLt.of0 nll) (by kernel_rfl) (Qao (Qbg (nlc (NLt.of0 nll) nl0)) (Qao (Qbg (nlc (NLt.of0 nll) nl0)) Qbx))⟩
def Qet (N:Nat) (p0:Int) (p1:Int) (p2:(List Int)) (p3:Int) (p4:Int):Option Int:=
  (getI p2 p1).bind fun x2=>
  (Qfg N x2 p3 p4).bind fun x7=>
  (getI p2 p0).bind fun x8=>
  (Qfg N x8 p3 p4).bind fun x13=>
  some (w64 (x7 - x13))
def Q58:AV:=.fn (.func 159) [] [(.ref 2 1 (0) 0),(.ref 3 1 (0) 0)]
def Q57 (p2:(List Int)):AV:=.dat 1 ((p2:List Int).map Qak)
theorem Qlp (N:Nat) (p0:Int) (p1:Int) (p2:(List Int)) (p3:Int) (p4:Int) (r:Int) (h:Qet N p0 p1 p2 p3 p4=some r):Spec Tryz.prog 163 [(I (p0)),(I (p1)),(.ref 0 1 (0) 0),(.ref 1 1 (0) 0)] [(.own 1 [[Q58]]),(.own 1 [[(Q57 p2)]]),(.own 1 [[(I (p3))]]),(.own 1 [[(I (p4))]])] (I (r)) [(.own 1 [[Q58]]),(.own 1 [[(Q57 p2)]]),(.own 1 [[(I (p3))]]),(.own 1 [[(I (p4))]])]:=by
  refine Qai Tryz.func163 rfl 4 (nle rfl) (fun X φ0 w0 hφ0 hd0=>?_)
  unfold Qet at h
  refine Qb1<|wxz ?_
  obtain ⟨x2,hg3,h⟩:=bno h
  obtain ⟨hi4,hj5⟩:=gsm hg3
  obtain ⟨x7,hf6,h⟩:=bno h
  obtain ⟨x8,hg9,h⟩:=bno h
  obtain ⟨hi10,hj11⟩:=gsm hg9
  obtain ⟨x13,hf12,h⟩:=bno h
  refine wxd tbk [(3,rp [(.tmp 8,(Q57 p2)),(.tmp 9,I p1)] (.dptr (Qak (x2)) 0)),(5,⟨[(.tmp 7,Q58),(.tmp 11,I x2)],[(2,.own 1 [[I p3]]),(3,.own 1 [[I p4]])],I x7,[(2,.own 1 [[I p3]]),(3,.own 1 [[I p4]])],false⟩),(9,rp [(.tmp 14,(Q57 p2)),(.tmp 15,I p0)] (.dptr (Qak (x8)) 0)),(11,⟨[(.tmp 13,Q58),(.tmp 17,I x8)],[(2,.own 1 [[I p3]]),(3,.own 1 [[I p4]])],I x13,[(2,.own 1 [[I p3]]),(3,.own 1 [[I p4]])],false⟩)] ⟨aid rfl Tryz.underlying27 ti3 rfl rfl hi4 (mgt Qak hj5) rfl,Qat (first:=[]) (cap:=[.ref 2 1 0 0,.ref 3 1 0 0]) (vs:=[I x2]) (σr:=[(.own 1 [[I p3]]),(.own 1 [[I p4]])]) (σr':=[(.own 1 [[I p3]]),(.own 1 [[I p4]])]) (res':=(I x7)) [2,3] rfl Q47 (Qj9 N x2 p3 p4 _ hf6) rfl (Qbu (rnc (.plain _ nll) (rnc (Qbp rfl) (rnc (Qbp rfl) rn0)))) (slc (Qaq (rnc (.plain _ nll) rn0)) (slc (Qaq (rnc (.plain _ nll) rn0)) Qar)) (slc (Qaq (rnc (.plain _ nll) rn0)) (slc (Qaq (rnc (.plain _ nll) rn0)) Qar)) (.plain _ nll) rfl rfl rfl,aid rfl Tryz.underlying27 ti3 rfl rfl hi10 (mgt Qak hj11) rfl,Qat (first:=[]) (cap:=[.ref 2 1 0 0,.ref 3 1 0 0]) (vs:=[I x8]) (σr:=[(.own 1 [[I p3]]),(.own 1 [[I p4]])]) (σr':=[(.own 1 [[I p3]]),(.own 1 [[I p4]])]) (res':=(I x13)) [2,3] rfl Q47 (Qj9 N x8 p3 p4 _ hf12) rfl (Qbu (rnc (.plain _ nll) (rnc (Qbp rfl) (rnc (Qbp rfl) rn0)))) (slc (Qaq (rnc (.plain _ nll) rn0)) (slc (Qaq (rnc (.plain _ nll) rn0)) Qar)) (slc (Qaq (rnc (.plain _ nll) rn0)) (slc (Qaq (rnc (.plain _ nll) rn0)) Qar)) (.plain _ nll) rfl rfl rfl,trivial⟩ ?_
  refine wmr (mto (n:=20) (l':=[(6,(I (w64 (x7 - x13))))]) (own':=[(.own 1 [[Q58]]),(.own 1 [[(Q57 p2)]]),(.own 1 [[I p3]]),(.own 1 [[I p4]])]) [(6,(I (w64 (x7 - x13))))] [0,1,2,3] [(.own 1 [[Q58]]),(.own 1 [[(Q57 p2)]]),(.own 1 [[I p3]]),(.own 1 [[I p4]])] hφ0 (pc rwl pn) (qc (spb (lc (.rn (Qbr rn0 (rnc (rqr rfl) (rnc (rqr rfl) rn0)))) ln)) (qc (spb (lc (rnd Qae) ln)) (qc (spb (lc rwl ln)) (qc (spb (lc rwl ln)) qn)))))<|Qaf ?_
  obtain rfl:=osi h
  exact ⟨_,Mor.rfl,Qdb (vs:=[(I (w64 (x7 - x13)))]) ⟨rot,trivial⟩ rfl (NLt.of0 nll) (by kernel_rfl) (Qao (Qbg (nlc (NLt.fn _ _ _ nl0 (nlc (NLt.ref _ _ _ _ (by decide)) (nlc (NLt.ref _ _ _ _ (by decide)) nl0))) nl0)) (Qao (Qbg (nlc (NLt.of0 (nld Qae _)) nl0)) (Qao (Qbg (nlc (NLt.of0 nll) nl0)) (Qao (Qbg (nlc (NLt.of0 nll) nl0)) Qbx))))⟩
def Qbf (N:Nat) (p0:Nat) (p1:Int) (p4:(List Int)) (p5:Int) (p6:Int) (k9:(List Int)→Option (List Int)):Nat→Int→(List Int)→Option (List Int)
  | 0,_,_=>none
  | n14+1,y10,y11=>
    Qbh (fun _=>
      chk (decide (0≤w64 (y10 - 1))&&decide ((w64 (y10 - 1)).toNat<p0))<|
      (y11[(w64 (y10 - 1)).toNat]?).bind fun x17=>
      chk (decide (0≤y10)&&decide (y10.toNat<p0))<|
      (y11[y10.toNat]?).bind fun x20=>
      chk (decide (0≤y10)&&decide (y10.toNat<p0))<|
      (y11[y10.toNat]?).bind fun _=>
      chk (decide (0≤w64 (y10 - 1))&&decide ((w64 (y10 - 1)).toNat<p0))<|
      ((y11.set y10.toNat x17)[(w64 (y10 - 1)).toNat]?).bind fun _=>
      Qbf N p0 p1 p4 p5 p6 k9 n14 (w64 (y10 - 1)) ((y11.set y10.toNat x17).set ((w64 (y10 - 1)).toNat) x20)) fun k15:Unit→Option (List Int)=>
    bif (decide (y10>p1)) then
     chk (decide (0≤y10)&&decide (y10.toNat<p0))<|
     (y11[y10.toNat]?).bind fun x30=>
     chk (decide (0≤w64 (y10 - 1))&&decide ((w64 (y10 - 1)).toNat<p0))<|
     (y11[(w64 (y10 - 1)).toNat]?).bind fun x33=>
     (Qet N x30 x33 p4 p5 p6).bind fun x36=>
     bif (decide (x36<0)) then
      k15 ()
     else
      k9 (y11)
    else
     k9 (y11)
def Qa8 (N:Nat) (p0:Nat) (p1:Int) (p2:Int) (p4:(List Int)) (p5:Int) (p6:Int):Nat→Int→(List Int)→Option (List Int)
  | 0,_,_=>none
  | n6+1,y2,y3=>
    bif (decide (y2<p2)) then
     Qbh (fun y8=>
       Qa8 N p0 p1 p2 p4 p5 p6 n6 (w64 (y2+1)) y8) fun k9:(List Int)→Option (List Int)=>
     Qbf N p0 p1 p4 p5 p6 k9 N y2 y3
    else
     some y3
def Qbk (N:Nat) (p0:Nat) (p1:Int) (p2:Int) (p3:(List Int)) (p4:(List Int)) (p5:Int) (p6:Int):Option (List Int):=
  Qa8 N p0 p1 p2 p4 p5 p6 N (w64 (p1+1)) p3
def Qog:AV:=.fn (.func 163) [] [(.ref 1 1 (0) 0),(.ref 2 1 (0) 0)]
def Zh8 (p3:(List Int)):Slot:=.own 1 ((p3:List Int).map Qak)
def Qlc:AV:=.fn (.func 159) [] [(.ref 3 1 (0) 0),(.ref 4 1 (0) 0)]
def Qlb (p4:(List Int)):AV:=.dat 1 ((p4:List Int).map Qak)
def Q8u (y3:(List Int)):Slot:=.own 1 ((y3:List Int).map Qak)
def Qkk (y11:(List Int)):Slot:=.own 1 ((y11:List Int).map Qak)
theorem Qfa (N:Nat) (p0:Nat) (p1:Int) (p2:Int) (p3:(List Int)) (p4:(List Int)) (p5:Int) (p6:Int) (r:(List Int)) (h:Qbk N p0 p1 p2 p3 p4 p5 p6=some r):Spec Tryz.prog 165 [(.own 0 1 (0) (p0)),(I (p1)),(I (p2)),Qog] [(Zh8 p3),(.own 1 [[Qlc]]),(.own 1 [[(Qlb p4)]]),(.own 1 [[(I (p5))]]),(.own 1 [[(I (p6))]])] (.tup []) [(.own 1 ((r:List Int).map Qak)),(.own 1 [[Qlc]]),(.own 1 [[(Qlb p4)]]),(.own 1 [[(I (p5))]]),(.own 1 [[(I (p6))]])]:=by
  refine Qai Tryz.func165 rfl 5 (nle rfl) (fun X φ0 w0 hφ0 hd0=>?_)
  unfold Qbk at h
  refine Qb1<|wxz<|Qal ?_
  refine wmr (mto (n:=53) (l':=[(0,(.own 0 1 (0) (p0))),(1,I p1),(2,I p2),(3,Qog),(8,(I ((w64 (p1+1)))))]) (own':=[(Zh8 p3),(.own 1 [[Qlc]]),(.own 1 [[(Qlb p4)]]),(.own 1 [[I p5]]),(.own 1 [[I p6]])]) [(0,(.own 0 1 (0) (p0))),(1,I p1),(2,I p2),(3,Qog),(8,(I (w64 (p1+1))))] [0,1,2,3,4] [(Zh8 p3),(.own 1 [[Qlc]]),(.own 1 [[(Qlb p4)]]),(.own 1 [[I p5]]),(.own 1 [[I p6]])] hφ0 (pc (.rn (Qa4 rfl)) (pc rwl (pc rwl (pc (.rn (Qbr rn0 (rnc (rqr rfl) (rnc (rqr rfl) rn0)))) (pc rwl pn))))) (qc (spr Qae) (qc (spb (lc (.rn (Qbr rn0 (rnc (rqr rfl) (rnc (rqr rfl) rn0)))) ln)) (qc (spb (lc (rnd Qae) ln)) (qc (spb (lc rwl ln)) (qc (spb (lc rwl ln)) qn)))))) ?_
  refine Qby (τ:=Int×(List Int)) (fun n t=>Qa8 N p0 p1 p2 p4 p5 p6 n t.1 t.2=some r) (fun ⟨y2,y3⟩=>⟨mk 53 [(0,(.own 0 1 (0) (p0))),(1,I p1),(2,I p2),(3,Qog),(8,I y2)],[(Q8u y3),(.own 1 [[Qlc]]),(.own 1 [[(Qlb p4)]]),(.own 1 [[I p5]]),(.own 1 [[I p6]])]⟩) (fun t h=>by rw [Qa8] at h; cases h) (fun n6 ih t h=>?_) N (w64 (p1+1),p3) h
  obtain ⟨y2,y3⟩:=t
  rw [Qa8] at h
  skip
  refine wsq<|wxz ?_
  refine bfe h (fun hc7 h=>?_) fun hc7 h=>?_
  ·refine wft hc7<|Qam<|thn ?_
   obtain ⟨k9,hk_k9,h⟩:=jko h
   refine wjn (τ:=(List Int)) (fun t=>k9 t=some r) (fun y8=>⟨mk 53 [(0,(.own 0 1 (0) (p0))),(1,I p1),(2,I p2),(3,Qog),(8,I y2)],[(.own 1 ((y8:List Int).map Qak)),(.own 1 [[Qlc]]),(.own 1 [[(Qlb p4)]]),(.own 1 [[I p5]]),(.own 1 [[I p6]])]⟩) (fun y8 h=>?_) ?_
   ·subst hk_k9
    exact wxz1<|thn<|arm (mto (n:=53) [(0,(.own 0 1 (0) (p0))),(1,I p1),(2,I p2),(3,Qog),(8,(I (w64 (y2+1))))] [0,1,2,3,4] [(.own 1 ((y8:List Int).map Qak)),(.own 1 [[Qlc]]),(.own 1 [[(Qlb p4)]]),(.own 1 [[I p5]]),(.own 1 [[I p6]])] hφ0 (pc (.rn (Qa4 rfl)) (pc rwl (pc rwl (pc (.rn (Qbr rn0 (rnc (rqr rfl) (rnc (rqr rfl) rn0)))) (pc rwl pn))))) (qc (spr Qae) (qc (spb (lc (.rn (Qbr rn0 (rnc (rqr rfl) (rnc (rqr rfl) rn0)))) ln)) (qc (spb (lc (rnd Qae) ln)) (qc (spb (lc rwl ln)) (qc (spb (lc rwl ln)) qn)))))) (ih (w64 (y2+1),y8) h)
   ·skip
    refine Qal<|wxz<|Qal ?_
    refine wmr (mto (n:=53) (l':=[(0,(.own 0 1 (0) (p0))),(1,I p1),(2,I p2),(3,Qog),(8,I y2),(9,I y2)]) (own':=[(Q8u y3),(.own 1 [[Qlc]]),(.own 1 [[(Qlb p4)]]),(.own 1 [[I p5]]),(.own 1 [[I p6]])]) [(0,(.own 0 1 (0) (p0))),(1,I p1),(2,I p2),(3,Qog),(8,I y2),(9,I y2)] [0,1,2,3,4] [(Q8u y3),(.own 1 [[Qlc]]),(.own 1 [[(Qlb p4)]]),(.own 1 [[I p5]]),(.own 1 [[I p6]])] hφ0 (pc (.rn (Qa4 rfl)) (pc rwl (pc rwl (pc (.rn (Qbr rn0 (rnc (rqr rfl) (rnc (rqr rfl) rn0)))) (pc rwl (pc rwl pn)))))) (qc (spr Qae) (qc (spb (lc (.rn (Qbr rn0 (rnc (rqr rfl) (rnc (rqr rfl) rn0)))) ln)) (qc (spb (lc (rnd Qae) ln)) (qc (spb (lc rwl ln)) (qc (spb (lc rwl ln)) qn)))))) ?_
    refine Qby (τ:=Int×(List Int)) (fun n t=>Qbf N p0 p1 p4 p5 p6 k9 n t.1 t.2=some r) (fun ⟨y10,y11⟩=>⟨mk 53 [(0,(.own 0 1 (0) (p0))),(1,I p1),(2,I p2),(3,Qog),(8,I y2),(9,I y10)],[(Qkk y11),(.own 1 [[Qlc]]),(.own 1 [[(Qlb p4)]]),(.own 1 [[I p5]]),(.own 1 [[I p6]])]⟩) (fun t h=>by rw [Qbf] at h; cases h) (fun n14 ih t h=>?_) N (y2,y3) h
    obtain ⟨y10,y11⟩:=t
    rw [Qbf] at h
    skip
    obtain ⟨k15,hk_k15,h⟩:=jko h
    refine wjn (τ:=Unit) (fun t=>k15 t=some r) (fun _=>⟨mk 53 [(0,(.own 0 1 (0) (p0))),(1,I p1),(2,I p2),(3,Qog),(8,I y2),(9,I y10)],[(Qkk y11),(.own 1 [[Qlc]]),(.own 1 [[(Qlb p4)]]),(.own 1 [[I p5]]),(.own 1 [[I p6]])]⟩) (fun t h=>?_) ?_
    ·subst hk_k15
     refine wsq<|Qal ?_
     obtain ⟨hi16,h⟩:=cko h
     obtain ⟨hi16a,hi16b⟩:=Qdv hi16
     obtain ⟨x17,hg18,h⟩:=bno h
     obtain ⟨hi19,h⟩:=cko h
     obtain ⟨hi19a,hi19b⟩:=Qdv hi19
     obtain ⟨x20,hg21,h⟩:=bno h
     obtain ⟨hi22,h⟩:=cko h
     obtain ⟨hi22a,hi22b⟩:=Qdv hi22
     obtain ⟨x23,hg24,h⟩:=bno h
     obtain ⟨hi25,h⟩:=cko h
     obtain ⟨hi25a,hi25b⟩:=Qdv hi25
     obtain ⟨x26,hg27,h⟩:=bno h
     refine wy1 tbk [(8,rb [(.tmp 42,(.own 0 1 (0) (p0))),(.tmp 44,(I (w64 (y10 - 1))))] [(0,(Qkk y11))] (.ref 0 1 ((w64 (y10 - 1)).toNat) 0)),(9,rb [(.tmp 45,(.ref 0 1 ((w64 (y10 - 1)).toNat) 0))] [(0,(Qkk y11))] (I x17)),(12,rb [(.tmp 47,(.own 0 1 (0) (p0))),(.tmp 48,I y10)] [(0,(Qkk y11))] (.ref 0 1 (y10.toNat) 0)),(13,rb [(.tmp 49,(.ref 0 1 (y10.toNat) 0))] [(0,(Qkk y11))] (I x20)),(14,rb [(.tmp 37,(.own 0 1 (0) (p0))),(.tmp 38,I y10)] [(0,(Qkk y11))] (.ref 0 1 (y10.toNat) 0)),(15,⟨[(.tmp 51,(.ref 0 1 (y10.toNat) 0)),(.tmp 46,I x17)],[(0,(Qkk y11))],.any,[(0,(.own 1 ((y11.set y10.toNat x17:List Int).map Qak)))],false⟩),(16,rb [(.tmp 39,(.own 0 1 (0) (p0))),(.tmp 41,(I (w64 (y10 - 1))))] [(0,(.own 1 ((y11.set y10.toNat x17:List Int).map Qak)))] (.ref 0 1 ((w64 (y10 - 1)).toNat) 0)),(17,⟨[(.tmp 52,(.ref 0 1 ((w64 (y10 - 1)).toNat) 0)),(.tmp 50,I x20)],[(0,(.own 1 ((y11.set y10.toNat x17:List Int).map Qak)))],.any,[(0,(.own 1 (((y11.set y10.toNat x17).set ((w64 (y10 - 1)).toNat) x20:List Int).map Qak)))],false⟩)] ⟨aio rfl Tryz.underlying27 ti3 (odt hi16a) (odt hi16b) (Nat.zero_add _),ald rfl ti3 (by decide) (mgt Qak hg18) (nle rfl) rfl,aio rfl Tryz.underlying27 ti3 (odt hi19a) (odt hi19b) (Nat.zero_add _),ald rfl ti3 (by decide) (mgt Qak hg21) (nle rfl) rfl,aio rfl Tryz.underlying27 ti3 (odt hi22a) (odt hi22b) (Nat.zero_add _),ast rfl ti3 (by rfl) (mgt Qak hg24) (nle rfl) (Qgm Qak rfl),aio rfl Tryz.underlying27 ti3 (odt hi25a) (odt hi25b) (Nat.zero_add _),ast rfl ti3 (by rfl) (mgt Qak hg27) (nle rfl) (Qgm Qak rfl),trivial⟩<|bln<|thn<|wxz1<|thn ?_
     exact arm (mto (n:=53) [(0,(.own 0 1 (0) (p0))),(1,I p1),(2,I p2),(3,Qog),(8,I y2),(9,(I (w64 (y10 - 1))))] [0,1,2,3,4] [(.own 1 (((y11.set y10.toNat x17).set ((w64 (y10 - 1)).toNat) x20:List Int).map Qak)),(.own 1 [[Qlc]]),(.own 1 [[(Qlb p4)]]),(.own 1 [[I p5]]),(.own 1 [[I p6]])] hφ0 (pc (.rn (Qa4 rfl)) (pc rwl (pc rwl (pc (.rn (Qbr rn0 (rnc (rqr rfl) (rnc (rqr rfl) rn0)))) (pc rwl (pc rwl pn)))))) (qc (spr Qae) (qc (spb (lc (.rn (Qbr rn0 (rnc (rqr rfl) (rnc (rqr rfl) rn0)))) ln)) (qc (spb (lc (rnd Qae) ln)) (qc (spb (lc rwl ln)) (qc (spb (lc rwl ln)) qn)))))) (ih (w64 (y10 - 1),(y11.set y10.toNat x17).set ((w64 (y10 - 1)).toNat) x20) h)
    ·skip
     refine bfe h (fun hb28 h=>?_) fun hb28 h=>?_
     ·obtain ⟨hi29,h⟩:=cko h
      obtain ⟨hi29a,hi29b⟩:=Qdv hi29
      obtain ⟨x30,hg31,h⟩:=bno h
      obtain ⟨hi32,h⟩:=cko h
      obtain ⟨hi32a,hi32b⟩:=Qdv hi32
      obtain ⟨x33,hg34,h⟩:=bno h
      obtain ⟨x36,hf35,h⟩:=bno h
      refine wxd tbk [(3,rp [(.tmp 20,(B ((decide (y10>p1)))))] (B true)),(7,rb [(.tmp 21,B true),(.tmp 23,(.own 0 1 (0) (p0))),(.tmp 24,I y10)] [(0,(Qkk y11))] (.ref 0 1 (y10.toNat) 0)),(8,rb [(.tmp 21,B true),(.tmp 25,(.ref 0 1 (y10.toNat) 0))] [(0,(Qkk y11))] (I x30)),(12,rb [(.tmp 21,B true),(.tmp 27,(.own 0 1 (0) (p0))),(.tmp 29,(I (w64 (y10 - 1))))] [(0,(Qkk y11))] (.ref 0 1 ((w64 (y10 - 1)).toNat) 0)),(13,rb [(.tmp 21,B true),(.tmp 30,(.ref 0 1 ((w64 (y10 - 1)).toNat) 0))] [(0,(Qkk y11))] (I x33)),(14,⟨[(.tmp 21,B true),(.tmp 22,Qog),(.tmp 26,I x30),(.tmp 31,I x33)],[(1,.own 1 [[Qlc]]),(2,(.own 1 [[(Qlb p4)]])),(3,.own 1 [[I p5]]),(4,.own 1 [[I p6]])],I x36,[(1,.own 1 [[Qlc]]),(2,(.own 1 [[(Qlb p4)]])),(3,.own 1 [[I p5]]),(4,.own 1 [[I p6]])],false⟩)] ⟨asb hb28 (amv rfl),ag_ (aio rfl Tryz.underlying27 ti3 (odt hi29a) (odt hi29b) (Nat.zero_add _)),ag_ (ald rfl ti3 (by decide) (mgt Qak hg31) (nle rfl) rfl),ag_ (aio rfl Tryz.underlying27 ti3 (odt hi32a) (odt hi32b) (Nat.zero_add _)),ag_ (ald rfl ti3 (by decide) (mgt Qak hg34) (nle rfl) rfl),ag_ (Qat (first:=[]) (cap:=[.ref 1 1 0 0,.ref 2 1 0 0]) (vs:=[I x30,I x33]) (σr:=[(.own 1 [[Qlc]]),(.own 1 [[(Qlb p4)]]),(.own 1 [[I p5]]),(.own 1 [[I p6]])]) (σr':=[(.own 1 [[Qlc]]),(.own 1 [[(Qlb p4)]]),(.own 1 [[I p5]]),(.own 1 [[I p6]])]) (res':=(I x36)) [1,2,3,4] rfl Zd7 (Qlp N x30 x33 p4 p5 p6 _ hf35) rfl (Qbu (rncc (rnc (Qbp rfl) (rnc (Qbp rfl) rn0)))) (slc (Qaq (rnc (Qbr rn0 (rnc (Qbp rfl) (rnc (Qbp rfl) rn0))) rn0)) (slc (Qaq (rnc (pld Qae) rn0)) (slc (Qaq (rnc (.plain _ nll) rn0)) (slc (Qaq (rnc (.plain _ nll) rn0)) Qar)))) (slc (Qaq (rnc (Qbr rn0 (rnc (Qbs rfl) (rnc (Qbs rfl) rn0))) rn0)) (slc (Qaq (rnc (pld Qae) rn0)) (slc (Qaq (rnc (.plain _ nll) rn0)) (slc (Qaq (rnc (.plain _ nll) rn0)) Qar)))) (.plain _ nll) rfl rfl rfl),trivial⟩ ?_
      refine bfe h (fun hc37 h=>?_) fun hc37 h=>?_
      ·exact wft hc37<|Qam<|thn<|⟨(),h,(mto (n:=53) [(0,(.own 0 1 (0) (p0))),(1,I p1),(2,I p2),(3,Qog),(8,I y2),(9,I y10)] [0,1,2,3,4] [(Qkk y11),(.own 1 [[Qlc]]),(.own 1 [[(Qlb p4)]]),(.own 1 [[I p5]]),(.own 1 [[I p6]])] hφ0 (pc (.rn (Qa4 rfl)) (pc rwl (pc rwl (pc (.rn (Qbr rn0 (rnc (rqr rfl) (rnc (rqr rfl) rn0)))) (pc rwl (pc rwl pn)))))) (qc (spr Qae) (qc (spb (lc (.rn (Qbr rn0 (rnc (rqr rfl) (rnc (rqr rfl) rn0)))) ln)) (qc (spb (lc (rnd Qae) ln)) (qc (spb (lc rwl ln)) (qc (spb (lc rwl ln)) qn))))))⟩
      ·exact wfn hc37<|Qbj<|Qav<|Qav<|Qbi rfl<|bln<|thn<|⟨(y11),h,(mto (n:=53) [(0,(.own 0 1 (0) (p0))),(1,I p1),(2,I p2),(3,Qog),(8,I y2)] [0,1,2,3,4] [(Qkk y11),(.own 1 [[Qlc]]),(.own 1 [[(Qlb p4)]]),(.own 1 [[I p5]]),(.own 1 [[I p6]])] hφ0 (pc (.rn (Qa4 rfl)) (pc rwl (pc rwl (pc (.rn (Qbr rn0 (rnc (rqr rfl) (rnc (rqr rfl) rn0)))) (pc rwl pn))))) (qc (spr Qae) (qc (spb (lc (.rn (Qbr rn0 (rnc (rqr rfl) (rnc (rqr rfl) rn0)))) ln)) (qc (spb (lc (rnd Qae) ln)) (qc (spb (lc rwl ln)) (qc (spb (lc rwl ln)) qn))))))⟩
     ·exact wxd tbk [(3,rp [(.tmp 20,(B ((decide (y10>p1)))))] (B false))] ⟨asb hb28 (amv rfl),trivial⟩<|wfa<|Qbj<|Qav<|Qav<|Qbi rfl<|bln<|thn<|⟨(y11),h,(mto (n:=53) [(0,(.own 0 1 (0) (p0))),(1,I p1),(2,I p2),(3,Qog),(8,I y2)] [0,1,2,3,4] [(Qkk y11),(.own 1 [[Qlc]]),(.own 1 [[(Qlb p4)]]),(.own 1 [[I p5]]),(.own 1 [[I p6]])] hφ0 (pc (.rn (Qa4 rfl)) (pc rwl (pc rwl (pc (.rn (Qbr rn0 (rnc (rqr rfl) (rnc (rqr rfl) rn0)))) (pc rwl pn))))) (qc (spr Qae) (qc (spb (lc (.rn (Qbr rn0 (rnc (rqr rfl) (rnc (rqr rfl) rn0)))) ln)) (qc (spb (lc (rnd Qae) ln)) (qc (spb (lc rwl ln)) (qc (spb (lc rwl ln)) qn))))))⟩
  ·refine wfn hc7<|Qbj<|Qav<|Qav<|Qbi rfl ?_
   obtain rfl:=osi h
   exact ⟨_,(mto (n:=53) (l':=[]) (own':=[(Q8u y3),(.own 1 [[Qlc]]),(.own 1 [[(Qlb p4)]]),(.own 1 [[I p5]]),(.own 1 [[I p6]])]) [] [0,1,2,3,4] [(Q8u y3),(.own 1 [[Qlc]]),(.own 1 [[(Qlb p4)]]),(.own 1 [[I p5]]),(.own 1 [[I p6]])] hφ0 pn (qc (spr Qae) (qc (spb (lc (.rn (Qbr rn0 (rnc (rqr rfl) (rnc (rqr rfl) rn0)))) ln)) (qc (spb (lc (rnd Qae) ln)) (qc (spb (lc rwl ln)) (qc (spb (lc rwl ln)) qn)))))),Qdb (vs:=[]) trivial rfl (NLt.tup _ nl0) (by kernel_rfl) (Qao (Qci Qae _) (Qao (Qbg (nlc (NLt.fn _ _ _ nl0 (nlc (NLt.ref _ _ _ _ (by decide)) (nlc (NLt.ref _ _ _ _ (by decide)) nl0))) nl0)) (Qao (Qbg (nlc (NLt.of0 (nld Qae _)) nl0)) (Qao (Qbg (nlc (NLt.of0 nll) nl0)) (Qao (Qbg (nlc (NLt.of0 nll) nl0)) Qbx)))))⟩
def Qc7 (N:Nat) (p1:Int) (k9:Unit→Option (List Int)):Nat→Option (List Int)
  | 0=>none
  | n10+1=>
    bif (decide (40≤p1)) then
     none
    else
     k9 ()
def Qb2 (N:Nat) (p1:Int) (x6:(List Int)):Nat→Option (List Int)
  | 0=>none
  | n7+1=>
    bif (decide (20<p1)) then
     Qbh (fun _=>
       none) fun k9:Unit→Option (List Int)=>
     Qc7 N p1 k9 N
    else
     some x6
def Qbt (N:Nat) (p0:Nat) (p1:Int) (p3:(List Int)) (k4:Int×(List Int)→Option (List Int)) (p4:Int) (p5:Int):Nat→Int→Int→(List Int)→Option (List Int)
  | 0,_,_,_=>none
  | n18+1,y12,y13,y14=>
    bif (decide (y13≤p1)) then
     (Qbk N p0 y12 y13 y14 p3 p4 p5).bind fun x21=>
     Qbt N p0 p1 p3 k4 p4 p5 n18 y13 (w64 (y13+20)) x21
    else
     k4 (y12,y14)
def Qd4 (N:Nat) (p0:Nat) (p1:Int) (p2:(List Int)) (p3:(List Int)) (p4:Int) (p5:Int):Option (List Int):=
  Qbh (fun ⟨y2,y3⟩=>
    (Qbk N p0 y2 p1 y3 p3 p4 p5).bind fun x6=>
    Qb2 N p1 x6 N) fun k4:Int×(List Int)→Option (List Int)=>
  Qbt N p0 p1 p3 k4 p4 p5 N 0 20 p2
def Ql4:AV:=.fn (.func 163) [] [(.ref 1 1 (0) 0),(.ref 2 1 (0) 0)]
def Zia (p2:(List Int)):Slot:=.own 1 ((p2:List Int).map Qak)
def Qi8:AV:=.fn (.func 159) [] [(.ref 3 1 (0) 0),(.ref 4 1 (0) 0)]
def Qi7 (p3:(List Int)):AV:=.dat 1 ((p3:List Int).map Qak)
def Zh9 (y3:(List Int)):Slot:=.own 1 ((y3:List Int).map Qak)
def Qrr (x6:(List Int)):Slot:=.own 1 ((x6:List Int).map Qak)
def Q3w (y14:(List Int)):Slot:=.own 1 ((y14:List Int).map Qak)
theorem Qjc (N:Nat) (p0:Nat) (p1:Int) (p2:(List Int)) (p3:(List Int)) (p4:Int) (p5:Int) (r:(List Int)) (h:Qd4 N p0 p1 p2 p3 p4 p5=some r):Spec Tryz.prog 164 [(.own 0 1 (0) (p0)),(I (p1)),Ql4] [(Zia p2),(.own 1 [[Qi8]]),(.own 1 [[(Qi7 p3)]]),(.own 1 [[(I (p4))]]),(.own 1 [[(I (p5))]])] (.tup []) [(.own 1 ((r:List Int).map Qak)),(.own 1 [[Qi8]]),(.own 1 [[(Qi7 p3)]]),(.own 1 [[(I (p4))]]),(.own 1 [[(I (p5))]])]:=by
  refine Qai Tryz.func164 rfl 5 (nle rfl) (fun X φ0 w0 hφ0 hd0=>?_)
  unfold Qd4 at h
  refine Qb1<|wxz<|wxz ?_
  obtain ⟨k4,hk_k4,h⟩:=jko h
  refine wjn (τ:=Int×(List Int)) (fun t=>k4 t=some r) (fun ⟨y2,y3⟩=>⟨mk 63 [(0,(.own 0 1 (0) (p0))),(1,I p1),(2,Ql4),(6,I 20),(7,I y2)],[(Zh9 y3),(.own 1 [[Qi8]]),(.own 1 [[(Qi7 p3)]]),(.own 1 [[I p4]]),(.own 1 [[I p5]])]⟩) (fun t h=>?_) ?_
  ·subst hk_k4
   obtain ⟨y2,y3⟩:=t
   obtain ⟨x6,hf5,h⟩:=bno h
   refine wx tbk [(4,⟨[fu 165,(.tmp 23,(.own 0 1 (0) (p0))),(.tmp 24,I y2),(.tmp 25,I p1),(.tmp 26,Ql4)],[(0,(Zh9 y3)),(1,.own 1 [[Qi8]]),(2,(.own 1 [[(Qi7 p3)]])),(3,.own 1 [[I p4]]),(4,.own 1 [[I p5]])],(.tup []),[(0,(Qrr x6)),(1,.own 1 [[Qi8]]),(2,(.own 1 [[(Qi7 p3)]])),(3,.own 1 [[I p4]]),(4,.own 1 [[I p5]])],false⟩)] ⟨Qat (first:=[]) (cap:=[]) (vs:=[(.own 0 1 (0) (p0)),I y2,I p1,Ql4]) (σr:=[(Zh9 y3),(.own 1 [[Qi8]]),(.own 1 [[(Qi7 p3)]]),(.own 1 [[I p4]]),(.own 1 [[I p5]])]) (σr':=[(Qrr x6),(.own 1 [[Qi8]]),(.own 1 [[(Qi7 p3)]]),(.own 1 [[I p4]]),(.own 1 [[I p5]])]) (res':=(.tup [])) [0,1,2,3,4] rfl Q46 (Qfa N p0 y2 p1 y3 p3 p4 p5 _ hf5) rfl (Qbu (rnc (Qc5 rfl) (rncc (rnc (Qbr rn0 (rnc (Qbp rfl) (rnc (Qbp rfl) rn0))) rn0)))) (slc (Qbd Qae) (slc (Qaq (rnc (Qbr rn0 (rnc (Qbp rfl) (rnc (Qbp rfl) rn0))) rn0)) (slc (Qaq (rnc (pld Qae) rn0)) (slc (Qaq (rnc (.plain _ nll) rn0)) (slc (Qaq (rnc (.plain _ nll) rn0)) Qar))))) (slc (Qbd Qae) (slc (Qaq (rnc (Qbr rn0 (rnc (Qbs rfl) (rnc (Qbs rfl) rn0))) rn0)) (slc (Qaq (rnc (pld Qae) rn0)) (slc (Qaq (rnc (.plain _ nll) rn0)) (slc (Qaq (rnc (.plain _ nll) rn0)) Qar))))) (.plain _ (NLt.tup _ nl0)) rfl rfl rfl,trivial⟩<|Qal ?_
   refine wmr (mto (n:=63) (l':=[(0,(.own 0 1 (0) (p0))),(1,I p1),(2,Ql4),(6,I 20)]) (own':=[(Qrr x6),(.own 1 [[Qi8]]),(.own 1 [[(Qi7 p3)]]),(.own 1 [[I p4]]),(.own 1 [[I p5]])]) [(0,(.own 0 1 (0) (p0))),(1,I p1),(2,Ql4),(6,I 20)] [0,1,2,3,4] [(Qrr x6),(.own 1 [[Qi8]]),(.own 1 [[(Qi7 p3)]]),(.own 1 [[I p4]]),(.own 1 [[I p5]])] hφ0 (pc (.rn (Qa4 rfl)) (pc rwl (pc (.rn (Qbr rn0 (rnc (rqr rfl) (rnc (rqr rfl) rn0)))) (pc rwl pn)))) (qc (spr Qae) (qc (spb (lc (.rn (Qbr rn0 (rnc (rqr rfl) (rnc (rqr rfl) rn0)))) ln)) (qc (spb (lc (rnd Qae) ln)) (qc (spb (lc rwl ln)) (qc (spb (lc rwl ln)) qn)))))) ?_
   refine Qby (τ:=Unit) (fun n t=>Qb2 N p1 x6 n=some r) (fun _=>⟨mk 63 [(0,(.own 0 1 (0) (p0))),(1,I p1),(2,Ql4),(6,I 20)],[(Qrr x6),(.own 1 [[Qi8]]),(.own 1 [[(Qi7 p3)]]),(.own 1 [[I p4]]),(.own 1 [[I p5]])]⟩) (fun t h=>by rw [Qb2] at h; cases h) (fun n7 ih t h=>?_) N () h
   rw [Qb2] at h
   skip
   refine wsq<|wxz ?_
   refine bfe h (fun hc8 h=>?_) fun hc8 h=>?_
   ·refine wft hc8<|Qam<|thn<|Qal<|wxz ?_
    obtain ⟨k9,hk_k9,h⟩:=jko h
    refine wjn (τ:=Unit) (fun t=>k9 t=some r) (fun _=>⟨mk 63 [(0,(.own 0 1 (0) (p0))),(1,I p1),(2,Ql4),(6,I 20),(7,I 0)],[(Qrr x6),(.own 1 [[Qi8]]),(.own 1 [[(Qi7 p3)]]),(.own 1 [[I p4]]),(.own 1 [[I p5]])]⟩) (fun t h=>?_) ?_
    ·subst hk_k9
     refine wsq<|wxz<|wxz<|wft hc8 ?_
     cases h
    ·skip
     refine Qal<|wmr (mto (n:=63) (l':=[(0,(.own 0 1 (0) (p0))),(1,I p1),(2,Ql4),(6,I 20),(7,I 0),(8,I 40)]) (own':=[(Qrr x6),(.own 1 [[Qi8]]),(.own 1 [[(Qi7 p3)]]),(.own 1 [[I p4]]),(.own 1 [[I p5]])]) [(0,(.own 0 1 (0) (p0))),(1,I p1),(2,Ql4),(6,I 20),(7,I 0),(8,I 40)] [0,1,2,3,4] [(Qrr x6),(.own 1 [[Qi8]]),(.own 1 [[(Qi7 p3)]]),(.own 1 [[I p4]]),(.own 1 [[I p5]])] hφ0 (pc (.rn (Qa4 rfl)) (pc rwl (pc (.rn (Qbr rn0 (rnc (rqr rfl) (rnc (rqr rfl) rn0)))) (pc rwl (pc rwl (pc rwl pn)))))) (qc (spr Qae) (qc (spb (lc (.rn (Qbr rn0 (rnc (rqr rfl) (rnc (rqr rfl) rn0)))) ln)) (qc (spb (lc (rnd Qae) ln)) (qc (spb (lc rwl ln)) (qc (spb (lc rwl ln)) qn)))))) ?_
     refine Qby (τ:=Unit) (fun n t=>Qc7 N p1 k9 n=some r) (fun _=>⟨mk 63 [(0,(.own 0 1 (0) (p0))),(1,I p1),(2,Ql4),(6,I 20),(7,I 0),(8,I 40)],[(Qrr x6),(.own 1 [[Qi8]]),(.own 1 [[(Qi7 p3)]]),(.own 1 [[I p4]]),(.own 1 [[I p5]])]⟩) (fun t h=>by rw [Qc7] at h; cases h) (fun n10 ih t h=>?_) N () h
     rw [Qc7] at h
     skip
     refine wsq<|wxz ?_
     refine bfe h (fun hc11 h=>?_) fun hc11 h=>?_
     ·refine wft hc11<|Qam<|thn<|Qal ?_
      cases h
     ·exact wfn hc11<|Qbj<|Qav<|Qav<|Qbi rfl<|thn<|⟨(),h,(mto (n:=63) [(0,(.own 0 1 (0) (p0))),(1,I p1),(2,Ql4),(6,I 20),(7,I 0)] [0,1,2,3,4] [(Qrr x6),(.own 1 [[Qi8]]),(.own 1 [[(Qi7 p3)]]),(.own 1 [[I p4]]),(.own 1 [[I p5]])] hφ0 (pc (.rn (Qa4 rfl)) (pc rwl (pc (.rn (Qbr rn0 (rnc (rqr rfl) (rnc (rqr rfl) rn0)))) (pc rwl (pc rwl pn))))) (qc (spr Qae) (qc (spb (lc (.rn (Qbr rn0 (rnc (rqr rfl) (rnc (rqr rfl) rn0)))) ln)) (qc (spb (lc (rnd Qae) ln)) (qc (spb (lc rwl ln)) (qc (spb (lc rwl ln)) qn))))))⟩
   ·refine wfn hc8<|Qbj<|Qav<|Qav<|Qbi rfl ?_
    obtain rfl:=osi h
    exact ⟨_,(mto (n:=63) (l':=[]) (own':=[(Qrr x6),(.own 1 [[Qi8]]),(.own 1 [[(Qi7 p3)]]),(.own 1 [[I p4]]),(.own 1 [[I p5]])]) [] [0,1,2,3,4] [(Qrr x6),(.own 1 [[Qi8]]),(.own 1 [[(Qi7 p3)]]),(.own 1 [[I p4]]),(.own 1 [[I p5]])] hφ0 pn (qc (spr Qae) (qc (spb (lc (.rn (Qbr rn0 (rnc (rqr rfl) (rnc (rqr rfl) rn0)))) ln)) (qc (spb (lc (rnd Qae) ln)) (qc (spb (lc rwl ln)) (qc (spb (lc rwl ln)) qn)))))),Qdb (vs:=[]) trivial rfl (NLt.tup _ nl0) (by kernel_rfl) (Qao (Qci Qae _) (Qao (Qbg (nlc (NLt.fn _ _ _ nl0 (nlc (NLt.ref _ _ _ _ (by decide)) (nlc (NLt.ref _ _ _ _ (by decide)) nl0))) nl0)) (Qao (Qbg (nlc (NLt.of0 (nld Qae _)) nl0)) (Qao (Qbg (nlc (NLt.of0 nll) nl0)) (Qao (Qbg (nlc (NLt.of0 nll) nl0)) Qbx)))))⟩
  ·skip
   refine Qal<|wmr (mto (n:=63) (l':=[(0,(.own 0 1 (0) (p0))),(1,I p1),(2,Ql4),(6,I 20),(7,I 0),(8,I 20)]) (own':=[(Zia p2),(.own 1 [[Qi8]]),(.own 1 [[(Qi7 p3)]]),(.own 1 [[I p4]]),(.own 1 [[I p5]])]) [(0,(.own 0 1 (0) (p0))),(1,I p1),(2,Ql4),(6,I 20),(7,I 0),(8,I 20)] [0,1,2,3,4] [(Zia p2),(.own 1 [[Qi8]]),(.own 1 [[(Qi7 p3)]]),(.own 1 [[I p4]]),(.own 1 [[I p5]])] hφ0 (pc (.rn (Qa4 rfl)) (pc rwl (pc (.rn (Qbr rn0 (rnc (rqr rfl) (rnc (rqr rfl) rn0)))) (pc rwl (pc rwl (pc rwl pn)))))) (qc (spr Qae) (qc (spb (lc (.rn (Qbr rn0 (rnc (rqr rfl) (rnc (rqr rfl) rn0)))) ln)) (qc (spb (lc (rnd Qae) ln)) (qc (spb (lc rwl ln)) (qc (spb (lc rwl ln)) qn)))))) ?_
   refine Qby (τ:=Int×Int×(List Int)) (fun n t=>Qbt N p0 p1 p3 k4 p4 p5 n t.1 t.2.1 t.2.2=some r) (fun ⟨y12,y13,y14⟩=>⟨mk 63 [(0,(.own 0 1 (0) (p0))),(1,I p1),(2,Ql4),(6,I 20),(7,I y12),(8,I y13)],[(Q3w y14),(.own 1 [[Qi8]]),(.own 1 [[(Qi7 p3)]]),(.own 1 [[I p4]]),(.own 1 [[I p5]])]⟩) (fun t h=>by rw [Qbt] at h; cases h) (fun n18 ih t h=>?_) N (0,20,p2) h
   obtain ⟨y12,y13,y14⟩:=t
   rw [Qbt] at h
   skip
   refine wsq<|wxz ?_
   refine bfe h (fun hc19 h=>?_) fun hc19 h=>?_
   ·refine wft hc19<|Qam<|thn<|Qal ?_
    obtain ⟨x21,hf20,h⟩:=bno h
    refine wx tbk [(4,⟨[fu 165,(.tmp 14,(.own 0 1 (0) (p0))),(.tmp 15,I y12),(.tmp 16,I y13),(.tmp 17,Ql4)],[(0,(Q3w y14)),(1,.own 1 [[Qi8]]),(2,(.own 1 [[(Qi7 p3)]])),(3,.own 1 [[I p4]]),(4,.own 1 [[I p5]])],(.tup []),[(0,(.own 1 ((x21:List Int).map Qak))),(1,.own 1 [[Qi8]]),(2,(.own 1 [[(Qi7 p3)]])),(3,.own 1 [[I p4]]),(4,.own 1 [[I p5]])],false⟩)] ⟨Qat (first:=[]) (cap:=[]) (vs:=[(.own 0 1 (0) (p0)),I y12,I y13,Ql4]) (σr:=[(Q3w y14),(.own 1 [[Qi8]]),(.own 1 [[(Qi7 p3)]]),(.own 1 [[I p4]]),(.own 1 [[I p5]])]) (σr':=[(.own 1 ((x21:List Int).map Qak)),(.own 1 [[Qi8]]),(.own 1 [[(Qi7 p3)]]),(.own 1 [[I p4]]),(.own 1 [[I p5]])]) (res':=(.tup [])) [0,1,2,3,4] rfl Q46 (Qfa N p0 y12 y13 y14 p3 p4 p5 _ hf20) rfl (Qbu (rnc (Qc5 rfl) (rncc (rnc (Qbr rn0 (rnc (Qbp rfl) (rnc (Qbp rfl) rn0))) rn0)))) (slc (Qbd Qae) (slc (Qaq (rnc (Qbr rn0 (rnc (Qbp rfl) (rnc (Qbp rfl) rn0))) rn0)) (slc (Qaq (rnc (pld Qae) rn0)) (slc (Qaq (rnc (.plain _ nll) rn0)) (slc (Qaq (rnc (.plain _ nll) rn0)) Qar))))) (slc (Qbd Qae) (slc (Qaq (rnc (Qbr rn0 (rnc (Qbs rfl) (rnc (Qbs rfl) rn0))) rn0)) (slc (Qaq (rnc (pld Qae) rn0)) (slc (Qaq (rnc (.plain _ nll) rn0)) (slc (Qaq (rnc (.plain _ nll) rn0)) Qar))))) (.plain _ (NLt.tup _ nl0)) rfl rfl rfl,trivial⟩<|wxz<|wxz1<|bln<|thn ?_
    exact arm (mto (n:=63) [(0,(.own 0 1 (0) (p0))),(1,I p1),(2,Ql4),(6,I 20),(7,I y13),(8,(I (w64 (y13+20))))] [0,1,2,3,4] [(.own 1 ((x21:List Int).map Qak)),(.own 1 [[Qi8]]),(.own 1 [[(Qi7 p3)]]),(.own 1 [[I p4]]),(.own 1 [[I p5]])] hφ0 (pc (.rn (Qa4 rfl)) (pc rwl (pc (.rn (Qbr rn0 (rnc (rqr rfl) (rnc (rqr rfl) rn0)))) (pc rwl (pc rwl (pc rwl pn)))))) (qc (spr Qae) (qc (spb (lc (.rn (Qbr rn0 (rnc (rqr rfl) (rnc (rqr rfl) rn0)))) ln)) (qc (spb (lc (rnd Qae) ln)) (qc (spb (lc rwl ln)) (qc (spb (lc rwl ln)) qn)))))) (ih (y13,w64 (y13+20),x21) h)
   ·exact wfn hc19<|Qbj<|Qav<|Qav<|Qbi rfl<|thn<|⟨(y12,y14),h,(mto (n:=63) [(0,(.own 0 1 (0) (p0))),(1,I p1),(2,Ql4),(6,I 20),(7,I y12)] [0,1,2,3,4] [(Q3w y14),(.own 1 [[Qi8]]),(.own 1 [[(Qi7 p3)]]),(.own 1 [[I p4]]),(.own 1 [[I p5]])] hφ0 (pc (.rn (Qa4 rfl)) (pc rwl (pc (.rn (Qbr rn0 (rnc (rqr rfl) (rnc (rqr rfl) rn0)))) (pc rwl (pc rwl pn))))) (qc (spr Qae) (qc (spb (lc (.rn (Qbr rn0 (rnc (rqr rfl) (rnc (rqr rfl) rn0)))) ln)) (qc (spb (lc (rnd Qae) ln)) (qc (spb (lc rwl ln)) (qc (spb (lc rwl ln)) qn))))))⟩
def Qcd (N:Nat) (p0:Nat) (p1:(List Int)) (p2:(List Int)) (p3:Int) (p4:Int):Option (List Int):=
  (Qd4 N p0 ((p0:Nat):Int) p1 p2 p3 p4).bind fun x3=>
  some x3
def Zic:AV:=.fn (.func 163) [] [(.ref 1 1 (0) 0),(.ref 2 1 (0) 0)]
def Zib (p1:(List Int)):Slot:=.own 1 ((p1:List Int).map Qak)
def Qyb:AV:=.fn (.func 159) [] [(.ref 3 1 (0) 0),(.ref 4 1 (0) 0)]
def Qya (p2:(List Int)):AV:=.dat 1 ((p2:List Int).map Qak)
def Zcm (x3:(List Int)):Slot:=.own 1 ((x3:List Int).map Qak)
theorem Qh0 (N:Nat) (p0:Nat) (p1:(List Int)) (p2:(List Int)) (p3:Int) (p4:Int) (r:(List Int)) (h:Qcd N p0 p1 p2 p3 p4=some r):Spec Tryz.prog 162 [(.own 0 1 (0) (p0)),Zic] [(Zib p1),(.own 1 [[Qyb]]),(.own 1 [[(Qya p2)]]),(.own 1 [[(I (p3))]]),(.own 1 [[(I (p4))]])] (.tup []) [(.own 1 ((r:List Int).map Qak)),(.own 1 [[Qyb]]),(.own 1 [[(Qya p2)]]),(.own 1 [[(I (p3))]]),(.own 1 [[(I (p4))]])]:=by
  refine Qai Tryz.func162 rfl 5 (nle rfl) (fun X φ0 w0 hφ0 hd0=>?_)
  unfold Qcd at h
  refine Qb1 ?_
  obtain ⟨x3,hf2,h⟩:=bno h
  refine wx1 tbk [(2,rp [(.tmp 5,(.own 0 1 (0) (p0)))] (I (((p0:Nat):Int)))),(4,⟨[fu 164,(.tmp 4,(.own 0 1 (0) (p0))),(.tmp 6,(I (((p0:Nat):Int)))),(.tmp 7,Zic)],[(0,(Zib p1)),(1,.own 1 [[Qyb]]),(2,(.own 1 [[(Qya p2)]])),(3,.own 1 [[I p3]]),(4,.own 1 [[I p4]])],(.tup []),[(0,(Zcm x3)),(1,.own 1 [[Qyb]]),(2,(.own 1 [[(Qya p2)]])),(3,.own 1 [[I p3]]),(4,.own 1 [[I p4]])],false⟩)] ⟨aln rfl Tryz.underlying27 rfl,Qat (first:=[]) (cap:=[]) (vs:=[(.own 0 1 (0) (p0)),(I (((p0:Nat):Int))),Zic]) (σr:=[(Zib p1),(.own 1 [[Qyb]]),(.own 1 [[(Qya p2)]]),(.own 1 [[I p3]]),(.own 1 [[I p4]])]) (σr':=[(Zcm x3),(.own 1 [[Qyb]]),(.own 1 [[(Qya p2)]]),(.own 1 [[I p3]]),(.own 1 [[I p4]])]) (res':=(.tup [])) [0,1,2,3,4] rfl Zd6 (Qjc N p0 ((p0:Nat):Int) p1 p2 p3 p4 _ hf2) rfl (Qbu (rnc (Qc5 rfl) (rnc (.plain _ nll) (rnc (Qbr rn0 (rnc (Qbp rfl) (rnc (Qbp rfl) rn0))) rn0)))) (slc (Qbd Qae) (slc (Qaq (rnc (Qbr rn0 (rnc (Qbp rfl) (rnc (Qbp rfl) rn0))) rn0)) (slc (Qaq (rnc (pld Qae) rn0)) (slc (Qaq (rnc (.plain _ nll) rn0)) (slc (Qaq (rnc (.plain _ nll) rn0)) Qar))))) (slc (Qbd Qae) (slc (Qaq (rnc (Qbr rn0 (rnc (Qbs rfl) (rnc (Qbs rfl) rn0))) rn0)) (slc (Qaq (rnc (pld Qae) rn0)) (slc (Qaq (rnc (.plain _ nll) rn0)) (slc (Qaq (rnc (.plain _ nll) rn0)) Qar))))) (.plain _ (NLt.tup _ nl0)) rfl rfl rfl,trivial⟩ ?_
  obtain rfl:=osi h
  exact ⟨_,(mto (n:=9) (l':=[]) (own':=[(Zcm x3),(.own 1 [[Qyb]]),(.own 1 [[(Qya p2)]]),(.own 1 [[I p3]]),(.own 1 [[I p4]])]) [] [0,1,2,3,4] [(Zcm x3),(.own 1 [[Qyb]]),(.own 1 [[(Qya p2)]]),(.own 1 [[I p3]]),(.own 1 [[I p4]])] hφ0 pn (qc (spr Qae) (qc (spb (lc (.rn (Qbr rn0 (rnc (rqr rfl) (rnc (rqr rfl) rn0)))) ln)) (qc (spb (lc (rnd Qae) ln)) (qc (spb (lc rwl ln)) (qc (spb (lc rwl ln)) qn)))))),Qdb (vs:=[]) trivial rfl (NLt.tup _ nl0) (by kernel_rfl) (Qao (Qci Qae _) (Qao (Qbg (nlc (NLt.fn _ _ _ nl0 (nlc (NLt.ref _ _ _ _ (by decide)) (nlc (NLt.ref _ _ _ _ (by decide)) nl0))) nl0)) (Qao (Qbg (nlc (NLt.of0 (nld Qae _)) nl0)) (Qao (Qbg (nlc (NLt.of0 nll) nl0)) (Qao (Qbg (nlc (NLt.of0 nll) nl0)) Qbx)))))⟩
def Qcr (N:Nat) (p0:(List Int)) (k4:(List Int)→Option (List Int)):Nat→Int→(List Int)→Option (List Int)
  | 0,_,_=>none
  | n13+1,y9,y10=>
    bif (decide (y9<(p0.length:Int))) then
     chk (decide ((y10.length+([y9]).length) * 8≤140737488355328))<|
     Qcr N p0 k4 n13 (w64 (y9+1)) (y10++([y9]))
    else
     k4 (y10)
def Qfj (N:Nat) (p0:(List Int)) (p1:Int) (p2:Int):Option (List Int):=
  Qbh (fun y3=>
    chk (!y3.isEmpty)<|
    (Qcd N y3.length y3 p0 p1 p2).bind fun x7=>
    chk (decide (y3.length≤x7.length))<|
    some (x7.take y3.length)) fun k4:(List Int)→Option (List Int)=>
  Qcr N p0 k4 N 0 ([]:List Int)
def Qqi (p0:(List Int)):AV:=.dat 1 ((p0:List Int).map Qak)
def Qrs:AV:=.fn (.func 159) [] [(.ref 0 1 (0) 0),(.ref 1 1 (0) 0)]
def Q3y:AV:=.fn (.func 163) [] [(.ref 3 1 (0) 0),(.ref 2 1 (0) 0)]
def Q3x (x7:(List Int)) (y3:(List Int)):AV:=.dat 1 ((x7.take y3.length:List Int).map Qak)
def Zlz:Slot:=.gro 1 ((([]:List Int):List Int).map Qak)
theorem Qms (N:Nat) (p0:(List Int)) (p1:Int) (p2:Int) (r:(List Int)) (h:Qfj N p0 p1 p2=some r):Spec Tryz.prog 158 [(Qqi p0),Qrs] [(.own 1 [[(I (p1))]]),(.own 1 [[(I (p2))]])] (.dat 1 ((r:List Int).map Qak)) [(.own 1 [[(I (p1))]]),(.own 1 [[(I (p2))]])]:=by
  refine Qai Tryz.func158 rfl 2 (nle rfl) (fun X φ0 w0 hφ0 hd0=>?_)
  unfold Qfj at h
  refine Qb1<|wxz<|wxz ?_
  obtain ⟨k4,hk_k4,h⟩:=jko h
  refine wjn (τ:=(List Int)) (fun t=>k4 t=some r) (fun y3=>⟨mk 21 [(2,.ref 2 1 0 0),(3,.ref 3 1 0 0),(5,(.gro 4 3 1 (y3.length)))],[(.own 1 [[I p1]]),(.own 1 [[I p2]]),(.own 1 [[(Qqi p0)]]),(.own 1 [[Qrs]]),(.gro 1 ((y3:List Int).map Qak))]⟩) (fun y3 h=>?_) ?_
  ·subst hk_k4
   obtain ⟨hz5,h⟩:=cko h
   obtain ⟨x7,hf6,h⟩:=bno h
   refine wx tbk [(1,rp [(.tmp 3,.ref 3 1 0 0),(.tmp 2,.ref 2 1 0 0)] Q3y),(2,⟨[fu 162,(.tmp 17,(.gro 4 3 1 (y3.length))),(.tmp 18,Q3y)],[(4,(.gro 1 ((y3:List Int).map Qak))),(3,.own 1 [[Qrs]]),(2,(.own 1 [[(Qqi p0)]])),(0,.own 1 [[I p1]]),(1,.own 1 [[I p2]])],(.tup []),[(4,(.own 1 ((x7:List Int).map Qak))),(3,.own 1 [[Qrs]]),(2,(.own 1 [[(Qqi p0)]])),(0,.own 1 [[I p1]]),(1,.own 1 [[I p2]])],false⟩)] ⟨Qfz (fs:=[]) (cs:=[.ref 3 1 0 0,.ref 2 1 0 0]) rfl rfl rfl rfl,Q2u (bl':=[(4,(.own 1 ((y3:List Int).map Qak))),(3,.own 1 [[Qrs]]),(2,(.own 1 [[(Qqi p0)]])),(0,.own 1 [[I p1]]),(1,.own 1 [[I p2]])]) ⟨rfl,SLess.gro (Qmf hz5),rfl,SLess.rfl,rfl,SLess.rfl,rfl,SLess.rfl,rfl,SLess.rfl,trivial⟩ (awk (rd':=[fu 162,(.tmp 17,(.own 4 1 (0) (y3.length))),(.tmp 18,Q3y)]) ⟨rfl,lrf,rfl,Less.gro,rfl,lrf,trivial⟩ (Qat (first:=[]) (cap:=[]) (vs:=[(.own 4 1 (0) (y3.length)),Q3y]) (σr:=[(.own 1 ((y3:List Int).map Qak)),(.own 1 [[Qrs]]),(.own 1 [[(Qqi p0)]]),(.own 1 [[I p1]]),(.own 1 [[I p2]])]) (σr':=[(.own 1 ((x7:List Int).map Qak)),(.own 1 [[Qrs]]),(.own 1 [[(Qqi p0)]]),(.own 1 [[I p1]]),(.own 1 [[I p2]])]) (res':=(.tup [])) [4,3,2,0,1] rfl Zd8 (Qh0 N y3.length y3 p0 p1 p2 _ hf6) rfl (Qbu (rnc (Qc5 rfl) (rnc (Qbr rn0 (rnc (Qbp rfl) (rnc (Qbp rfl) rn0))) rn0))) (slc (Qbd Qae) (slc (Qaq (rnc (Qbr rn0 (rnc (Qbp rfl) (rnc (Qbp rfl) rn0))) rn0)) (slc (Qaq (rnc (pld Qae) rn0)) (slc (Qaq (rnc (.plain _ nll) rn0)) (slc (Qaq (rnc (.plain _ nll) rn0)) Qar))))) (slc (Qbd Qae) (slc (Qaq (rnc (Qbr rn0 (rnc (Qbs rfl) (rnc (Qbs rfl) rn0))) rn0)) (slc (Qaq (rnc (pld Qae) rn0)) (slc (Qaq (rnc (.plain _ nll) rn0)) (slc (Qaq (rnc (.plain _ nll) rn0)) Qar))))) (.plain _ (NLt.tup _ nl0)) rfl rfl rfl)),trivial⟩<|wxz ?_
   obtain ⟨hz8,h⟩:=cko h
   refine wmr (Zdu (n:=21) (l':=[(4,(.own 4 1 (0) (y3.length)))]) [(4,(.gro 4 3 1 (y3.length)))] (by kernel_rfl) (by kernel_rfl) ⟨rfl,Less.gro,trivial⟩) ?_
   refine wmr (Q4v (n:=21) (l':=[(4,(Q3x x7 y3))]) 4 [(4,(.own 4 1 (0) (y3.length)))] (by kernel_rfl) (by kernel_rfl) (by kernel_rfl) ⟨rfl,(Qow hz8),trivial⟩ rfl) ?_
   refine wmr (mto (n:=21) (l':=[(4,(Q3x x7 y3))]) (own':=[(.own 1 [[I p1]]),(.own 1 [[I p2]])]) [(4,(Q3x x7 y3))] [0,1] [(.own 1 [[I p1]]),(.own 1 [[I p2]])] hφ0 (pc (rnd Qae) pn) (qc (spb (lc rwl ln)) (qc (spb (lc rwl ln)) qn)))<|Qaf ?_
   obtain rfl:=osi h
   exact ⟨_,Mor.rfl,Qdb (vs:=[(Q3x x7 y3)]) ⟨rot,trivial⟩ rfl (NLt.of0 (nld Qae _)) (by kernel_rfl) (Qao (Qbg (nlc (NLt.of0 nll) nl0)) (Qao (Qbg (nlc (NLt.of0 nll) nl0)) Qbx))⟩
  ·skip
   refine wx tbk [(1,rp [(.tmp 7,(Qqi p0))] (I ((p0.length:Int))))] ⟨alm (c:=Qak) (l:=p0) (aln rfl Tryz.underlying27 rfl),trivial⟩<|Qal ?_
   refine wmr (Mor.trans (Zdt 4 3 1 5 (by kernel_rfl) (by kernel_rfl)) (mto (n:=21) (l':=[(2,.ref 2 1 0 0),(3,.ref 3 1 0 0),(5,(.gro 4 3 1 (([]:List Int).length))),(8,(I ((p0.length:Int)))),(9,I 0)]) (own':=[(.own 1 [[I p1]]),(.own 1 [[I p2]]),(.own 1 [[(Qqi p0)]]),(.own 1 [[Qrs]]),Zlz]) [(2,.ref 2 1 0 0),(3,.ref 3 1 0 0),(5,(.gro 4 3 1 (([]:List Int).length))),(8,(I ((p0.length:Int)))),(9,I 0)] [0,1,2,3,4] [(.own 1 [[I p1]]),(.own 1 [[I p2]]),(.own 1 [[(Qqi p0)]]),(.own 1 [[Qrs]]),Zlz] hφ0 (pc (.rn (rqr rfl)) (pc (.rn (rqr rfl)) (pc (.rn (Q1x rfl)) (pc rwl (pc rwl pn))))) (qc (spb (lc rwl ln)) (qc (spb (lc rwl ln)) (qc (spb (lc (rnd Qae) ln)) (qc (spb (lc (.rn (Qbr rn0 (rnc (rqr rfl) (rnc (rqr rfl) rn0)))) ln)) (qc (Qwu Qae) qn))))))) ?_
   refine Qby (τ:=Int×(List Int)) (fun n t=>Qcr N p0 k4 n t.1 t.2=some r) (fun ⟨y9,y10⟩=>⟨mk 21 [(2,.ref 2 1 0 0),(3,.ref 3 1 0 0),(5,(.gro 4 3 1 (y10.length))),(8,(I ((p0.length:Int)))),(9,I y9)],[(.own 1 [[I p1]]),(.own 1 [[I p2]]),(.own 1 [[(Qqi p0)]]),(.own 1 [[Qrs]]),(.gro 1 ((y10:List Int).map Qak))]⟩) (fun t h=>by rw [Qcr] at h; cases h) (fun n13 ih t h=>?_) N (0,([]:List Int)) h
   obtain ⟨y9,y10⟩:=t
   rw [Qcr] at h
   skip
   refine wxz<|wsq ?_
   refine bfe h (fun hc14 h=>?_) fun hc14 h=>?_
   ·refine wft hc14<|Qam<|thn<|wsq<|Qal<|wxz ?_
    obtain ⟨ha15,h⟩:=cko h
    refine wx1 tbk [(2,rp [(.tmp 13,I y9)] (.dat 1 (([y9]:List Int).map Qak))),(3,⟨[(.tmp 12,(.gro 4 3 1 (y10.length))),(.tmp 14,(.dat 1 (([y9]:List Int).map Qak)))],[(4,(.gro 1 ((y10:List Int).map Qak))),(5,.unused)],(.gro 5 3 1 ((y10++([y9])).length)),[(4,.dead),(5,(.gro 1 ((y10++([y9]):List Int).map Qak)))],false⟩)] ?_ ?_
    ·exact ⟨Qbo (vs:=[I y9]) rfl Tryz.underlying27 ti3 tz3 rfl (by decide) rfl (by decide) (by rfl) (by rfl) (by rfl) rfl,Q21 (c:=Qak) (a:=y10) (b:=[y9]) rfl Tryz.underlying27 te3 rfl (Qmf rfl) (by rfl) ha15 (by decide),trivial⟩
    exact bln<|thn<|wxz1<|thn<|arm (mto (n:=21) [(2,.ref 2 1 0 0),(3,.ref 3 1 0 0),(5,(.gro 5 3 1 ((y10++([y9])).length))),(8,(I ((p0.length:Int)))),(9,(I (w64 (y9+1))))] [0,1,2,3,5] [(.own 1 [[I p1]]),(.own 1 [[I p2]]),(.own 1 [[(Qqi p0)]]),(.own 1 [[Qrs]]),(.gro 1 ((y10++([y9]):List Int).map Qak))] hφ0 (pc (.rn (rqr rfl)) (pc (.rn (rqr rfl)) (pc (.rn (Q1x rfl)) (pc rwl (pc rwl pn))))) (qc (spb (lc rwl ln)) (qc (spb (lc rwl ln)) (qc (spb (lc (rnd Qae) ln)) (qc (spb (lc (.rn (Qbr rn0 (rnc (rqr rfl) (rnc (rqr rfl) rn0)))) ln)) (qc (Qwu Qae) qn)))))) (ih (w64 (y9+1),y10++([y9])) h)
   ·exact wfn hc14<|Qbj<|Qav<|Qav<|Qbi rfl<|thn<|⟨(y10),h,(mto (n:=21) [(2,.ref 2 1 0 0),(3,.ref 3 1 0 0),(5,(.gro 4 3 1 (y10.length)))] [0,1,2,3,4] [(.own 1 [[I p1]]),(.own 1 [[I p2]]),(.own 1 [[(Qqi p0)]]),(.own 1 [[Qrs]]),(.gro 1 ((y10:List Int).map Qak))] hφ0 (pc (.rn (rqr rfl)) (pc (.rn (rqr rfl)) (pc (.rn (Q1x rfl)) pn))) (qc (spb (lc rwl ln)) (qc (spb (lc rwl ln)) (qc (spb (lc (rnd Qae) ln)) (qc (spb (lc (.rn (Qbr rn0 (rnc (rqr rfl) (rnc (rqr rfl) rn0)))) ln)) (qc (Qwu Qae) qn))))))⟩
def Qdt (N:Nat) (p1:(List Int)) (y6:Int) (k10:(List Int)→Option (List Int)) (x13:(List Int)):Nat→Int→(List Int)→Option (List Int)
  | 0,_,_=>none
  | n19+1,y15,y16=>
    bif (decide (y15<(((x13).take (y6.toNat - 0)).length:Int))) then
     (getI ((x13).take (y6.toNat - 0)) y15).bind fun x21=>
     chk (decide (0≤x21)&&decide (x21.toNat<(p1.length:Int).toNat))<|
     (y16[x21.toNat]?).bind fun x26=>
     chk (decide (0≤x21)&&decide (x21.toNat<(p1.length:Int).toNat))<|
     (y16[x21.toNat]?).bind fun _=>
     Qdt N p1 y6 k10 x13 n19 (w64 (y15+1)) (y16.set x21.toNat (w64 (x26+1)))
    else
     k10 (y16)
def Qds (N:Nat) (p0:Int) (p1:(List Int)) (y3:Int) (k8:Int×(List Int)→Option (List Int)):Nat→Int→Int→(List Int)→Option (List Int)
  | 0,_,_,_=>none
  | n37+1,y31,y32,y33=>
    bif (decide (y32<(p1.length:Int))) then
     (getI p1 y32).bind fun x39=>
     chk (y3 != 0)<|
     chk (decide (0≤y32)&&decide (y32.toNat<(p1.length:Int).toNat))<|
     (y33[y32.toNat]?).bind fun _=>
     chk (decide (0≤y32)&&decide (y32.toNat<(p1.length:Int).toNat))<|
     ((y33.set y32.toNat (w64 ((w64 (p0 * x39)).tdiv y3)))[y32.toNat]?).bind fun x48=>
     Qds N p0 p1 y3 k8 n37 (w64 (y31 - x48)) (w64 (y32+1)) (y33.set y32.toNat (w64 ((w64 (p0 * x39)).tdiv y3)))
    else
     k8 (y31,y33)
def Qdr (N:Nat) (p1:(List Int)) (k4:Int→Option (List Int)):Nat→Int→Int→Option (List Int)
  | 0,_,_=>none
  | n54+1,y50,y51=>
    bif (decide (y50<(p1.length:Int))) then
     (getI p1 y50).bind fun x56=>
     Qdr N p1 k4 n54 (w64 (y50+1)) (w64 (y51+x56))
    else
     k4 (y51)
def Qib (N:Nat) (p0:Int) (p1:(List Int)):Option (List Int):=
  Qbh (fun y3=>
    chk (decide (0≤(p1.length:Int))&&decide (8 * (p1.length:Int)≤281474976710656)&&decide ((p1.length:Int)≤9223372036854775807))<|
    Qbh (fun ⟨y6,y7⟩=>
      Qbh (fun y9=>
        chk (decide ((p1.length:Int).toNat≤y9.length))<|
        some (y9.take ((p1.length:Int).toNat))) fun k10:(List Int)→Option (List Int)=>
      (Qfj N p1 p0 y3).bind fun x13=>
      chk (decide (0≤0)&&decide (0≤y6)&&decide (y6≤(x13.length:Int)))<|
      Qdt N p1 y6 k10 x13 N 0 y7) fun k8:Int×(List Int)→Option (List Int)=>
    Qds N p0 p1 y3 k8 N p0 0 (List.replicate (p1.length:Int).toNat 0)) fun k4:Int→Option (List Int)=>
  Qdr N p1 k4 N 0 0
def Qiv (p1:(List Int)):AV:=.dat 1 ((p1:List Int).map Qak)
def Zl0 (p1:(List Int)):Slot:=.own 1 ((List.replicate (p1.length:Int).toNat 0:List Int).map Qak)
def Q8w (y7:(List Int)):Slot:=.own 1 ((y7:List Int).map Qak)
def Q31 (y9:(List Int)) (p1:(List Int)):AV:=.dat 1 ((y9.take ((p1.length:Int).toNat):List Int).map Qak)
def Q8x:AV:=.fn (.func 159) [] [(.ref 0 1 (0) 0),(.ref 1 1 (0) 0)]
def Q8v (x13:(List Int)):AV:=.dat 1 ((x13:List Int).map Qak)
def Qsg (x13:(List Int)) (y6:Int):AV:=.dat 1 (((x13).take (y6.toNat - 0):List Int).map Qak)
def Qu5 (y16:(List Int)):Slot:=.own 1 ((y16:List Int).map Qak)
def Q30 (y33:(List Int)):Slot:=.own 1 ((y33:List Int).map Qak)
def Q3z (y33:(List Int)) (y32:Int) (p0:Int) (x39:Int) (y3:Int):Slot:=.own 1 ((y33.set y32.toNat (w64 ((w64 (p0 * x39)).tdiv y3)):List Int).map Qak)
theorem Qrw (N:Nat) (p0:Int) (p1:(List Int)) (r:(List Int)) (h:Qib N p0 p1=some r):Spec Tryz.prog 153 [(I p0),(.dat 1 (p1.map Qak))] [] (.dat 1 ((r:List Int).map Qak)) []:=by
  refine Qai Tryz.func153 rfl 0 (nle rfl) (fun X φ0 w0 hφ0 hd0=>?_)
  unfold Qib at h
  refine Qb1<|wxz<|wxz ?_
  obtain ⟨k4,hk_k4,h⟩:=jko h
  refine wjn (τ:=Int) (fun t=>k4 t=some r) (fun y3=>⟨mk 68 [(1,(Qiv p1)),(2,.ref 0 1 0 0),(5,.ref 1 1 0 0)],[(.own 1 [[I p0]]),(.own 1 [[I y3]])]⟩) (fun y3 h=>?_) ?_
  ·subst hk_k4
   obtain ⟨hm5,h⟩:=cko h
   refine wxd tbk [(1,rp [(.tmp 24,(Qiv p1))] (I ((p1.length:Int)))),(2,⟨[(.tmp 25,(I ((p1.length:Int)))),(.tmp 25,(I ((p1.length:Int))))],[(2,.unused)],(.own 2 1 (0) ((p1.length:Int).toNat)),[(2,(Zl0 p1))],false⟩)] ⟨alm (c:=Qak) (l:=p1) (aln rfl Tryz.underlying27 rfl),Ql3 rfl Tryz.underlying27 te3 tz3 rfl (Q0s hm5) rfl (Q0r hm5) (Q0q hm5) (Qwy Qak rfl),trivial⟩ ?_
   obtain ⟨k8,hk_k8,h⟩:=jko h
   refine wjn (τ:=Int×(List Int)) (fun t=>k8 t=some r) (fun ⟨y6,y7⟩=>⟨mk 68 [(1,(Qiv p1)),(2,.ref 0 1 0 0),(5,.ref 1 1 0 0),(8,(.own 2 1 (0) ((p1.length:Int).toNat))),(9,I y6)],[(.own 1 [[I p0]]),(.own 1 [[I y3]]),(Q8w y7)]⟩) (fun t h=>?_) ?_
   ·subst hk_k8
    obtain ⟨y6,y7⟩:=t
    obtain ⟨k10,hk_k10,h⟩:=jko h
    refine wjn (τ:=(List Int)) (fun t=>k10 t=some r) (fun y9=>⟨mk 68 [(8,(.own 0 1 (0) ((p1.length:Int).toNat)))],[(.own 1 ((y9:List Int).map Qak))]⟩) (fun y9 h=>?_) ?_
    ·subst hk_k10
     refine wxz ?_
     obtain ⟨hz11,h⟩:=cko h
     refine wmr (Q4v (n:=68) (l':=[(4,(Q31 y9 p1))]) 0 [(4,(.own 0 1 (0) ((p1.length:Int).toNat)))] (by kernel_rfl) (by kernel_rfl) (by kernel_rfl) ⟨rfl,(Qow hz11),trivial⟩ rfl) ?_
     refine wmr (mto (n:=68) (l':=[(4,(Q31 y9 p1))]) (own':=[]) [(4,(Q31 y9 p1))] [] [] hφ0 (pc (rnd Qae) pn) qn)<|Qaf ?_
     obtain rfl:=osi h
     exact ⟨_,Mor.rfl,Qdb (vs:=[(Q31 y9 p1)]) ⟨rot,trivial⟩ rfl (nld Qae _) (by kernel_rfl) Qbx⟩
    ·skip
     obtain ⟨x13,hf12,h⟩:=bno h
     obtain ⟨hs14,h⟩:=cko h
     refine wx tbk [(1,rp [(.tmp 2,.ref 0 1 0 0),(.tmp 5,.ref 1 1 0 0)] Q8x),(2,⟨[fu 158,(.tmp 50,(Qiv p1)),(.tmp 51,Q8x)],[(0,.own 1 [[I p0]]),(1,.own 1 [[I y3]])],(Q8v x13),[(0,.own 1 [[I p0]]),(1,.own 1 [[I y3]])],false⟩),(4,rp [(.tmp 52,(Q8v x13)),(.tmp 53,I y6)] (Qsg x13 y6)),(5,rp [(.tmp 54,(Qsg x13 y6))] (I ((((x13).take (y6.toNat - 0)).length:Int))))] ⟨Qfz (fs:=[]) (cs:=[.ref 0 1 0 0,.ref 1 1 0 0]) rfl rfl rfl rfl,Qat (first:=[]) (cap:=[]) (vs:=[(Qiv p1),Q8x]) (σr:=[(.own 1 [[I p0]]),(.own 1 [[I y3]])]) (σr':=[(.own 1 [[I p0]]),(.own 1 [[I y3]])]) (res':=(Q8v x13)) [0,1] rfl Zea (Qms N p1 p0 y3 _ hf12) rfl (Qbu (rnc (pld Qae) (rnc (Qbr rn0 (rnc (Qbp rfl) (rnc (Qbp rfl) rn0))) rn0))) (slc (Qaq (rnc (.plain _ nll) rn0)) (slc (Qaq (rnc (.plain _ nll) rn0)) Qar)) (slc (Qaq (rnc (.plain _ nll) rn0)) (slc (Qaq (rnc (.plain _ nll) rn0)) Qar)) (pld Qae) rfl rfl rfl,Qnm (k:=.i64) (k':=.i64) (lo:=none) (hi:=some (.tmp 53)) (l:=0) (hh:=y6) rfl Tryz.underlying27 ti3 rfl (fun _=>rfl) (fun e=>nomatch e) (Q0s hs14) (Q0r hs14) (Zlh (Qak) hs14) (Znp Qak),alm (c:=Qak) (l:=(x13).take (y6.toNat - 0)) (aln rfl Tryz.underlying27 rfl),trivial⟩<|Qal ?_
     refine wmr (mto (n:=68) (l':=[(8,(.own 0 1 (0) ((p1.length:Int).toNat))),(54,(Qsg x13 y6)),(55,(I ((((x13).take (y6.toNat - 0)).length:Int)))),(56,I 0)]) (own':=[(Q8w y7)]) [(8,(.own 2 1 (0) ((p1.length:Int).toNat))),(54,(Qsg x13 y6)),(55,(I ((((x13).take (y6.toNat - 0)).length:Int)))),(56,I 0)] [2] [(Q8w y7)] hφ0 (pc (.rn (Qa4 rfl)) (pc (rnd Qae) (pc rwl (pc rwl pn)))) (qc (spr Qae) qn)) ?_
     refine Qby (τ:=Int×(List Int)) (fun n t=>Qdt N p1 y6 k10 x13 n t.1 t.2=some r) (fun ⟨y15,y16⟩=>⟨mk 68 [(8,(.own 0 1 (0) ((p1.length:Int).toNat))),(54,(Qsg x13 y6)),(55,(I ((((x13).take (y6.toNat - 0)).length:Int)))),(56,I y15)],[(Qu5 y16)]⟩) (fun t h=>by rw [Qdt] at h; cases h) (fun n19 ih t h=>?_) N (0,y7) h
     obtain ⟨y15,y16⟩:=t
     rw [Qdt] at h
     skip
     refine wxz<|wsq ?_
     refine bfe h (fun hc20 h=>?_) fun hc20 h=>?_
     ·refine wft hc20<|Qam<|thn<|wsq<|Qal ?_
      obtain ⟨x21,hg22,h⟩:=bno h
      obtain ⟨hi23,hj24⟩:=gsm hg22
      refine wx tbk [(0,rp [(.tmp 54,(Qsg x13 y6)),(.tmp 56,I y15)] (.dptr (Qak (x21)) 0))] ⟨aid rfl Tryz.underlying27 ti3 rfl rfl hi23 (mgt Qak hj24) rfl,trivial⟩ ?_
      obtain ⟨hi25,h⟩:=cko h
      obtain ⟨hi25a,hi25b⟩:=Qdv hi25
      obtain ⟨x26,hg27,h⟩:=bno h
      obtain ⟨hi28,h⟩:=cko h
      obtain ⟨hi28a,hi28b⟩:=Qdv hi28
      obtain ⟨x29,hg30,h⟩:=bno h
      refine wx1 tbk [(2,rb [(.tmp 60,(.own 0 1 (0) ((p1.length:Int).toNat))),(.tmp 61,I x21)] [(0,(Qu5 y16))] (.ref 0 1 (x21.toNat) 0)),(3,rb [(.tmp 62,(.ref 0 1 (x21.toNat) 0))] [(0,(Qu5 y16))] (I x26)),(5,rb [(.tmp 60,(.own 0 1 (0) ((p1.length:Int).toNat))),(.tmp 61,I x21)] [(0,(Qu5 y16))] (.ref 0 1 (x21.toNat) 0)),(6,⟨[(.tmp 65,(.ref 0 1 (x21.toNat) 0)),(.tmp 64,(I (w64 (x26+1))))],[(0,(Qu5 y16))],.any,[(0,(.own 1 ((y16.set x21.toNat (w64 (x26+1)):List Int).map Qak)))],false⟩)] ⟨aio rfl Tryz.underlying27 ti3 (odt hi25a) (odt hi25b) (Nat.zero_add _),ald rfl ti3 (by decide) (mgt Qak hg27) (nle rfl) rfl,aio rfl Tryz.underlying27 ti3 (odt hi28a) (odt hi28b) (Nat.zero_add _),ast rfl ti3 (by rfl) (mgt Qak hg30) (nle rfl) (Qgm Qak rfl),trivial⟩<|bln<|thn<|wxz1<|thn ?_
      exact arm (mto (n:=68) [(8,(.own 0 1 (0) ((p1.length:Int).toNat))),(54,(Qsg x13 y6)),(55,(I ((((x13).take (y6.toNat - 0)).length:Int)))),(56,(I (w64 (y15+1))))] [0] [(.own 1 ((y16.set x21.toNat (w64 (x26+1)):List Int).map Qak))] hφ0 (pc (.rn (Qa4 rfl)) (pc (rnd Qae) (pc rwl (pc rwl pn)))) (qc (spr Qae) qn)) (ih (w64 (y15+1),y16.set x21.toNat (w64 (x26+1))) h)
     ·exact wfn hc20<|Qbj<|Qav<|Qav<|Qbi rfl<|thn<|⟨(y16),h,(mto (n:=68) [(8,(.own 0 1 (0) ((p1.length:Int).toNat)))] [0] [(Qu5 y16)] hφ0 (pc (.rn (Qa4 rfl)) pn) (qc (spr Qae) qn))⟩
   ·skip
    refine wx tbk [(1,rp [(.tmp 28,(Qiv p1))] (I ((p1.length:Int))))] ⟨alm (c:=Qak) (l:=p1) (aln rfl Tryz.underlying27 rfl),trivial⟩<|Qal ?_
    refine wmr (mto (n:=68) (l':=[(1,(Qiv p1)),(2,.ref 0 1 0 0),(5,.ref 1 1 0 0),(8,(.own 2 1 (0) ((p1.length:Int).toNat))),(9,I p0),(28,(Qiv p1)),(29,(I ((p1.length:Int)))),(30,I 0)]) (own':=[(.own 1 [[I p0]]),(.own 1 [[I y3]]),(.own 1 (((List.replicate (p1.length:Int).toNat 0):List Int).map Qak))]) [(1,(Qiv p1)),(2,.ref 0 1 0 0),(5,.ref 1 1 0 0),(8,(.own 2 1 (0) ((p1.length:Int).toNat))),(9,I p0),(28,(Qiv p1)),(29,(I ((p1.length:Int)))),(30,I 0)] [0,1,2] [(.own 1 [[I p0]]),(.own 1 [[I y3]]),(Zl0 p1)] hφ0 (pc (rnd Qae) (pc (.rn (rqr rfl)) (pc (.rn (rqr rfl)) (pc (.rn (Qa4 rfl)) (pc rwl (pc (rnd Qae) (pc rwl (pc rwl pn)))))))) (qc (spb (lc rwl ln)) (qc (spb (lc rwl ln)) (qc (spr Qae) qn)))) ?_
    refine Qby (τ:=Int×Int×(List Int)) (fun n t=>Qds N p0 p1 y3 k8 n t.1 t.2.1 t.2.2=some r) (fun ⟨y31,y32,y33⟩=>⟨mk 68 [(1,(Qiv p1)),(2,.ref 0 1 0 0),(5,.ref 1 1 0 0),(8,(.own 2 1 (0) ((p1.length:Int).toNat))),(9,I y31),(28,(Qiv p1)),(29,(I ((p1.length:Int)))),(30,I y32)],[(.own 1 [[I p0]]),(.own 1 [[I y3]]),(Q30 y33)]⟩) (fun t h=>by rw [Qds] at h; cases h) (fun n37 ih t h=>?_) N (p0,0,List.replicate (p1.length:Int).toNat 0) h
    obtain ⟨y31,y32,y33⟩:=t
    rw [Qds] at h
    skip
    refine wxz<|wsq ?_
    refine bfe h (fun hc38 h=>?_) fun hc38 h=>?_
    ·refine wft hc38<|Qam<|thn<|wsq<|Qal ?_
     obtain ⟨x39,hg40,h⟩:=bno h
     obtain ⟨hi41,hj42⟩:=gsm hg40
     refine wx tbk [(1,rp [(.tmp 28,(Qiv p1)),(.tmp 30,I y32)] (.dptr (Qak (x39)) 0))] ⟨aid rfl Tryz.underlying27 ti3 rfl rfl hi41 (mgt Qak hj42) rfl,trivial⟩ ?_
     obtain ⟨hz43,h⟩:=cko h
     obtain ⟨hi44,h⟩:=cko h
     obtain ⟨hi44a,hi44b⟩:=Qdv hi44
     obtain ⟨x45,hg46,h⟩:=bno h
     refine wx tbk [(6,rp [(.tmp 39,(I (w64 (p0 * x39)))),(.tmp 40,I y3)] (I (w64 ((w64 (p0 * x39)).tdiv y3)))),(7,rb [(.tmp 35,(.own 2 1 (0) ((p1.length:Int).toNat))),(.tmp 36,I y32)] [(2,(Q30 y33))] (.ref 2 1 (y32.toNat) 0)),(8,⟨[(.tmp 42,(.ref 2 1 (y32.toNat) 0)),(.tmp 41,(I (w64 ((w64 (p0 * x39)).tdiv y3))))],[(2,(Q30 y33))],.any,[(2,(Q3z y33 y32 p0 x39 y3))],false⟩)] ⟨Qjv rfl (Qkx hz43),aio rfl Tryz.underlying27 ti3 (odt hi44a) (odt hi44b) (Nat.zero_add _),ast rfl ti3 (by rfl) (mgt Qak hg46) (nle rfl) (Qgm Qak rfl),trivial⟩ ?_
     obtain ⟨hi47,h⟩:=cko h
     obtain ⟨hi47a,hi47b⟩:=Qdv hi47
     obtain ⟨x48,hg49,h⟩:=bno h
     refine wx1 tbk [(3,rb [(.tmp 44,(.own 2 1 (0) ((p1.length:Int).toNat))),(.tmp 45,I y32)] [(2,(Q3z y33 y32 p0 x39 y3))] (.ref 2 1 (y32.toNat) 0)),(4,rb [(.tmp 46,(.ref 2 1 (y32.toNat) 0))] [(2,(Q3z y33 y32 p0 x39 y3))] (I x48))] ⟨aio rfl Tryz.underlying27 ti3 (odt hi47a) (odt hi47b) (Nat.zero_add _),ald rfl ti3 (by decide) (mgt Qak hg49) (nle rfl) rfl,trivial⟩<|bln<|thn<|wxz1<|thn ?_
     exact arm (mto (n:=68) [(1,(Qiv p1)),(2,.ref 0 1 0 0),(5,.ref 1 1 0 0),(8,(.own 2 1 (0) ((p1.length:Int).toNat))),(9,(I (w64 (y31 - x48)))),(28,(Qiv p1)),(29,(I ((p1.length:Int)))),(30,(I (w64 (y32+1))))] [0,1,2] [(.own 1 [[I p0]]),(.own 1 [[I y3]]),(Q3z y33 y32 p0 x39 y3)] hφ0 (pc (rnd Qae) (pc (.rn (rqr rfl)) (pc (.rn (rqr rfl)) (pc (.rn (Qa4 rfl)) (pc rwl (pc (rnd Qae) (pc rwl (pc rwl pn)))))))) (qc (spb (lc rwl ln)) (qc (spb (lc rwl ln)) (qc (spr Qae) qn)))) (ih (w64 (y31 - x48),w64 (y32+1),y33.set y32.toNat (w64 ((w64 (p0 * x39)).tdiv y3))) h)
    ·exact wfn hc38<|Qbj<|Qav<|Qav<|Qbi rfl<|thn<|⟨(y31,y33),h,(mto (n:=68) [(1,(Qiv p1)),(2,.ref 0 1 0 0),(5,.ref 1 1 0 0),(8,(.own 2 1 (0) ((p1.length:Int).toNat))),(9,I y31)] [0,1,2] [(.own 1 [[I p0]]),(.own 1 [[I y3]]),(Q30 y33)] hφ0 (pc (rnd Qae) (pc (.rn (rqr rfl)) (pc (.rn (rqr rfl)) (pc (.rn (Qa4 rfl)) (pc rwl pn))))) (qc (spb (lc rwl ln)) (qc (spb (lc rwl ln)) (qc (spr Qae) qn))))⟩
  ·skip
   refine wx tbk [(1,rp [(.tmp 14,(Qiv p1))] (I ((p1.length:Int))))] ⟨alm (c:=Qak) (l:=p1) (aln rfl Tryz.underlying27 rfl),trivial⟩<|Qal ?_
   refine wmr (mto (n:=68) (l':=[(1,(Qiv p1)),(2,.ref 0 1 0 0),(5,.ref 1 1 0 0),(14,(Qiv p1)),(15,(I ((p1.length:Int)))),(16,I 0)]) (own':=[(.own 1 [[I p0]]),(.own 1 [[I 0]])]) [(1,(Qiv p1)),(2,.ref 0 1 0 0),(5,.ref 1 1 0 0),(14,(Qiv p1)),(15,(I ((p1.length:Int)))),(16,I 0)] [0,1] [(.own 1 [[I p0]]),(.own 1 [[I 0]])] hφ0 (pc (rnd Qae) (pc (.rn (rqr rfl)) (pc (.rn (rqr rfl)) (pc (rnd Qae) (pc rwl (pc rwl pn)))))) (qc (spb (lc rwl ln)) (qc (spb (lc rwl ln)) qn))) ?_
   refine Qby (τ:=Int×Int) (fun n t=>Qdr N p1 k4 n t.1 t.2=some r) (fun ⟨y50,y51⟩=>⟨mk 68 [(1,(Qiv p1)),(2,.ref 0 1 0 0),(5,.ref 1 1 0 0),(14,(Qiv p1)),(15,(I ((p1.length:Int)))),(16,I y50)],[(.own 1 [[I p0]]),(.own 1 [[I y51]])]⟩) (fun t h=>by rw [Qdr] at h; cases h) (fun n54 ih t h=>?_) N (0,0) h
   obtain ⟨y50,y51⟩:=t
   rw [Qdr] at h
   skip
   refine wxz<|wsq ?_
   refine bfe h (fun hc55 h=>?_) fun hc55 h=>?_
   ·refine wft hc55<|Qam<|thn<|wsq<|Qal ?_
    obtain ⟨x56,hg57,h⟩:=bno h
    obtain ⟨hi58,hj59⟩:=gsm hg57
    exact wx tbk [(0,rp [(.tmp 14,(Qiv p1)),(.tmp 16,I y50)] (.dptr (Qak (x56)) 0))] ⟨aid rfl Tryz.underlying27 ti3 rfl rfl hi58 (mgt Qak hj59) rfl,trivial⟩<|wxz1<|bln<|thn<|wxz1<|thn<|arm (mto (n:=68) [(1,(Qiv p1)),(2,.ref 0 1 0 0),(5,.ref 1 1 0 0),(14,(Qiv p1)),(15,(I ((p1.length:Int)))),(16,(I (w64 (y50+1))))] [0,1] [(.own 1 [[I p0]]),(.own 1 [[(I (w64 (y51+x56)))]])] hφ0 (pc (rnd Qae) (pc (.rn (rqr rfl)) (pc (.rn (rqr rfl)) (pc (rnd Qae) (pc rwl (pc rwl pn)))))) (qc (spb (lc rwl ln)) (qc (spb (lc rwl ln)) qn))) (ih (w64 (y50+1),w64 (y51+x56)) h)
   ·exact wfn hc55<|Qbj<|Qav<|Qav<|Qbi rfl<|thn<|⟨(y51),h,(mto (n:=68) [(1,(Qiv p1)),(2,.ref 0 1 0 0),(5,.ref 1 1 0 0)] [0,1] [(.own 1 [[I p0]]),(.own 1 [[I y51]])] hφ0 (pc (rnd Qae) (pc (.rn (rqr rfl)) (pc (.rn (rqr rfl)) pn))) (qc (spb (lc rwl ln)) (qc (spb (lc rwl ln)) qn)))⟩
def Qe4 (_N:Nat) (p0:Int) (p1:Int) (p2:Int) (_p3:Int) (_p4:Int) (_p5:Int):Option Int:=
  chk ((if p2>1 then p2 else 1) != 0)<|
  (some (w64 ((w64 (p0 * p1)).tdiv (if p2>1 then p2 else 1)))).bind fun x2=>
  some x2
theorem Qhz (N:Nat) (p0:Int) (p1:Int) (p2:Int) (p3:Int) (p4:Int) (p5:Int) (r:Int) (h:Qe4 N p0 p1 p2 p3 p4 p5=some r):Spec Tryz.prog 154 [(I (p0)),(.dptr [(I (p1))] 0),(.dptr [(I (p2)),(I (p3)),(I (p4)),(I (p5))] 0)] [] (I (r)) []:=by
  refine Qai Tryz.func154 rfl 0 (nle rfl) (fun X φ0 w0 hφ0 hd0=>?_)
  unfold Qe4 at h
  refine wxz ?_
  obtain ⟨hz1,h⟩:=cko h
  obtain ⟨x2,hl3,h⟩:=bno h
  refine wx tbk [(5,rp [ci 1,(.tmp 9,I p2)] (I ((if p2>1 then p2 else 1)))),(6,rp [(.tmp 7,(I (w64 (p0 * p1)))),(.tmp 10,(I ((if p2>1 then p2 else 1))))] (I (w64 ((w64 (p0 * p1)).tdiv (if p2>1 then p2 else 1))))),(7,rp [(.tmp 11,(I (w64 ((w64 (p0 * p1)).tdiv (if p2>1 then p2 else 1)))))] (I x2))] ⟨Ql2 rfl,Qjv rfl (Qkx hz1),Qg6 hl3 (aas rfl),trivial⟩<|Qaf ?_
  obtain rfl:=osi h
  exact fend ⟨[I x2],⟨rot,trivial⟩,rfl⟩ nll
def Qcn (_N:Nat) (_p0:Int) (_p1:Int) (_p2:Int) (_p3:Int):Option Unit:=
  some ()
def Qx7 (p0:Int) (p1:Int) (p2:Int) (p3:Int):Slot:=.own 4 [[(I (p0)),(I (p1)),(I (p2)),(I (p3))]]
def Zh7:AV:=.agg [(.ref 0 4 (0) 0),(.ref 0 4 (0) 1),(.ref 0 4 (0) 2),(.ref 0 4 (0) 3)]
def Zh6:Slot:=.own 4 [[(.ref 0 4 (0) 0),(.ref 0 4 (0) 1),(.ref 0 4 (0) 2),(.ref 0 4 (0) 3)]]
theorem Qdd (N:Nat) (p0:Int) (p1:Int) (p2:Int) (p3:Int) (r:Unit) (h:Qcn N p0 p1 p2 p3=some r):Spec Tryz.prog 161 [(.ref 0 4 (0) 0)] [(Qx7 p0 p1 p2 p3)] Zh7 [(Qx7 p0 p1 p2 p3),Zh6]:=by
  refine Qai Tryz.func161 rfl 2 (nle rfl) (fun X φ0 w0 hφ0 hd0=>?_)
  unfold Qcn at h
  refine Qb1<|wxz ?_
  refine wxd tbk [(1,rb [(.tmp 3,.ref 0 4 0 0)] [(0,(Qx7 p0 p1 p2 p3))] (.ref 0 4 0 0)),(4,rb [(.tmp 6,.ref 0 4 0 0)] [(0,(Qx7 p0 p1 p2 p3))] (.ref 0 4 0 0)),(7,rb [(.tmp 9,.ref 0 4 0 0)] [(0,(Qx7 p0 p1 p2 p3))] (.ref 0 4 0 0)),(10,rb [(.tmp 12,.ref 0 4 0 0)] [(0,(Qx7 p0 p1 p2 p3))] (.ref 0 4 0 0)),(12,rp [(.tmp 5,.ref 0 4 0 0),(.tmp 8,.ref 0 4 0 1),(.tmp 11,.ref 0 4 0 2),(.tmp 14,.ref 0 4 0 3)] Zh7)] ⟨Qbe rfl,Qbe rfl,Qbe rfl,Qbe rfl,Qrn (vs:=[.ref 0 4 0 0,.ref 0 4 0 1,.ref 0 4 0 2,.ref 0 4 0 3]) rfl Tryz.underlying235 Qup Zl9 rfl (by rfl) rfl,trivial⟩ ?_
  refine wmr (mto (n:=16) (l':=[(2,.ref 1 4 0 0)]) (own':=[(Qx7 p0 p1 p2 p3),Zh6]) [(2,.ref 1 4 0 0)] [0,1] [(Qx7 p0 p1 p2 p3),Zh6] hφ0 (pc (.rn (rqr rfl)) pn) (qc (spb (lcc (lcc ln))) (qc (spb (lc (.rn (rqr rfl)) (lc (.rn (rqr rfl)) (lc (.rn (rqr rfl)) (lc (.rn (rqr rfl)) ln))))) qn)))<|Qaf ?_
  obtain rfl:=osi h
  exact ⟨_,Mor.rfl,Qdb (vs:=[Zh7]) ⟨Qbv (n:=1) (m:=4) (j:=0) (i:=0) (xs:=[[.ref 0 4 0 0,.ref 0 4 0 1,.ref 0 4 0 2,.ref 0 4 0 3]]) (by kernel_rfl) (by kernel_rfl) Zmf (by decide) rfl (nle rfl) rfl,trivial⟩ rfl (NLt.agg _ (nlc (NLt.ref _ _ _ _ (by decide)) (nlc (NLt.ref _ _ _ _ (by decide)) (nlc (NLt.ref _ _ _ _ (by decide)) (nlc (NLt.ref _ _ _ _ (by decide)) nl0))))) (by kernel_rfl) (Qao (Qbg (nlc (NLt.of0 nll) (nlc (NLt.of0 nll) (nlc (NLt.of0 nll) (nlc (NLt.of0 nll) nl0))))) (Qao (Qbg (nlc (NLt.ref _ _ _ _ (by decide)) (nlc (NLt.ref _ _ _ _ (by decide)) (nlc (NLt.ref _ _ _ _ (by decide)) (nlc (NLt.ref _ _ _ _ (by decide)) nl0))))) Qbx))⟩
def Qi2 (N:Nat) (p0:GStream) (p1:Int) (p2:Int) (p3:Int) (p4:Int):Option Unit:=
  (Qcn N p0.Mass p0.Heat p0.Silica p0.Gas).bind fun _=>
  (Qcn N p1 p2 p3 p4).bind fun _=>
  (Qcn N (w64 (p1+p0.Mass)) p2 p3 p4).bind fun _=>
  (Qcn N (w64 (p1+p0.Mass)) (w64 (p2+p0.Heat)) p3 p4).bind fun _=>
  (Qcn N (w64 (p1+p0.Mass)) (w64 (p2+p0.Heat)) (w64 (p3+p0.Silica)) p4).bind fun _=>
  some ()
def Q07 (p1:Int) (p2:Int) (p3:Int) (p4:Int):Slot:=.own 4 [[(I (p1)),(I (p2)),(I (p3)),(I (p4))]]
def Q8s (p1:Int) (p0:GStream) (p2:Int) (p3:Int) (p4:Int):Slot:=.own 4 [[(I (w64 (p1+p0.Mass))),(I (w64 (p2+p0.Heat))),(I (w64 (p3+p0.Silica))),(I (w64 (p4+p0.Gas)))]]
def Qx9 (p0:GStream):Slot:=.own 4 [[(I (p0.Mass)),(I (p0.Heat)),(I (p0.Silica)),(I (p0.Gas))]]
def Q54:AV:=.agg [(.ref 1 4 (0) 0),(.ref 1 4 (0) 1),(.ref 1 4 (0) 2),(.ref 1 4 (0) 3)]
def Zlx:Slot:=.own 4 [[(.ref 1 4 (0) 0),(.ref 1 4 (0) 1),(.ref 1 4 (0) 2),(.ref 1 4 (0) 3)]]
def Qrq:AV:=.agg [(.ref 0 4 (0) 0),(.ref 0 4 (0) 1),(.ref 0 4 (0) 2),(.ref 0 4 (0) 3)]
def Qx8:Slot:=.own 4 [[(.ref 0 4 (0) 0),(.ref 0 4 (0) 1),(.ref 0 4 (0) 2),(.ref 0 4 (0) 3)]]
def Q53 (p1:Int) (p0:GStream) (p2:Int) (p3:Int) (p4:Int):Slot:=.own 4 [[(I (w64 (p1+p0.Mass))),(I (p2)),(I (p3)),(I (p4))]]
def Q52 (p1:Int) (p0:GStream) (p2:Int) (p3:Int) (p4:Int):Slot:=.own 4 [[(I (w64 (p1+p0.Mass))),(I (w64 (p2+p0.Heat))),(I (p3)),(I (p4))]]
def Q51 (p1:Int) (p0:GStream) (p2:Int) (p3:Int) (p4:Int):Slot:=.own 4 [[(I (w64 (p1+p0.Mass))),(I (w64 (p2+p0.Heat))),(I (w64 (p3+p0.Silica))),(I (p4))]]
theorem Qqm (N:Nat) (p0:GStream) (p1:Int) (p2:Int) (p3:Int) (p4:Int) (r:Unit) (h:Qi2 N p0 p1 p2 p3 p4=some r):Spec Tryz.prog 160 [(.agg [(I (p0.Mass)),(I (p0.Heat)),(I (p0.Silica)),(I (p0.Gas))]),(.ref 0 4 (0) 0)] [(Q07 p1 p2 p3 p4)] (.tup []) [(Q8s p1 p0 p2 p3 p4)]:=by
  refine Qai Tryz.func160 rfl 1 (nle rfl) (fun X φ0 w0 hφ0 hd0=>?_)
  unfold Qi2 at h
  refine Qb1<|wxz ?_
  obtain ⟨x2,hf1,h⟩:=bno h
  refine wx tbk [(0,⟨[fu 161,(.tmp 2,.ref 1 4 0 0)],[(1,(Qx9 p0)),(2,.unused)],Q54,[(1,(Qx9 p0)),(2,Zlx)],false⟩)] ⟨Qat (first:=[]) (cap:=[]) (vs:=[.ref 1 4 0 0]) (σr:=[(Qx9 p0)]) (σr':=[(Qx9 p0),Zlx]) (res':=Q54) [1,2] rfl Qpy (Qdd N p0.Mass p0.Heat p0.Silica p0.Gas _ hf1) rfl (Qbu (rnc (Qbp rfl) rn0)) (slc (Qaq (rncc (rncc rn0))) Qar) (slc (Qaq (rncc (rncc rn0))) (slc (Qaq (rnc (Qbs rfl) (rnc (Qbs rfl) (rnc (Qbs rfl) (rnc (Qbs rfl) rn0))))) Qar)) (Qbu (rnc (Qbs rfl) (rnc (Qbs rfl) (rnc (Qbs rfl) (rnc (Qbs rfl) rn0))))) rfl rfl rfl,trivial⟩<|Qal<|Q5h 17<|Qv3<|wxz<|wsq<|wtr<|Qam<|thn<|wsq ?_
  refine Qal<|wx tbk [(1,rp [(.tmp 5,Q54),(.tmp 6,I 0)] (.ref 1 4 0 0))] ⟨Qhf rfl Tryz.underlying235 Qup (by decide) (by decide) (nle rfl) (by decide) rfl,trivial⟩ ?_
  obtain ⟨x4,hf3,h⟩:=bno h
  refine wy1 tbk [(0,⟨[fu 161,(.tmp 1,.ref 0 4 0 0)],[(0,(Q07 p1 p2 p3 p4)),(3,.unused)],Qrq,[(0,(Q07 p1 p2 p3 p4)),(3,Qx8)],false⟩),(2,rp [(.tmp 10,Qrq),(.tmp 11,I 0)] (.ref 0 4 0 0)),(3,rb [(.tmp 12,.ref 0 4 0 0)] [(0,(Q07 p1 p2 p3 p4))] (.ref 0 4 0 0)),(6,rb [(.tmp 15,.ref 1 4 0 0)] [(1,(Qx9 p0))] (.ref 1 4 0 0)),(9,rb [(.tmp 12,.ref 0 4 0 0)] [(0,(Q07 p1 p2 p3 p4))] (.ref 0 4 0 0))] ⟨Qat (first:=[]) (cap:=[]) (vs:=[.ref 0 4 0 0]) (σr:=[(Q07 p1 p2 p3 p4)]) (σr':=[(Q07 p1 p2 p3 p4),Qx8]) (res':=Qrq) [0,3] rfl Qpy (Qdd N p1 p2 p3 p4 _ hf3) rfl (Qbu (rnc (Qbp rfl) rn0)) (slc (Qaq (rncc (rncc rn0))) Qar) (slc (Qaq (rncc (rncc rn0))) (slc (Qaq (rnc (Qbs rfl) (rnc (Qbs rfl) (rnc (Qbs rfl) (rnc (Qbs rfl) rn0))))) Qar)) (Qbu (rnc (Qbs rfl) (rnc (Qbs rfl) (rnc (Qbs rfl) (rnc (Qbs rfl) rn0))))) rfl rfl rfl,Qhf rfl Tryz.underlying235 Qup (by decide) (by decide) (nle rfl) (by decide) rfl,Qbe rfl,Qbe rfl,Qbe rfl,trivial⟩<|bln<|thn<|wxz1<|thn<|Qv3<|wxz<|wsq<|wtr<|Qam ?_
  refine thn<|wsq<|Qal ?_
  refine wx tbk [(1,rp [(.tmp 5,Q54),(.tmp 6,I 1)] (.ref 1 4 0 1))] ⟨Qhf rfl Tryz.underlying235 Qup (by decide) (by decide) (nle rfl) (by decide) rfl,trivial⟩ ?_
  obtain ⟨x6,hf5,h⟩:=bno h
  refine wy1 tbk [(0,⟨[fu 161,(.tmp 1,.ref 0 4 0 0)],[(0,(Q53 p1 p0 p2 p3 p4)),(4,.unused)],Qrq,[(0,(Q53 p1 p0 p2 p3 p4)),(4,Qx8)],false⟩),(2,rp [(.tmp 10,Qrq),(.tmp 11,I 1)] (.ref 0 4 0 1)),(3,rb [(.tmp 12,.ref 0 4 0 1)] [(0,(Q53 p1 p0 p2 p3 p4))] (.ref 0 4 0 1)),(6,rb [(.tmp 15,.ref 1 4 0 1)] [(1,(Qx9 p0))] (.ref 1 4 0 1)),(9,rb [(.tmp 12,.ref 0 4 0 1)] [(0,(Q53 p1 p0 p2 p3 p4))] (.ref 0 4 0 1))] ⟨Qat (first:=[]) (cap:=[]) (vs:=[.ref 0 4 0 0]) (σr:=[(Q53 p1 p0 p2 p3 p4)]) (σr':=[(Q53 p1 p0 p2 p3 p4),Qx8]) (res':=Qrq) [0,4] rfl Qpy (Qdd N (w64 (p1+p0.Mass)) p2 p3 p4 _ hf5) rfl (Qbu (rnc (Qbp rfl) rn0)) (slc (Qaq (rncc (rncc rn0))) Qar) (slc (Qaq (rncc (rncc rn0))) (slc (Qaq (rnc (Qbs rfl) (rnc (Qbs rfl) (rnc (Qbs rfl) (rnc (Qbs rfl) rn0))))) Qar)) (Qbu (rnc (Qbs rfl) (rnc (Qbs rfl) (rnc (Qbs rfl) (rnc (Qbs rfl) rn0))))) rfl rfl rfl,Qhf rfl Tryz.underlying235 Qup (by decide) (by decide) (nle rfl) (by decide) rfl,Qbe rfl,Qbe rfl,Qbe rfl,trivial⟩<|bln<|thn<|wxz1<|thn<|Qv3<|wxz<|wsq<|wtr<|Qam ?_
  refine thn<|wsq<|Qal ?_
  refine wx tbk [(1,rp [(.tmp 5,Q54),(.tmp 6,I 2)] (.ref 1 4 0 2))] ⟨Qhf rfl Tryz.underlying235 Qup (by decide) (by decide) (nle rfl) (by decide) rfl,trivial⟩ ?_
  obtain ⟨x8,hf7,h⟩:=bno h
  refine wy1 tbk [(0,⟨[fu 161,(.tmp 1,.ref 0 4 0 0)],[(0,(Q52 p1 p0 p2 p3 p4)),(5,.unused)],Qrq,[(0,(Q52 p1 p0 p2 p3 p4)),(5,Qx8)],false⟩),(2,rp [(.tmp 10,Qrq),(.tmp 11,I 2)] (.ref 0 4 0 2)),(3,rb [(.tmp 12,.ref 0 4 0 2)] [(0,(Q52 p1 p0 p2 p3 p4))] (.ref 0 4 0 2)),(6,rb [(.tmp 15,.ref 1 4 0 2)] [(1,(Qx9 p0))] (.ref 1 4 0 2)),(9,rb [(.tmp 12,.ref 0 4 0 2)] [(0,(Q52 p1 p0 p2 p3 p4))] (.ref 0 4 0 2))] ⟨Qat (first:=[]) (cap:=[]) (vs:=[.ref 0 4 0 0]) (σr:=[(Q52 p1 p0 p2 p3 p4)]) (σr':=[(Q52 p1 p0 p2 p3 p4),Qx8]) (res':=Qrq) [0,5] rfl Qpy (Qdd N (w64 (p1+p0.Mass)) (w64 (p2+p0.Heat)) p3 p4 _ hf7) rfl (Qbu (rnc (Qbp rfl) rn0)) (slc (Qaq (rncc (rncc rn0))) Qar) (slc (Qaq (rncc (rncc rn0))) (slc (Qaq (rnc (Qbs rfl) (rnc (Qbs rfl) (rnc (Qbs rfl) (rnc (Qbs rfl) rn0))))) Qar)) (Qbu (rnc (Qbs rfl) (rnc (Qbs rfl) (rnc (Qbs rfl) (rnc (Qbs rfl) rn0))))) rfl rfl rfl,Qhf rfl Tryz.underlying235 Qup (by decide) (by decide) (nle rfl) (by decide) rfl,Qbe rfl,Qbe rfl,Qbe rfl,trivial⟩<|bln<|thn<|wxz1<|thn<|Qv3<|wxz<|wsq<|wtr<|Qam ?_
  refine thn<|wsq<|Qal ?_
  refine wx tbk [(1,rp [(.tmp 5,Q54),(.tmp 6,I 3)] (.ref 1 4 0 3))] ⟨Qhf rfl Tryz.underlying235 Qup (by decide) (by decide) (nle rfl) (by decide) rfl,trivial⟩ ?_
  obtain ⟨x10,hf9,h⟩:=bno h
  refine wy1 tbk [(0,⟨[fu 161,(.tmp 1,.ref 0 4 0 0)],[(0,(Q51 p1 p0 p2 p3 p4)),(6,.unused)],Qrq,[(0,(Q51 p1 p0 p2 p3 p4)),(6,Qx8)],false⟩),(2,rp [(.tmp 10,Qrq),(.tmp 11,I 3)] (.ref 0 4 0 3)),(3,rb [(.tmp 12,.ref 0 4 0 3)] [(0,(Q51 p1 p0 p2 p3 p4))] (.ref 0 4 0 3)),(6,rb [(.tmp 15,.ref 1 4 0 3)] [(1,(Qx9 p0))] (.ref 1 4 0 3)),(9,rb [(.tmp 12,.ref 0 4 0 3)] [(0,(Q51 p1 p0 p2 p3 p4))] (.ref 0 4 0 3))] ⟨Qat (first:=[]) (cap:=[]) (vs:=[.ref 0 4 0 0]) (σr:=[(Q51 p1 p0 p2 p3 p4)]) (σr':=[(Q51 p1 p0 p2 p3 p4),Qx8]) (res':=Qrq) [0,6] rfl Qpy (Qdd N (w64 (p1+p0.Mass)) (w64 (p2+p0.Heat)) (w64 (p3+p0.Silica)) p4 _ hf9) rfl (Qbu (rnc (Qbp rfl) rn0)) (slc (Qaq (rncc (rncc rn0))) Qar) (slc (Qaq (rncc (rncc rn0))) (slc (Qaq (rnc (Qbs rfl) (rnc (Qbs rfl) (rnc (Qbs rfl) (rnc (Qbs rfl) rn0))))) Qar)) (Qbu (rnc (Qbs rfl) (rnc (Qbs rfl) (rnc (Qbs rfl) (rnc (Qbs rfl) rn0))))) rfl rfl rfl,Qhf rfl Tryz.underlying235 Qup (by decide) (by decide) (nle rfl) (by decide) rfl,Qbe rfl,Qbe rfl,Qbe rfl,trivial⟩<|bln<|thn<|wxz1<|thn<|Qv3<|wxz<|wsq<|wfa<|Qbj ?_
  refine Qav<|Qav<|Qbi rfl ?_
  obtain rfl:=osi h
  exact ⟨_,(mto (n:=21) (l':=[]) (own':=[(Q8s p1 p0 p2 p3 p4)]) [] [0] [(Q8s p1 p0 p2 p3 p4)] hφ0 pn (qc (spb (lcc (lcc ln))) qn)),Qdb (vs:=[]) trivial rfl (NLt.tup _ nl0) (by kernel_rfl) (Qao (Qbg (nlc (NLt.of0 nll) (nlc (NLt.of0 nll) (nlc (NLt.of0 nll) (nlc (NLt.of0 nll) nl0))))) Qbx)⟩
def Qe3 (N:Nat) (p0:(List GStream)) (k5:Int×Int×Int×Int→Option GStream):Nat→Int→Int→Int→Int→Int→Option GStream
  | 0,_,_,_,_,_=>none
  | n16+1,y6,y7,y8,y9,y10=>
    bif (decide (y6<(p0.length:Int))) then
     (getI p0 y6).bind fun x18=>
     (Qi2 N x18 y7 y8 y9 y10).bind fun _=>
     Qe3 N p0 k5 n16 (w64 (y6+1)) (w64 (y7+x18.Mass)) (w64 (y8+x18.Heat)) (w64 (y9+x18.Silica)) (w64 (y10+x18.Gas))
    else
     k5 (y7,y8,y9,y10)
def Qkf (N:Nat) (p0:(List GStream)):Option GStream:=
  Qbh (fun ⟨y1,y2,y3,y4⟩=>
    some (⟨y1,y2,y3,y4⟩:GStream)) fun k5:Int×Int×Int×Int→Option GStream=>
  Qe3 N p0 k5 N 0 0 0 0 0
def Q56:AV:=.fn (.func 160) [] [(.ref 0 4 (0) 0)]
def Q55 (p0:(List GStream)):AV:=.dat 4 ((p0:List GStream).map Qaa)
def Zly:Slot:=.own 4 [[(I (0)),(I (0)),(I (0)),(I (0))]]
def Q3v (y7:Int) (y8:Int) (y9:Int) (y10:Int):Slot:=.own 4 [[(I (y7)),(I (y8)),(I (y9)),(I (y10))]]
def Zgg (x18:GStream):AV:=.agg [(I (x18.Mass)),(I (x18.Heat)),(I (x18.Silica)),(I (x18.Gas))]
def Q8t (y7:Int) (x18:GStream) (y8:Int) (y9:Int) (y10:Int):Slot:=.own 4 [[(I (w64 (y7+x18.Mass))),(I (w64 (y8+x18.Heat))),(I (w64 (y9+x18.Silica))),(I (w64 (y10+x18.Gas)))]]
theorem Qws (N:Nat) (p0:(List GStream)) (r:GStream) (h:Qkf N p0=some r):Spec Tryz.prog 155 [(.dat 4 (p0.map Qaa))] [] (.agg (Qaa r)) []:=by
  refine Qai Tryz.func155 rfl 0 (nle rfl) (fun X φ0 w0 hφ0 hd0=>?_)
  unfold Qkf at h
  refine wxz<|wx tbk [(0,rp [(.tmp 2,.ref 0 4 0 0)] Q56)] ⟨Qfz (fs:=[]) (cs:=[.ref 0 4 0 0]) rfl rfl rfl rfl,trivial⟩ ?_
  obtain ⟨k5,hk_k5,h⟩:=jko h
  refine wjn (τ:=Int×Int×Int×Int) (fun t=>k5 t=some r) (fun ⟨y1,y2,y3,y4⟩=>⟨mk 18 [(2,.ref 0 4 0 0)],[(.own 4 [[I y1,I y2,I y3,I y4]])]⟩) (fun t h=>?_) ?_
  ·subst hk_k5
   obtain ⟨y1,y2,y3,y4⟩:=t
   refine wxz<|Qaf ?_
   obtain rfl:=osi h
   exact fend ⟨[(.agg [I y1,I y2,I y3,I y4])],⟨Qbv (n:=0) (m:=4) (j:=0) (i:=0) (xs:=[[I y1,I y2,I y3,I y4]]) (by kernel_rfl) (by kernel_rfl) ti63 (by decide) rfl (nle rfl) rfl,trivial⟩,rfl⟩ (NLt.agg _ (nlcc (nlcc nl0)))
  ·skip
   refine wx tbk [(1,rp [(.tmp 7,(Q55 p0))] (I ((p0.length:Int))))] ⟨alm (c:=Qaa) (l:=p0) (aln rfl Tryz.underlying45 rfl),trivial⟩<|Qal ?_
   refine wmr (mto (n:=18) (l':=[(2,.ref 0 4 0 0),(3,Q56),(7,(Q55 p0)),(8,(I ((p0.length:Int)))),(9,I 0)]) (own':=[Zly]) [(2,.ref 0 4 0 0),(3,Q56),(7,(Q55 p0)),(8,(I ((p0.length:Int)))),(9,I 0)] [0] [Zly] hφ0 (pc (.rn (rqr rfl)) (pc (.rn (Qbr rn0 (rnc (rqr rfl) rn0))) (pc (rnd Qac) (pc rwl (pc rwl pn))))) (qc (spb (lcc (lcc ln))) qn)) ?_
   refine Qby (τ:=Int×Int×Int×Int×Int) (fun n t=>Qe3 N p0 k5 n t.1 t.2.1 t.2.2.1 t.2.2.2.1 t.2.2.2.2=some r) (fun ⟨y6,y7,y8,y9,y10⟩=>⟨mk 18 [(2,.ref 0 4 0 0),(3,Q56),(7,(Q55 p0)),(8,(I ((p0.length:Int)))),(9,I y6)],[(Q3v y7 y8 y9 y10)]⟩) (fun t h=>by rw [Qe3] at h; cases h) (fun n16 ih t h=>?_) N (0,0,0,0,0) h
   obtain ⟨y6,y7,y8,y9,y10⟩:=t
   rw [Qe3] at h
   skip
   refine wxz<|wsq ?_
   refine bfe h (fun hc17 h=>?_) fun hc17 h=>?_
   ·refine wft hc17<|Qam<|thn<|wsq<|Qal ?_
    obtain ⟨x18,hg19,h⟩:=bno h
    obtain ⟨hi20,hj21⟩:=gsm hg19
    refine wx tbk [(0,rp [(.tmp 7,(Q55 p0)),(.tmp 9,I y6)] (.dptr (Qaa (x18)) 0))] ⟨aid rfl Tryz.underlying45 ti63 rfl rfl hi20 (mgt Qaa hj21) rfl,trivial⟩ ?_
    obtain ⟨x23,hf22,h⟩:=bno h
    refine wx1 tbk [(2,⟨[(.tmp 13,Q56),(.tmp 14,(Zgg x18))],[(0,(Q3v y7 y8 y9 y10))],(.tup []),[(0,(Q8t y7 x18 y8 y9 y10))],false⟩)] ⟨Qat (first:=[]) (cap:=[.ref 0 4 0 0]) (vs:=[(Zgg x18)]) (σr:=[(Q3v y7 y8 y9 y10)]) (σr':=[(Q8t y7 x18 y8 y9 y10)]) (res':=(.tup [])) [0] rfl Zd9 (Qqm N x18 y7 y8 y9 y10 _ hf22) rfl (Qbu (rnc (.plain _ (NLt.agg _ (nlcc (nlcc nl0)))) (rnc (Qbp rfl) rn0))) (slc (Qaq (rncc (rncc rn0))) Qar) (slc (Qaq (rncc (rncc rn0))) Qar) (.plain _ (NLt.tup _ nl0)) rfl rfl rfl,trivial⟩<|bln<|thn<|wxz1<|thn ?_
    exact arm (mto (n:=18) [(2,.ref 0 4 0 0),(3,Q56),(7,(Q55 p0)),(8,(I ((p0.length:Int)))),(9,(I (w64 (y6+1))))] [0] [(Q8t y7 x18 y8 y9 y10)] hφ0 (pc (.rn (rqr rfl)) (pc (.rn (Qbr rn0 (rnc (rqr rfl) rn0))) (pc (rnd Qac) (pc rwl (pc rwl pn))))) (qc (spb (lcc (lcc ln))) qn)) (ih (w64 (y6+1),w64 (y7+x18.Mass),w64 (y8+x18.Heat),w64 (y9+x18.Silica),w64 (y10+x18.Gas)) h)
   ·exact wfn hc17<|Qbj<|Qav<|Qav<|Qbi rfl<|thn<|⟨(y7,y8,y9,y10),h,(mto (n:=18) [(2,.ref 0 4 0 0)] [0] [(Q3v y7 y8 y9 y10)] hφ0 (pc (.rn (rqr rfl)) pn) (qc (spb (lcc (lcc ln))) qn))⟩
def Qd3 (N:Nat) (p0:GStream) (k3:(List GStream)→Option ((List GStream)×GLoss×Int)) (x7:(List Int)):Nat→(List GStream)→Int→Option ((List GStream)×GLoss×Int)
  | 0,_,_=>none
  | n12+1,y8,y9=>
    bif (decide (y9<(x7.length:Int))) then
     (getI x7 y9).bind fun x14=>
     (Qe4 N p0.Heat x14 p0.Mass p0.Heat p0.Silica p0.Gas).bind fun x19=>
     (Qe4 N p0.Silica x14 p0.Mass p0.Heat p0.Silica p0.Gas).bind fun x21=>
     (Qe4 N p0.Gas x14 p0.Mass p0.Heat p0.Silica p0.Gas).bind fun x23=>
     chk (decide ((y8.length+([(⟨x14,x19,x21,x23⟩:GStream)]).length) * 32≤140737488355328))<|
     Qd3 N p0 k3 x7 n12 (y8++([(⟨x14,x19,x21,x23⟩:GStream)])) (w64 (y9+1))
    else
     k3 (y8)
def Qja (N:Nat) (p0:GStream) (p1:(List Int)):Option ((List GStream)×GLoss×Int):=
  Qbh (fun _=>
    Qbh (fun y2=>
      (Qkf N y2).bind fun x5=>
      some (y2,(⟨w64 (p0.Heat - x5.Heat),w64 (p0.Silica - x5.Silica),w64 (p0.Gas - x5.Gas)⟩:GLoss),0)) fun k3:(List GStream)→Option ((List GStream)×GLoss×Int)=>
    (Qib N p0.Mass p1).bind fun x7=>
    Qd3 N p0 k3 x7 N ([]) 0) fun k1:Unit→Option ((List GStream)×GLoss×Int)=>
  (Qdu N p0).bind fun x26=>
  bif (!x26) then
   some ([],(⟨0,0,0⟩:GLoss),1)
  else
   bif (decide ((p1.length:Int)>20)) then
    some ([],(⟨0,0,0⟩:GLoss),1)
   else
    (Qgx N p1).bind fun x30=>
    bif (!x30) then
     some ([],(⟨0,0,0⟩:GLoss),1)
    else
     (Qcg N p1).bind fun x33=>
     bif (!x33) then
      some ([],(⟨0,0,0⟩:GLoss),1)
     else
      k1 ()
def Qqj (p1:(List Int)):AV:=.dat 1 ((p1:List Int).map Qak)
def Qsi (p0:GStream):Slot:=.own 4 [[(I (p0.Mass)),(I (p0.Heat)),(I (p0.Silica)),(I (p0.Gas))]]
def Qye:Slot:=.own 3 [[(I (0)),(I (0)),(I (0))]]
def Q81 (y2:(List GStream)):AV:=.acc 1 63 4 ((y2:List GStream).map Qaa)
def Q80 (y2:(List GStream)):AV:=.dat 4 ((y2:List GStream).map Qaa)
def Zgh (p0:GStream) (x5:GStream):AV:=.agg [(I (w64 (p0.Heat - x5.Heat))),(I (w64 (p0.Silica - x5.Silica))),(I (w64 (p0.Gas - x5.Gas)))]
def Qsh (x7:(List Int)):AV:=.dat 1 ((x7:List Int).map Qak)
def Q8z (y8:(List GStream)):AV:=.acc 1 63 4 ((y8:List GStream).map Qaa)
def Q33:AV:=.fn (.func 154) [] [(.ref 3 1 (0) 0),(.ref 0 4 (0) 0)]
def Q8y (x14:Int) (p0:GStream):AV:=.fn (.func 154) [] [(.dptr [(I (x14))] 0),(.dptr [(I (p0.Mass)),(I (p0.Heat)),(I (p0.Silica)),(I (p0.Gas))] 0)]
def Qyf (p0:GStream):AV:=.agg [(I (p0.Mass)),(I (p0.Heat)),(I (p0.Silica)),(I (p0.Gas))]
def Qyd:AV:=.agg [(I (0)),(I (0)),(I (0))]
def Q32:AV:=.dat 4 (([]:List GStream).map Qaa)
theorem Qs3 (N:Nat) (p0:GStream) (p1:(List Int)) (r:((List GStream)×GLoss×Int)) (h:Qja N p0 p1=some r):Spec Tryz.prog 146 [(.agg (Qaa p0)),(.dat 1 (p1.map Qak))] [] (.tup [(.dat 4 (r.1.map Qaa)),(.agg (Zbk r.2.1)),(I r.2.2)]) []:=by
  refine Qai Tryz.func146 rfl 0 (nle rfl) (fun X φ0 w0 hφ0 hd0=>?_)
  unfold Qja at h
  refine wxz<|wxz ?_
  obtain ⟨k1,hk_k1,h⟩:=jko h
  refine wjn (τ:=Unit) (fun t=>k1 t=some r) (fun _=>⟨mk 79 [(1,(Qqj p1)),(2,.ref 0 4 0 0),(4,nilS),(5,.ref 1 3 0 0)],[(Qsi p0),Qye]⟩) (fun t h=>?_) ?_
  ·subst hk_k1
   obtain ⟨k3,hk_k3,h⟩:=jko h
   refine wjn (τ:=(List GStream)) (fun t=>k3 t=some r) (fun y2=>⟨mk 79 [(2,.ref 0 4 0 0),(4,(Q81 y2)),(5,.ref 2 3 0 0)],[(Qsi p0),.tok,Qye]⟩) (fun y2 h=>?_) ?_
   ·subst hk_k3
    obtain ⟨x5,hf4,h⟩:=bno h
    refine wx tbk [(1,rp [fu 155,(.tmp 60,(Q81 y2))] (.agg [I x5.Mass,I x5.Heat,I x5.Silica,I x5.Gas]))] ⟨awk (rd':=(.func 155,(.fn (.func 155) [] []))::[(.tmp 60,(Q80 y2))]) ⟨rfl,lrf,rfl,Less.acc,trivial⟩ (apc (first:=[]) (cap:=[]) (vs:=[(Q80 y2)]) rfl Zed (Qws N y2 _ hf4) rfl rfl (nlc (nld Qac _) nl0) (NLt.agg _ (nlcc (nlcc nl0))) rfl),trivial⟩ ?_
    refine wxd tbk [(16,rp [(.tmp 67,(I (w64 (p0.Heat - x5.Heat)))),(.tmp 72,(I (w64 (p0.Silica - x5.Silica)))),(.tmp 77,(I (w64 (p0.Gas - x5.Gas))))] (Zgh p0 x5))] ⟨Qau (vs:=[(I (w64 (p0.Heat - x5.Heat))),(I (w64 (p0.Silica - x5.Silica))),(I (w64 (p0.Gas - x5.Gas)))]) rfl Q9j Q6k rfl (by rfl) rfl,trivial⟩<|Qaf ?_
    obtain rfl:=osi h
    exact fend ⟨[(Q80 y2),(Zgh p0 x5),I 0],⟨Qez (v:=(Q81 y2)) (rot) Less.acc,Qbv (n:=2) (m:=3) (j:=0) (i:=0) (xs:=[[(I (w64 (p0.Heat - x5.Heat))),(I (w64 (p0.Silica - x5.Silica))),(I (w64 (p0.Gas - x5.Gas)))]]) (by kernel_rfl) (by kernel_rfl) Q6m (by decide) rfl (nle rfl) rfl,rot,trivial⟩,rfl⟩ (NLt.tup _ (nlc (nld Qac _) (nlc (NLt.agg _ (nlcc (nlc nll nl0))) (nlc nll nl0))))
   ·skip
    obtain ⟨x7,hf6,h⟩:=bno h
    refine wx tbk [(3,rp [fu 153,(.tmp 33,I p0.Mass),(.tmp 34,(Qqj p1))] (Qsh x7)),(4,rp [(.tmp 35,(Qsh x7))] (I ((x7.length:Int))))] ⟨apc (first:=[]) (cap:=[]) (vs:=[I p0.Mass,(Qqj p1)]) rfl Zee (Qrw N p0.Mass p1 _ hf6) rfl rfl (nlc nll (nlc (nld Qae _) nl0)) (nld Qae _) rfl,alm (c:=Qak) (l:=x7) (aln rfl Tryz.underlying27 rfl),trivial⟩<|Qal ?_
    refine wmr (Mor.trans (Qqx 2 63 4 4 (by kernel_rfl) (by kernel_rfl)) (mto (n:=79) (l':=[(2,.ref 0 4 0 0),(4,(.acc 1 63 4 ((([]):List GStream).map Qaa))),(5,.ref 2 3 0 0),(35,(Qsh x7)),(36,(I ((x7.length:Int)))),(37,I 0)]) (own':=[(Qsi p0),.tok,Qye]) [(2,.ref 0 4 0 0),(4,(.acc 2 63 4 (([]:List GStream).map Qaa))),(5,.ref 1 3 0 0),(35,(Qsh x7)),(36,(I ((x7.length:Int)))),(37,I 0)] [0,2,1] [(Qsi p0),.tok,Qye] hφ0 (pc (.rn (rqr rfl)) (pc (.rn (Qa7 rfl (Qa2 Qac _))) (pc (.rn (rqr rfl)) (pc (rnd Qae) (pc rwl (pc rwl pn)))))) (qc (spb (lcc (lcc ln))) (qc .tok (qc (spb (lcc (lc rwl ln))) qn))))) ?_
    refine Qby (τ:=(List GStream)×Int) (fun n t=>Qd3 N p0 k3 x7 n t.1 t.2=some r) (fun ⟨y8,y9⟩=>⟨mk 79 [(2,.ref 0 4 0 0),(4,(Q8z y8)),(5,.ref 2 3 0 0),(35,(Qsh x7)),(36,(I ((x7.length:Int)))),(37,I y9)],[(Qsi p0),.tok,Qye]⟩) (fun t h=>by rw [Qd3] at h; cases h) (fun n12 ih t h=>?_) N ([],0) h
    obtain ⟨y8,y9⟩:=t
    rw [Qd3] at h
    skip
    refine wxz<|wsq ?_
    refine bfe h (fun hc13 h=>?_) fun hc13 h=>?_
    ·refine wft hc13<|Qam<|thn<|wsq<|Qal ?_
     obtain ⟨x14,hg15,h⟩:=bno h
     obtain ⟨hi16,hj17⟩:=gsm hg15
     refine wx tbk [(0,rp [(.tmp 35,(Qsh x7)),(.tmp 37,I y9)] (.dptr (Qak (x14)) 0))] ⟨aid rfl Tryz.underlying27 ti3 rfl rfl hi16 (mgt Qak hj17) rfl,trivial⟩ ?_
     refine wx tbk [(0,rp [(.tmp 9,.ref 3 1 0 0),(.tmp 2,.ref 0 4 0 0)] Q33)] ⟨Qfz (fs:=[]) (cs:=[.ref 3 1 0 0,.ref 0 4 0 0]) rfl rfl rfl rfl,trivial⟩ ?_
     obtain ⟨x19,hf18,h⟩:=bno h
     obtain ⟨x21,hf20,h⟩:=bno h
     obtain ⟨x23,hf22,h⟩:=bno h
     obtain ⟨ha24,h⟩:=cko h
     refine wy1 tbk [(5,rb [(.tmp 44,Q33),(.tmp 46,I p0.Heat)] [(3,.own 1 [[I x14]]),(0,(Qsi p0))] (I x19)),(9,rb [(.tmp 48,Q33),(.tmp 50,I p0.Silica)] [(3,.own 1 [[I x14]]),(0,(Qsi p0))] (I x21)),(13,rb [(.tmp 52,Q33),(.tmp 54,I p0.Gas)] [(3,.own 1 [[I x14]]),(0,(Qsi p0))] (I x23)),(14,rp [(.tmp 43,I x14),(.tmp 47,I x19),(.tmp 51,I x21),(.tmp 55,I x23)] (.agg [I x14,I x19,I x21,I x23])),(15,rp [(.tmp 56,(.agg [I x14,I x19,I x21,I x23]))] (.dat 4 (([(⟨x14,x19,x21,x23⟩:GStream)]:List GStream).map Qaa))),(16,⟨[(.tmp 42,(Q8z y8)),(.tmp 57,(.dat 4 (([(⟨x14,x19,x21,x23⟩:GStream)]:List GStream).map Qaa)))],[(1,.tok),(4,.unused)],(.acc 4 63 4 ((y8++([(⟨x14,x19,x21,x23⟩:GStream)]):List GStream).map Qaa)),[(1,.dead),(4,.tok)],false⟩)] ⟨Qhl (rd':=[(.tmp 44,(Q8y x14 p0)),(.tmp 46,I p0.Heat)]) [(3,1,[[I x14]]),(0,4,[[I p0.Mass,I p0.Heat,I p0.Silica,I p0.Gas]])] ⟨rfl,(Zfg trivial ⟨(Qp2 0 rfl (lc (.same _) ln)),(Qp2 1 rfl (lc (.same _) (lc (.same _) (lc (.same _) (lc (.same _) ln))))),trivial⟩),rfl,.same _,trivial⟩ (by rfl) (.lit _) Qqp (Qat (first:=[]) (cap:=[(.dptr [I x14] 0),(.dptr [I p0.Mass,I p0.Heat,I p0.Silica,I p0.Gas] 0)]) (vs:=[I p0.Heat]) (σr:=[]) (σr':=[]) (res':=(I x19)) [] rfl Qxn (Qhz N p0.Heat x14 p0.Mass p0.Heat p0.Silica p0.Gas _ hf18) rfl (Qbu (rnc (.plain _ nll) (rnc (.plain _ (NLt.dptr _ _ (nlc nll nl0))) (rnc (.plain _ (NLt.dptr _ _ (nlcc (nlcc nl0)))) rn0)))) Qar Qar (.plain _ nll) rfl rfl rfl),Qhl (rd':=[(.tmp 48,(Q8y x14 p0)),(.tmp 50,I p0.Silica)]) [(3,1,[[I x14]]),(0,4,[[I p0.Mass,I p0.Heat,I p0.Silica,I p0.Gas]])] ⟨rfl,(Zfg trivial ⟨(Qp2 0 rfl (lc (.same _) ln)),(Qp2 1 rfl (lc (.same _) (lc (.same _) (lc (.same _) (lc (.same _) ln))))),trivial⟩),rfl,.same _,trivial⟩ (by rfl) (.lit _) Qqp (Qat (first:=[]) (cap:=[(.dptr [I x14] 0),(.dptr [I p0.Mass,I p0.Heat,I p0.Silica,I p0.Gas] 0)]) (vs:=[I p0.Silica]) (σr:=[]) (σr':=[]) (res':=(I x21)) [] rfl Qxn (Qhz N p0.Silica x14 p0.Mass p0.Heat p0.Silica p0.Gas _ hf20) rfl (Qbu (rnc (.plain _ nll) (rnc (.plain _ (NLt.dptr _ _ (nlc nll nl0))) (rnc (.plain _ (NLt.dptr _ _ (nlcc (nlcc nl0)))) rn0)))) Qar Qar (.plain _ nll) rfl rfl rfl),Qhl (rd':=[(.tmp 52,(Q8y x14 p0)),(.tmp 54,I p0.Gas)]) [(3,1,[[I x14]]),(0,4,[[I p0.Mass,I p0.Heat,I p0.Silica,I p0.Gas]])] ⟨rfl,(Zfg trivial ⟨(Qp2 0 rfl (lc (.same _) ln)),(Qp2 1 rfl (lc (.same _) (lc (.same _) (lc (.same _) (lc (.same _) ln))))),trivial⟩),rfl,.same _,trivial⟩ (by rfl) (.lit _) Qqp (Qat (first:=[]) (cap:=[(.dptr [I x14] 0),(.dptr [I p0.Mass,I p0.Heat,I p0.Silica,I p0.Gas] 0)]) (vs:=[I p0.Gas]) (σr:=[]) (σr':=[]) (res':=(I x23)) [] rfl Qxn (Qhz N p0.Gas x14 p0.Mass p0.Heat p0.Silica p0.Gas _ hf22) rfl (Qbu (rnc (.plain _ nll) (rnc (.plain _ (NLt.dptr _ _ (nlc nll nl0))) (rnc (.plain _ (NLt.dptr _ _ (nlcc (nlcc nl0)))) rn0)))) Qar Qar (.plain _ nll) rfl rfl rfl),Qau (vs:=[I x14,I x19,I x21,I x23]) rfl ts63 tz63 rfl (by rfl) rfl,Qbo (vs:=[(.agg [I x14,I x19,I x21,I x23])]) rfl Tryz.underlying45 ti63 tz63 rfl (by decide) rfl (by decide) (by rfl) (by rfl) (by rfl) rfl,Qeq rfl Tryz.underlying45 te63 (Base.acc _ _) rfl rfl (by rfl) (Qg9 Qaa ha24) (Qg8 Qaa ha24 (by decide)) (Qg7 Qaa) rfl rfl,trivial⟩<|bln<|thn<|wxz1<|thn ?_
     exact arm (mto (n:=79) [(2,.ref 0 4 0 0),(4,(.acc 4 63 4 ((y8++([(⟨x14,x19,x21,x23⟩:GStream)]):List GStream).map Qaa))),(5,.ref 2 3 0 0),(35,(Qsh x7)),(36,(I ((x7.length:Int)))),(37,(I (w64 (y9+1))))] [0,4,2] [(Qsi p0),.tok,Qye] hφ0 (pc (.rn (rqr rfl)) (pc (.rn (Qa7 rfl (Qa2 Qac _))) (pc (.rn (rqr rfl)) (pc (rnd Qae) (pc rwl (pc rwl pn)))))) (qc (spb (lcc (lcc ln))) (qc .tok (qc (spb (lcc (lc rwl ln))) qn)))) (ih (y8++([(⟨x14,x19,x21,x23⟩:GStream)]),w64 (y9+1)) h)
    ·exact wfn hc13<|Qbj<|Qav<|Qav<|Qbi rfl<|thn<|⟨(y8),h,(mto (n:=79) [(2,.ref 0 4 0 0),(4,(Q8z y8)),(5,.ref 2 3 0 0)] [0,1,2] [(Qsi p0),.tok,Qye] hφ0 (pc (.rn (rqr rfl)) (pc (.rn (Qa7 rfl (Qa2 Qac _))) (pc (.rn (rqr rfl)) pn))) (qc (spb (lcc (lcc ln))) (qc .tok (qc (spb (lcc (lc rwl ln))) qn))))⟩
  ·skip
   obtain ⟨x26,hf25,h⟩:=bno h
   refine bfe h (fun hb27 h=>?_) fun hb27 h=>?_
   ·refine wx tbk [(1,rp [fu 131,(.tmp 12,(Qyf p0))] (B x26)),(3,rp [(.tmp 14,(B ((!x26))))] (B true))] ⟨apc (first:=[]) (cap:=[]) (vs:=[(Qyf p0)]) rfl Qnu (Qdn N p0 _ hf25) rfl rfl (nlc (NLt.agg _ (nlcc (nlcc nl0))) nl0) nll rfl,asb hb27 (amv rfl),trivial⟩<|wtr ?_
    refine wx tbk [(0,rp [] Qyd)] ⟨Qau (vs:=[]) rfl Q9j Q6k rfl (by rfl) rfl,trivial⟩<|Qaf<|Qag ?_
    obtain rfl:=osi h
    exact fend ⟨[Q32,Qyd,I 1],⟨Qez (v:=nilS) (rot) Less.nil,Qbv (n:=1) (m:=3) (j:=0) (i:=0) (xs:=[[I 0,I 0,I 0]]) (by kernel_rfl) (by kernel_rfl) Q6m (by decide) rfl (nle rfl) rfl,rot,trivial⟩,rfl⟩ (NLt.tup _ (nlc (nld Qac _) (nlc (NLt.agg _ (nlcc (nlc nll nl0))) (nlc nll nl0))))
   ·refine bfe h (fun hb28 h=>?_) fun hb28 h=>?_
    ·refine wx tbk [(1,rp [fu 131,(.tmp 12,(Qyf p0))] (B x26)),(3,rp [(.tmp 14,(B ((!x26))))] (B false)),(5,rp [(.tmp 15,B false),(.tmp 16,(Qqj p1))] (I ((p1.length:Int)))),(8,rp [(.tmp 19,(B ((decide ((p1.length:Int)>20)))))] (B true))] ⟨apc (first:=[]) (cap:=[]) (vs:=[(Qyf p0)]) rfl Qnu (Qdn N p0 _ hf25) rfl rfl (nlc (NLt.agg _ (nlcc (nlcc nl0))) nl0) nll rfl,asb hb27 (amv rfl),ag_ (alm (c:=Qak) (l:=p1) (aln rfl Tryz.underlying27 rfl)),asb hb28 (amv rfl),trivial⟩<|wtr ?_
     refine wx tbk [(0,rp [] Qyd)] ⟨Qau (vs:=[]) rfl Q9j Q6k rfl (by rfl) rfl,trivial⟩<|Qaf<|Qag ?_
     obtain rfl:=osi h
     exact fend ⟨[Q32,Qyd,I 1],⟨Qez (v:=nilS) (rot) Less.nil,Qbv (n:=1) (m:=3) (j:=0) (i:=0) (xs:=[[I 0,I 0,I 0]]) (by kernel_rfl) (by kernel_rfl) Q6m (by decide) rfl (nle rfl) rfl,rot,trivial⟩,rfl⟩ (NLt.tup _ (nlc (nld Qac _) (nlc (NLt.agg _ (nlcc (nlc nll nl0))) (nlc nll nl0))))
    ·obtain ⟨x30,hf29,h⟩:=bno h
     refine bfe h (fun hb31 h=>?_) fun hb31 h=>?_
     ·refine wx tbk [(1,rp [fu 131,(.tmp 12,(Qyf p0))] (B x26)),(3,rp [(.tmp 14,(B ((!x26))))] (B false)),(5,rp [(.tmp 15,B false),(.tmp 16,(Qqj p1))] (I ((p1.length:Int)))),(8,rp [(.tmp 19,(B ((decide ((p1.length:Int)>20)))))] (B false)),(11,rp [(.tmp 20,B false),fu 151,(.tmp 21,(Qqj p1)),(.tmp 22,(.fn (.func 150) [] []))] (B x30)),(14,rp [(.tmp 25,(B ((!x30))))] (B true))] ⟨apc (first:=[]) (cap:=[]) (vs:=[(Qyf p0)]) rfl Qnu (Qdn N p0 _ hf25) rfl rfl (nlc (NLt.agg _ (nlcc (nlcc nl0))) nl0) nll rfl,asb hb27 (amv rfl),ag_ (alm (c:=Qak) (l:=p1) (aln rfl Tryz.underlying27 rfl)),asb hb28 (amv rfl),ag_ (Qat (first:=[]) (cap:=[]) (vs:=[(Qqj p1),(.fn (.func 150) [] [])]) (σr:=[]) (σr':=[]) (res':=(B x30)) [] rfl Q48 (Qkn N p1 _ hf29) rfl (Qbu (rnc (pld Qae) (rnc (.plain _ (NLt.fn _ _ _ nl0 nl0)) rn0))) Qar Qar (.plain _ nll) rfl rfl rfl),asb hb31 (amv rfl),trivial⟩<|wtr ?_
      refine wx tbk [(0,rp [] Qyd)] ⟨Qau (vs:=[]) rfl Q9j Q6k rfl (by rfl) rfl,trivial⟩<|Qaf<|Qag ?_
      obtain rfl:=osi h
      exact fend ⟨[Q32,Qyd,I 1],⟨Qez (v:=nilS) (rot) Less.nil,Qbv (n:=1) (m:=3) (j:=0) (i:=0) (xs:=[[I 0,I 0,I 0]]) (by kernel_rfl) (by kernel_rfl) Q6m (by decide) rfl (nle rfl) rfl,rot,trivial⟩,rfl⟩ (NLt.tup _ (nlc (nld Qac _) (nlc (NLt.agg _ (nlcc (nlc nll nl0))) (nlc nll nl0))))
     ·obtain ⟨x33,hf32,h⟩:=bno h
      refine wx tbk [(1,rp [fu 131,(.tmp 12,(Qyf p0))] (B x26)),(3,rp [(.tmp 14,(B ((!x26))))] (B false)),(5,rp [(.tmp 15,B false),(.tmp 16,(Qqj p1))] (I ((p1.length:Int)))),(8,rp [(.tmp 19,(B ((decide ((p1.length:Int)>20)))))] (B false)),(11,rp [(.tmp 20,B false),fu 151,(.tmp 21,(Qqj p1)),(.tmp 22,(.fn (.func 150) [] []))] (B x30)),(14,rp [(.tmp 25,(B ((!x30))))] (B false)),(16,rp [(.tmp 26,B false),fu 126,(.tmp 27,(Qqj p1)),fu 152] (B x33))] ⟨apc (first:=[]) (cap:=[]) (vs:=[(Qyf p0)]) rfl Qnu (Qdn N p0 _ hf25) rfl rfl (nlc (NLt.agg _ (nlcc (nlcc nl0))) nl0) nll rfl,asb hb27 (amv rfl),ag_ (alm (c:=Qak) (l:=p1) (aln rfl Tryz.underlying27 rfl)),asb hb28 (amv rfl),ag_ (Qat (first:=[]) (cap:=[]) (vs:=[(Qqj p1),(.fn (.func 150) [] [])]) (σr:=[]) (σr':=[]) (res':=(B x30)) [] rfl Q48 (Qkn N p1 _ hf29) rfl (Qbu (rnc (pld Qae) (rnc (.plain _ (NLt.fn _ _ _ nl0 nl0)) rn0))) Qar Qar (.plain _ nll) rfl rfl rfl),asb hb31 (amv rfl),ag_ (Qat (first:=[]) (cap:=[]) (vs:=[(Qqj p1),(.fn (.func 152) [] [])]) (σr:=[]) (σr':=[]) (res':=(B x33)) [] rfl Qp0 (Qid N p1 _ hf32) rfl (Qbu (rnc (pld Qae) (rnc (.plain _ (NLt.fn _ _ _ nl0 nl0)) rn0))) Qar Qar (.plain _ nll) rfl rfl rfl),trivial⟩ ?_
      refine bfe h (fun hc34 h=>?_) fun hc34 h=>?_
      ·refine wft hc34<|wx tbk [(0,rp [] Qyd)] ⟨Qau (vs:=[]) rfl Q9j Q6k rfl (by rfl) rfl,trivial⟩<|Qaf<|Qag ?_
       obtain rfl:=osi h
       exact fend ⟨[Q32,Qyd,I 1],⟨Qez (v:=nilS) (rot) Less.nil,Qbv (n:=1) (m:=3) (j:=0) (i:=0) (xs:=[[I 0,I 0,I 0]]) (by kernel_rfl) (by kernel_rfl) Q6m (by decide) rfl (nle rfl) rfl,rot,trivial⟩,rfl⟩ (NLt.tup _ (nlc (nld Qac _) (nlc (NLt.agg _ (nlcc (nlc nll nl0))) (nlc nll nl0))))
      ·exact wfn hc34<|Qam<|thn<|⟨(),h,(mto (n:=79) [(1,(Qqj p1)),(2,.ref 0 4 0 0),(4,nilS),(5,.ref 1 3 0 0)] [0,1] [(Qsi p0),Qye] hφ0 (pc (rnd Qae) (pc (.rn (rqr rfl)) (pc rwl (pc (.rn (rqr rfl)) pn)))) (qc (spb (lcc (lcc ln))) (qc (spb (lcc (lc rwl ln))) qn)))⟩
end Go.Proofs.YtmbhnllcfmiajaaGreat
