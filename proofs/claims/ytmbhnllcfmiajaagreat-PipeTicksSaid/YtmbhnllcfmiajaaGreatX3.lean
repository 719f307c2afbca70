/-
  Functions of the program: what they compute, as plain functions, and that they do. No conditions.
-/
import Derived.Test.YtmbhnllcfmiajaaGreatX2
namespace Go.Proofs.YtmbhnllcfmiajaaGreat
set_option maxRecDepth 100000
set_option maxHeartbeats 4000000
open Go.RowKit
def Qi7 (N:Nat) (p0:Int):Option Bool:=
  (Qcs N p0 0 1000000000000).bind fun x2=>
  some x2
theorem Qqz (N:Nat) (p0:Int) (r:Bool) (h:Qi7 N p0=some r):Spec Tryz.prog 109 [(I p0)] [] (B r) []:=by
  refine Qai Tryz.func109 rfl 0 (nle rfl) (fun X φ0 w0 hφ0 hd0=>?_)
  unfold Qi7 at h
  refine wxz ?_
  obtain ⟨x2,hf1,h⟩:=bno h
  refine wx tbk [(1,rp [fu 65,(.tmp 3,I p0),ci 0,ci 1000000000000] (B x2))] ⟨apc (first:=[]) (cap:=[]) (vs:=[I p0,I 0,I 1000000000000]) rfl Qgd (Qbp N p0 0 1000000000000 _ hf1) rfl rfl (nlcc (nlc nll nl0)) nll rfl,trivial⟩ ?_
  refine Qag ?_
  obtain rfl:=osi h
  exact fend ⟨[B x2],⟨rot,trivial⟩,rfl⟩ nll
def Qgr (N:Nat) (p0:Int):Option Bool:=
  (Qi7 N p0).bind fun x3=>
  some (!x3)
def Zcw:Slot:=.own 1 [[(.fn (.func 109) [] [])]]
theorem Qn8 (N:Nat) (p0:Int) (r:Bool) (h:Qgr N p0=some r):Spec Tryz.prog 128 [(I (p0)),(.ref 0 1 (0) 0)] [Zcw] (B (r)) [Zcw]:=by
  refine Qai Tryz.func128 rfl 1 (nle rfl) (fun X φ0 w0 hφ0 hd0=>?_)
  unfold Qgr at h
  refine Qb2 ?_
  refine wxz ?_
  obtain ⟨x3,hf2,h⟩:=bno h
  refine wx tbk [(2,rp [(.tmp 4,(.fn (.func 109) [] [])),(.tmp 5,I p0)] (B x3))] ⟨apc (first:=[]) (cap:=[]) (vs:=[I p0]) rfl Zfd (Qqz N p0 _ hf2) rfl rfl (nlc nll nl0) nll rfl,trivial⟩ ?_
  refine wmr (mto (n:=8) (l':=[(3,(B ((!x3))))]) (own':=[Zcw]) [(3,(B ((!x3))))] [0] [Zcw] hφ0 (pc rwl pn) (qc (spb (lc (.rn (Qbr rn0 rn0)) ln)) qn)) ?_
  refine Qag ?_
  obtain rfl:=osi h
  exact ⟨_,Mor.rfl,Qda (vs:=[(B ((!x3)))]) ⟨rot,trivial⟩ rfl (NLt.of0 nll) (by kernel_rfl) (Qap (Qbj (nlc (NLt.of0 (NLt.fn _ _ _ nl0 nl0)) nl0)) Qbz)⟩
def Qb8 (N:Nat) (p0:(List Int)) (k2:Unit→Option Int):Nat→Int→Option Int
  | 0,_=>none
  | n5+1,y3=>
    bif (decide (y3<(p0.length:Int))) then
     (getI p0 y3).bind fun x7=>
     (Qgr N x7).bind fun x12=>
     bif x12 then
      some y3
     else
      Qb8 N p0 k2 n5 (w64 (y3+1))
    else
     k2 ()
def Qd6 (N:Nat) (p0:(List Int)):Option Int:=
  Qbf (fun _=>
    some (-1)) fun k2:Unit→Option Int=>
  Qb8 N p0 k2 N 0
def Q1e (p0:(List Int)):AV:=.dat 1 ((p0:List Int).map Qak)
def Q58:AV:=.fn (.func 128) [] [(.ref 0 1 (0) 0)]
def Qn1:Slot:=.own 1 [[(.fn (.func 109) [] [])]]
theorem Qjh (N:Nat) (p0:(List Int)) (r:Int) (h:Qd6 N p0=some r):Spec Tryz.prog 141 [(Q1e p0),Q58] [Qn1] (I (r)) [Qn1]:=by
  refine Qai Tryz.func141 rfl 1 (nle rfl) (fun X φ0 w0 hφ0 hd0=>?_)
  unfold Qd6 at h
  refine Qb2 ?_
  refine wxz ?_
  obtain ⟨k2,hk_k2,h⟩:=jko h
  refine wjn (τ:=Unit) (fun t=>k2 t=some r) (fun _=>⟨mk 19 [],[Qn1]⟩) (fun t h=>?_) ?_
  ·subst hk_k2
   refine wxz ?_
   refine wmr (mto (n:=19) (l':=[(4,(I ((-1))))]) (own':=[Qn1]) [(4,(I ((-1))))] [0] [Qn1] hφ0 (pc rwl pn) (qc (spb (lc (.rn (Qbr rn0 rn0)) ln)) qn)) ?_
   refine Qag ?_
   obtain rfl:=osi h
   exact ⟨_,Mor.rfl,Qda (vs:=[(I ((-1)))]) ⟨rot,trivial⟩ rfl (NLt.of0 nll) (by kernel_rfl) (Qap (Qbj (nlc (NLt.of0 (NLt.fn _ _ _ nl0 nl0)) nl0)) Qbz)⟩
  ·skip
   refine wx tbk [(1,rp [(.tmp 6,(Q1e p0))] (I ((p0.length:Int))))] ⟨alm (c:=Qak) (l:=p0) (aln rfl Tryz.underlying27 rfl),trivial⟩ ?_
   refine Qam ?_
   refine wmr (mto (n:=19) (l':=[(0,(Q1e p0)),(1,Q58),(7,(I ((p0.length:Int)))),(8,I 0)]) (own':=[Qn1]) [(0,(Q1e p0)),(1,Q58),(7,(I ((p0.length:Int)))),(8,I 0)] [0] [Qn1] hφ0 (pc (rnd Qae) (pc (.rn (Qbr rn0 (rnc (rqr rfl) rn0))) (pc rwl (pc rwl pn)))) (qc (spb (lc (.rn (Qbr rn0 rn0)) ln)) qn)) ?_
   refine Qbw (τ:=Int) (fun n t=>Qb8 N p0 k2 n t=some r) (fun y3=>⟨mk 19 [(0,(Q1e p0)),(1,Q58),(7,(I ((p0.length:Int)))),(8,I y3)],[Qn1]⟩) (fun t h=>by rw [Qb8] at h; cases h) (fun n5 ih y3 h=>?_) N (0) h
   rw [Qb8] at h
   skip
   refine wxz ?_
   refine wsq ?_
   refine bfe h (fun hc6 h=>?_) fun hc6 h=>?_
   ·refine wft hc6 ?_
    refine Qan ?_
    refine thn ?_
    refine wsq ?_
    refine Qam ?_
    refine wxz ?_
    obtain ⟨x7,hg8,h⟩:=bno h
    obtain ⟨hi9,hj10⟩:=gsm hg8
    obtain ⟨x12,hf11,h⟩:=bno h
    refine wx tbk [(3,rp [(.tmp 12,(Q1e p0)),(.tmp 13,I y3)] (.dptr (Qak (x7)) 0)),(5,⟨[(.tmp 11,Q58),(.tmp 15,I x7)],[(0,Qn1)],B x12,[(0,Qn1)],false⟩)] ⟨aid rfl Tryz.underlying27 ti3 rfl rfl hi9 (mgt Qak hj10) rfl,Qau (first:=[]) (cap:=[.ref 0 1 0 0]) (vs:=[I x7]) (σr:=[Qn1]) (σr':=[Qn1]) (res':=(B x12)) [0] rfl Q46 (Qn8 N x7 _ hf11) rfl (Qbx (rnc (.plain _ nll) (rnc (Qbo rfl) rn0))) (slc (Qar (rnc (.plain _ (NLt.fn _ _ _ nl0 nl0)) rn0)) Qat) (slc (Qar (rnc (.plain _ (NLt.fn _ _ _ nl0 nl0)) rn0)) Qat) (.plain _ nll) rfl rfl rfl,trivial⟩ ?_
    refine bfe h (fun hc13 h=>?_) fun hc13 h=>?_
    ·refine wft hc13 ?_
     refine wxz ?_
     refine wmr (mto (n:=19) (l':=[(4,I y3)]) (own':=[Qn1]) [(4,I y3)] [0] [Qn1] hφ0 (pc rwl pn) (qc (spb (lc (.rn (Qbr rn0 rn0)) ln)) qn)) ?_
     refine Qag ?_
     refine Qao ?_
     refine Qah ?_
     refine Qah ?_
     refine Qao ?_
     refine Qah ?_
     obtain rfl:=osi h
     exact ⟨_,Mor.rfl,Qda (vs:=[I y3]) ⟨rot,trivial⟩ rfl (NLt.of0 nll) (by kernel_rfl) (Qap (Qbj (nlc (NLt.of0 (NLt.fn _ _ _ nl0 nl0)) nl0)) Qbz)⟩
    ·refine wfn hc13 ?_
     refine Qan ?_
     refine bln ?_
     refine thn ?_
     refine wxz1 ?_
     refine thn ?_
     exact arm (mto (n:=19) [(0,(Q1e p0)),(1,Q58),(7,(I ((p0.length:Int)))),(8,(I (w64 (y3+1))))] [0] [Qn1] hφ0 (pc (rnd Qae) (pc (.rn (Qbr rn0 (rnc (rqr rfl) rn0))) (pc rwl (pc rwl pn)))) (qc (spb (lc (.rn (Qbr rn0 rn0)) ln)) qn)) (ih (w64 (y3+1)) h)
   ·refine wfn hc6 ?_
    refine Qbh ?_
    refine Qax ?_
    refine Qax ?_
    refine Qbg rfl ?_
    refine thn ?_
    exact ⟨(),h,(mto (n:=19) [] [0] [Qn1] hφ0 pn (qc (spb (lc (.rn (Qbr rn0 rn0)) ln)) qn))⟩
def Qcy (N:Nat) (p0:(List Int)):Option Bool:=
  (Qd6 N p0).bind fun x3=>
  some (decide (x3≥0))
def Zil (p0:(List Int)):AV:=.dat 1 ((p0:List Int).map Qak)
def Zik:AV:=.fn (.func 128) [] [(.ref 0 1 (0) 0)]
def Qyo:Slot:=.own 1 [[(.fn (.func 109) [] [])]]
theorem Qid (N:Nat) (p0:(List Int)) (r:Bool) (h:Qcy N p0=some r):Spec Tryz.prog 126 [(Zil p0),Zik] [Qyo] (B (r)) [Qyo]:=by
  refine Qai Tryz.func126 rfl 1 (nle rfl) (fun X φ0 w0 hφ0 hd0=>?_)
  unfold Qcy at h
  refine Qb2 ?_
  refine wxz ?_
  obtain ⟨x3,hf2,h⟩:=bno h
  refine wx tbk [(2,⟨[fu 141,(.tmp 5,(Zil p0)),(.tmp 6,Zik)],[(0,Qyo)],I x3,[(0,Qyo)],false⟩)] ⟨Qau (first:=[]) (cap:=[]) (vs:=[(Zil p0),Zik]) (σr:=[Qyo]) (σr':=[Qyo]) (res':=(I x3)) [0] rfl Qp6 (Qjh N p0 _ hf2) rfl (Qbx (rnc (pld Qae) (rnc (Qbr rn0 (rnc (Qbo rfl) rn0)) rn0))) (slc (Qar (rnc (.plain _ (NLt.fn _ _ _ nl0 nl0)) rn0)) Qat) (slc (Qar (rnc (.plain _ (NLt.fn _ _ _ nl0 nl0)) rn0)) Qat) (.plain _ nll) rfl rfl rfl,trivial⟩ ?_
  refine wmr (mto (n:=9) (l':=[(4,(B ((decide (x3≥0)))))]) (own':=[Qyo]) [(4,(B ((decide (x3≥0)))))] [0] [Qyo] hφ0 (pc rwl pn) (qc (spb (lc (.rn (Qbr rn0 rn0)) ln)) qn)) ?_
  refine Qag ?_
  obtain rfl:=osi h
  exact ⟨_,Mor.rfl,Qda (vs:=[(B ((decide (x3≥0))))]) ⟨rot,trivial⟩ rfl (NLt.of0 nll) (by kernel_rfl) (Qap (Qbj (nlc (NLt.of0 (NLt.fn _ _ _ nl0 nl0)) nl0)) Qbz)⟩
def Qil (N:Nat) (p0:(List Int)):Option Bool:=
  (Qcy N p0).bind fun x2=>
  some (!x2)
def Zin (p0:(List Int)):AV:=.dat 1 ((p0:List Int).map Qak)
def Zim:AV:=.fn (.func 128) [] [(.ref 0 1 (0) 0)]
def Zcx:Slot:=.own 1 [[(.fn (.func 109) [] [])]]
theorem Qpu (N:Nat) (p0:(List Int)) (r:Bool) (h:Qil N p0=some r):Spec Tryz.prog 108 [(Zin p0),(.fn (.func 109) [] [])] [] (B (r)) []:=by
  refine Qai Tryz.func108 rfl 0 (nle rfl) (fun X φ0 w0 hφ0 hd0=>?_)
  unfold Qil at h
  refine wxz ?_
  obtain ⟨x2,hf1,h⟩:=bno h
  refine wx tbk [(1,rp [(.tmp 3,.ref 0 1 0 0)] Zim),(2,⟨[fu 126,(.tmp 5,(Zin p0)),(.tmp 6,Zim)],[(0,Zcx)],B x2,[(0,Zcx)],false⟩)] ⟨Qfz (fs:=[]) (cs:=[.ref 0 1 0 0]) rfl rfl rfl rfl,Qau (first:=[]) (cap:=[]) (vs:=[(Zin p0),Zim]) (σr:=[Zcx]) (σr':=[Zcx]) (res':=(B x2)) [0] rfl Qp7 (Qid N p0 _ hf1) rfl (Qbx (rnc (pld Qae) (rnc (Qbr rn0 (rnc (Qbo rfl) rn0)) rn0))) (slc (Qar (rnc (.plain _ (NLt.fn _ _ _ nl0 nl0)) rn0)) Qat) (slc (Qar (rnc (.plain _ (NLt.fn _ _ _ nl0 nl0)) rn0)) Qat) (.plain _ nll) rfl rfl rfl,trivial⟩ ?_
  refine Qag ?_
  obtain rfl:=osi h
  exact fend ⟨[(B ((!x2)))],⟨rot,trivial⟩,rfl⟩ nll
def Qjs (N:Nat) (p0:GNet) (p1:(List Int)):Option Int:=
  (Qgu N p0).bind fun x2=>
  bif (!x2) then
   some 1
  else
   bif ((p1.length:Int) != (p0.Elements.length:Int)) then
    some 1
   else
    (Qil N p1).bind fun x6=>
    bif (!x6) then
     some 1
    else
     some 0
def Zio (p0:GNet):AV:=.dat 7 ((p0.Elements:List GElement).map Qad)
def Q59 (p0:GNet):AV:=.agg [(.dat 5 ((p0.Table:List GRow).map Qa0)),(Zio p0)]
def Zcy (p1:(List Int)):AV:=.dat 1 ((p1:List Int).map Qak)
theorem Qtp (N:Nat) (p0:GNet) (p1:(List Int)) (r:Int) (h:Qjs N p0 p1=some r):Spec Tryz.prog 73 [(.agg (Qis p0)),(.dat 1 (p1.map Qak))] [] (I r) []:=by
  refine Qai Tryz.func73 rfl 0 (nle rfl) (fun X φ0 w0 hφ0 hd0=>?_)
  unfold Qjs at h
  refine wxz ?_
  refine wsq ?_
  obtain ⟨x2,hf1,h⟩:=bno h
  refine bfe h (fun hb3 h=>?_) fun hb3 h=>?_
  ·refine wx tbk [(1,rp [fu 66,(.tmp 5,(Q59 p0))] (B x2)),(3,rp [(.tmp 7,(B ((!x2))))] (B true))] ⟨apc (first:=[]) (cap:=[]) (vs:=[(Q59 p0)]) rfl Qxr (Qg9 N p0 _ hf1) rfl rfl (nlc (NLt.agg _ (nlc (nld Qal _) (nlc (nld Qab _) nl0))) nl0) nll rfl,asb hb3 (amv rfl),trivial⟩ ?_
   refine wtr ?_
   refine wxz ?_
   refine Qag ?_
   refine Qah ?_
   obtain rfl:=osi h
   exact fend ⟨[I 1],⟨rot,trivial⟩,rfl⟩ nll
  ·refine bfe h (fun hb4 h=>?_) fun hb4 h=>?_
   ·refine wx tbk [(1,rp [fu 66,(.tmp 5,(Q59 p0))] (B x2)),(3,rp [(.tmp 7,(B ((!x2))))] (B false)),(5,rp [(.tmp 8,B false),(.tmp 9,(Zcy p1))] (I ((p1.length:Int)))),(8,rp [(.tmp 8,B false),(.tmp 12,(Zio p0))] (I ((p0.Elements.length:Int)))),(11,rp [(.tmp 15,(B (((p1.length:Int) != (p0.Elements.length:Int)))))] (B true))] ⟨apc (first:=[]) (cap:=[]) (vs:=[(Q59 p0)]) rfl Qxr (Qg9 N p0 _ hf1) rfl rfl (nlc (NLt.agg _ (nlc (nld Qal _) (nlc (nld Qab _) nl0))) nl0) nll rfl,asb hb3 (amv rfl),ag_ (alm (c:=Qak) (l:=p1) (aln rfl Tryz.underlying27 rfl)),ag_ (alm (c:=Qad) (l:=p0.Elements) (aln rfl Tryz.underlying40 rfl)),asb hb4 (amv rfl),trivial⟩ ?_
    refine wtr ?_
    refine wxz ?_
    refine Qag ?_
    refine Qah ?_
    obtain rfl:=osi h
    exact fend ⟨[I 1],⟨rot,trivial⟩,rfl⟩ nll
   ·obtain ⟨x6,hf5,h⟩:=bno h
    refine wx tbk [(1,rp [fu 66,(.tmp 5,(Q59 p0))] (B x2)),(3,rp [(.tmp 7,(B ((!x2))))] (B false)),(5,rp [(.tmp 8,B false),(.tmp 9,(Zcy p1))] (I ((p1.length:Int)))),(8,rp [(.tmp 8,B false),(.tmp 12,(Zio p0))] (I ((p0.Elements.length:Int)))),(11,rp [(.tmp 15,(B (((p1.length:Int) != (p0.Elements.length:Int)))))] (B false)),(13,rp [(.tmp 16,B false),fu 108,(.tmp 17,(Zcy p1)),fu 109] (B x6))] ⟨apc (first:=[]) (cap:=[]) (vs:=[(Q59 p0)]) rfl Qxr (Qg9 N p0 _ hf1) rfl rfl (nlc (NLt.agg _ (nlc (nld Qal _) (nlc (nld Qab _) nl0))) nl0) nll rfl,asb hb3 (amv rfl),ag_ (alm (c:=Qak) (l:=p1) (aln rfl Tryz.underlying27 rfl)),ag_ (alm (c:=Qad) (l:=p0.Elements) (aln rfl Tryz.underlying40 rfl)),asb hb4 (amv rfl),ag_ (Qau (first:=[]) (cap:=[]) (vs:=[(Zcy p1),(.fn (.func 109) [] [])]) (σr:=[]) (σr':=[]) (res':=(B x6)) [] rfl Qxv (Qpu N p1 _ hf5) rfl (Qbx (rnc (pld Qae) (rnc (.plain _ (NLt.fn _ _ _ nl0 nl0)) rn0))) Qat Qat (.plain _ nll) rfl rfl rfl),trivial⟩ ?_
    refine bfe h (fun hc7 h=>?_) fun hc7 h=>?_
    ·refine wft hc7 ?_
     refine wxz ?_
     refine Qag ?_
     refine Qah ?_
     obtain rfl:=osi h
     exact fend ⟨[I 1],⟨rot,trivial⟩,rfl⟩ nll
    ·refine wfn hc7 ?_
     refine Qan ?_
     refine thn ?_
     refine wxz ?_
     refine Qag ?_
     obtain rfl:=osi h
     exact fend ⟨[I 0],⟨rot,trivial⟩,rfl⟩ nll
def Qdl (N:Nat) (p0:GNet) (p1:Int) (k2:(List Int)→Option (List Int)):Nat→(List Int)→Int→Option (List Int)
  | 0,_,_=>none
  | n7+1,y3,y4=>
    bif (decide (y4<(p0.Elements.length:Int))) then
     (getI p0.Elements y4).bind fun x9=>
     bif (x9.Kind==p1) then
      chk (decide ((y3.length+([y4]).length) * 8≤140737488355328))<|
      Qdl N p0 p1 k2 n7 (y3++([y4])) (w64 (y4+1))
     else
      Qdl N p0 p1 k2 n7 y3 (w64 (y4+1))
    else
     k2 (y3)
def Qh4 (N:Nat) (p0:GNet) (p1:Int):Option (List Int):=
  Qbf (fun y1=>
    some y1) fun k2:(List Int)→Option (List Int)=>
  Qdl N p0 p1 k2 N ([]) 0
def Q1d (p0:GNet):AV:=.dat 7 ((p0.Elements:List GElement).map Qad)
def Q36 (y3:(List Int)):AV:=.acc 0 3 1 ((y3:List Int).map Qak)
theorem Qim (N:Nat) (p0:GNet) (p1:Int) (r:(List Int)) (h:Qh4 N p0 p1=some r):Spec Tryz.prog 67 [(.agg (Qis p0)),(K .u8 p1)] [] (.dat 1 (r.map Qak)) []:=by
  refine Qai Tryz.func67 rfl 0 (nle rfl) (fun X φ0 w0 hφ0 hd0=>?_)
  unfold Qh4 at h
  refine wxz ?_
  obtain ⟨k2,hk_k2,h⟩:=jko h
  refine wjn (τ:=(List Int)) (fun t=>k2 t=some r) (fun y1=>⟨mk 25 [(4,(.acc 0 3 1 ((y1:List Int).map Qak)))],[.tok]⟩) (fun y1 h=>?_) ?_
  ·subst hk_k2
   refine wxz ?_
   refine Qag ?_
   obtain rfl:=osi h
   exact fend ⟨[(.dat 1 ((y1:List Int).map Qak))],⟨Qe0 (v:=(.acc 0 3 1 ((y1:List Int).map Qak))) (rot) Less.acc,trivial⟩,rfl⟩ (nld Qae _)
  ·skip
   refine wx tbk [(2,rp [(.tmp 8,(Q1d p0))] (I ((p0.Elements.length:Int))))] ⟨alm (c:=Qad) (l:=p0.Elements) (aln rfl Tryz.underlying40 rfl),trivial⟩ ?_
   refine Qam ?_
   refine wmr (Mor.trans (Qq4 1 3 1 4 (by kernel_rfl) (by kernel_rfl)) (mto (n:=25) (l':=[(1,(K .u8 (p1))),(4,(.acc 0 3 1 ((([]):List Int).map Qak))),(8,(Q1d p0)),(9,(I ((p0.Elements.length:Int)))),(10,I 0)]) (own':=[.tok]) [(1,(K .u8 (p1))),(4,(.acc 1 3 1 (([]:List Int).map Qak))),(8,(Q1d p0)),(9,(I ((p0.Elements.length:Int)))),(10,I 0)] [1] [.tok] hφ0 (pc rwl (pc (.rn (Qa7 rfl (Qa1 Qae _))) (pc (rnd Qab) (pc rwl (pc rwl pn))))) (qc .tok qn))) ?_
   refine Qbw (τ:=(List Int)×Int) (fun n t=>Qdl N p0 p1 k2 n t.1 t.2=some r) (fun ⟨y3,y4⟩=>⟨mk 25 [(1,(K .u8 (p1))),(4,(Q36 y3)),(8,(Q1d p0)),(9,(I ((p0.Elements.length:Int)))),(10,I y4)],[.tok]⟩) (fun t h=>by rw [Qdl] at h; cases h) (fun n7 ih t h=>?_) N ([],0) h
   obtain ⟨y3,y4⟩:=t
   rw [Qdl] at h
   skip
   refine wxz ?_
   refine wsq ?_
   refine bfe h (fun hc8 h=>?_) fun hc8 h=>?_
   ·refine wft hc8 ?_
    refine Qan ?_
    refine thn ?_
    refine wsq ?_
    refine Qam ?_
    obtain ⟨x9,hg10,h⟩:=bno h
    obtain ⟨hi11,hj12⟩:=gsm hg10
    refine wx tbk [(1,rp [(.tmp 8,(Q1d p0)),(.tmp 10,I y4)] (.dptr (Qad (x9)) 0))] ⟨aid rfl Tryz.underlying40 Qj1 rfl rfl hi11 (mgt Qad hj12) rfl,trivial⟩ ?_
    refine wxz ?_
    refine bfe h (fun hc13 h=>?_) fun hc13 h=>?_
    ·refine wft hc13 ?_
     obtain ⟨ha14,h⟩:=cko h
     refine wx1 tbk [(2,rp [(.tmp 20,I y4)] (.dat 1 (([y4]:List Int).map Qak))),(3,⟨[(.tmp 19,(Q36 y3)),(.tmp 21,(.dat 1 (([y4]:List Int).map Qak)))],[(0,.tok),(2,.unused)],(.acc 2 3 1 ((y3++([y4]):List Int).map Qak)),[(0,.dead),(2,.tok)],false⟩)] ⟨Qbn (vs:=[I y4]) rfl Tryz.underlying27 ti3 tz3 rfl (by decide) rfl (by decide) (by rfl) (by rfl) (by rfl) rfl,Qex rfl Tryz.underlying27 te3 (Base.acc _ _) rfl rfl (by rfl) (Qhf Qak ha14) (Qhe Qak ha14 (by decide)) (Qhd Qak) rfl rfl,trivial⟩ ?_
     refine bln ?_
     refine thn ?_
     refine wxz1 ?_
     refine thn ?_
     exact arm (mto (n:=25) [(1,(K .u8 (p1))),(4,(.acc 2 3 1 ((y3++([y4]):List Int).map Qak))),(8,(Q1d p0)),(9,(I ((p0.Elements.length:Int)))),(10,(I (w64 (y4+1))))] [2] [.tok] hφ0 (pc rwl (pc (.rn (Qa7 rfl (Qa1 Qae _))) (pc (rnd Qab) (pc rwl (pc rwl pn))))) (qc .tok qn)) (ih (y3++([y4]),w64 (y4+1)) h)
    ·refine wfn hc13 ?_
     refine Qan ?_
     refine bln ?_
     refine thn ?_
     refine wxz1 ?_
     refine thn ?_
     exact arm (mto (n:=25) [(1,(K .u8 (p1))),(4,(Q36 y3)),(8,(Q1d p0)),(9,(I ((p0.Elements.length:Int)))),(10,(I (w64 (y4+1))))] [0] [.tok] hφ0 (pc rwl (pc (.rn (Qa7 rfl (Qa1 Qae _))) (pc (rnd Qab) (pc rwl (pc rwl pn))))) (qc .tok qn)) (ih (y3,w64 (y4+1)) h)
   ·refine wfn hc8 ?_
    refine Qbh ?_
    refine Qax ?_
    refine Qax ?_
    refine Qbg rfl ?_
    refine thn ?_
    exact ⟨(y3),h,(mto (n:=25) [(4,(Q36 y3))] [0] [.tok] hφ0 (pc (.rn (Qa7 rfl (Qa1 Qae _))) pn) (qc .tok qn))⟩
def Qdu (N:Nat) (p0:GStream):Option Bool:=
  (Qc1 N p0.Mass 0 1000000).bind fun x2=>
  bif x2 then
   (Qc1 N p0.Heat 0 (w64 (4000 * p0.Mass))).bind fun x5=>
   bif x5 then
    (Qc1 N p0.Silica 0 (w64 (10000 * p0.Mass))).bind fun x8=>
    bif x8 then
     (Qc1 N p0.Gas 0 1000000000).bind fun x11=>
     some x11
    else
     some false
   else
    some false
  else
   some false
theorem Qdm (N:Nat) (p0:GStream) (r:Bool) (h:Qdu N p0=some r):Spec Tryz.prog 131 [(.agg (Qaa p0))] [] (B r) []:=by
  refine Qai Tryz.func131 rfl 0 (nle rfl) (fun X φ0 w0 hφ0 hd0=>?_)
  unfold Qdu at h
  refine wxz ?_
  obtain ⟨x2,hf1,h⟩:=bno h
  refine bfe h (fun hb3 h=>?_) fun hb3 h=>?_
  ·obtain ⟨x5,hf4,h⟩:=bno h
   refine bfe h (fun hb6 h=>?_) fun hb6 h=>?_
   ·obtain ⟨x8,hf7,h⟩:=bno h
    refine bfe h (fun hb9 h=>?_) fun hb9 h=>?_
    ·obtain ⟨x11,hf10,h⟩:=bno h
     refine wx tbk [(2,rp [fu 137,(.tmp 4,I p0.Mass),ci 0,ci 1000000] (B x2)),(3,rp [(.tmp 5,B x2)] (B true)),(9,rp [(.tmp 6,B true),fu 137,(.tmp 8,I p0.Heat),ci 0,(.tmp 11,(I (w64 (4000 * p0.Mass))))] (B x5)),(11,rp [(.tmp 13,B x5)] (B true)),(17,rp [(.tmp 14,B true),fu 137,(.tmp 16,I p0.Silica),ci 0,(.tmp 19,(I (w64 (10000 * p0.Mass))))] (B x8)),(19,rp [(.tmp 21,B x8)] (B true)),(22,rp [(.tmp 22,B true),fu 137,(.tmp 24,I p0.Gas),ci 0,ci 1000000000] (B x11))] ⟨apc (first:=[]) (cap:=[]) (vs:=[I p0.Mass,I 0,I 1000000]) rfl Qcw (Qaz N p0.Mass 0 1000000 _ hf1) rfl rfl (nlcc (nlc nll nl0)) nll rfl,asb hb3 (amv rfl),ag_ (apc (first:=[]) (cap:=[]) (vs:=[I p0.Heat,I 0,(I (w64 (4000 * p0.Mass)))]) rfl Qcw (Qaz N p0.Heat 0 (w64 (4000 * p0.Mass)) _ hf4) rfl rfl (nlcc (nlc nll nl0)) nll rfl),asb hb6 (amv rfl),ag_ (apc (first:=[]) (cap:=[]) (vs:=[I p0.Silica,I 0,(I (w64 (10000 * p0.Mass)))]) rfl Qcw (Qaz N p0.Silica 0 (w64 (10000 * p0.Mass)) _ hf7) rfl rfl (nlcc (nlc nll nl0)) nll rfl),asb hb9 (amv rfl),ag_ (apc (first:=[]) (cap:=[]) (vs:=[I p0.Gas,I 0,I 1000000000]) rfl Qcw (Qaz N p0.Gas 0 1000000000 _ hf10) rfl rfl (nlcc (nlc nll nl0)) nll rfl),trivial⟩ ?_
     refine Qag ?_
     obtain rfl:=osi h
     exact fend ⟨[B x11],⟨rot,trivial⟩,rfl⟩ nll
    ·refine wx tbk [(2,rp [fu 137,(.tmp 4,I p0.Mass),ci 0,ci 1000000] (B x2)),(3,rp [(.tmp 5,B x2)] (B true)),(9,rp [(.tmp 6,B true),fu 137,(.tmp 8,I p0.Heat),ci 0,(.tmp 11,(I (w64 (4000 * p0.Mass))))] (B x5)),(11,rp [(.tmp 13,B x5)] (B true)),(17,rp [(.tmp 14,B true),fu 137,(.tmp 16,I p0.Silica),ci 0,(.tmp 19,(I (w64 (10000 * p0.Mass))))] (B x8)),(19,rp [(.tmp 21,B x8)] (B false))] ⟨apc (first:=[]) (cap:=[]) (vs:=[I p0.Mass,I 0,I 1000000]) rfl Qcw (Qaz N p0.Mass 0 1000000 _ hf1) rfl rfl (nlcc (nlc nll nl0)) nll rfl,asb hb3 (amv rfl),ag_ (apc (first:=[]) (cap:=[]) (vs:=[I p0.Heat,I 0,(I (w64 (4000 * p0.Mass)))]) rfl Qcw (Qaz N p0.Heat 0 (w64 (4000 * p0.Mass)) _ hf4) rfl rfl (nlcc (nlc nll nl0)) nll rfl),asb hb6 (amv rfl),ag_ (apc (first:=[]) (cap:=[]) (vs:=[I p0.Silica,I 0,(I (w64 (10000 * p0.Mass)))]) rfl Qcw (Qaz N p0.Silica 0 (w64 (10000 * p0.Mass)) _ hf7) rfl rfl (nlcc (nlc nll nl0)) nll rfl),asb hb9 (amv rfl),trivial⟩ ?_
     refine Qag ?_
     obtain rfl:=osi h
     exact fend ⟨[B false],⟨rot,trivial⟩,rfl⟩ nll
   ·refine wx tbk [(2,rp [fu 137,(.tmp 4,I p0.Mass),ci 0,ci 1000000] (B x2)),(3,rp [(.tmp 5,B x2)] (B true)),(9,rp [(.tmp 6,B true),fu 137,(.tmp 8,I p0.Heat),ci 0,(.tmp 11,(I (w64 (4000 * p0.Mass))))] (B x5)),(11,rp [(.tmp 13,B x5)] (B false))] ⟨apc (first:=[]) (cap:=[]) (vs:=[I p0.Mass,I 0,I 1000000]) rfl Qcw (Qaz N p0.Mass 0 1000000 _ hf1) rfl rfl (nlcc (nlc nll nl0)) nll rfl,asb hb3 (amv rfl),ag_ (apc (first:=[]) (cap:=[]) (vs:=[I p0.Heat,I 0,(I (w64 (4000 * p0.Mass)))]) rfl Qcw (Qaz N p0.Heat 0 (w64 (4000 * p0.Mass)) _ hf4) rfl rfl (nlcc (nlc nll nl0)) nll rfl),asb hb6 (amv rfl),trivial⟩ ?_
    refine Qag ?_
    obtain rfl:=osi h
    exact fend ⟨[B false],⟨rot,trivial⟩,rfl⟩ nll
  ·refine wx tbk [(2,rp [fu 137,(.tmp 4,I p0.Mass),ci 0,ci 1000000] (B x2)),(3,rp [(.tmp 5,B x2)] (B false))] ⟨apc (first:=[]) (cap:=[]) (vs:=[I p0.Mass,I 0,I 1000000]) rfl Qcw (Qaz N p0.Mass 0 1000000 _ hf1) rfl rfl (nlcc (nlc nll nl0)) nll rfl,asb hb3 (amv rfl),trivial⟩ ?_
   refine Qag ?_
   obtain rfl:=osi h
   exact fend ⟨[B false],⟨rot,trivial⟩,rfl⟩ nll
def Qf3 (N:Nat) (p0:GStream):Option Int:=
  (Qdu N p0).bind fun x2=>
  bif (!x2) then
   some 1
  else
   some 0
def Zlt (p0:GStream):AV:=.agg [(I (p0.Mass)),(I (p0.Heat)),(I (p0.Silica)),(I (p0.Gas))]
theorem Qm5 (N:Nat) (p0:GStream) (r:Int) (h:Qf3 N p0=some r):Spec Tryz.prog 114 [(.agg (Qaa p0))] [] (I r) []:=by
  refine Qai Tryz.func114 rfl 0 (nle rfl) (fun X φ0 w0 hφ0 hd0=>?_)
  unfold Qf3 at h
  refine wxz ?_
  refine wsq ?_
  obtain ⟨x2,hf1,h⟩:=bno h
  refine wx tbk [(1,rp [fu 131,(.tmp 3,(Zlt p0))] (B x2))] ⟨apc (first:=[]) (cap:=[]) (vs:=[(Zlt p0)]) rfl Qnw (Qdm N p0 _ hf1) rfl rfl (nlc (NLt.agg _ (nlcc (nlcc nl0))) nl0) nll rfl,trivial⟩ ?_
  refine bfe h (fun hc3 h=>?_) fun hc3 h=>?_
  ·refine wft hc3 ?_
   refine wxz ?_
   refine Qag ?_
   refine Qah ?_
   obtain rfl:=osi h
   exact fend ⟨[I 1],⟨rot,trivial⟩,rfl⟩ nll
  ·refine wfn hc3 ?_
   refine Qan ?_
   refine thn ?_
   refine wxz ?_
   refine Qag ?_
   obtain rfl:=osi h
   exact fend ⟨[I 0],⟨rot,trivial⟩,rfl⟩ nll
def Qin (N:Nat) (p0:GStream):Option Bool:=
  (Qf3 N p0).bind fun x2=>
  some (x2==0)
def Zlu (p0:GStream):AV:=.agg [(I (p0.Mass)),(I (p0.Heat)),(I (p0.Silica)),(I (p0.Gas))]
theorem Qpv (N:Nat) (p0:GStream) (r:Bool) (h:Qin N p0=some r):Spec Tryz.prog 113 [(.agg (Qaa p0))] [] (B r) []:=by
  refine Qai Tryz.func113 rfl 0 (nle rfl) (fun X φ0 w0 hφ0 hd0=>?_)
  unfold Qin at h
  refine wxz ?_
  obtain ⟨x2,hf1,h⟩:=bno h
  refine wx tbk [(1,rp [fu 114,(.tmp 3,(Zlu p0))] (I x2))] ⟨apc (first:=[]) (cap:=[]) (vs:=[(Zlu p0)]) rfl Ze8 (Qm5 N p0 _ hf1) rfl rfl (nlc (NLt.agg _ (nlcc (nlcc nl0))) nl0) nll rfl,trivial⟩ ?_
  refine Qag ?_
  obtain rfl:=osi h
  exact fend ⟨[(B ((x2==0)))],⟨rot,trivial⟩,rfl⟩ nll
def Qde (N:Nat) (p0:GStream):Option Bool:=
  (Qin N p0).bind fun x3=>
  some (!x3)
def Zif (p0:GStream):AV:=.agg [(I (p0.Mass)),(I (p0.Heat)),(I (p0.Silica)),(I (p0.Gas))]
def Zcs:Slot:=.own 1 [[(.fn (.func 113) [] [])]]
theorem Qj2 (N:Nat) (p0:GStream) (r:Bool) (h:Qde N p0=some r):Spec Tryz.prog 130 [(Zif p0),(.ref 0 1 (0) 0)] [Zcs] (B (r)) [Zcs]:=by
  refine Qai Tryz.func130 rfl 1 (nle rfl) (fun X φ0 w0 hφ0 hd0=>?_)
  unfold Qde at h
  refine Qb2 ?_
  refine wxz ?_
  obtain ⟨x3,hf2,h⟩:=bno h
  refine wx tbk [(2,rp [(.tmp 4,(.fn (.func 113) [] [])),(.tmp 5,(Zif p0))] (B x3))] ⟨apc (first:=[]) (cap:=[]) (vs:=[(Zif p0)]) rfl Ze9 (Qpv N p0 _ hf2) rfl rfl (nlc (NLt.agg _ (nlcc (nlcc nl0))) nl0) nll rfl,trivial⟩ ?_
  refine wmr (mto (n:=8) (l':=[(3,(B ((!x3))))]) (own':=[Zcs]) [(3,(B ((!x3))))] [0] [Zcs] hφ0 (pc rwl pn) (qc (spb (lc (.rn (Qbr rn0 rn0)) ln)) qn)) ?_
  refine Qag ?_
  obtain rfl:=osi h
  exact ⟨_,Mor.rfl,Qda (vs:=[(B ((!x3)))]) ⟨rot,trivial⟩ rfl (NLt.of0 nll) (by kernel_rfl) (Qap (Qbj (nlc (NLt.of0 (NLt.fn _ _ _ nl0 nl0)) nl0)) Qbz)⟩
def Qba (N:Nat) (p0:(List GStream)) (k2:Unit→Option Int):Nat→Int→Option Int
  | 0,_=>none
  | n5+1,y3=>
    bif (decide (y3<(p0.length:Int))) then
     (getI p0 y3).bind fun x7=>
     (Qde N x7).bind fun x12=>
     bif x12 then
      some y3
     else
      Qba N p0 k2 n5 (w64 (y3+1))
    else
     k2 ()
def Qb4 (N:Nat) (p0:(List GStream)):Option Int:=
  Qbf (fun _=>
    some (-1)) fun k2:Unit→Option Int=>
  Qba N p0 k2 N 0
def Q1c (p0:(List GStream)):AV:=.dat 4 ((p0:List GStream).map Qaa)
def Q57:AV:=.fn (.func 130) [] [(.ref 0 1 (0) 0)]
def Qn0:Slot:=.own 1 [[(.fn (.func 113) [] [])]]
def Zlv (x7:GStream):AV:=.agg [(I (x7.Mass)),(I (x7.Heat)),(I (x7.Silica)),(I (x7.Gas))]
theorem Qf4 (N:Nat) (p0:(List GStream)) (r:Int) (h:Qb4 N p0=some r):Spec Tryz.prog 142 [(Q1c p0),Q57] [Qn0] (I (r)) [Qn0]:=by
  refine Qai Tryz.func142 rfl 1 (nle rfl) (fun X φ0 w0 hφ0 hd0=>?_)
  unfold Qb4 at h
  refine Qb2 ?_
  refine wxz ?_
  obtain ⟨k2,hk_k2,h⟩:=jko h
  refine wjn (τ:=Unit) (fun t=>k2 t=some r) (fun _=>⟨mk 19 [],[Qn0]⟩) (fun t h=>?_) ?_
  ·subst hk_k2
   refine wxz ?_
   refine wmr (mto (n:=19) (l':=[(4,(I ((-1))))]) (own':=[Qn0]) [(4,(I ((-1))))] [0] [Qn0] hφ0 (pc rwl pn) (qc (spb (lc (.rn (Qbr rn0 rn0)) ln)) qn)) ?_
   refine Qag ?_
   obtain rfl:=osi h
   exact ⟨_,Mor.rfl,Qda (vs:=[(I ((-1)))]) ⟨rot,trivial⟩ rfl (NLt.of0 nll) (by kernel_rfl) (Qap (Qbj (nlc (NLt.of0 (NLt.fn _ _ _ nl0 nl0)) nl0)) Qbz)⟩
  ·skip
   refine wx tbk [(1,rp [(.tmp 6,(Q1c p0))] (I ((p0.length:Int))))] ⟨alm (c:=Qaa) (l:=p0) (aln rfl Tryz.underlying45 rfl),trivial⟩ ?_
   refine Qam ?_
   refine wmr (mto (n:=19) (l':=[(0,(Q1c p0)),(1,Q57),(7,(I ((p0.length:Int)))),(8,I 0)]) (own':=[Qn0]) [(0,(Q1c p0)),(1,Q57),(7,(I ((p0.length:Int)))),(8,I 0)] [0] [Qn0] hφ0 (pc (rnd Qac) (pc (.rn (Qbr rn0 (rnc (rqr rfl) rn0))) (pc rwl (pc rwl pn)))) (qc (spb (lc (.rn (Qbr rn0 rn0)) ln)) qn)) ?_
   refine Qbw (τ:=Int) (fun n t=>Qba N p0 k2 n t=some r) (fun y3=>⟨mk 19 [(0,(Q1c p0)),(1,Q57),(7,(I ((p0.length:Int)))),(8,I y3)],[Qn0]⟩) (fun t h=>by rw [Qba] at h; cases h) (fun n5 ih y3 h=>?_) N (0) h
   rw [Qba] at h
   skip
   refine wxz ?_
   refine wsq ?_
   refine bfe h (fun hc6 h=>?_) fun hc6 h=>?_
   ·refine wft hc6 ?_
    refine Qan ?_
    refine thn ?_
    refine wsq ?_
    refine Qam ?_
    refine wxz ?_
    obtain ⟨x7,hg8,h⟩:=bno h
    obtain ⟨hi9,hj10⟩:=gsm hg8
    obtain ⟨x12,hf11,h⟩:=bno h
    refine wx tbk [(3,rp [(.tmp 12,(Q1c p0)),(.tmp 13,I y3)] (.dptr (Qaa (x7)) 0)),(5,⟨[(.tmp 11,Q57),(.tmp 15,(Zlv x7))],[(0,Qn0)],B x12,[(0,Qn0)],false⟩)] ⟨aid rfl Tryz.underlying45 ti63 rfl rfl hi9 (mgt Qaa hj10) rfl,Qau (first:=[]) (cap:=[.ref 0 1 0 0]) (vs:=[(Zlv x7)]) (σr:=[Qn0]) (σr':=[Qn0]) (res':=(B x12)) [0] rfl Zew (Qj2 N x7 _ hf11) rfl (Qbx (rnc (.plain _ (NLt.agg _ (nlcc (nlcc nl0)))) (rnc (Qbo rfl) rn0))) (slc (Qar (rnc (.plain _ (NLt.fn _ _ _ nl0 nl0)) rn0)) Qat) (slc (Qar (rnc (.plain _ (NLt.fn _ _ _ nl0 nl0)) rn0)) Qat) (.plain _ nll) rfl rfl rfl,trivial⟩ ?_
    refine bfe h (fun hc13 h=>?_) fun hc13 h=>?_
    ·refine wft hc13 ?_
     refine wxz ?_
     refine wmr (mto (n:=19) (l':=[(4,I y3)]) (own':=[Qn0]) [(4,I y3)] [0] [Qn0] hφ0 (pc rwl pn) (qc (spb (lc (.rn (Qbr rn0 rn0)) ln)) qn)) ?_
     refine Qag ?_
     refine Qao ?_
     refine Qah ?_
     refine Qah ?_
     refine Qao ?_
     refine Qah ?_
     obtain rfl:=osi h
     exact ⟨_,Mor.rfl,Qda (vs:=[I y3]) ⟨rot,trivial⟩ rfl (NLt.of0 nll) (by kernel_rfl) (Qap (Qbj (nlc (NLt.of0 (NLt.fn _ _ _ nl0 nl0)) nl0)) Qbz)⟩
    ·refine wfn hc13 ?_
     refine Qan ?_
     refine bln ?_
     refine thn ?_
     refine wxz1 ?_
     refine thn ?_
     exact arm (mto (n:=19) [(0,(Q1c p0)),(1,Q57),(7,(I ((p0.length:Int)))),(8,(I (w64 (y3+1))))] [0] [Qn0] hφ0 (pc (rnd Qac) (pc (.rn (Qbr rn0 (rnc (rqr rfl) rn0))) (pc rwl (pc rwl pn)))) (qc (spb (lc (.rn (Qbr rn0 rn0)) ln)) qn)) (ih (w64 (y3+1)) h)
   ·refine wfn hc6 ?_
    refine Qbh ?_
    refine Qax ?_
    refine Qax ?_
    refine Qbg rfl ?_
    refine thn ?_
    exact ⟨(),h,(mto (n:=19) [] [0] [Qn0] hφ0 pn (qc (spb (lc (.rn (Qbr rn0 rn0)) ln)) qn))⟩
def Qbl (N:Nat) (p0:(List GStream)):Option Bool:=
  (Qb4 N p0).bind fun x3=>
  some (decide (x3≥0))
def Zih (p0:(List GStream)):AV:=.dat 4 ((p0:List GStream).map Qaa)
def Zig:AV:=.fn (.func 130) [] [(.ref 0 1 (0) 0)]
def Qym:Slot:=.own 1 [[(.fn (.func 113) [] [])]]
theorem Qfk (N:Nat) (p0:(List GStream)) (r:Bool) (h:Qbl N p0=some r):Spec Tryz.prog 129 [(Zih p0),Zig] [Qym] (B (r)) [Qym]:=by
  refine Qai Tryz.func129 rfl 1 (nle rfl) (fun X φ0 w0 hφ0 hd0=>?_)
  unfold Qbl at h
  refine Qb2 ?_
  refine wxz ?_
  obtain ⟨x3,hf2,h⟩:=bno h
  refine wx tbk [(2,⟨[fu 142,(.tmp 5,(Zih p0)),(.tmp 6,Zig)],[(0,Qym)],I x3,[(0,Qym)],false⟩)] ⟨Qau (first:=[]) (cap:=[]) (vs:=[(Zih p0),Zig]) (σr:=[Qym]) (σr':=[Qym]) (res':=(I x3)) [0] rfl Zep (Qf4 N p0 _ hf2) rfl (Qbx (rnc (pld Qac) (rnc (Qbr rn0 (rnc (Qbo rfl) rn0)) rn0))) (slc (Qar (rnc (.plain _ (NLt.fn _ _ _ nl0 nl0)) rn0)) Qat) (slc (Qar (rnc (.plain _ (NLt.fn _ _ _ nl0 nl0)) rn0)) Qat) (.plain _ nll) rfl rfl rfl,trivial⟩ ?_
  refine wmr (mto (n:=9) (l':=[(4,(B ((decide (x3≥0)))))]) (own':=[Qym]) [(4,(B ((decide (x3≥0)))))] [0] [Qym] hφ0 (pc rwl pn) (qc (spb (lc (.rn (Qbr rn0 rn0)) ln)) qn)) ?_
  refine Qag ?_
  obtain rfl:=osi h
  exact ⟨_,Mor.rfl,Qda (vs:=[(B ((decide (x3≥0))))]) ⟨rot,trivial⟩ rfl (NLt.of0 nll) (by kernel_rfl) (Qap (Qbj (nlc (NLt.of0 (NLt.fn _ _ _ nl0 nl0)) nl0)) Qbz)⟩
def Qe2 (N:Nat) (p0:(List GStream)):Option Bool:=
  (Qbl N p0).bind fun x2=>
  some (!x2)
def Zij (p0:(List GStream)):AV:=.dat 4 ((p0:List GStream).map Qaa)
def Zii:AV:=.fn (.func 130) [] [(.ref 0 1 (0) 0)]
def Zct:Slot:=.own 1 [[(.fn (.func 113) [] [])]]
theorem Qks (N:Nat) (p0:(List GStream)) (r:Bool) (h:Qe2 N p0=some r):Spec Tryz.prog 112 [(Zij p0),(.fn (.func 113) [] [])] [] (B (r)) []:=by
  refine Qai Tryz.func112 rfl 0 (nle rfl) (fun X φ0 w0 hφ0 hd0=>?_)
  unfold Qe2 at h
  refine wxz ?_
  obtain ⟨x2,hf1,h⟩:=bno h
  refine wx tbk [(1,rp [(.tmp 3,.ref 0 1 0 0)] Zii),(2,⟨[fu 129,(.tmp 5,(Zij p0)),(.tmp 6,Zii)],[(0,Zct)],B x2,[(0,Zct)],false⟩)] ⟨Qfz (fs:=[]) (cs:=[.ref 0 1 0 0]) rfl rfl rfl rfl,Qau (first:=[]) (cap:=[]) (vs:=[(Zij p0),Zii]) (σr:=[Zct]) (σr':=[Zct]) (res':=(B x2)) [0] rfl Zex (Qfk N p0 _ hf1) rfl (Qbx (rnc (pld Qac) (rnc (Qbr rn0 (rnc (Qbo rfl) rn0)) rn0))) (slc (Qar (rnc (.plain _ (NLt.fn _ _ _ nl0 nl0)) rn0)) Qat) (slc (Qar (rnc (.plain _ (NLt.fn _ _ _ nl0 nl0)) rn0)) Qat) (.plain _ nll) rfl rfl rfl,trivial⟩ ?_
  refine Qag ?_
  obtain rfl:=osi h
  exact fend ⟨[(B ((!x2)))],⟨rot,trivial⟩,rfl⟩ nll
def Qeo (N:Nat) (p0:(List GStream)) (k5:Int×Int×Int×Int→Option GStream):Nat→Int→Int→Int→Int→Int→Option GStream
  | 0,_,_,_,_,_=>none
  | n16+1,y6,y7,y8,y9,y10=>
    bif (decide (y6<(p0.length:Int))) then
     (getI p0 y6).bind fun x18=>
     Qeo N p0 k5 n16 (w64 (y6+1)) (w64 (y7+x18.Mass)) (w64 (y8+x18.Heat)) (w64 (y9+x18.Silica)) (w64 (y10+x18.Gas))
    else
     k5 (y7,y8,y9,y10)
def Qfq (N:Nat) (p0:(List GStream)):Option GStream:=
  Qbf (fun ⟨y1,y2,y3,y4⟩=>
    some (⟨y1,y2,y3,y4⟩:GStream)) fun k5:Int×Int×Int×Int→Option GStream=>
  Qeo N p0 k5 N 0 0 0 0 0
def Q56 (p0:(List GStream)):AV:=.dat 4 ((p0:List GStream).map Qaa)
def Zls:Slot:=.own 4 [[(I (0)),(I (0)),(I (0)),(I (0))]]
theorem Qlf (N:Nat) (p0:(List GStream)) (r:GStream) (h:Qfq N p0=some r):Spec Tryz.prog 76 [(.dat 4 (p0.map Qaa))] [] (.agg (Qaa r)) []:=by
  refine Qai Tryz.func76 rfl 0 (nle rfl) (fun X φ0 w0 hφ0 hd0=>?_)
  unfold Qfq at h
  refine wxz ?_
  obtain ⟨k5,hk_k5,h⟩:=jko h
  refine wjn (τ:=Int×Int×Int×Int) (fun t=>k5 t=some r) (fun ⟨y1,y2,y3,y4⟩=>⟨mk 34 [(2,.ref 0 4 0 0)],[(.own 4 [[I y1,I y2,I y3,I y4]])]⟩) (fun t h=>?_) ?_
  ·subst hk_k5
   obtain ⟨y1,y2,y3,y4⟩:=t
   refine wxz ?_
   refine Qag ?_
   obtain rfl:=osi h
   exact fend ⟨[(.agg [I y1,I y2,I y3,I y4])],⟨Qbv (n:=0) (m:=4) (j:=0) (i:=0) (xs:=[[I y1,I y2,I y3,I y4]]) (by kernel_rfl) (by kernel_rfl) ti63 (by decide) rfl (nle rfl) rfl,trivial⟩,rfl⟩ (NLt.agg _ (nlcc (nlcc nl0)))
  ·skip
   refine wx tbk [(1,rp [(.tmp 5,(Q56 p0))] (I ((p0.length:Int))))] ⟨alm (c:=Qaa) (l:=p0) (aln rfl Tryz.underlying45 rfl),trivial⟩ ?_
   refine Qam ?_
   refine wmr (mto (n:=34) (l':=[(2,.ref 0 4 0 0),(5,(Q56 p0)),(6,(I ((p0.length:Int)))),(7,I 0)]) (own':=[Zls]) [(2,.ref 0 4 0 0),(5,(Q56 p0)),(6,(I ((p0.length:Int)))),(7,I 0)] [0] [Zls] hφ0 (pc (.rn (rqr rfl)) (pc (rnd Qac) (pc rwl (pc rwl pn)))) (qc (spb (lcc (lcc ln))) qn)) ?_
   refine Qbw (τ:=Int×Int×Int×Int×Int) (fun n t=>Qeo N p0 k5 n t.1 t.2.1 t.2.2.1 t.2.2.2.1 t.2.2.2.2=some r) (fun ⟨y6,y7,y8,y9,y10⟩=>⟨mk 34 [(2,.ref 0 4 0 0),(5,(Q56 p0)),(6,(I ((p0.length:Int)))),(7,I y6)],[(.own 4 [[I y7,I y8,I y9,I y10]])]⟩) (fun t h=>by rw [Qeo] at h; cases h) (fun n16 ih t h=>?_) N (0,0,0,0,0) h
   obtain ⟨y6,y7,y8,y9,y10⟩:=t
   rw [Qeo] at h
   skip
   refine wxz ?_
   refine wsq ?_
   refine bfe h (fun hc17 h=>?_) fun hc17 h=>?_
   ·refine wft hc17 ?_
    refine Qan ?_
    refine thn ?_
    refine wsq ?_
    refine Qam ?_
    obtain ⟨x18,hg19,h⟩:=bno h
    obtain ⟨hi20,hj21⟩:=gsm hg19
    refine wx tbk [(0,rp [(.tmp 5,(Q56 p0)),(.tmp 7,I y6)] (.dptr (Qaa (x18)) 0))] ⟨aid rfl Tryz.underlying45 ti63 rfl rfl hi20 (mgt Qaa hj21) rfl,trivial⟩ ?_
    refine wx1 tbk [(20,rp [(.tmp 15,(I (w64 (y7+x18.Mass)))),(.tmp 20,(I (w64 (y8+x18.Heat)))),(.tmp 25,(I (w64 (y9+x18.Silica)))),(.tmp 30,(I (w64 (y10+x18.Gas))))] (.agg [(I (w64 (y7+x18.Mass))),(I (w64 (y8+x18.Heat))),(I (w64 (y9+x18.Silica))),(I (w64 (y10+x18.Gas)))]))] ⟨Qav (vs:=[(I (w64 (y7+x18.Mass))),(I (w64 (y8+x18.Heat))),(I (w64 (y9+x18.Silica))),(I (w64 (y10+x18.Gas)))]) rfl ts63 tz63 rfl (by rfl) rfl,trivial⟩ ?_
    refine bln ?_
    refine thn ?_
    refine wxz1 ?_
    refine thn ?_
    exact arm (mto (n:=34) [(2,.ref 0 4 0 0),(5,(Q56 p0)),(6,(I ((p0.length:Int)))),(7,(I (w64 (y6+1))))] [0] [(.own 4 [[(I (w64 (y7+x18.Mass))),(I (w64 (y8+x18.Heat))),(I (w64 (y9+x18.Silica))),(I (w64 (y10+x18.Gas)))]])] hφ0 (pc (.rn (rqr rfl)) (pc (rnd Qac) (pc rwl (pc rwl pn)))) (qc (spb (lcc (lcc ln))) qn)) (ih (w64 (y6+1),w64 (y7+x18.Mass),w64 (y8+x18.Heat),w64 (y9+x18.Silica),w64 (y10+x18.Gas)) h)
   ·refine wfn hc17 ?_
    refine Qbh ?_
    refine Qax ?_
    refine Qax ?_
    refine Qbg rfl ?_
    refine thn ?_
    exact ⟨(y7,y8,y9,y10),h,(mto (n:=34) [(2,.ref 0 4 0 0)] [0] [(.own 4 [[I y7,I y8,I y9,I y10]])] hφ0 (pc (.rn (rqr rfl)) pn) (qc (spb (lcc (lcc ln))) qn))⟩
def Qio (N:Nat) (p0:GNet) (p1:(List GStream)):Option Int:=
  Qbf (fun _=>
    (Qfq N p1).bind fun x3=>
    bif (decide (x3.Mass>1000000)) then
     some 3
    else
     bif (decide (x3.Gas>1000000000)) then
      some 3
     else
      some 0) fun k1:Unit→Option Int=>
  (Qh4 N p0 1).bind fun x7=>
  bif ((p1.length:Int) != (x7.length:Int)) then
   some 1
  else
   (Qe2 N p1).bind fun x10=>
   bif (!x10) then
    some 1
   else
    k1 ()
def Qyn (p1:(List GStream)):AV:=.dat 4 ((p1:List GStream).map Qaa)
def Zm1 (p0:GNet):AV:=.dat 7 ((p0.Elements:List GElement).map Qad)
def Zcv (p0:GNet):AV:=.agg [(.dat 5 ((p0.Table:List GRow).map Qa0)),(Zm1 p0)]
def Zcu (x7:(List Int)):AV:=.dat 1 ((x7:List Int).map Qak)
theorem Qr6 (N:Nat) (p0:GNet) (p1:(List GStream)) (r:Int) (h:Qio N p0 p1=some r):Spec Tryz.prog 94 [(.agg (Qis p0)),(.dat 4 (p1.map Qaa))] [] (I r) []:=by
  refine Qai Tryz.func94 rfl 0 (nle rfl) (fun X φ0 w0 hφ0 hd0=>?_)
  unfold Qio at h
  refine wxz ?_
  obtain ⟨k1,hk_k1,h⟩:=jko h
  refine wjn (τ:=Unit) (fun t=>k1 t=some r) (fun _=>⟨mk 27 [(1,(Qyn p1))],[]⟩) (fun t h=>?_) ?_
  ·subst hk_k1
   refine wsq ?_
   obtain ⟨x3,hf2,h⟩:=bno h
   refine wx tbk [(1,rp [fu 76,(.tmp 17,(Qyn p1))] (.agg [I x3.Mass,I x3.Heat,I x3.Silica,I x3.Gas]))] ⟨apc (first:=[]) (cap:=[]) (vs:=[(Qyn p1)]) rfl Q2j (Qlf N p1 _ hf2) rfl rfl (nlc (nld Qac _) nl0) (NLt.agg _ (nlcc (nlcc nl0))) rfl,trivial⟩ ?_
   refine bfe h (fun hb4 h=>?_) fun hb4 h=>?_
   ·refine wx tbk [(3,rp [(.tmp 21,(B ((decide (x3.Mass>1000000)))))] (B true))] ⟨asb hb4 (amv rfl),trivial⟩ ?_
    refine wtr ?_
    refine wxz ?_
    refine Qag ?_
    refine Qah ?_
    obtain rfl:=osi h
    exact fend ⟨[I 3],⟨rot,trivial⟩,rfl⟩ nll
   ·refine wx tbk [(3,rp [(.tmp 21,(B ((decide (x3.Mass>1000000)))))] (B false))] ⟨asb hb4 (amv rfl),trivial⟩ ?_
    refine bfe h (fun hc5 h=>?_) fun hc5 h=>?_
    ·refine wft hc5 ?_
     refine wxz ?_
     refine Qag ?_
     refine Qah ?_
     obtain rfl:=osi h
     exact fend ⟨[I 3],⟨rot,trivial⟩,rfl⟩ nll
    ·refine wfn hc5 ?_
     refine Qan ?_
     refine thn ?_
     refine wxz ?_
     refine Qag ?_
     obtain rfl:=osi h
     exact fend ⟨[I 0],⟨rot,trivial⟩,rfl⟩ nll
  ·skip
   obtain ⟨x7,hf6,h⟩:=bno h
   refine bfe h (fun hb8 h=>?_) fun hb8 h=>?_
   ·refine wx tbk [(1,rp [(.tmp 6,(Qyn p1))] (I ((p1.length:Int)))),(3,rp [fu 67,(.tmp 8,(Zcv p0)),(.const (.int .u8 1),(K .u8 (1)))] (Zcu x7)),(4,rp [(.tmp 9,(Zcu x7))] (I ((x7.length:Int)))),(6,rp [(.tmp 11,(B (((p1.length:Int) != (x7.length:Int)))))] (B true))] ⟨alm (c:=Qaa) (l:=p1) (aln rfl Tryz.underlying45 rfl),apc (first:=[]) (cap:=[]) (vs:=[(Zcv p0),(K .u8 (1))]) rfl Qxq (Qim N p0 1 _ hf6) rfl rfl (nlc (NLt.agg _ (nlc (nld Qal _) (nlc (nld Qab _) nl0))) (nlc nll nl0)) (nld Qae _) rfl,alm (c:=Qak) (l:=x7) (aln rfl Tryz.underlying27 rfl),asb hb8 (amv rfl),trivial⟩ ?_
    refine wtr ?_
    refine wxz ?_
    refine Qag ?_
    refine Qah ?_
    obtain rfl:=osi h
    exact fend ⟨[I 1],⟨rot,trivial⟩,rfl⟩ nll
   ·obtain ⟨x10,hf9,h⟩:=bno h
    refine wx tbk [(1,rp [(.tmp 6,(Qyn p1))] (I ((p1.length:Int)))),(3,rp [fu 67,(.tmp 8,(Zcv p0)),(.const (.int .u8 1),(K .u8 (1)))] (Zcu x7)),(4,rp [(.tmp 9,(Zcu x7))] (I ((x7.length:Int)))),(6,rp [(.tmp 11,(B (((p1.length:Int) != (x7.length:Int)))))] (B false)),(8,rp [(.tmp 12,B false),fu 112,(.tmp 13,(Qyn p1)),fu 113] (B x10))] ⟨alm (c:=Qaa) (l:=p1) (aln rfl Tryz.underlying45 rfl),apc (first:=[]) (cap:=[]) (vs:=[(Zcv p0),(K .u8 (1))]) rfl Qxq (Qim N p0 1 _ hf6) rfl rfl (nlc (NLt.agg _ (nlc (nld Qal _) (nlc (nld Qab _) nl0))) (nlc nll nl0)) (nld Qae _) rfl,alm (c:=Qak) (l:=x7) (aln rfl Tryz.underlying27 rfl),asb hb8 (amv rfl),ag_ (Qau (first:=[]) (cap:=[]) (vs:=[(Qyn p1),(.fn (.func 113) [] [])]) (σr:=[]) (σr':=[]) (res':=(B x10)) [] rfl Zfa (Qks N p1 _ hf9) rfl (Qbx (rnc (pld Qac) (rnc (.plain _ (NLt.fn _ _ _ nl0 nl0)) rn0))) Qat Qat (.plain _ nll) rfl rfl rfl),trivial⟩ ?_
    refine bfe h (fun hc11 h=>?_) fun hc11 h=>?_
    ·refine wft hc11 ?_
     refine wxz ?_
     refine Qag ?_
     refine Qah ?_
     obtain rfl:=osi h
     exact fend ⟨[I 1],⟨rot,trivial⟩,rfl⟩ nll
    ·refine wfn hc11 ?_
     refine Qan ?_
     refine thn ?_
     exact ⟨(),h,(mto (n:=27) [(1,(Qyn p1))] [] [] hφ0 (pc (rnd Qac) pn) qn)⟩
def Qkr (N:Nat) (p0:GNet) (p1:(List Int)) (p2:(List GStream)):Option Int:=
  (Qjs N p0 p1).bind fun x2=>
  bif (x2 != 0) then
   some x2
  else
   (Qio N p0 p2).bind fun x5=>
   some x5
def Zm2 (p0:GNet):AV:=.dat 7 ((p0.Elements:List GElement).map Qad)
def Zcz (p0:GNet):AV:=.agg [(.dat 5 ((p0.Table:List GRow).map Qa0)),(Zm2 p0)]
theorem Qu4 (N:Nat) (p0:GNet) (p1:(List Int)) (p2:(List GStream)) (r:Int) (h:Qkr N p0 p1 p2=some r):Spec Tryz.prog 57 [(.agg (Qis p0)),(.dat 1 (p1.map Qak)),(.dat 4 (p2.map Qaa))] [] (I r) []:=by
  refine Qai Tryz.func57 rfl 0 (nle rfl) (fun X φ0 w0 hφ0 hd0=>?_)
  unfold Qkr at h
  refine wxz ?_
  refine wsq ?_
  obtain ⟨x2,hf1,h⟩:=bno h
  refine wx tbk [(2,rp [fu 73,(.tmp 8,(Zcz p0)),(.tmp 9,(.dat 1 ((p1:List Int).map Qak)))] (I x2))] ⟨apc (first:=[]) (cap:=[]) (vs:=[(Zcz p0),(.dat 1 ((p1:List Int).map Qak))]) rfl Zkg (Qtp N p0 p1 _ hf1) rfl rfl (nlc (NLt.agg _ (nlc (nld Qal _) (nlc (nld Qab _) nl0))) (nlc (nld Qae _) nl0)) nll rfl,trivial⟩ ?_
  refine wxz ?_
  refine bfe h (fun hc3 h=>?_) fun hc3 h=>?_
  ·refine wft hc3 ?_
   refine wxz ?_
   refine Qag ?_
   refine Qah ?_
   obtain rfl:=osi h
   exact fend ⟨[I x2],⟨rot,trivial⟩,rfl⟩ nll
  ·refine wfn hc3 ?_
   refine Qan ?_
   refine thn ?_
   obtain ⟨x5,hf4,h⟩:=bno h
   refine wx tbk [(2,rp [fu 94,(.tmp 14,(Zcz p0)),(.tmp 15,(.dat 4 ((p2:List GStream).map Qaa)))] (I x5))] ⟨apc (first:=[]) (cap:=[]) (vs:=[(Zcz p0),(.dat 4 ((p2:List GStream).map Qaa))]) rfl Zkd (Qr6 N p0 p2 _ hf4) rfl rfl (nlc (NLt.agg _ (nlc (nld Qal _) (nlc (nld Qab _) nl0))) (nlc (nld Qac _) nl0)) nll rfl,trivial⟩ ?_
   refine Qag ?_
   obtain rfl:=osi h
   exact fend ⟨[I x5],⟨rot,trivial⟩,rfl⟩ nll
def Qi6 (N:Nat) (p0:Int):Option Bool:=
  (Qc1 N p0 0 1000).bind fun x2=>
  some x2
theorem Qqv (N:Nat) (p0:Int) (r:Bool) (h:Qi6 N p0=some r):Spec Tryz.prog 150 [(I p0)] [] (B r) []:=by
  refine Qai Tryz.func150 rfl 0 (nle rfl) (fun X φ0 w0 hφ0 hd0=>?_)
  unfold Qi6 at h
  refine wxz ?_
  obtain ⟨x2,hf1,h⟩:=bno h
  refine wx tbk [(1,rp [fu 137,(.tmp 3,I p0),ci 0,ci 1000] (B x2))] ⟨apc (first:=[]) (cap:=[]) (vs:=[I p0,I 0,I 1000]) rfl Qcw (Qaz N p0 0 1000 _ hf1) rfl rfl (nlcc (nlc nll nl0)) nll rfl,trivial⟩ ?_
  refine Qag ?_
  obtain rfl:=osi h
  exact fend ⟨[B x2],⟨rot,trivial⟩,rfl⟩ nll
def Qf2 (N:Nat) (p0:Int):Option Bool:=
  (Qi6 N p0).bind fun x3=>
  some (!x3)
def Zcq:Slot:=.own 1 [[(.fn (.func 150) [] [])]]
theorem Qm4 (N:Nat) (p0:Int) (r:Bool) (h:Qf2 N p0=some r):Spec Tryz.prog 157 [(I (p0)),(.ref 0 1 (0) 0)] [Zcq] (B (r)) [Zcq]:=by
  refine Qai Tryz.func157 rfl 1 (nle rfl) (fun X φ0 w0 hφ0 hd0=>?_)
  unfold Qf2 at h
  refine Qb2 ?_
  refine wxz ?_
  obtain ⟨x3,hf2,h⟩:=bno h
  refine wx tbk [(2,rp [(.tmp 4,(.fn (.func 150) [] [])),(.tmp 5,I p0)] (B x3))] ⟨apc (first:=[]) (cap:=[]) (vs:=[I p0]) rfl Zeh (Qqv N p0 _ hf2) rfl rfl (nlc nll nl0) nll rfl,trivial⟩ ?_
  refine wmr (mto (n:=8) (l':=[(3,(B ((!x3))))]) (own':=[Zcq]) [(3,(B ((!x3))))] [0] [Zcq] hφ0 (pc rwl pn) (qc (spb (lc (.rn (Qbr rn0 rn0)) ln)) qn)) ?_
  refine Qag ?_
  obtain rfl:=osi h
  exact ⟨_,Mor.rfl,Qda (vs:=[(B ((!x3)))]) ⟨rot,trivial⟩ rfl (NLt.of0 nll) (by kernel_rfl) (Qap (Qbj (nlc (NLt.of0 (NLt.fn _ _ _ nl0 nl0)) nl0)) Qbz)⟩
def Qb7 (N:Nat) (p0:(List Int)) (k2:Unit→Option Int):Nat→Int→Option Int
  | 0,_=>none
  | n5+1,y3=>
    bif (decide (y3<(p0.length:Int))) then
     (getI p0 y3).bind fun x7=>
     (Qf2 N x7).bind fun x12=>
     bif x12 then
      some y3
     else
      Qb7 N p0 k2 n5 (w64 (y3+1))
    else
     k2 ()
def Qd5 (N:Nat) (p0:(List Int)):Option Int:=
  Qbf (fun _=>
    some (-1)) fun k2:Unit→Option Int=>
  Qb7 N p0 k2 N 0
def Q1b (p0:(List Int)):AV:=.dat 1 ((p0:List Int).map Qak)
def Q55:AV:=.fn (.func 157) [] [(.ref 0 1 (0) 0)]
def Qnz:Slot:=.own 1 [[(.fn (.func 150) [] [])]]
theorem Qjg (N:Nat) (p0:(List Int)) (r:Int) (h:Qd5 N p0=some r):Spec Tryz.prog 141 [(Q1b p0),Q55] [Qnz] (I (r)) [Qnz]:=by
  refine Qai Tryz.func141 rfl 1 (nle rfl) (fun X φ0 w0 hφ0 hd0=>?_)
  unfold Qd5 at h
  refine Qb2 ?_
  refine wxz ?_
  obtain ⟨k2,hk_k2,h⟩:=jko h
  refine wjn (τ:=Unit) (fun t=>k2 t=some r) (fun _=>⟨mk 19 [],[Qnz]⟩) (fun t h=>?_) ?_
  ·subst hk_k2
   refine wxz ?_
   refine wmr (mto (n:=19) (l':=[(4,(I ((-1))))]) (own':=[Qnz]) [(4,(I ((-1))))] [0] [Qnz] hφ0 (pc rwl pn) (qc (spb (lc (.rn (Qbr rn0 rn0)) ln)) qn)) ?_
   refine Qag ?_
   obtain rfl:=osi h
   exact ⟨_,Mor.rfl,Qda (vs:=[(I ((-1)))]) ⟨rot,trivial⟩ rfl (NLt.of0 nll) (by kernel_rfl) (Qap (Qbj (nlc (NLt.of0 (NLt.fn _ _ _ nl0 nl0)) nl0)) Qbz)⟩
  ·skip
   refine wx tbk [(1,rp [(.tmp 6,(Q1b p0))] (I ((p0.length:Int))))] ⟨alm (c:=Qak) (l:=p0) (aln rfl Tryz.underlying27 rfl),trivial⟩ ?_
   refine Qam ?_
   refine wmr (mto (n:=19) (l':=[(0,(Q1b p0)),(1,Q55),(7,(I ((p0.length:Int)))),(8,I 0)]) (own':=[Qnz]) [(0,(Q1b p0)),(1,Q55),(7,(I ((p0.length:Int)))),(8,I 0)] [0] [Qnz] hφ0 (pc (rnd Qae) (pc (.rn (Qbr rn0 (rnc (rqr rfl) rn0))) (pc rwl (pc rwl pn)))) (qc (spb (lc (.rn (Qbr rn0 rn0)) ln)) qn)) ?_
   refine Qbw (τ:=Int) (fun n t=>Qb7 N p0 k2 n t=some r) (fun y3=>⟨mk 19 [(0,(Q1b p0)),(1,Q55),(7,(I ((p0.length:Int)))),(8,I y3)],[Qnz]⟩) (fun t h=>by rw [Qb7] at h; cases h) (fun n5 ih y3 h=>?_) N (0) h
   rw [Qb7] at h
   skip
   refine wxz ?_
   refine wsq ?_
   refine bfe h (fun hc6 h=>?_) fun hc6 h=>?_
   ·refine wft hc6 ?_
    refine Qan ?_
    refine thn ?_
    refine wsq ?_
    refine Qam ?_
    refine wxz ?_
    obtain ⟨x7,hg8,h⟩:=bno h
    obtain ⟨hi9,hj10⟩:=gsm hg8
    obtain ⟨x12,hf11,h⟩:=bno h
    refine wx tbk [(3,rp [(.tmp 12,(Q1b p0)),(.tmp 13,I y3)] (.dptr (Qak (x7)) 0)),(5,⟨[(.tmp 11,Q55),(.tmp 15,I x7)],[(0,Qnz)],B x12,[(0,Qnz)],false⟩)] ⟨aid rfl Tryz.underlying27 ti3 rfl rfl hi9 (mgt Qak hj10) rfl,Qau (first:=[]) (cap:=[.ref 0 1 0 0]) (vs:=[I x7]) (σr:=[Qnz]) (σr':=[Qnz]) (res':=(B x12)) [0] rfl Zec (Qm4 N x7 _ hf11) rfl (Qbx (rnc (.plain _ nll) (rnc (Qbo rfl) rn0))) (slc (Qar (rnc (.plain _ (NLt.fn _ _ _ nl0 nl0)) rn0)) Qat) (slc (Qar (rnc (.plain _ (NLt.fn _ _ _ nl0 nl0)) rn0)) Qat) (.plain _ nll) rfl rfl rfl,trivial⟩ ?_
    refine bfe h (fun hc13 h=>?_) fun hc13 h=>?_
    ·refine wft hc13 ?_
     refine wxz ?_
     refine wmr (mto (n:=19) (l':=[(4,I y3)]) (own':=[Qnz]) [(4,I y3)] [0] [Qnz] hφ0 (pc rwl pn) (qc (spb (lc (.rn (Qbr rn0 rn0)) ln)) qn)) ?_
     refine Qag ?_
     refine Qao ?_
     refine Qah ?_
     refine Qah ?_
     refine Qao ?_
     refine Qah ?_
     obtain rfl:=osi h
     exact ⟨_,Mor.rfl,Qda (vs:=[I y3]) ⟨rot,trivial⟩ rfl (NLt.of0 nll) (by kernel_rfl) (Qap (Qbj (nlc (NLt.of0 (NLt.fn _ _ _ nl0 nl0)) nl0)) Qbz)⟩
    ·refine wfn hc13 ?_
     refine Qan ?_
     refine bln ?_
     refine thn ?_
     refine wxz1 ?_
     refine thn ?_
     exact arm (mto (n:=19) [(0,(Q1b p0)),(1,Q55),(7,(I ((p0.length:Int)))),(8,(I (w64 (y3+1))))] [0] [Qnz] hφ0 (pc (rnd Qae) (pc (.rn (Qbr rn0 (rnc (rqr rfl) rn0))) (pc rwl (pc rwl pn)))) (qc (spb (lc (.rn (Qbr rn0 rn0)) ln)) qn)) (ih (w64 (y3+1)) h)
   ·refine wfn hc6 ?_
    refine Qbh ?_
    refine Qax ?_
    refine Qax ?_
    refine Qbg rfl ?_
    refine thn ?_
    exact ⟨(),h,(mto (n:=19) [] [0] [Qnz] hφ0 pn (qc (spb (lc (.rn (Qbr rn0 rn0)) ln)) qn))⟩
def Qcx (N:Nat) (p0:(List Int)):Option Bool:=
  (Qd5 N p0).bind fun x3=>
  some (decide (x3≥0))
def Zic (p0:(List Int)):AV:=.dat 1 ((p0:List Int).map Qak)
def Zib:AV:=.fn (.func 157) [] [(.ref 0 1 (0) 0)]
def Qyi:Slot:=.own 1 [[(.fn (.func 150) [] [])]]
theorem Qic (N:Nat) (p0:(List Int)) (r:Bool) (h:Qcx N p0=some r):Spec Tryz.prog 126 [(Zic p0),Zib] [Qyi] (B (r)) [Qyi]:=by
  refine Qai Tryz.func126 rfl 1 (nle rfl) (fun X φ0 w0 hφ0 hd0=>?_)
  unfold Qcx at h
  refine Qb2 ?_
  refine wxz ?_
  obtain ⟨x3,hf2,h⟩:=bno h
  refine wx tbk [(2,⟨[fu 141,(.tmp 5,(Zic p0)),(.tmp 6,Zib)],[(0,Qyi)],I x3,[(0,Qyi)],false⟩)] ⟨Qau (first:=[]) (cap:=[]) (vs:=[(Zic p0),Zib]) (σr:=[Qyi]) (σr':=[Qyi]) (res':=(I x3)) [0] rfl Qp6 (Qjg N p0 _ hf2) rfl (Qbx (rnc (pld Qae) (rnc (Qbr rn0 (rnc (Qbo rfl) rn0)) rn0))) (slc (Qar (rnc (.plain _ (NLt.fn _ _ _ nl0 nl0)) rn0)) Qat) (slc (Qar (rnc (.plain _ (NLt.fn _ _ _ nl0 nl0)) rn0)) Qat) (.plain _ nll) rfl rfl rfl,trivial⟩ ?_
  refine wmr (mto (n:=9) (l':=[(4,(B ((decide (x3≥0)))))]) (own':=[Qyi]) [(4,(B ((decide (x3≥0)))))] [0] [Qyi] hφ0 (pc rwl pn) (qc (spb (lc (.rn (Qbr rn0 rn0)) ln)) qn)) ?_
  refine Qag ?_
  obtain rfl:=osi h
  exact ⟨_,Mor.rfl,Qda (vs:=[(B ((decide (x3≥0))))]) ⟨rot,trivial⟩ rfl (NLt.of0 nll) (by kernel_rfl) (Qap (Qbj (nlc (NLt.of0 (NLt.fn _ _ _ nl0 nl0)) nl0)) Qbz)⟩
def Qgz (N:Nat) (p0:(List Int)):Option Bool:=
  (Qcx N p0).bind fun x2=>
  some (!x2)
def Zie (p0:(List Int)):AV:=.dat 1 ((p0:List Int).map Qak)
def Zid:AV:=.fn (.func 157) [] [(.ref 0 1 (0) 0)]
def Zcr:Slot:=.own 1 [[(.fn (.func 150) [] [])]]
theorem Qkn (N:Nat) (p0:(List Int)) (r:Bool) (h:Qgz N p0=some r):Spec Tryz.prog 151 [(Zie p0),(.fn (.func 150) [] [])] [] (B (r)) []:=by
  refine Qai Tryz.func151 rfl 0 (nle rfl) (fun X φ0 w0 hφ0 hd0=>?_)
  unfold Qgz at h
  refine wxz ?_
  obtain ⟨x2,hf1,h⟩:=bno h
  refine wx tbk [(1,rp [(.tmp 3,.ref 0 1 0 0)] Zid),(2,⟨[fu 126,(.tmp 5,(Zie p0)),(.tmp 6,Zid)],[(0,Zcr)],B x2,[(0,Zcr)],false⟩)] ⟨Qfz (fs:=[]) (cs:=[.ref 0 1 0 0]) rfl rfl rfl rfl,Qau (first:=[]) (cap:=[]) (vs:=[(Zie p0),Zid]) (σr:=[Zcr]) (σr':=[Zcr]) (res':=(B x2)) [0] rfl Qp7 (Qic N p0 _ hf1) rfl (Qbx (rnc (pld Qae) (rnc (Qbr rn0 (rnc (Qbo rfl) rn0)) rn0))) (slc (Qar (rnc (.plain _ (NLt.fn _ _ _ nl0 nl0)) rn0)) Qat) (slc (Qar (rnc (.plain _ (NLt.fn _ _ _ nl0 nl0)) rn0)) Qat) (.plain _ nll) rfl rfl rfl,trivial⟩ ?_
  refine Qag ?_
  obtain rfl:=osi h
  exact fend ⟨[(B ((!x2)))],⟨rot,trivial⟩,rfl⟩ nll
def Qi5 (_N:Nat) (p0:Int):Option Bool:=
  some (decide (p0>0))
theorem Qqu (N:Nat) (p0:Int) (r:Bool) (h:Qi5 N p0=some r):Spec Tryz.prog 152 [(I p0)] [] (B r) []:=by
  refine Qai Tryz.func152 rfl 0 (nle rfl) (fun X φ0 w0 hφ0 hd0=>?_)
  unfold Qi5 at h
  refine wxz ?_
  refine wxz ?_
  refine Qag ?_
  obtain rfl:=osi h
  exact fend ⟨[(B ((decide (p0>0))))],⟨rot,trivial⟩,rfl⟩ nll
def Qb6 (N:Nat) (p0:(List Int)) (k1:Unit→Option Int):Nat→Int→Option Int
  | 0,_=>none
  | n4+1,y2=>
    bif (decide (y2<(p0.length:Int))) then
     (getI p0 y2).bind fun x6=>
     (Qi5 N x6).bind fun x11=>
     bif x11 then
      some y2
     else
      Qb6 N p0 k1 n4 (w64 (y2+1))
    else
     k1 ()
def Qd4 (N:Nat) (p0:(List Int)):Option Int:=
  Qbf (fun _=>
    some (-1)) fun k1:Unit→Option Int=>
  Qb6 N p0 k1 N 0
def Q1a (p0:(List Int)):AV:=.dat 1 ((p0:List Int).map Qak)
theorem Qjf (N:Nat) (p0:(List Int)) (r:Int) (h:Qd4 N p0=some r):Spec Tryz.prog 141 [(Q1a p0),(.fn (.func 152) [] [])] [] (I (r)) []:=by
  refine Qai Tryz.func141 rfl 0 (nle rfl) (fun X φ0 w0 hφ0 hd0=>?_)
  unfold Qd4 at h
  refine wxz ?_
  obtain ⟨k1,hk_k1,h⟩:=jko h
  refine wjn (τ:=Unit) (fun t=>k1 t=some r) (fun _=>⟨mk 19 [],[]⟩) (fun t h=>?_) ?_
  ·subst hk_k1
   refine wxz ?_
   refine Qag ?_
   obtain rfl:=osi h
   exact fend ⟨[(I ((-1)))],⟨rot,trivial⟩,rfl⟩ nll
  ·skip
   refine wx tbk [(1,rp [(.tmp 6,(Q1a p0))] (I ((p0.length:Int))))] ⟨alm (c:=Qak) (l:=p0) (aln rfl Tryz.underlying27 rfl),trivial⟩ ?_
   refine Qam ?_
   refine wmr (mto (n:=19) (l':=[(0,(Q1a p0)),(1,(.fn (.func 152) [] [])),(7,(I ((p0.length:Int)))),(8,I 0)]) (own':=[]) [(0,(Q1a p0)),(1,(.fn (.func 152) [] [])),(7,(I ((p0.length:Int)))),(8,I 0)] [] [] hφ0 (pc (rnd Qae) (pc (.rn (Qbr rn0 rn0)) (pc rwl (pc rwl pn)))) qn) ?_
   refine Qbw (τ:=Int) (fun n t=>Qb6 N p0 k1 n t=some r) (fun y2=>⟨mk 19 [(0,(Q1a p0)),(1,(.fn (.func 152) [] [])),(7,(I ((p0.length:Int)))),(8,I y2)],[]⟩) (fun t h=>by rw [Qb6] at h; cases h) (fun n4 ih y2 h=>?_) N (0) h
   rw [Qb6] at h
   skip
   refine wxz ?_
   refine wsq ?_
   refine bfe h (fun hc5 h=>?_) fun hc5 h=>?_
   ·refine wft hc5 ?_
    refine Qan ?_
    refine thn ?_
    refine wsq ?_
    refine Qam ?_
    refine wxz ?_
    obtain ⟨x6,hg7,h⟩:=bno h
    obtain ⟨hi8,hj9⟩:=gsm hg7
    obtain ⟨x11,hf10,h⟩:=bno h
    refine wx tbk [(3,rp [(.tmp 12,(Q1a p0)),(.tmp 13,I y2)] (.dptr (Qak (x6)) 0)),(5,rp [(.tmp 11,(.fn (.func 152) [] [])),(.tmp 15,I x6)] (B x11))] ⟨aid rfl Tryz.underlying27 ti3 rfl rfl hi8 (mgt Qak hj9) rfl,apc (first:=[]) (cap:=[]) (vs:=[I x6]) rfl Zeg (Qqu N x6 _ hf10) rfl rfl (nlc nll nl0) nll rfl,trivial⟩ ?_
    refine bfe h (fun hc12 h=>?_) fun hc12 h=>?_
    ·refine wft hc12 ?_
     refine wxz ?_
     refine Qag ?_
     refine Qao ?_
     refine Qah ?_
     refine Qah ?_
     refine Qao ?_
     refine Qah ?_
     obtain rfl:=osi h
     exact fend ⟨[I y2],⟨rot,trivial⟩,rfl⟩ nll
    ·refine wfn hc12 ?_
     refine Qan ?_
     refine bln ?_
     refine thn ?_
     refine wxz1 ?_
     refine thn ?_
     exact arm (mto (n:=19) [(0,(Q1a p0)),(1,(.fn (.func 152) [] [])),(7,(I ((p0.length:Int)))),(8,(I (w64 (y2+1))))] [] [] hφ0 (pc (rnd Qae) (pc (.rn (Qbr rn0 rn0)) (pc rwl (pc rwl pn)))) qn) (ih (w64 (y2+1)) h)
   ·refine wfn hc5 ?_
    refine Qbh ?_
    refine Qax ?_
    refine Qax ?_
    refine Qbg rfl ?_
    refine thn ?_
    exact ⟨(),h,(mto (n:=19) [] [] [] hφ0 pn qn)⟩
def Qci (N:Nat) (p0:(List Int)):Option Bool:=
  (Qd4 N p0).bind fun x2=>
  some (decide (x2≥0))
def Zia (p0:(List Int)):AV:=.dat 1 ((p0:List Int).map Qak)
theorem Qib (N:Nat) (p0:(List Int)) (r:Bool) (h:Qci N p0=some r):Spec Tryz.prog 126 [(Zia p0),(.fn (.func 152) [] [])] [] (B (r)) []:=by
  refine Qai Tryz.func126 rfl 0 (nle rfl) (fun X φ0 w0 hφ0 hd0=>?_)
  unfold Qci at h
  refine wxz ?_
  obtain ⟨x2,hf1,h⟩:=bno h
  refine wx tbk [(2,rp [fu 141,(.tmp 5,(Zia p0)),(.tmp 6,(.fn (.func 152) [] []))] (I x2))] ⟨Qau (first:=[]) (cap:=[]) (vs:=[(Zia p0),(.fn (.func 152) [] [])]) (σr:=[]) (σr':=[]) (res':=(I x2)) [] rfl Qp6 (Qjf N p0 _ hf1) rfl (Qbx (rnc (pld Qae) (rnc (.plain _ (NLt.fn _ _ _ nl0 nl0)) rn0))) Qat Qat (.plain _ nll) rfl rfl rfl,trivial⟩ ?_
  refine Qag ?_
  obtain rfl:=osi h
  exact fend ⟨[(B ((decide (x2≥0))))],⟨rot,trivial⟩,rfl⟩ nll
def Qfg (_N:Nat) (p0:Int) (p1:Int) (p2:Int):Option Int:=
  chk (p2 != 0)<|
  some ((w64 (p1 * p0)).tmod p2)
theorem Qj9 (N:Nat) (p0:Int) (p1:Int) (p2:Int) (r:Int) (h:Qfg N p0 p1 p2=some r):Spec Tryz.prog 159 [(I (p0)),(.ref 0 1 (0) 0),(.ref 1 1 (0) 0)] [(.own 1 [[(I (p1))]]),(.own 1 [[(I (p2))]])] (I (r)) [(.own 1 [[(I (p1))]]),(.own 1 [[(I (p2))]])]:=by
  refine Qai Tryz.func159 rfl 2 (nle rfl) (fun X φ0 w0 hφ0 hd0=>?_)
  unfold Qfg at h
  refine Qb2 ?_
  refine wxz ?_
  obtain ⟨hz2,h⟩:=cko h
  refine wx tbk [(4,rp [(.tmp 7,(I (w64 (p1 * p0)))),(.tmp 8,I p2)] (I ((w64 (p1 * p0)).tmod p2)))] ⟨Qup rfl (Qk0 hz2),trivial⟩ ?_
  refine wmr (mto (n:=10) (l':=[(4,(I ((w64 (p1 * p0)).tmod p2)))]) (own':=[(.own 1 [[I p1]]),(.own 1 [[I p2]])]) [(4,(I ((w64 (p1 * p0)).tmod p2)))] [0,1] [(.own 1 [[I p1]]),(.own 1 [[I p2]])] hφ0 (pc rwl pn) (qc (spb (lc rwl ln)) (qc (spb (lc rwl ln)) qn))) ?_
  refine Qag ?_
  obtain rfl:=osi h
  exact ⟨_,Mor.rfl,Qda (vs:=[(I ((w64 (p1 * p0)).tmod p2))]) ⟨rot,trivial⟩ rfl (NLt.of0 nll) (by kernel_rfl) (Qap (Qbj (nlc (NLt.of0 nll) nl0)) (Qap (Qbj (nlc (NLt.of0 nll) nl0)) Qbz))⟩
def Qeu (N:Nat) (p0:Int) (p1:Int) (p2:(List Int)) (p3:Int) (p4:Int):Option Int:=
  (getI p2 p1).bind fun x2=>
  (Qfg N x2 p3 p4).bind fun x7=>
  (getI p2 p0).bind fun x8=>
  (Qfg N x8 p3 p4).bind fun x13=>
  some (w64 (x7 - x13))
def Q54:AV:=.fn (.func 159) [] [(.ref 2 1 (0) 0),(.ref 3 1 (0) 0)]
def Q53 (p2:(List Int)):AV:=.dat 1 ((p2:List Int).map Qak)
theorem Qln (N:Nat) (p0:Int) (p1:Int) (p2:(List Int)) (p3:Int) (p4:Int) (r:Int) (h:Qeu N p0 p1 p2 p3 p4=some r):Spec Tryz.prog 163 [(I (p0)),(I (p1)),(.ref 0 1 (0) 0),(.ref 1 1 (0) 0)] [(.own 1 [[Q54]]),(.own 1 [[(Q53 p2)]]),(.own 1 [[(I (p3))]]),(.own 1 [[(I (p4))]])] (I (r)) [(.own 1 [[Q54]]),(.own 1 [[(Q53 p2)]]),(.own 1 [[(I (p3))]]),(.own 1 [[(I (p4))]])]:=by
  refine Qai Tryz.func163 rfl 4 (nle rfl) (fun X φ0 w0 hφ0 hd0=>?_)
  unfold Qeu at h
  refine Qb2 ?_
  refine wxz ?_
  obtain ⟨x2,hg3,h⟩:=bno h
  obtain ⟨hi4,hj5⟩:=gsm hg3
  obtain ⟨x7,hf6,h⟩:=bno h
  obtain ⟨x8,hg9,h⟩:=bno h
  obtain ⟨hi10,hj11⟩:=gsm hg9
  obtain ⟨x13,hf12,h⟩:=bno h
  refine wxd tbk [(3,rp [(.tmp 8,(Q53 p2)),(.tmp 9,I p1)] (.dptr (Qak (x2)) 0)),(5,⟨[(.tmp 7,Q54),(.tmp 11,I x2)],[(2,.own 1 [[I p3]]),(3,.own 1 [[I p4]])],I x7,[(2,.own 1 [[I p3]]),(3,.own 1 [[I p4]])],false⟩),(9,rp [(.tmp 14,(Q53 p2)),(.tmp 15,I p0)] (.dptr (Qak (x8)) 0)),(11,⟨[(.tmp 13,Q54),(.tmp 17,I x8)],[(2,.own 1 [[I p3]]),(3,.own 1 [[I p4]])],I x13,[(2,.own 1 [[I p3]]),(3,.own 1 [[I p4]])],false⟩)] ⟨aid rfl Tryz.underlying27 ti3 rfl rfl hi4 (mgt Qak hj5) rfl,Qau (first:=[]) (cap:=[.ref 2 1 0 0,.ref 3 1 0 0]) (vs:=[I x2]) (σr:=[(.own 1 [[I p3]]),(.own 1 [[I p4]])]) (σr':=[(.own 1 [[I p3]]),(.own 1 [[I p4]])]) (res':=(I x7)) [2,3] rfl Q42 (Qj9 N x2 p3 p4 _ hf6) rfl (Qbx (rnc (.plain _ nll) (rnc (Qbo rfl) (rnc (Qbo rfl) rn0)))) (slc (Qar (rnc (.plain _ nll) rn0)) (slc (Qar (rnc (.plain _ nll) rn0)) Qat)) (slc (Qar (rnc (.plain _ nll) rn0)) (slc (Qar (rnc (.plain _ nll) rn0)) Qat)) (.plain _ nll) rfl rfl rfl,aid rfl Tryz.underlying27 ti3 rfl rfl hi10 (mgt Qak hj11) rfl,Qau (first:=[]) (cap:=[.ref 2 1 0 0,.ref 3 1 0 0]) (vs:=[I x8]) (σr:=[(.own 1 [[I p3]]),(.own 1 [[I p4]])]) (σr':=[(.own 1 [[I p3]]),(.own 1 [[I p4]])]) (res':=(I x13)) [2,3] rfl Q42 (Qj9 N x8 p3 p4 _ hf12) rfl (Qbx (rnc (.plain _ nll) (rnc (Qbo rfl) (rnc (Qbo rfl) rn0)))) (slc (Qar (rnc (.plain _ nll) rn0)) (slc (Qar (rnc (.plain _ nll) rn0)) Qat)) (slc (Qar (rnc (.plain _ nll) rn0)) (slc (Qar (rnc (.plain _ nll) rn0)) Qat)) (.plain _ nll) rfl rfl rfl,trivial⟩ ?_
  refine wmr (mto (n:=20) (l':=[(6,(I (w64 (x7 - x13))))]) (own':=[(.own 1 [[Q54]]),(.own 1 [[(Q53 p2)]]),(.own 1 [[I p3]]),(.own 1 [[I p4]])]) [(6,(I (w64 (x7 - x13))))] [0,1,2,3] [(.own 1 [[Q54]]),(.own 1 [[(Q53 p2)]]),(.own 1 [[I p3]]),(.own 1 [[I p4]])] hφ0 (pc rwl pn) (qc (spb (lc (.rn (Qbr rn0 (rnc (rqr rfl) (rnc (rqr rfl) rn0)))) ln)) (qc (spb (lc (rnd Qae) ln)) (qc (spb (lc rwl ln)) (qc (spb (lc rwl ln)) qn))))) ?_
  refine Qag ?_
  obtain rfl:=osi h
  exact ⟨_,Mor.rfl,Qda (vs:=[(I (w64 (x7 - x13)))]) ⟨rot,trivial⟩ rfl (NLt.of0 nll) (by kernel_rfl) (Qap (Qbj (nlc (NLt.fn _ _ _ nl0 (nlc (NLt.ref _ _ _ _ (by decide)) (nlc (NLt.ref _ _ _ _ (by decide)) nl0))) nl0)) (Qap (Qbj (nlc (NLt.of0 (nld Qae _)) nl0)) (Qap (Qbj (nlc (NLt.of0 nll) nl0)) (Qap (Qbj (nlc (NLt.of0 nll) nl0)) Qbz))))⟩
def Qbe (N:Nat) (p0:Nat) (p1:Int) (p4:(List Int)) (p5:Int) (p6:Int) (k9:(List Int)→Option (List Int)):Nat→Int→(List Int)→Option (List Int)
  | 0,_,_=>none
  | n14+1,y10,y11=>
    Qbf (fun _=>
      chk (decide (0≤w64 (y10 - 1))&&decide ((w64 (y10 - 1)).toNat<p0))<|
      (y11[(w64 (y10 - 1)).toNat]?).bind fun x17=>
      chk (decide (0≤y10)&&decide (y10.toNat<p0))<|
      (y11[y10.toNat]?).bind fun x20=>
      chk (decide (0≤y10)&&decide (y10.toNat<p0))<|
      (y11[y10.toNat]?).bind fun _=>
      chk (decide (0≤w64 (y10 - 1))&&decide ((w64 (y10 - 1)).toNat<p0))<|
      ((y11.set y10.toNat x17)[(w64 (y10 - 1)).toNat]?).bind fun _=>
      Qbe N p0 p1 p4 p5 p6 k9 n14 (w64 (y10 - 1)) ((y11.set y10.toNat x17).set ((w64 (y10 - 1)).toNat) x20)) fun k15:Unit→Option (List Int)=>
    bif (decide (y10>p1)) then
     chk (decide (0≤y10)&&decide (y10.toNat<p0))<|
     (y11[y10.toNat]?).bind fun x30=>
     chk (decide (0≤w64 (y10 - 1))&&decide ((w64 (y10 - 1)).toNat<p0))<|
     (y11[(w64 (y10 - 1)).toNat]?).bind fun x33=>
     (Qeu N x30 x33 p4 p5 p6).bind fun x36=>
     bif (decide (x36<0)) then
      k15 ()
     else
      k9 (y11)
    else
     k9 (y11)
def Qa8 (N:Nat) (p0:Nat) (p1:Int) (p2:Int) (p4:(List Int)) (p5:Int) (p6:Int):Nat→Int→(List Int)→Option (List Int)
  | 0,_,_=>none
  | n6+1,y2,y3=>
    bif (decide (y2<p2)) then
     Qbf (fun y8=>
       Qa8 N p0 p1 p2 p4 p5 p6 n6 (w64 (y2+1)) y8) fun k9:(List Int)→Option (List Int)=>
     Qbe N p0 p1 p4 p5 p6 k9 N y2 y3
    else
     some y3
def Qbk (N:Nat) (p0:Nat) (p1:Int) (p2:Int) (p3:(List Int)) (p4:(List Int)) (p5:Int) (p6:Int):Option (List Int):=
  Qa8 N p0 p1 p2 p4 p5 p6 N (w64 (p1+1)) p3
def Qok:AV:=.fn (.func 163) [] [(.ref 1 1 (0) 0),(.ref 2 1 (0) 0)]
def Zh5 (p3:(List Int)):Slot:=.own 1 ((p3:List Int).map Qak)
def Qlc:AV:=.fn (.func 159) [] [(.ref 3 1 (0) 0),(.ref 4 1 (0) 0)]
def Qlb (p4:(List Int)):AV:=.dat 1 ((p4:List Int).map Qak)
def Q8s (y3:(List Int)):Slot:=.own 1 ((y3:List Int).map Qak)
def Qkk (y11:(List Int)):Slot:=.own 1 ((y11:List Int).map Qak)
theorem Qfb (N:Nat) (p0:Nat) (p1:Int) (p2:Int) (p3:(List Int)) (p4:(List Int)) (p5:Int) (p6:Int) (r:(List Int)) (h:Qbk N p0 p1 p2 p3 p4 p5 p6=some r):Spec Tryz.prog 165 [(.own 0 1 (0) (p0)),(I (p1)),(I (p2)),Qok] [(Zh5 p3),(.own 1 [[Qlc]]),(.own 1 [[(Qlb p4)]]),(.own 1 [[(I (p5))]]),(.own 1 [[(I (p6))]])] (.tup []) [(.own 1 ((r:List Int).map Qak)),(.own 1 [[Qlc]]),(.own 1 [[(Qlb p4)]]),(.own 1 [[(I (p5))]]),(.own 1 [[(I (p6))]])]:=by
  refine Qai Tryz.func165 rfl 5 (nle rfl) (fun X φ0 w0 hφ0 hd0=>?_)
  unfold Qbk at h
  refine Qb2 ?_
  refine wxz ?_
  refine Qam ?_
  refine wmr (mto (n:=53) (l':=[(0,(.own 0 1 (0) (p0))),(1,I p1),(2,I p2),(3,Qok),(8,(I ((w64 (p1+1)))))]) (own':=[(Zh5 p3),(.own 1 [[Qlc]]),(.own 1 [[(Qlb p4)]]),(.own 1 [[I p5]]),(.own 1 [[I p6]])]) [(0,(.own 0 1 (0) (p0))),(1,I p1),(2,I p2),(3,Qok),(8,(I (w64 (p1+1))))] [0,1,2,3,4] [(Zh5 p3),(.own 1 [[Qlc]]),(.own 1 [[(Qlb p4)]]),(.own 1 [[I p5]]),(.own 1 [[I p6]])] hφ0 (pc (.rn (Qa4 rfl)) (pc rwl (pc rwl (pc (.rn (Qbr rn0 (rnc (rqr rfl) (rnc (rqr rfl) rn0)))) (pc rwl pn))))) (qc (spr Qae) (qc (spb (lc (.rn (Qbr rn0 (rnc (rqr rfl) (rnc (rqr rfl) rn0)))) ln)) (qc (spb (lc (rnd Qae) ln)) (qc (spb (lc rwl ln)) (qc (spb (lc rwl ln)) qn)))))) ?_
  refine Qbw (τ:=Int×(List Int)) (fun n t=>Qa8 N p0 p1 p2 p4 p5 p6 n t.1 t.2=some r) (fun ⟨y2,y3⟩=>⟨mk 53 [(0,(.own 0 1 (0) (p0))),(1,I p1),(2,I p2),(3,Qok),(8,I y2)],[(Q8s y3),(.own 1 [[Qlc]]),(.own 1 [[(Qlb p4)]]),(.own 1 [[I p5]]),(.own 1 [[I p6]])]⟩) (fun t h=>by rw [Qa8] at h; cases h) (fun n6 ih t h=>?_) N (w64 (p1+1),p3) h
  obtain ⟨y2,y3⟩:=t
  rw [Qa8] at h
  skip
  refine wsq ?_
  refine wxz ?_
  refine bfe h (fun hc7 h=>?_) fun hc7 h=>?_
  ·refine wft hc7 ?_
   refine Qan ?_
   refine thn ?_
   obtain ⟨k9,hk_k9,h⟩:=jko h
   refine wjn (τ:=(List Int)) (fun t=>k9 t=some r) (fun y8=>⟨mk 53 [(0,(.own 0 1 (0) (p0))),(1,I p1),(2,I p2),(3,Qok),(8,I y2)],[(.own 1 ((y8:List Int).map Qak)),(.own 1 [[Qlc]]),(.own 1 [[(Qlb p4)]]),(.own 1 [[I p5]]),(.own 1 [[I p6]])]⟩) (fun y8 h=>?_) ?_
   ·subst hk_k9
    refine wxz1 ?_
    refine thn ?_
    exact arm (mto (n:=53) [(0,(.own 0 1 (0) (p0))),(1,I p1),(2,I p2),(3,Qok),(8,(I (w64 (y2+1))))] [0,1,2,3,4] [(.own 1 ((y8:List Int).map Qak)),(.own 1 [[Qlc]]),(.own 1 [[(Qlb p4)]]),(.own 1 [[I p5]]),(.own 1 [[I p6]])] hφ0 (pc (.rn (Qa4 rfl)) (pc rwl (pc rwl (pc (.rn (Qbr rn0 (rnc (rqr rfl) (rnc (rqr rfl) rn0)))) (pc rwl pn))))) (qc (spr Qae) (qc (spb (lc (.rn (Qbr rn0 (rnc (rqr rfl) (rnc (rqr rfl) rn0)))) ln)) (qc (spb (lc (rnd Qae) ln)) (qc (spb (lc rwl ln)) (qc (spb (lc rwl ln)) qn)))))) (ih (w64 (y2+1),y8) h)
   ·skip
    refine Qam ?_
    refine wxz ?_
    refine Qam ?_
    refine wmr (mto (n:=53) (l':=[(0,(.own 0 1 (0) (p0))),(1,I p1),(2,I p2),(3,Qok),(8,I y2),(9,I y2)]) (own':=[(Q8s y3),(.own 1 [[Qlc]]),(.own 1 [[(Qlb p4)]]),(.own 1 [[I p5]]),(.own 1 [[I p6]])]) [(0,(.own 0 1 (0) (p0))),(1,I p1),(2,I p2),(3,Qok),(8,I y2),(9,I y2)] [0,1,2,3,4] [(Q8s y3),(.own 1 [[Qlc]]),(.own 1 [[(Qlb p4)]]),(.own 1 [[I p5]]),(.own 1 [[I p6]])] hφ0 (pc (.rn (Qa4 rfl)) (pc rwl (pc rwl (pc (.rn (Qbr rn0 (rnc (rqr rfl) (rnc (rqr rfl) rn0)))) (pc rwl (pc rwl pn)))))) (qc (spr Qae) (qc (spb (lc (.rn (Qbr rn0 (rnc (rqr rfl) (rnc (rqr rfl) rn0)))) ln)) (qc (spb (lc (rnd Qae) ln)) (qc (spb (lc rwl ln)) (qc (spb (lc rwl ln)) qn)))))) ?_
    refine Qbw (τ:=Int×(List Int)) (fun n t=>Qbe N p0 p1 p4 p5 p6 k9 n t.1 t.2=some r) (fun ⟨y10,y11⟩=>⟨mk 53 [(0,(.own 0 1 (0) (p0))),(1,I p1),(2,I p2),(3,Qok),(8,I y2),(9,I y10)],[(Qkk y11),(.own 1 [[Qlc]]),(.own 1 [[(Qlb p4)]]),(.own 1 [[I p5]]),(.own 1 [[I p6]])]⟩) (fun t h=>by rw [Qbe] at h; cases h) (fun n14 ih t h=>?_) N (y2,y3) h
    obtain ⟨y10,y11⟩:=t
    rw [Qbe] at h
    skip
    obtain ⟨k15,hk_k15,h⟩:=jko h
    refine wjn (τ:=Unit) (fun t=>k15 t=some r) (fun _=>⟨mk 53 [(0,(.own 0 1 (0) (p0))),(1,I p1),(2,I p2),(3,Qok),(8,I y2),(9,I y10)],[(Qkk y11),(.own 1 [[Qlc]]),(.own 1 [[(Qlb p4)]]),(.own 1 [[I p5]]),(.own 1 [[I p6]])]⟩) (fun t h=>?_) ?_
    ·subst hk_k15
     refine wsq ?_
     refine Qam ?_
     obtain ⟨hi16,h⟩:=cko h
     obtain ⟨hi16a,hi16b⟩:=Qdv hi16
     obtain ⟨x17,hg18,h⟩:=bno h
     obtain ⟨hi19,h⟩:=cko h
     obtain ⟨hi19a,hi19b⟩:=Qdv hi19
     obtain ⟨x20,hg21,h⟩:=bno h
     obtain ⟨hi22,h⟩:=cko h
     obtain ⟨hi22a,hi22b⟩:=Qdv hi22
     obtain ⟨x23,hg24,h⟩:=bno h
     obtain ⟨hi25,h⟩:=cko h
     obtain ⟨hi25a,hi25b⟩:=Qdv hi25
     obtain ⟨x26,hg27,h⟩:=bno h
     refine wy1 tbk [(8,rb [(.tmp 42,(.own 0 1 (0) (p0))),(.tmp 44,(I (w64 (y10 - 1))))] [(0,(Qkk y11))] (.ref 0 1 ((w64 (y10 - 1)).toNat) 0)),(9,rb [(.tmp 45,(.ref 0 1 ((w64 (y10 - 1)).toNat) 0))] [(0,(Qkk y11))] (I x17)),(12,rb [(.tmp 47,(.own 0 1 (0) (p0))),(.tmp 48,I y10)] [(0,(Qkk y11))] (.ref 0 1 (y10.toNat) 0)),(13,rb [(.tmp 49,(.ref 0 1 (y10.toNat) 0))] [(0,(Qkk y11))] (I x20)),(14,rb [(.tmp 37,(.own 0 1 (0) (p0))),(.tmp 38,I y10)] [(0,(Qkk y11))] (.ref 0 1 (y10.toNat) 0)),(15,⟨[(.tmp 51,(.ref 0 1 (y10.toNat) 0)),(.tmp 46,I x17)],[(0,(Qkk y11))],.any,[(0,(.own 1 ((y11.set y10.toNat x17:List Int).map Qak)))],false⟩),(16,rb [(.tmp 39,(.own 0 1 (0) (p0))),(.tmp 41,(I (w64 (y10 - 1))))] [(0,(.own 1 ((y11.set y10.toNat x17:List Int).map Qak)))] (.ref 0 1 ((w64 (y10 - 1)).toNat) 0)),(17,⟨[(.tmp 52,(.ref 0 1 ((w64 (y10 - 1)).toNat) 0)),(.tmp 50,I x20)],[(0,(.own 1 ((y11.set y10.toNat x17:List Int).map Qak)))],.any,[(0,(.own 1 (((y11.set y10.toNat x17).set ((w64 (y10 - 1)).toNat) x20:List Int).map Qak)))],false⟩)] ⟨aio rfl Tryz.underlying27 ti3 (odt hi16a) (odt hi16b) (Nat.zero_add _),ald rfl ti3 (by decide) (mgt Qak hg18) (nle rfl) rfl,aio rfl Tryz.underlying27 ti3 (odt hi19a) (odt hi19b) (Nat.zero_add _),ald rfl ti3 (by decide) (mgt Qak hg21) (nle rfl) rfl,aio rfl Tryz.underlying27 ti3 (odt hi22a) (odt hi22b) (Nat.zero_add _),ast rfl ti3 (by rfl) (mgt Qak hg24) (nle rfl) (Qgn Qak rfl),aio rfl Tryz.underlying27 ti3 (odt hi25a) (odt hi25b) (Nat.zero_add _),ast rfl ti3 (by rfl) (mgt Qak hg27) (nle rfl) (Qgn Qak rfl),trivial⟩ ?_
     refine bln ?_
     refine thn ?_
     refine wxz1 ?_
     refine thn ?_
     exact arm (mto (n:=53) [(0,(.own 0 1 (0) (p0))),(1,I p1),(2,I p2),(3,Qok),(8,I y2),(9,(I (w64 (y10 - 1))))] [0,1,2,3,4] [(.own 1 (((y11.set y10.toNat x17).set ((w64 (y10 - 1)).toNat) x20:List Int).map Qak)),(.own 1 [[Qlc]]),(.own 1 [[(Qlb p4)]]),(.own 1 [[I p5]]),(.own 1 [[I p6]])] hφ0 (pc (.rn (Qa4 rfl)) (pc rwl (pc rwl (pc (.rn (Qbr rn0 (rnc (rqr rfl) (rnc (rqr rfl) rn0)))) (pc rwl (pc rwl pn)))))) (qc (spr Qae) (qc (spb (lc (.rn (Qbr rn0 (rnc (rqr rfl) (rnc (rqr rfl) rn0)))) ln)) (qc (spb (lc (rnd Qae) ln)) (qc (spb (lc rwl ln)) (qc (spb (lc rwl ln)) qn)))))) (ih (w64 (y10 - 1),(y11.set y10.toNat x17).set ((w64 (y10 - 1)).toNat) x20) h)
    ·skip
     refine bfe h (fun hb28 h=>?_) fun hb28 h=>?_
     ·obtain ⟨hi29,h⟩:=cko h
      obtain ⟨hi29a,hi29b⟩:=Qdv hi29
      obtain ⟨x30,hg31,h⟩:=bno h
      obtain ⟨hi32,h⟩:=cko h
      obtain ⟨hi32a,hi32b⟩:=Qdv hi32
      obtain ⟨x33,hg34,h⟩:=bno h
      obtain ⟨x36,hf35,h⟩:=bno h
      refine wxd tbk [(3,rp [(.tmp 20,(B ((decide (y10>p1)))))] (B true)),(7,rb [(.tmp 21,B true),(.tmp 23,(.own 0 1 (0) (p0))),(.tmp 24,I y10)] [(0,(Qkk y11))] (.ref 0 1 (y10.toNat) 0)),(8,rb [(.tmp 21,B true),(.tmp 25,(.ref 0 1 (y10.toNat) 0))] [(0,(Qkk y11))] (I x30)),(12,rb [(.tmp 21,B true),(.tmp 27,(.own 0 1 (0) (p0))),(.tmp 29,(I (w64 (y10 - 1))))] [(0,(Qkk y11))] (.ref 0 1 ((w64 (y10 - 1)).toNat) 0)),(13,rb [(.tmp 21,B true),(.tmp 30,(.ref 0 1 ((w64 (y10 - 1)).toNat) 0))] [(0,(Qkk y11))] (I x33)),(14,⟨[(.tmp 21,B true),(.tmp 22,Qok),(.tmp 26,I x30),(.tmp 31,I x33)],[(1,.own 1 [[Qlc]]),(2,(.own 1 [[(Qlb p4)]])),(3,.own 1 [[I p5]]),(4,.own 1 [[I p6]])],I x36,[(1,.own 1 [[Qlc]]),(2,(.own 1 [[(Qlb p4)]])),(3,.own 1 [[I p5]]),(4,.own 1 [[I p6]])],false⟩)] ⟨asb hb28 (amv rfl),ag_ (aio rfl Tryz.underlying27 ti3 (odt hi29a) (odt hi29b) (Nat.zero_add _)),ag_ (ald rfl ti3 (by decide) (mgt Qak hg31) (nle rfl) rfl),ag_ (aio rfl Tryz.underlying27 ti3 (odt hi32a) (odt hi32b) (Nat.zero_add _)),ag_ (ald rfl ti3 (by decide) (mgt Qak hg34) (nle rfl) rfl),ag_ (Qau (first:=[]) (cap:=[.ref 1 1 0 0,.ref 2 1 0 0]) (vs:=[I x30,I x33]) (σr:=[(.own 1 [[Qlc]]),(.own 1 [[(Qlb p4)]]),(.own 1 [[I p5]]),(.own 1 [[I p6]])]) (σr':=[(.own 1 [[Qlc]]),(.own 1 [[(Qlb p4)]]),(.own 1 [[I p5]]),(.own 1 [[I p6]])]) (res':=(I x36)) [1,2,3,4] rfl Zd8 (Qln N x30 x33 p4 p5 p6 _ hf35) rfl (Qbx (rncc (rnc (Qbo rfl) (rnc (Qbo rfl) rn0)))) (slc (Qar (rnc (Qbr rn0 (rnc (Qbo rfl) (rnc (Qbo rfl) rn0))) rn0)) (slc (Qar (rnc (pld Qae) rn0)) (slc (Qar (rnc (.plain _ nll) rn0)) (slc (Qar (rnc (.plain _ nll) rn0)) Qat)))) (slc (Qar (rnc (Qbr rn0 (rnc (Qbt rfl) (rnc (Qbt rfl) rn0))) rn0)) (slc (Qar (rnc (pld Qae) rn0)) (slc (Qar (rnc (.plain _ nll) rn0)) (slc (Qar (rnc (.plain _ nll) rn0)) Qat)))) (.plain _ nll) rfl rfl rfl),trivial⟩ ?_
      refine bfe h (fun hc37 h=>?_) fun hc37 h=>?_
      ·refine wft hc37 ?_
       refine Qan ?_
       refine thn ?_
       exact ⟨(),h,(mto (n:=53) [(0,(.own 0 1 (0) (p0))),(1,I p1),(2,I p2),(3,Qok),(8,I y2),(9,I y10)] [0,1,2,3,4] [(Qkk y11),(.own 1 [[Qlc]]),(.own 1 [[(Qlb p4)]]),(.own 1 [[I p5]]),(.own 1 [[I p6]])] hφ0 (pc (.rn (Qa4 rfl)) (pc rwl (pc rwl (pc (.rn (Qbr rn0 (rnc (rqr rfl) (rnc (rqr rfl) rn0)))) (pc rwl (pc rwl pn)))))) (qc (spr Qae) (qc (spb (lc (.rn (Qbr rn0 (rnc (rqr rfl) (rnc (rqr rfl) rn0)))) ln)) (qc (spb (lc (rnd Qae) ln)) (qc (spb (lc rwl ln)) (qc (spb (lc rwl ln)) qn))))))⟩
      ·refine wfn hc37 ?_
       refine Qbh ?_
       refine Qax ?_
       refine Qax ?_
       refine Qbg rfl ?_
       refine bln ?_
       refine thn ?_
       exact ⟨(y11),h,(mto (n:=53) [(0,(.own 0 1 (0) (p0))),(1,I p1),(2,I p2),(3,Qok),(8,I y2)] [0,1,2,3,4] [(Qkk y11),(.own 1 [[Qlc]]),(.own 1 [[(Qlb p4)]]),(.own 1 [[I p5]]),(.own 1 [[I p6]])] hφ0 (pc (.rn (Qa4 rfl)) (pc rwl (pc rwl (pc (.rn (Qbr rn0 (rnc (rqr rfl) (rnc (rqr rfl) rn0)))) (pc rwl pn))))) (qc (spr Qae) (qc (spb (lc (.rn (Qbr rn0 (rnc (rqr rfl) (rnc (rqr rfl) rn0)))) ln)) (qc (spb (lc (rnd Qae) ln)) (qc (spb (lc rwl ln)) (qc (spb (lc rwl ln)) qn))))))⟩
     ·refine wxd tbk [(3,rp [(.tmp 20,(B ((decide (y10>p1)))))] (B false))] ⟨asb hb28 (amv rfl),trivial⟩ ?_
      refine wfa ?_
      refine Qbh ?_
      refine Qax ?_
      refine Qax ?_
      refine Qbg rfl ?_
      refine bln ?_
      refine thn ?_
      exact ⟨(y11),h,(mto (n:=53) [(0,(.own 0 1 (0) (p0))),(1,I p1),(2,I p2),(3,Qok),(8,I y2)] [0,1,2,3,4] [(Qkk y11),(.own 1 [[Qlc]]),(.own 1 [[(Qlb p4)]]),(.own 1 [[I p5]]),(.own 1 [[I p6]])] hφ0 (pc (.rn (Qa4 rfl)) (pc rwl (pc rwl (pc (.rn (Qbr rn0 (rnc (rqr rfl) (rnc (rqr rfl) rn0)))) (pc rwl pn))))) (qc (spr Qae) (qc (spb (lc (.rn (Qbr rn0 (rnc (rqr rfl) (rnc (rqr rfl) rn0)))) ln)) (qc (spb (lc (rnd Qae) ln)) (qc (spb (lc rwl ln)) (qc (spb (lc rwl ln)) qn))))))⟩
  ·refine wfn hc7 ?_
   refine Qbh ?_
   refine Qax ?_
   refine Qax ?_
   refine Qbg rfl ?_
   obtain rfl:=osi h
   exact ⟨_,(mto (n:=53) (l':=[]) (own':=[(Q8s y3),(.own 1 [[Qlc]]),(.own 1 [[(Qlb p4)]]),(.own 1 [[I p5]]),(.own 1 [[I p6]])]) [] [0,1,2,3,4] [(Q8s y3),(.own 1 [[Qlc]]),(.own 1 [[(Qlb p4)]]),(.own 1 [[I p5]]),(.own 1 [[I p6]])] hφ0 pn (qc (spr Qae) (qc (spb (lc (.rn (Qbr rn0 (rnc (rqr rfl) (rnc (rqr rfl) rn0)))) ln)) (qc (spb (lc (rnd Qae) ln)) (qc (spb (lc rwl ln)) (qc (spb (lc rwl ln)) qn)))))),Qda (vs:=[]) trivial rfl (NLt.tup _ nl0) (by kernel_rfl) (Qap (Qck Qae _) (Qap (Qbj (nlc (NLt.fn _ _ _ nl0 (nlc (NLt.ref _ _ _ _ (by decide)) (nlc (NLt.ref _ _ _ _ (by decide)) nl0))) nl0)) (Qap (Qbj (nlc (NLt.of0 (nld Qae _)) nl0)) (Qap (Qbj (nlc (NLt.of0 nll) nl0)) (Qap (Qbj (nlc (NLt.of0 nll) nl0)) Qbz)))))⟩
def Qc6 (N:Nat) (p1:Int) (k9:Unit→Option (List Int)):Nat→Option (List Int)
  | 0=>none
  | n10+1=>
    bif (decide (40≤p1)) then
     none
    else
     k9 ()
def Qb3 (N:Nat) (p1:Int) (x6:(List Int)):Nat→Option (List Int)
  | 0=>none
  | n7+1=>
    bif (decide (20<p1)) then
     Qbf (fun _=>
       none) fun k9:Unit→Option (List Int)=>
     Qc6 N p1 k9 N
    else
     some x6
def Qbs (N:Nat) (p0:Nat) (p1:Int) (p3:(List Int)) (k4:Int×(List Int)→Option (List Int)) (p4:Int) (p5:Int):Nat→Int→Int→(List Int)→Option (List Int)
  | 0,_,_,_=>none
  | n18+1,y12,y13,y14=>
    bif (decide (y13≤p1)) then
     (Qbk N p0 y12 y13 y14 p3 p4 p5).bind fun x21=>
     Qbs N p0 p1 p3 k4 p4 p5 n18 y13 (w64 (y13+20)) x21
    else
     k4 (y12,y14)
def Qd3 (N:Nat) (p0:Nat) (p1:Int) (p2:(List Int)) (p3:(List Int)) (p4:Int) (p5:Int):Option (List Int):=
  Qbf (fun ⟨y2,y3⟩=>
    (Qbk N p0 y2 p1 y3 p3 p4 p5).bind fun x6=>
    Qb3 N p1 x6 N) fun k4:Int×(List Int)→Option (List Int)=>
  Qbs N p0 p1 p3 k4 p4 p5 N 0 20 p2
def Ql1:AV:=.fn (.func 163) [] [(.ref 1 1 (0) 0),(.ref 2 1 (0) 0)]
def Zh7 (p2:(List Int)):Slot:=.own 1 ((p2:List Int).map Qak)
def Qja:AV:=.fn (.func 159) [] [(.ref 3 1 (0) 0),(.ref 4 1 (0) 0)]
def Qi9 (p3:(List Int)):AV:=.dat 1 ((p3:List Int).map Qak)
def Zh6 (y3:(List Int)):Slot:=.own 1 ((y3:List Int).map Qak)
def Qr0 (x6:(List Int)):Slot:=.own 1 ((x6:List Int).map Qak)
def Q3y (y14:(List Int)):Slot:=.own 1 ((y14:List Int).map Qak)
theorem Qje (N:Nat) (p0:Nat) (p1:Int) (p2:(List Int)) (p3:(List Int)) (p4:Int) (p5:Int) (r:(List Int)) (h:Qd3 N p0 p1 p2 p3 p4 p5=some r):Spec Tryz.prog 164 [(.own 0 1 (0) (p0)),(I (p1)),Ql1] [(Zh7 p2),(.own 1 [[Qja]]),(.own 1 [[(Qi9 p3)]]),(.own 1 [[(I (p4))]]),(.own 1 [[(I (p5))]])] (.tup []) [(.own 1 ((r:List Int).map Qak)),(.own 1 [[Qja]]),(.own 1 [[(Qi9 p3)]]),(.own 1 [[(I (p4))]]),(.own 1 [[(I (p5))]])]:=by
  refine Qai Tryz.func164 rfl 5 (nle rfl) (fun X φ0 w0 hφ0 hd0=>?_)
  unfold Qd3 at h
  refine Qb2 ?_
  refine wxz ?_
  refine wxz ?_
  obtain ⟨k4,hk_k4,h⟩:=jko h
  refine wjn (τ:=Int×(List Int)) (fun t=>k4 t=some r) (fun ⟨y2,y3⟩=>⟨mk 63 [(0,(.own 0 1 (0) (p0))),(1,I p1),(2,Ql1),(6,I 20),(7,I y2)],[(Zh6 y3),(.own 1 [[Qja]]),(.own 1 [[(Qi9 p3)]]),(.own 1 [[I p4]]),(.own 1 [[I p5]])]⟩) (fun t h=>?_) ?_
  ·subst hk_k4
   obtain ⟨y2,y3⟩:=t
   obtain ⟨x6,hf5,h⟩:=bno h
   refine wx tbk [(4,⟨[fu 165,(.tmp 23,(.own 0 1 (0) (p0))),(.tmp 24,I y2),(.tmp 25,I p1),(.tmp 26,Ql1)],[(0,(Zh6 y3)),(1,.own 1 [[Qja]]),(2,(.own 1 [[(Qi9 p3)]])),(3,.own 1 [[I p4]]),(4,.own 1 [[I p5]])],(.tup []),[(0,(Qr0 x6)),(1,.own 1 [[Qja]]),(2,(.own 1 [[(Qi9 p3)]])),(3,.own 1 [[I p4]]),(4,.own 1 [[I p5]])],false⟩)] ⟨Qau (first:=[]) (cap:=[]) (vs:=[(.own 0 1 (0) (p0)),I y2,I p1,Ql1]) (σr:=[(Zh6 y3),(.own 1 [[Qja]]),(.own 1 [[(Qi9 p3)]]),(.own 1 [[I p4]]),(.own 1 [[I p5]])]) (σr':=[(Qr0 x6),(.own 1 [[Qja]]),(.own 1 [[(Qi9 p3)]]),(.own 1 [[I p4]]),(.own 1 [[I p5]])]) (res':=(.tup [])) [0,1,2,3,4] rfl Q41 (Qfb N p0 y2 p1 y3 p3 p4 p5 _ hf5) rfl (Qbx (rnc (Qc5 rfl) (rncc (rnc (Qbr rn0 (rnc (Qbo rfl) (rnc (Qbo rfl) rn0))) rn0)))) (slc (Qbd Qae) (slc (Qar (rnc (Qbr rn0 (rnc (Qbo rfl) (rnc (Qbo rfl) rn0))) rn0)) (slc (Qar (rnc (pld Qae) rn0)) (slc (Qar (rnc (.plain _ nll) rn0)) (slc (Qar (rnc (.plain _ nll) rn0)) Qat))))) (slc (Qbd Qae) (slc (Qar (rnc (Qbr rn0 (rnc (Qbt rfl) (rnc (Qbt rfl) rn0))) rn0)) (slc (Qar (rnc (pld Qae) rn0)) (slc (Qar (rnc (.plain _ nll) rn0)) (slc (Qar (rnc (.plain _ nll) rn0)) Qat))))) (.plain _ (NLt.tup _ nl0)) rfl rfl rfl,trivial⟩ ?_
   refine Qam ?_
   refine wmr (mto (n:=63) (l':=[(0,(.own 0 1 (0) (p0))),(1,I p1),(2,Ql1),(6,I 20)]) (own':=[(Qr0 x6),(.own 1 [[Qja]]),(.own 1 [[(Qi9 p3)]]),(.own 1 [[I p4]]),(.own 1 [[I p5]])]) [(0,(.own 0 1 (0) (p0))),(1,I p1),(2,Ql1),(6,I 20)] [0,1,2,3,4] [(Qr0 x6),(.own 1 [[Qja]]),(.own 1 [[(Qi9 p3)]]),(.own 1 [[I p4]]),(.own 1 [[I p5]])] hφ0 (pc (.rn (Qa4 rfl)) (pc rwl (pc (.rn (Qbr rn0 (rnc (rqr rfl) (rnc (rqr rfl) rn0)))) (pc rwl pn)))) (qc (spr Qae) (qc (spb (lc (.rn (Qbr rn0 (rnc (rqr rfl) (rnc (rqr rfl) rn0)))) ln)) (qc (spb (lc (rnd Qae) ln)) (qc (spb (lc rwl ln)) (qc (spb (lc rwl ln)) qn)))))) ?_
   refine Qbw (τ:=Unit) (fun n t=>Qb3 N p1 x6 n=some r) (fun _=>⟨mk 63 [(0,(.own 0 1 (0) (p0))),(1,I p1),(2,Ql1),(6,I 20)],[(Qr0 x6),(.own 1 [[Qja]]),(.own 1 [[(Qi9 p3)]]),(.own 1 [[I p4]]),(.own 1 [[I p5]])]⟩) (fun t h=>by rw [Qb3] at h; cases h) (fun n7 ih t h=>?_) N () h
   rw [Qb3] at h
   skip
   refine wsq ?_
   refine wxz ?_
   refine bfe h (fun hc8 h=>?_) fun hc8 h=>?_
   ·refine wft hc8 ?_
    refine Qan ?_
    refine thn ?_
    refine Qam ?_
    refine wxz ?_
    obtain ⟨k9,hk_k9,h⟩:=jko h
    refine wjn (τ:=Unit) (fun t=>k9 t=some r) (fun _=>⟨mk 63 [(0,(.own 0 1 (0) (p0))),(1,I p1),(2,Ql1),(6,I 20),(7,I 0)],[(Qr0 x6),(.own 1 [[Qja]]),(.own 1 [[(Qi9 p3)]]),(.own 1 [[I p4]]),(.own 1 [[I p5]])]⟩) (fun t h=>?_) ?_
    ·subst hk_k9
     refine wsq ?_
     refine wxz ?_
     refine wxz ?_
     refine wft hc8 ?_
     cases h
    ·skip
     refine Qam ?_
     refine wmr (mto (n:=63) (l':=[(0,(.own 0 1 (0) (p0))),(1,I p1),(2,Ql1),(6,I 20),(7,I 0),(8,I 40)]) (own':=[(Qr0 x6),(.own 1 [[Qja]]),(.own 1 [[(Qi9 p3)]]),(.own 1 [[I p4]]),(.own 1 [[I p5]])]) [(0,(.own 0 1 (0) (p0))),(1,I p1),(2,Ql1),(6,I 20),(7,I 0),(8,I 40)] [0,1,2,3,4] [(Qr0 x6),(.own 1 [[Qja]]),(.own 1 [[(Qi9 p3)]]),(.own 1 [[I p4]]),(.own 1 [[I p5]])] hφ0 (pc (.rn (Qa4 rfl)) (pc rwl (pc (.rn (Qbr rn0 (rnc (rqr rfl) (rnc (rqr rfl) rn0)))) (pc rwl (pc rwl (pc rwl pn)))))) (qc (spr Qae) (qc (spb (lc (.rn (Qbr rn0 (rnc (rqr rfl) (rnc (rqr rfl) rn0)))) ln)) (qc (spb (lc (rnd Qae) ln)) (qc (spb (lc rwl ln)) (qc (spb (lc rwl ln)) qn)))))) ?_
     refine Qbw (τ:=Unit) (fun n t=>Qc6 N p1 k9 n=some r) (fun _=>⟨mk 63 [(0,(.own 0 1 (0) (p0))),(1,I p1),(2,Ql1),(6,I 20),(7,I 0),(8,I 40)],[(Qr0 x6),(.own 1 [[Qja]]),(.own 1 [[(Qi9 p3)]]),(.own 1 [[I p4]]),(.own 1 [[I p5]])]⟩) (fun t h=>by rw [Qc6] at h; cases h) (fun n10 ih t h=>?_) N () h
     rw [Qc6] at h
     skip
     refine wsq ?_
     refine wxz ?_
     refine bfe h (fun hc11 h=>?_) fun hc11 h=>?_
     ·refine wft hc11 ?_
      refine Qan ?_
      refine thn ?_
      refine Qam ?_
      cases h
     ·refine wfn hc11 ?_
      refine Qbh ?_
      refine Qax ?_
      refine Qax ?_
      refine Qbg rfl ?_
      refine thn ?_
      exact ⟨(),h,(mto (n:=63) [(0,(.own 0 1 (0) (p0))),(1,I p1),(2,Ql1),(6,I 20),(7,I 0)] [0,1,2,3,4] [(Qr0 x6),(.own 1 [[Qja]]),(.own 1 [[(Qi9 p3)]]),(.own 1 [[I p4]]),(.own 1 [[I p5]])] hφ0 (pc (.rn (Qa4 rfl)) (pc rwl (pc (.rn (Qbr rn0 (rnc (rqr rfl) (rnc (rqr rfl) rn0)))) (pc rwl (pc rwl pn))))) (qc (spr Qae) (qc (spb (lc (.rn (Qbr rn0 (rnc (rqr rfl) (rnc (rqr rfl) rn0)))) ln)) (qc (spb (lc (rnd Qae) ln)) (qc (spb (lc rwl ln)) (qc (spb (lc rwl ln)) qn))))))⟩
   ·refine wfn hc8 ?_
    refine Qbh ?_
    refine Qax ?_
    refine Qax ?_
    refine Qbg rfl ?_
    obtain rfl:=osi h
    exact ⟨_,(mto (n:=63) (l':=[]) (own':=[(Qr0 x6),(.own 1 [[Qja]]),(.own 1 [[(Qi9 p3)]]),(.own 1 [[I p4]]),(.own 1 [[I p5]])]) [] [0,1,2,3,4] [(Qr0 x6),(.own 1 [[Qja]]),(.own 1 [[(Qi9 p3)]]),(.own 1 [[I p4]]),(.own 1 [[I p5]])] hφ0 pn (qc (spr Qae) (qc (spb (lc (.rn (Qbr rn0 (rnc (rqr rfl) (rnc (rqr rfl) rn0)))) ln)) (qc (spb (lc (rnd Qae) ln)) (qc (spb (lc rwl ln)) (qc (spb (lc rwl ln)) qn)))))),Qda (vs:=[]) trivial rfl (NLt.tup _ nl0) (by kernel_rfl) (Qap (Qck Qae _) (Qap (Qbj (nlc (NLt.fn _ _ _ nl0 (nlc (NLt.ref _ _ _ _ (by decide)) (nlc (NLt.ref _ _ _ _ (by decide)) nl0))) nl0)) (Qap (Qbj (nlc (NLt.of0 (nld Qae _)) nl0)) (Qap (Qbj (nlc (NLt.of0 nll) nl0)) (Qap (Qbj (nlc (NLt.of0 nll) nl0)) Qbz)))))⟩
  ·skip
   refine Qam ?_
   refine wmr (mto (n:=63) (l':=[(0,(.own 0 1 (0) (p0))),(1,I p1),(2,Ql1),(6,I 20),(7,I 0),(8,I 20)]) (own':=[(Zh7 p2),(.own 1 [[Qja]]),(.own 1 [[(Qi9 p3)]]),(.own 1 [[I p4]]),(.own 1 [[I p5]])]) [(0,(.own 0 1 (0) (p0))),(1,I p1),(2,Ql1),(6,I 20),(7,I 0),(8,I 20)] [0,1,2,3,4] [(Zh7 p2),(.own 1 [[Qja]]),(.own 1 [[(Qi9 p3)]]),(.own 1 [[I p4]]),(.own 1 [[I p5]])] hφ0 (pc (.rn (Qa4 rfl)) (pc rwl (pc (.rn (Qbr rn0 (rnc (rqr rfl) (rnc (rqr rfl) rn0)))) (pc rwl (pc rwl (pc rwl pn)))))) (qc (spr Qae) (qc (spb (lc (.rn (Qbr rn0 (rnc (rqr rfl) (rnc (rqr rfl) rn0)))) ln)) (qc (spb (lc (rnd Qae) ln)) (qc (spb (lc rwl ln)) (qc (spb (lc rwl ln)) qn)))))) ?_
   refine Qbw (τ:=Int×Int×(List Int)) (fun n t=>Qbs N p0 p1 p3 k4 p4 p5 n t.1 t.2.1 t.2.2=some r) (fun ⟨y12,y13,y14⟩=>⟨mk 63 [(0,(.own 0 1 (0) (p0))),(1,I p1),(2,Ql1),(6,I 20),(7,I y12),(8,I y13)],[(Q3y y14),(.own 1 [[Qja]]),(.own 1 [[(Qi9 p3)]]),(.own 1 [[I p4]]),(.own 1 [[I p5]])]⟩) (fun t h=>by rw [Qbs] at h; cases h) (fun n18 ih t h=>?_) N (0,20,p2) h
   obtain ⟨y12,y13,y14⟩:=t
   rw [Qbs] at h
   skip
   refine wsq ?_
   refine wxz ?_
   refine bfe h (fun hc19 h=>?_) fun hc19 h=>?_
   ·refine wft hc19 ?_
    refine Qan ?_
    refine thn ?_
    refine Qam ?_
    obtain ⟨x21,hf20,h⟩:=bno h
    refine wx tbk [(4,⟨[fu 165,(.tmp 14,(.own 0 1 (0) (p0))),(.tmp 15,I y12),(.tmp 16,I y13),(.tmp 17,Ql1)],[(0,(Q3y y14)),(1,.own 1 [[Qja]]),(2,(.own 1 [[(Qi9 p3)]])),(3,.own 1 [[I p4]]),(4,.own 1 [[I p5]])],(.tup []),[(0,(.own 1 ((x21:List Int).map Qak))),(1,.own 1 [[Qja]]),(2,(.own 1 [[(Qi9 p3)]])),(3,.own 1 [[I p4]]),(4,.own 1 [[I p5]])],false⟩)] ⟨Qau (first:=[]) (cap:=[]) (vs:=[(.own 0 1 (0) (p0)),I y12,I y13,Ql1]) (σr:=[(Q3y y14),(.own 1 [[Qja]]),(.own 1 [[(Qi9 p3)]]),(.own 1 [[I p4]]),(.own 1 [[I p5]])]) (σr':=[(.own 1 ((x21:List Int).map Qak)),(.own 1 [[Qja]]),(.own 1 [[(Qi9 p3)]]),(.own 1 [[I p4]]),(.own 1 [[I p5]])]) (res':=(.tup [])) [0,1,2,3,4] rfl Q41 (Qfb N p0 y12 y13 y14 p3 p4 p5 _ hf20) rfl (Qbx (rnc (Qc5 rfl) (rncc (rnc (Qbr rn0 (rnc (Qbo rfl) (rnc (Qbo rfl) rn0))) rn0)))) (slc (Qbd Qae) (slc (Qar (rnc (Qbr rn0 (rnc (Qbo rfl) (rnc (Qbo rfl) rn0))) rn0)) (slc (Qar (rnc (pld Qae) rn0)) (slc (Qar (rnc (.plain _ nll) rn0)) (slc (Qar (rnc (.plain _ nll) rn0)) Qat))))) (slc (Qbd Qae) (slc (Qar (rnc (Qbr rn0 (rnc (Qbt rfl) (rnc (Qbt rfl) rn0))) rn0)) (slc (Qar (rnc (pld Qae) rn0)) (slc (Qar (rnc (.plain _ nll) rn0)) (slc (Qar (rnc (.plain _ nll) rn0)) Qat))))) (.plain _ (NLt.tup _ nl0)) rfl rfl rfl,trivial⟩ ?_
    refine wxz ?_
    refine wxz1 ?_
    refine bln ?_
    refine thn ?_
    exact arm (mto (n:=63) [(0,(.own 0 1 (0) (p0))),(1,I p1),(2,Ql1),(6,I 20),(7,I y13),(8,(I (w64 (y13+20))))] [0,1,2,3,4] [(.own 1 ((x21:List Int).map Qak)),(.own 1 [[Qja]]),(.own 1 [[(Qi9 p3)]]),(.own 1 [[I p4]]),(.own 1 [[I p5]])] hφ0 (pc (.rn (Qa4 rfl)) (pc rwl (pc (.rn (Qbr rn0 (rnc (rqr rfl) (rnc (rqr rfl) rn0)))) (pc rwl (pc rwl (pc rwl pn)))))) (qc (spr Qae) (qc (spb (lc (.rn (Qbr rn0 (rnc (rqr rfl) (rnc (rqr rfl) rn0)))) ln)) (qc (spb (lc (rnd Qae) ln)) (qc (spb (lc rwl ln)) (qc (spb (lc rwl ln)) qn)))))) (ih (y13,w64 (y13+20),x21) h)
   ·refine wfn hc19 ?_
    refine Qbh ?_
    refine Qax ?_
    refine Qax ?_
    refine Qbg rfl ?_
    refine thn ?_
    exact ⟨(y12,y14),h,(mto (n:=63) [(0,(.own 0 1 (0) (p0))),(1,I p1),(2,Ql1),(6,I 20),(7,I y12)] [0,1,2,3,4] [(Q3y y14),(.own 1 [[Qja]]),(.own 1 [[(Qi9 p3)]]),(.own 1 [[I p4]]),(.own 1 [[I p5]])] hφ0 (pc (.rn (Qa4 rfl)) (pc rwl (pc (.rn (Qbr rn0 (rnc (rqr rfl) (rnc (rqr rfl) rn0)))) (pc rwl (pc rwl pn))))) (qc (spr Qae) (qc (spb (lc (.rn (Qbr rn0 (rnc (rqr rfl) (rnc (rqr rfl) rn0)))) ln)) (qc (spb (lc (rnd Qae) ln)) (qc (spb (lc rwl ln)) (qc (spb (lc rwl ln)) qn))))))⟩
def Qce (N:Nat) (p0:Nat) (p1:(List Int)) (p2:(List Int)) (p3:Int) (p4:Int):Option (List Int):=
  (Qd3 N p0 ((p0:Nat):Int) p1 p2 p3 p4).bind fun x3=>
  some x3
def Zh9:AV:=.fn (.func 163) [] [(.ref 1 1 (0) 0),(.ref 2 1 (0) 0)]
def Zh8 (p1:(List Int)):Slot:=.own 1 ((p1:List Int).map Qak)
def Qyh:AV:=.fn (.func 159) [] [(.ref 3 1 (0) 0),(.ref 4 1 (0) 0)]
def Qyg (p2:(List Int)):AV:=.dat 1 ((p2:List Int).map Qak)
def Zcp (x3:(List Int)):Slot:=.own 1 ((x3:List Int).map Qak)
theorem Qhx (N:Nat) (p0:Nat) (p1:(List Int)) (p2:(List Int)) (p3:Int) (p4:Int) (r:(List Int)) (h:Qce N p0 p1 p2 p3 p4=some r):Spec Tryz.prog 162 [(.own 0 1 (0) (p0)),Zh9] [(Zh8 p1),(.own 1 [[Qyh]]),(.own 1 [[(Qyg p2)]]),(.own 1 [[(I (p3))]]),(.own 1 [[(I (p4))]])] (.tup []) [(.own 1 ((r:List Int).map Qak)),(.own 1 [[Qyh]]),(.own 1 [[(Qyg p2)]]),(.own 1 [[(I (p3))]]),(.own 1 [[(I (p4))]])]:=by
  refine Qai Tryz.func162 rfl 5 (nle rfl) (fun X φ0 w0 hφ0 hd0=>?_)
  unfold Qce at h
  refine Qb2 ?_
  obtain ⟨x3,hf2,h⟩:=bno h
  refine wx1 tbk [(2,rp [(.tmp 5,(.own 0 1 (0) (p0)))] (I (((p0:Nat):Int)))),(4,⟨[fu 164,(.tmp 4,(.own 0 1 (0) (p0))),(.tmp 6,(I (((p0:Nat):Int)))),(.tmp 7,Zh9)],[(0,(Zh8 p1)),(1,.own 1 [[Qyh]]),(2,(.own 1 [[(Qyg p2)]])),(3,.own 1 [[I p3]]),(4,.own 1 [[I p4]])],(.tup []),[(0,(Zcp x3)),(1,.own 1 [[Qyh]]),(2,(.own 1 [[(Qyg p2)]])),(3,.own 1 [[I p3]]),(4,.own 1 [[I p4]])],false⟩)] ⟨aln rfl Tryz.underlying27 rfl,Qau (first:=[]) (cap:=[]) (vs:=[(.own 0 1 (0) (p0)),(I (((p0:Nat):Int))),Zh9]) (σr:=[(Zh8 p1),(.own 1 [[Qyh]]),(.own 1 [[(Qyg p2)]]),(.own 1 [[I p3]]),(.own 1 [[I p4]])]) (σr':=[(Zcp x3),(.own 1 [[Qyh]]),(.own 1 [[(Qyg p2)]]),(.own 1 [[I p3]]),(.own 1 [[I p4]])]) (res':=(.tup [])) [0,1,2,3,4] rfl Zd7 (Qje N p0 ((p0:Nat):Int) p1 p2 p3 p4 _ hf2) rfl (Qbx (rnc (Qc5 rfl) (rnc (.plain _ nll) (rnc (Qbr rn0 (rnc (Qbo rfl) (rnc (Qbo rfl) rn0))) rn0)))) (slc (Qbd Qae) (slc (Qar (rnc (Qbr rn0 (rnc (Qbo rfl) (rnc (Qbo rfl) rn0))) rn0)) (slc (Qar (rnc (pld Qae) rn0)) (slc (Qar (rnc (.plain _ nll) rn0)) (slc (Qar (rnc (.plain _ nll) rn0)) Qat))))) (slc (Qbd Qae) (slc (Qar (rnc (Qbr rn0 (rnc (Qbt rfl) (rnc (Qbt rfl) rn0))) rn0)) (slc (Qar (rnc (pld Qae) rn0)) (slc (Qar (rnc (.plain _ nll) rn0)) (slc (Qar (rnc (.plain _ nll) rn0)) Qat))))) (.plain _ (NLt.tup _ nl0)) rfl rfl rfl,trivial⟩ ?_
  obtain rfl:=osi h
  exact ⟨_,(mto (n:=9) (l':=[]) (own':=[(Zcp x3),(.own 1 [[Qyh]]),(.own 1 [[(Qyg p2)]]),(.own 1 [[I p3]]),(.own 1 [[I p4]])]) [] [0,1,2,3,4] [(Zcp x3),(.own 1 [[Qyh]]),(.own 1 [[(Qyg p2)]]),(.own 1 [[I p3]]),(.own 1 [[I p4]])] hφ0 pn (qc (spr Qae) (qc (spb (lc (.rn (Qbr rn0 (rnc (rqr rfl) (rnc (rqr rfl) rn0)))) ln)) (qc (spb (lc (rnd Qae) ln)) (qc (spb (lc rwl ln)) (qc (spb (lc rwl ln)) qn)))))),Qda (vs:=[]) trivial rfl (NLt.tup _ nl0) (by kernel_rfl) (Qap (Qck Qae _) (Qap (Qbj (nlc (NLt.fn _ _ _ nl0 (nlc (NLt.ref _ _ _ _ (by decide)) (nlc (NLt.ref _ _ _ _ (by decide)) nl0))) nl0)) (Qap (Qbj (nlc (NLt.of0 (nld Qae _)) nl0)) (Qap (Qbj (nlc (NLt.of0 nll) nl0)) (Qap (Qbj (nlc (NLt.of0 nll) nl0)) Qbz)))))⟩
def Qcq (N:Nat) (p0:(List Int)) (k4:(List Int)→Option (List Int)):Nat→Int→(List Int)→Option (List Int)
  | 0,_,_=>none
  | n13+1,y9,y10=>
    bif (decide (y9<(p0.length:Int))) then
     chk (decide ((y10.length+([y9]).length) * 8≤140737488355328))<|
     Qcq N p0 k4 n13 (w64 (y9+1)) (y10++([y9]))
    else
     k4 (y10)
def Qfj (N:Nat) (p0:(List Int)) (p1:Int) (p2:Int):Option (List Int):=
  Qbf (fun y3=>
    chk (!y3.isEmpty)<|
    (Qce N y3.length y3 p0 p1 p2).bind fun x7=>
    chk (decide (y3.length≤x7.length))<|
    some (x7.take y3.length)) fun k4:(List Int)→Option (List Int)=>
  Qcq N p0 k4 N 0 ([]:List Int)
def Qqp (p0:(List Int)):AV:=.dat 1 ((p0:List Int).map Qak)
def Qr1:AV:=.fn (.func 159) [] [(.ref 0 1 (0) 0),(.ref 1 1 (0) 0)]
def Q30:AV:=.fn (.func 163) [] [(.ref 3 1 (0) 0),(.ref 2 1 (0) 0)]
def Q3z (x7:(List Int)) (y3:(List Int)):AV:=.dat 1 ((x7.take y3.length:List Int).map Qak)
def Zlq:Slot:=.gro 1 ((([]:List Int):List Int).map Qak)
theorem Qmr (N:Nat) (p0:(List Int)) (p1:Int) (p2:Int) (r:(List Int)) (h:Qfj N p0 p1 p2=some r):Spec Tryz.prog 158 [(Qqp p0),Qr1] [(.own 1 [[(I (p1))]]),(.own 1 [[(I (p2))]])] (.dat 1 ((r:List Int).map Qak)) [(.own 1 [[(I (p1))]]),(.own 1 [[(I (p2))]])]:=by
  refine Qai Tryz.func158 rfl 2 (nle rfl) (fun X φ0 w0 hφ0 hd0=>?_)
  unfold Qfj at h
  refine Qb2 ?_
  refine wxz ?_
  refine wxz ?_
  obtain ⟨k4,hk_k4,h⟩:=jko h
  refine wjn (τ:=(List Int)) (fun t=>k4 t=some r) (fun y3=>⟨mk 21 [(2,.ref 2 1 0 0),(3,.ref 3 1 0 0),(5,(.gro 4 3 1 (y3.length)))],[(.own 1 [[I p1]]),(.own 1 [[I p2]]),(.own 1 [[(Qqp p0)]]),(.own 1 [[Qr1]]),(.gro 1 ((y3:List Int).map Qak))]⟩) (fun y3 h=>?_) ?_
  ·subst hk_k4
   obtain ⟨hz5,h⟩:=cko h
   obtain ⟨x7,hf6,h⟩:=bno h
   refine wx tbk [(1,rp [(.tmp 3,.ref 3 1 0 0),(.tmp 2,.ref 2 1 0 0)] Q30),(2,⟨[fu 162,(.tmp 17,(.gro 4 3 1 (y3.length))),(.tmp 18,Q30)],[(4,(.gro 1 ((y3:List Int).map Qak))),(3,.own 1 [[Qr1]]),(2,(.own 1 [[(Qqp p0)]])),(0,.own 1 [[I p1]]),(1,.own 1 [[I p2]])],(.tup []),[(4,(.own 1 ((x7:List Int).map Qak))),(3,.own 1 [[Qr1]]),(2,(.own 1 [[(Qqp p0)]])),(0,.own 1 [[I p1]]),(1,.own 1 [[I p2]])],false⟩)] ⟨Qfz (fs:=[]) (cs:=[.ref 3 1 0 0,.ref 2 1 0 0]) rfl rfl rfl rfl,Q2w (bl':=[(4,(.own 1 ((y3:List Int).map Qak))),(3,.own 1 [[Qr1]]),(2,(.own 1 [[(Qqp p0)]])),(0,.own 1 [[I p1]]),(1,.own 1 [[I p2]])]) ⟨rfl,SLess.gro (Qmb hz5),rfl,SLess.rfl,rfl,SLess.rfl,rfl,SLess.rfl,rfl,SLess.rfl,trivial⟩ (awk (rd':=[fu 162,(.tmp 17,(.own 4 1 (0) (y3.length))),(.tmp 18,Q30)]) ⟨rfl,lrf,rfl,Less.gro,rfl,lrf,trivial⟩ (Qau (first:=[]) (cap:=[]) (vs:=[(.own 4 1 (0) (y3.length)),Q30]) (σr:=[(.own 1 ((y3:List Int).map Qak)),(.own 1 [[Qr1]]),(.own 1 [[(Qqp p0)]]),(.own 1 [[I p1]]),(.own 1 [[I p2]])]) (σr':=[(.own 1 ((x7:List Int).map Qak)),(.own 1 [[Qr1]]),(.own 1 [[(Qqp p0)]]),(.own 1 [[I p1]]),(.own 1 [[I p2]])]) (res':=(.tup [])) [4,3,2,0,1] rfl Zd9 (Qhx N y3.length y3 p0 p1 p2 _ hf6) rfl (Qbx (rnc (Qc5 rfl) (rnc (Qbr rn0 (rnc (Qbo rfl) (rnc (Qbo rfl) rn0))) rn0))) (slc (Qbd Qae) (slc (Qar (rnc (Qbr rn0 (rnc (Qbo rfl) (rnc (Qbo rfl) rn0))) rn0)) (slc (Qar (rnc (pld Qae) rn0)) (slc (Qar (rnc (.plain _ nll) rn0)) (slc (Qar (rnc (.plain _ nll) rn0)) Qat))))) (slc (Qbd Qae) (slc (Qar (rnc (Qbr rn0 (rnc (Qbt rfl) (rnc (Qbt rfl) rn0))) rn0)) (slc (Qar (rnc (pld Qae) rn0)) (slc (Qar (rnc (.plain _ nll) rn0)) (slc (Qar (rnc (.plain _ nll) rn0)) Qat))))) (.plain _ (NLt.tup _ nl0)) rfl rfl rfl)),trivial⟩ ?_
   refine wxz ?_
   obtain ⟨hz8,h⟩:=cko h
   refine wmr (Zdw (n:=21) (l':=[(4,(.own 4 1 (0) (y3.length)))]) [(4,(.gro 4 3 1 (y3.length)))] (by kernel_rfl) (by kernel_rfl) ⟨rfl,Less.gro,trivial⟩) ?_
   refine wmr (Zaf (n:=21) (l':=[(4,(Q3z x7 y3))]) 4 [(4,(.own 4 1 (0) (y3.length)))] (by kernel_rfl) (by kernel_rfl) (by kernel_rfl) ⟨rfl,(Qra hz8),trivial⟩ rfl) ?_
   refine wmr (mto (n:=21) (l':=[(4,(Q3z x7 y3))]) (own':=[(.own 1 [[I p1]]),(.own 1 [[I p2]])]) [(4,(Q3z x7 y3))] [0,1] [(.own 1 [[I p1]]),(.own 1 [[I p2]])] hφ0 (pc (rnd Qae) pn) (qc (spb (lc rwl ln)) (qc (spb (lc rwl ln)) qn))) ?_
   refine Qag ?_
   obtain rfl:=osi h
   exact ⟨_,Mor.rfl,Qda (vs:=[(Q3z x7 y3)]) ⟨rot,trivial⟩ rfl (NLt.of0 (nld Qae _)) (by kernel_rfl) (Qap (Qbj (nlc (NLt.of0 nll) nl0)) (Qap (Qbj (nlc (NLt.of0 nll) nl0)) Qbz))⟩
  ·skip
   refine wx tbk [(1,rp [(.tmp 7,(Qqp p0))] (I ((p0.length:Int))))] ⟨alm (c:=Qak) (l:=p0) (aln rfl Tryz.underlying27 rfl),trivial⟩ ?_
   refine Qam ?_
   refine wmr (Mor.trans (Zdv 4 3 1 5 (by kernel_rfl) (by kernel_rfl)) (mto (n:=21) (l':=[(2,.ref 2 1 0 0),(3,.ref 3 1 0 0),(5,(.gro 4 3 1 (([]:List Int).length))),(8,(I ((p0.length:Int)))),(9,I 0)]) (own':=[(.own 1 [[I p1]]),(.own 1 [[I p2]]),(.own 1 [[(Qqp p0)]]),(.own 1 [[Qr1]]),Zlq]) [(2,.ref 2 1 0 0),(3,.ref 3 1 0 0),(5,(.gro 4 3 1 (([]:List Int).length))),(8,(I ((p0.length:Int)))),(9,I 0)] [0,1,2,3,4] [(.own 1 [[I p1]]),(.own 1 [[I p2]]),(.own 1 [[(Qqp p0)]]),(.own 1 [[Qr1]]),Zlq] hφ0 (pc (.rn (rqr rfl)) (pc (.rn (rqr rfl)) (pc (.rn (Q10 rfl)) (pc rwl (pc rwl pn))))) (qc (spb (lc rwl ln)) (qc (spb (lc rwl ln)) (qc (spb (lc (rnd Qae) ln)) (qc (spb (lc (.rn (Qbr rn0 (rnc (rqr rfl) (rnc (rqr rfl) rn0)))) ln)) (qc (Qw3 Qae) qn))))))) ?_
   refine Qbw (τ:=Int×(List Int)) (fun n t=>Qcq N p0 k4 n t.1 t.2=some r) (fun ⟨y9,y10⟩=>⟨mk 21 [(2,.ref 2 1 0 0),(3,.ref 3 1 0 0),(5,(.gro 4 3 1 (y10.length))),(8,(I ((p0.length:Int)))),(9,I y9)],[(.own 1 [[I p1]]),(.own 1 [[I p2]]),(.own 1 [[(Qqp p0)]]),(.own 1 [[Qr1]]),(.gro 1 ((y10:List Int).map Qak))]⟩) (fun t h=>by rw [Qcq] at h; cases h) (fun n13 ih t h=>?_) N (0,([]:List Int)) h
   obtain ⟨y9,y10⟩:=t
   rw [Qcq] at h
   skip
   refine wxz ?_
   refine wsq ?_
   refine bfe h (fun hc14 h=>?_) fun hc14 h=>?_
   ·refine wft hc14 ?_
    refine Qan ?_
    refine thn ?_
    refine wsq ?_
    refine Qam ?_
    refine wxz ?_
    obtain ⟨ha15,h⟩:=cko h
    refine wx1 tbk [(2,rp [(.tmp 13,I y9)] (.dat 1 (([y9]:List Int).map Qak))),(3,⟨[(.tmp 12,(.gro 4 3 1 (y10.length))),(.tmp 14,(.dat 1 (([y9]:List Int).map Qak)))],[(4,(.gro 1 ((y10:List Int).map Qak))),(5,.unused)],(.gro 5 3 1 ((y10++([y9])).length)),[(4,.dead),(5,(.gro 1 ((y10++([y9]):List Int).map Qak)))],false⟩)] ?_ ?_
    ·exact ⟨Qbn (vs:=[I y9]) rfl Tryz.underlying27 ti3 tz3 rfl (by decide) rfl (by decide) (by rfl) (by rfl) (by rfl) rfl,Q23 (c:=Qak) (a:=y10) (b:=[y9]) rfl Tryz.underlying27 te3 rfl (Qmb rfl) (by rfl) ha15 (by decide),trivial⟩
    refine bln ?_
    refine thn ?_
    refine wxz1 ?_
    refine thn ?_
    exact arm (mto (n:=21) [(2,.ref 2 1 0 0),(3,.ref 3 1 0 0),(5,(.gro 5 3 1 ((y10++([y9])).length))),(8,(I ((p0.length:Int)))),(9,(I (w64 (y9+1))))] [0,1,2,3,5] [(.own 1 [[I p1]]),(.own 1 [[I p2]]),(.own 1 [[(Qqp p0)]]),(.own 1 [[Qr1]]),(.gro 1 ((y10++([y9]):List Int).map Qak))] hφ0 (pc (.rn (rqr rfl)) (pc (.rn (rqr rfl)) (pc (.rn (Q10 rfl)) (pc rwl (pc rwl pn))))) (qc (spb (lc rwl ln)) (qc (spb (lc rwl ln)) (qc (spb (lc (rnd Qae) ln)) (qc (spb (lc (.rn (Qbr rn0 (rnc (rqr rfl) (rnc (rqr rfl) rn0)))) ln)) (qc (Qw3 Qae) qn)))))) (ih (w64 (y9+1),y10++([y9])) h)
   ·refine wfn hc14 ?_
    refine Qbh ?_
    refine Qax ?_
    refine Qax ?_
    refine Qbg rfl ?_
    refine thn ?_
    exact ⟨(y10),h,(mto (n:=21) [(2,.ref 2 1 0 0),(3,.ref 3 1 0 0),(5,(.gro 4 3 1 (y10.length)))] [0,1,2,3,4] [(.own 1 [[I p1]]),(.own 1 [[I p2]]),(.own 1 [[(Qqp p0)]]),(.own 1 [[Qr1]]),(.gro 1 ((y10:List Int).map Qak))] hφ0 (pc (.rn (rqr rfl)) (pc (.rn (rqr rfl)) (pc (.rn (Q10 rfl)) pn))) (qc (spb (lc rwl ln)) (qc (spb (lc rwl ln)) (qc (spb (lc (rnd Qae) ln)) (qc (spb (lc (.rn (Qbr rn0 (rnc (rqr rfl) (rnc (rqr rfl) rn0)))) ln)) (qc (Qw3 Qae) qn))))))⟩
def Qdt (N:Nat) (p1:(List Int)) (y6:Int) (k10:(List Int)→Option (List Int)) (x13:(List Int)):Nat→Int→(List Int)→Option (List Int)
  | 0,_,_=>none
  | n19+1,y15,y16=>
    bif (decide (y15<(((x13).take (y6.toNat - 0)).length:Int))) then
     (getI ((x13).take (y6.toNat - 0)) y15).bind fun x21=>
     chk (decide (0≤x21)&&decide (x21.toNat<(p1.length:Int).toNat))<|
     (y16[x21.toNat]?).bind fun x26=>
     chk (decide (0≤x21)&&decide (x21.toNat<(p1.length:Int).toNat))<|
     (y16[x21.toNat]?).bind fun _=>
     Qdt N p1 y6 k10 x13 n19 (w64 (y15+1)) (y16.set x21.toNat (w64 (x26+1)))
    else
     k10 (y16)
def Qds (N:Nat) (p0:Int) (p1:(List Int)) (y3:Int) (k8:Int×(List Int)→Option (List Int)):Nat→Int→Int→(List Int)→Option (List Int)
  | 0,_,_,_=>none
  | n37+1,y31,y32,y33=>
    bif (decide (y32<(p1.length:Int))) then
     (getI p1 y32).bind fun x39=>
     chk (y3 != 0)<|
     chk (decide (0≤y32)&&decide (y32.toNat<(p1.length:Int).toNat))<|
     (y33[y32.toNat]?).bind fun _=>
     chk (decide (0≤y32)&&decide (y32.toNat<(p1.length:Int).toNat))<|
     ((y33.set y32.toNat (w64 ((w64 (p0 * x39)).tdiv y3)))[y32.toNat]?).bind fun x48=>
     Qds N p0 p1 y3 k8 n37 (w64 (y31 - x48)) (w64 (y32+1)) (y33.set y32.toNat (w64 ((w64 (p0 * x39)).tdiv y3)))
    else
     k8 (y31,y33)
def Qdr (N:Nat) (p1:(List Int)) (k4:Int→Option (List Int)):Nat→Int→Int→Option (List Int)
  | 0,_,_=>none
  | n54+1,y50,y51=>
    bif (decide (y50<(p1.length:Int))) then
     (getI p1 y50).bind fun x56=>
     Qdr N p1 k4 n54 (w64 (y50+1)) (w64 (y51+x56))
    else
     k4 (y51)
def Qh9 (N:Nat) (p0:Int) (p1:(List Int)):Option (List Int):=
  Qbf (fun y3=>
    chk (decide (0≤(p1.length:Int))&&decide (8 * (p1.length:Int)≤281474976710656)&&decide ((p1.length:Int)≤9223372036854775807))<|
    Qbf (fun ⟨y6,y7⟩=>
      Qbf (fun y9=>
        chk (decide ((p1.length:Int).toNat≤y9.length))<|
        some (y9.take ((p1.length:Int).toNat))) fun k10:(List Int)→Option (List Int)=>
      (Qfj N p1 p0 y3).bind fun x13=>
      chk (decide (0≤0)&&decide (0≤y6)&&decide (y6≤(x13.length:Int)))<|
      Qdt N p1 y6 k10 x13 N 0 y7) fun k8:Int×(List Int)→Option (List Int)=>
    Qds N p0 p1 y3 k8 N p0 0 (List.replicate (p1.length:Int).toNat 0)) fun k4:Int→Option (List Int)=>
  Qdr N p1 k4 N 0 0
def Qiy (p1:(List Int)):AV:=.dat 1 ((p1:List Int).map Qak)
def Zlr (p1:(List Int)):Slot:=.own 1 ((List.replicate (p1.length:Int).toNat 0:List Int).map Qak)
def Q8u (y7:(List Int)):Slot:=.own 1 ((y7:List Int).map Qak)
def Q33 (y9:(List Int)) (p1:(List Int)):AV:=.dat 1 ((y9.take ((p1.length:Int).toNat):List Int).map Qak)
def Q8v:AV:=.fn (.func 159) [] [(.ref 0 1 (0) 0),(.ref 1 1 (0) 0)]
def Q8t (x13:(List Int)):AV:=.dat 1 ((x13:List Int).map Qak)
def Qsq (x13:(List Int)) (y6:Int):AV:=.dat 1 (((x13).take (y6.toNat - 0):List Int).map Qak)
def Qvg (y16:(List Int)):Slot:=.own 1 ((y16:List Int).map Qak)
def Q32 (y33:(List Int)):Slot:=.own 1 ((y33:List Int).map Qak)
def Q31 (y33:(List Int)) (y32:Int) (p0:Int) (x39:Int) (y3:Int):Slot:=.own 1 ((y33.set y32.toNat (w64 ((w64 (p0 * x39)).tdiv y3)):List Int).map Qak)
theorem Qr5 (N:Nat) (p0:Int) (p1:(List Int)) (r:(List Int)) (h:Qh9 N p0 p1=some r):Spec Tryz.prog 153 [(I p0),(.dat 1 (p1.map Qak))] [] (.dat 1 ((r:List Int).map Qak)) []:=by
  refine Qai Tryz.func153 rfl 0 (nle rfl) (fun X φ0 w0 hφ0 hd0=>?_)
  unfold Qh9 at h
  refine Qb2 ?_
  refine wxz ?_
  refine wxz ?_
  obtain ⟨k4,hk_k4,h⟩:=jko h
  refine wjn (τ:=Int) (fun t=>k4 t=some r) (fun y3=>⟨mk 68 [(1,(Qiy p1)),(2,.ref 0 1 0 0),(5,.ref 1 1 0 0)],[(.own 1 [[I p0]]),(.own 1 [[I y3]])]⟩) (fun y3 h=>?_) ?_
  ·subst hk_k4
   obtain ⟨hm5,h⟩:=cko h
   refine wxd tbk [(1,rp [(.tmp 24,(Qiy p1))] (I ((p1.length:Int)))),(2,⟨[(.tmp 25,(I ((p1.length:Int)))),(.tmp 25,(I ((p1.length:Int))))],[(2,.unused)],(.own 2 1 (0) ((p1.length:Int).toNat)),[(2,(Zlr p1))],false⟩)] ⟨alm (c:=Qak) (l:=p1) (aln rfl Tryz.underlying27 rfl),Ql0 rfl Tryz.underlying27 te3 tz3 rfl (Q0u hm5) rfl (Q0t hm5) (Q0s hm5) (Qw7 Qak rfl),trivial⟩ ?_
   obtain ⟨k8,hk_k8,h⟩:=jko h
   refine wjn (τ:=Int×(List Int)) (fun t=>k8 t=some r) (fun ⟨y6,y7⟩=>⟨mk 68 [(1,(Qiy p1)),(2,.ref 0 1 0 0),(5,.ref 1 1 0 0),(8,(.own 2 1 (0) ((p1.length:Int).toNat))),(9,I y6)],[(.own 1 [[I p0]]),(.own 1 [[I y3]]),(Q8u y7)]⟩) (fun t h=>?_) ?_
   ·subst hk_k8
    obtain ⟨y6,y7⟩:=t
    obtain ⟨k10,hk_k10,h⟩:=jko h
    refine wjn (τ:=(List Int)) (fun t=>k10 t=some r) (fun y9=>⟨mk 68 [(8,(.own 0 1 (0) ((p1.length:Int).toNat)))],[(.own 1 ((y9:List Int).map Qak))]⟩) (fun y9 h=>?_) ?_
    ·subst hk_k10
     refine wxz ?_
     obtain ⟨hz11,h⟩:=cko h
     refine wmr (Zaf (n:=68) (l':=[(4,(Q33 y9 p1))]) 0 [(4,(.own 0 1 (0) ((p1.length:Int).toNat)))] (by kernel_rfl) (by kernel_rfl) (by kernel_rfl) ⟨rfl,(Qra hz11),trivial⟩ rfl) ?_
     refine wmr (mto (n:=68) (l':=[(4,(Q33 y9 p1))]) (own':=[]) [(4,(Q33 y9 p1))] [] [] hφ0 (pc (rnd Qae) pn) qn) ?_
     refine Qag ?_
     obtain rfl:=osi h
     exact ⟨_,Mor.rfl,Qda (vs:=[(Q33 y9 p1)]) ⟨rot,trivial⟩ rfl (nld Qae _) (by kernel_rfl) Qbz⟩
    ·skip
     obtain ⟨x13,hf12,h⟩:=bno h
     obtain ⟨hs14,h⟩:=cko h
     refine wx tbk [(1,rp [(.tmp 2,.ref 0 1 0 0),(.tmp 5,.ref 1 1 0 0)] Q8v),(2,⟨[fu 158,(.tmp 50,(Qiy p1)),(.tmp 51,Q8v)],[(0,.own 1 [[I p0]]),(1,.own 1 [[I y3]])],(Q8t x13),[(0,.own 1 [[I p0]]),(1,.own 1 [[I y3]])],false⟩),(4,rp [(.tmp 52,(Q8t x13)),(.tmp 53,I y6)] (Qsq x13 y6)),(5,rp [(.tmp 54,(Qsq x13 y6))] (I ((((x13).take (y6.toNat - 0)).length:Int))))] ⟨Qfz (fs:=[]) (cs:=[.ref 0 1 0 0,.ref 1 1 0 0]) rfl rfl rfl rfl,Qau (first:=[]) (cap:=[]) (vs:=[(Qiy p1),Q8v]) (σr:=[(.own 1 [[I p0]]),(.own 1 [[I y3]])]) (σr':=[(.own 1 [[I p0]]),(.own 1 [[I y3]])]) (res':=(Q8t x13)) [0,1] rfl Zeb (Qmr N p1 p0 y3 _ hf12) rfl (Qbx (rnc (pld Qae) (rnc (Qbr rn0 (rnc (Qbo rfl) (rnc (Qbo rfl) rn0))) rn0))) (slc (Qar (rnc (.plain _ nll) rn0)) (slc (Qar (rnc (.plain _ nll) rn0)) Qat)) (slc (Qar (rnc (.plain _ nll) rn0)) (slc (Qar (rnc (.plain _ nll) rn0)) Qat)) (pld Qae) rfl rfl rfl,Qnl (k:=.i64) (k':=.i64) (lo:=none) (hi:=some (.tmp 53)) (l:=0) (hh:=y6) rfl Tryz.underlying27 ti3 rfl (fun _=>rfl) (fun e=>nomatch e) (Q0u hs14) (Q0t hs14) (Zk8 (Qak) hs14) (Znl Qak),alm (c:=Qak) (l:=(x13).take (y6.toNat - 0)) (aln rfl Tryz.underlying27 rfl),trivial⟩ ?_
     refine Qam ?_
     refine wmr (mto (n:=68) (l':=[(8,(.own 0 1 (0) ((p1.length:Int).toNat))),(54,(Qsq x13 y6)),(55,(I ((((x13).take (y6.toNat - 0)).length:Int)))),(56,I 0)]) (own':=[(Q8u y7)]) [(8,(.own 2 1 (0) ((p1.length:Int).toNat))),(54,(Qsq x13 y6)),(55,(I ((((x13).take (y6.toNat - 0)).length:Int)))),(56,I 0)] [2] [(Q8u y7)] hφ0 (pc (.rn (Qa4 rfl)) (pc (rnd Qae) (pc rwl (pc rwl pn)))) (qc (spr Qae) qn)) ?_
     refine Qbw (τ:=Int×(List Int)) (fun n t=>Qdt N p1 y6 k10 x13 n t.1 t.2=some r) (fun ⟨y15,y16⟩=>⟨mk 68 [(8,(.own 0 1 (0) ((p1.length:Int).toNat))),(54,(Qsq x13 y6)),(55,(I ((((x13).take (y6.toNat - 0)).length:Int)))),(56,I y15)],[(Qvg y16)]⟩) (fun t h=>by rw [Qdt] at h; cases h) (fun n19 ih t h=>?_) N (0,y7) h
     obtain ⟨y15,y16⟩:=t
     rw [Qdt] at h
     skip
     refine wxz ?_
     refine wsq ?_
     refine bfe h (fun hc20 h=>?_) fun hc20 h=>?_
     ·refine wft hc20 ?_
      refine Qan ?_
      refine thn ?_
      refine wsq ?_
      refine Qam ?_
      obtain ⟨x21,hg22,h⟩:=bno h
      obtain ⟨hi23,hj24⟩:=gsm hg22
      refine wx tbk [(0,rp [(.tmp 54,(Qsq x13 y6)),(.tmp 56,I y15)] (.dptr (Qak (x21)) 0))] ⟨aid rfl Tryz.underlying27 ti3 rfl rfl hi23 (mgt Qak hj24) rfl,trivial⟩ ?_
      obtain ⟨hi25,h⟩:=cko h
      obtain ⟨hi25a,hi25b⟩:=Qdv hi25
      obtain ⟨x26,hg27,h⟩:=bno h
      obtain ⟨hi28,h⟩:=cko h
      obtain ⟨hi28a,hi28b⟩:=Qdv hi28
      obtain ⟨x29,hg30,h⟩:=bno h
      refine wx1 tbk [(2,rb [(.tmp 60,(.own 0 1 (0) ((p1.length:Int).toNat))),(.tmp 61,I x21)] [(0,(Qvg y16))] (.ref 0 1 (x21.toNat) 0)),(3,rb [(.tmp 62,(.ref 0 1 (x21.toNat) 0))] [(0,(Qvg y16))] (I x26)),(5,rb [(.tmp 60,(.own 0 1 (0) ((p1.length:Int).toNat))),(.tmp 61,I x21)] [(0,(Qvg y16))] (.ref 0 1 (x21.toNat) 0)),(6,⟨[(.tmp 65,(.ref 0 1 (x21.toNat) 0)),(.tmp 64,(I (w64 (x26+1))))],[(0,(Qvg y16))],.any,[(0,(.own 1 ((y16.set x21.toNat (w64 (x26+1)):List Int).map Qak)))],false⟩)] ⟨aio rfl Tryz.underlying27 ti3 (odt hi25a) (odt hi25b) (Nat.zero_add _),ald rfl ti3 (by decide) (mgt Qak hg27) (nle rfl) rfl,aio rfl Tryz.underlying27 ti3 (odt hi28a) (odt hi28b) (Nat.zero_add _),ast rfl ti3 (by rfl) (mgt Qak hg30) (nle rfl) (Qgn Qak rfl),trivial⟩ ?_
      refine bln ?_
      refine thn ?_
      refine wxz1 ?_
      refine thn ?_
      exact arm (mto (n:=68) [(8,(.own 0 1 (0) ((p1.length:Int).toNat))),(54,(Qsq x13 y6)),(55,(I ((((x13).take (y6.toNat - 0)).length:Int)))),(56,(I (w64 (y15+1))))] [0] [(.own 1 ((y16.set x21.toNat (w64 (x26+1)):List Int).map Qak))] hφ0 (pc (.rn (Qa4 rfl)) (pc (rnd Qae) (pc rwl (pc rwl pn)))) (qc (spr Qae) qn)) (ih (w64 (y15+1),y16.set x21.toNat (w64 (x26+1))) h)
     ·refine wfn hc20 ?_
      refine Qbh ?_
      refine Qax ?_
      refine Qax ?_
      refine Qbg rfl ?_
      refine thn ?_
      exact ⟨(y16),h,(mto (n:=68) [(8,(.own 0 1 (0) ((p1.length:Int).toNat)))] [0] [(Qvg y16)] hφ0 (pc (.rn (Qa4 rfl)) pn) (qc (spr Qae) qn))⟩
   ·skip
    refine wx tbk [(1,rp [(.tmp 28,(Qiy p1))] (I ((p1.length:Int))))] ⟨alm (c:=Qak) (l:=p1) (aln rfl Tryz.underlying27 rfl),trivial⟩ ?_
    refine Qam ?_
    refine wmr (mto (n:=68) (l':=[(1,(Qiy p1)),(2,.ref 0 1 0 0),(5,.ref 1 1 0 0),(8,(.own 2 1 (0) ((p1.length:Int).toNat))),(9,I p0),(28,(Qiy p1)),(29,(I ((p1.length:Int)))),(30,I 0)]) (own':=[(.own 1 [[I p0]]),(.own 1 [[I y3]]),(.own 1 (((List.replicate (p1.length:Int).toNat 0):List Int).map Qak))]) [(1,(Qiy p1)),(2,.ref 0 1 0 0),(5,.ref 1 1 0 0),(8,(.own 2 1 (0) ((p1.length:Int).toNat))),(9,I p0),(28,(Qiy p1)),(29,(I ((p1.length:Int)))),(30,I 0)] [0,1,2] [(.own 1 [[I p0]]),(.own 1 [[I y3]]),(Zlr p1)] hφ0 (pc (rnd Qae) (pc (.rn (rqr rfl)) (pc (.rn (rqr rfl)) (pc (.rn (Qa4 rfl)) (pc rwl (pc (rnd Qae) (pc rwl (pc rwl pn)))))))) (qc (spb (lc rwl ln)) (qc (spb (lc rwl ln)) (qc (spr Qae) qn)))) ?_
    refine Qbw (τ:=Int×Int×(List Int)) (fun n t=>Qds N p0 p1 y3 k8 n t.1 t.2.1 t.2.2=some r) (fun ⟨y31,y32,y33⟩=>⟨mk 68 [(1,(Qiy p1)),(2,.ref 0 1 0 0),(5,.ref 1 1 0 0),(8,(.own 2 1 (0) ((p1.length:Int).toNat))),(9,I y31),(28,(Qiy p1)),(29,(I ((p1.length:Int)))),(30,I y32)],[(.own 1 [[I p0]]),(.own 1 [[I y3]]),(Q32 y33)]⟩) (fun t h=>by rw [Qds] at h; cases h) (fun n37 ih t h=>?_) N (p0,0,List.replicate (p1.length:Int).toNat 0) h
    obtain ⟨y31,y32,y33⟩:=t
    rw [Qds] at h
    skip
    refine wxz ?_
    refine wsq ?_
    refine bfe h (fun hc38 h=>?_) fun hc38 h=>?_
    ·refine wft hc38 ?_
     refine Qan ?_
     refine thn ?_
     refine wsq ?_
     refine Qam ?_
     obtain ⟨x39,hg40,h⟩:=bno h
     obtain ⟨hi41,hj42⟩:=gsm hg40
     refine wx tbk [(1,rp [(.tmp 28,(Qiy p1)),(.tmp 30,I y32)] (.dptr (Qak (x39)) 0))] ⟨aid rfl Tryz.underlying27 ti3 rfl rfl hi41 (mgt Qak hj42) rfl,trivial⟩ ?_
     obtain ⟨hz43,h⟩:=cko h
     obtain ⟨hi44,h⟩:=cko h
     obtain ⟨hi44a,hi44b⟩:=Qdv hi44
     obtain ⟨x45,hg46,h⟩:=bno h
     refine wx tbk [(6,rp [(.tmp 39,(I (w64 (p0 * x39)))),(.tmp 40,I y3)] (I (w64 ((w64 (p0 * x39)).tdiv y3)))),(7,rb [(.tmp 35,(.own 2 1 (0) ((p1.length:Int).toNat))),(.tmp 36,I y32)] [(2,(Q32 y33))] (.ref 2 1 (y32.toNat) 0)),(8,⟨[(.tmp 42,(.ref 2 1 (y32.toNat) 0)),(.tmp 41,(I (w64 ((w64 (p0 * x39)).tdiv y3))))],[(2,(Q32 y33))],.any,[(2,(Q31 y33 y32 p0 x39 y3))],false⟩)] ⟨Qjx rfl (Qk0 hz43),aio rfl Tryz.underlying27 ti3 (odt hi44a) (odt hi44b) (Nat.zero_add _),ast rfl ti3 (by rfl) (mgt Qak hg46) (nle rfl) (Qgn Qak rfl),trivial⟩ ?_
     obtain ⟨hi47,h⟩:=cko h
     obtain ⟨hi47a,hi47b⟩:=Qdv hi47
     obtain ⟨x48,hg49,h⟩:=bno h
     refine wx1 tbk [(3,rb [(.tmp 44,(.own 2 1 (0) ((p1.length:Int).toNat))),(.tmp 45,I y32)] [(2,(Q31 y33 y32 p0 x39 y3))] (.ref 2 1 (y32.toNat) 0)),(4,rb [(.tmp 46,(.ref 2 1 (y32.toNat) 0))] [(2,(Q31 y33 y32 p0 x39 y3))] (I x48))] ⟨aio rfl Tryz.underlying27 ti3 (odt hi47a) (odt hi47b) (Nat.zero_add _),ald rfl ti3 (by decide) (mgt Qak hg49) (nle rfl) rfl,trivial⟩ ?_
     refine bln ?_
     refine thn ?_
     refine wxz1 ?_
     refine thn ?_
     exact arm (mto (n:=68) [(1,(Qiy p1)),(2,.ref 0 1 0 0),(5,.ref 1 1 0 0),(8,(.own 2 1 (0) ((p1.length:Int).toNat))),(9,(I (w64 (y31 - x48)))),(28,(Qiy p1)),(29,(I ((p1.length:Int)))),(30,(I (w64 (y32+1))))] [0,1,2] [(.own 1 [[I p0]]),(.own 1 [[I y3]]),(Q31 y33 y32 p0 x39 y3)] hφ0 (pc (rnd Qae) (pc (.rn (rqr rfl)) (pc (.rn (rqr rfl)) (pc (.rn (Qa4 rfl)) (pc rwl (pc (rnd Qae) (pc rwl (pc rwl pn)))))))) (qc (spb (lc rwl ln)) (qc (spb (lc rwl ln)) (qc (spr Qae) qn)))) (ih (w64 (y31 - x48),w64 (y32+1),y33.set y32.toNat (w64 ((w64 (p0 * x39)).tdiv y3))) h)
    ·refine wfn hc38 ?_
     refine Qbh ?_
     refine Qax ?_
     refine Qax ?_
     refine Qbg rfl ?_
     refine thn ?_
     exact ⟨(y31,y33),h,(mto (n:=68) [(1,(Qiy p1)),(2,.ref 0 1 0 0),(5,.ref 1 1 0 0),(8,(.own 2 1 (0) ((p1.length:Int).toNat))),(9,I y31)] [0,1,2] [(.own 1 [[I p0]]),(.own 1 [[I y3]]),(Q32 y33)] hφ0 (pc (rnd Qae) (pc (.rn (rqr rfl)) (pc (.rn (rqr rfl)) (pc (.rn (Qa4 rfl)) (pc rwl pn))))) (qc (spb (lc rwl ln)) (qc (spb (lc rwl ln)) (qc (spr Qae) qn))))⟩
  ·skip
   refine wx tbk [(1,rp [(.tmp 14,(Qiy p1))] (I ((p1.length:Int))))] ⟨alm (c:=Qak) (l:=p1) (aln rfl Tryz.underlying27 rfl),trivial⟩ ?_
   refine Qam ?_
   refine wmr (mto (n:=68) (l':=[(1,(Qiy p1)),(2,.ref 0 1 0 0),(5,.ref 1 1 0 0),(14,(Qiy p1)),(15,(I ((p1.length:Int)))),(16,I 0)]) (own':=[(.own 1 [[I p0]]),(.own 1 [[I 0]])]) [(1,(Qiy p1)),(2,.ref 0 1 0 0),(5,.ref 1 1 0 0),(14,(Qiy p1)),(15,(I ((p1.length:Int)))),(16,I 0)] [0,1] [(.own 1 [[I p0]]),(.own 1 [[I 0]])] hφ0 (pc (rnd Qae) (pc (.rn (rqr rfl)) (pc (.rn (rqr rfl)) (pc (rnd Qae) (pc rwl (pc rwl pn)))))) (qc (spb (lc rwl ln)) (qc (spb (lc rwl ln)) qn))) ?_
   refine Qbw (τ:=Int×Int) (fun n t=>Qdr N p1 k4 n t.1 t.2=some r) (fun ⟨y50,y51⟩=>⟨mk 68 [(1,(Qiy p1)),(2,.ref 0 1 0 0),(5,.ref 1 1 0 0),(14,(Qiy p1)),(15,(I ((p1.length:Int)))),(16,I y50)],[(.own 1 [[I p0]]),(.own 1 [[I y51]])]⟩) (fun t h=>by rw [Qdr] at h; cases h) (fun n54 ih t h=>?_) N (0,0) h
   obtain ⟨y50,y51⟩:=t
   rw [Qdr] at h
   skip
   refine wxz ?_
   refine wsq ?_
   refine bfe h (fun hc55 h=>?_) fun hc55 h=>?_
   ·refine wft hc55 ?_
    refine Qan ?_
    refine thn ?_
    refine wsq ?_
    refine Qam ?_
    obtain ⟨x56,hg57,h⟩:=bno h
    obtain ⟨hi58,hj59⟩:=gsm hg57
    refine wx tbk [(0,rp [(.tmp 14,(Qiy p1)),(.tmp 16,I y50)] (.dptr (Qak (x56)) 0))] ⟨aid rfl Tryz.underlying27 ti3 rfl rfl hi58 (mgt Qak hj59) rfl,trivial⟩ ?_
    refine wxz1 ?_
    refine bln ?_
    refine thn ?_
    refine wxz1 ?_
    refine thn ?_
    exact arm (mto (n:=68) [(1,(Qiy p1)),(2,.ref 0 1 0 0),(5,.ref 1 1 0 0),(14,(Qiy p1)),(15,(I ((p1.length:Int)))),(16,(I (w64 (y50+1))))] [0,1] [(.own 1 [[I p0]]),(.own 1 [[(I (w64 (y51+x56)))]])] hφ0 (pc (rnd Qae) (pc (.rn (rqr rfl)) (pc (.rn (rqr rfl)) (pc (rnd Qae) (pc rwl (pc rwl pn)))))) (qc (spb (lc rwl ln)) (qc (spb (lc rwl ln)) qn))) (ih (w64 (y50+1),w64 (y51+x56)) h)
   ·refine wfn hc55 ?_
    refine Qbh ?_
    refine Qax ?_
    refine Qax ?_
    refine Qbg rfl ?_
    refine thn ?_
    exact ⟨(y51),h,(mto (n:=68) [(1,(Qiy p1)),(2,.ref 0 1 0 0),(5,.ref 1 1 0 0)] [0,1] [(.own 1 [[I p0]]),(.own 1 [[I y51]])] hφ0 (pc (rnd Qae) (pc (.rn (rqr rfl)) (pc (.rn (rqr rfl)) pn))) (qc (spb (lc rwl ln)) (qc (spb (lc rwl ln)) qn)))⟩
def Qe5 (_N:Nat) (p0:Int) (p1:Int) (p2:Int) (_p3:Int) (_p4:Int) (_p5:Int):Option Int:=
  chk ((if p2>1 then p2 else 1) != 0)<|
  (some (w64 ((w64 (p0 * p1)).tdiv (if p2>1 then p2 else 1)))).bind fun x2=>
  some x2
theorem Qhw (N:Nat) (p0:Int) (p1:Int) (p2:Int) (p3:Int) (p4:Int) (p5:Int) (r:Int) (h:Qe5 N p0 p1 p2 p3 p4 p5=some r):Spec Tryz.prog 154 [(I (p0)),(.dptr [(I (p1))] 0),(.dptr [(I (p2)),(I (p3)),(I (p4)),(I (p5))] 0)] [] (I (r)) []:=by
  refine Qai Tryz.func154 rfl 0 (nle rfl) (fun X φ0 w0 hφ0 hd0=>?_)
  unfold Qe5 at h
  refine wxz ?_
  obtain ⟨hz1,h⟩:=cko h
  obtain ⟨x2,hl3,h⟩:=bno h
  refine wx tbk [(5,rp [ci 1,(.tmp 9,I p2)] (I ((if p2>1 then p2 else 1)))),(6,rp [(.tmp 7,(I (w64 (p0 * p1)))),(.tmp 10,(I ((if p2>1 then p2 else 1))))] (I (w64 ((w64 (p0 * p1)).tdiv (if p2>1 then p2 else 1))))),(7,rp [(.tmp 11,(I (w64 ((w64 (p0 * p1)).tdiv (if p2>1 then p2 else 1)))))] (I x2))] ⟨Qlz rfl,Qjx rfl (Qk0 hz1),Qgy hl3 (aas rfl),trivial⟩ ?_
  refine Qag ?_
  obtain rfl:=osi h
  exact fend ⟨[I x2],⟨rot,trivial⟩,rfl⟩ nll
def Qcn (_N:Nat) (_p0:Int) (_p1:Int) (_p2:Int) (_p3:Int):Option Unit:=
  some ()
def Qyd (p0:Int) (p1:Int) (p2:Int) (p3:Int):Slot:=.own 4 [[(I (p0)),(I (p1)),(I (p2)),(I (p3))]]
def Zh4:AV:=.agg [(.ref 0 4 (0) 0),(.ref 0 4 (0) 1),(.ref 0 4 (0) 2),(.ref 0 4 (0) 3)]
def Zh3:Slot:=.own 4 [[(.ref 0 4 (0) 0),(.ref 0 4 (0) 1),(.ref 0 4 (0) 2),(.ref 0 4 (0) 3)]]
theorem Qdd (N:Nat) (p0:Int) (p1:Int) (p2:Int) (p3:Int) (r:Unit) (h:Qcn N p0 p1 p2 p3=some r):Spec Tryz.prog 161 [(.ref 0 4 (0) 0)] [(Qyd p0 p1 p2 p3)] Zh4 [(Qyd p0 p1 p2 p3),Zh3]:=by
  refine Qai Tryz.func161 rfl 2 (nle rfl) (fun X φ0 w0 hφ0 hd0=>?_)
  unfold Qcn at h
  refine Qb2 ?_
  refine wxz ?_
  refine wxd tbk [(1,rb [(.tmp 3,.ref 0 4 0 0)] [(0,(Qyd p0 p1 p2 p3))] (.ref 0 4 0 0)),(4,rb [(.tmp 6,.ref 0 4 0 0)] [(0,(Qyd p0 p1 p2 p3))] (.ref 0 4 0 0)),(7,rb [(.tmp 9,.ref 0 4 0 0)] [(0,(Qyd p0 p1 p2 p3))] (.ref 0 4 0 0)),(10,rb [(.tmp 12,.ref 0 4 0 0)] [(0,(Qyd p0 p1 p2 p3))] (.ref 0 4 0 0)),(12,rp [(.tmp 5,.ref 0 4 0 0),(.tmp 8,.ref 0 4 0 1),(.tmp 11,.ref 0 4 0 2),(.tmp 14,.ref 0 4 0 3)] Zh4)] ⟨Qbi rfl,Qbi rfl,Qbi rfl,Qbi rfl,Qrw (vs:=[.ref 0 4 0 0,.ref 0 4 0 1,.ref 0 4 0 2,.ref 0 4 0 3]) rfl Tryz.underlying235 Qu0 Zl3 rfl (by rfl) rfl,trivial⟩ ?_
  refine wmr (mto (n:=16) (l':=[(2,.ref 1 4 0 0)]) (own':=[(Qyd p0 p1 p2 p3),Zh3]) [(2,.ref 1 4 0 0)] [0,1] [(Qyd p0 p1 p2 p3),Zh3] hφ0 (pc (.rn (rqr rfl)) pn) (qc (spb (lcc (lcc ln))) (qc (spb (lc (.rn (rqr rfl)) (lc (.rn (rqr rfl)) (lc (.rn (rqr rfl)) (lc (.rn (rqr rfl)) ln))))) qn))) ?_
  refine Qag ?_
  obtain rfl:=osi h
  exact ⟨_,Mor.rfl,Qda (vs:=[Zh4]) ⟨Qbv (n:=1) (m:=4) (j:=0) (i:=0) (xs:=[[.ref 0 4 0 0,.ref 0 4 0 1,.ref 0 4 0 2,.ref 0 4 0 3]]) (by kernel_rfl) (by kernel_rfl) Zl9 (by decide) rfl (nle rfl) rfl,trivial⟩ rfl (NLt.agg _ (nlc (NLt.ref _ _ _ _ (by decide)) (nlc (NLt.ref _ _ _ _ (by decide)) (nlc (NLt.ref _ _ _ _ (by decide)) (nlc (NLt.ref _ _ _ _ (by decide)) nl0))))) (by kernel_rfl) (Qap (Qbj (nlc (NLt.of0 nll) (nlc (NLt.of0 nll) (nlc (NLt.of0 nll) (nlc (NLt.of0 nll) nl0))))) (Qap (Qbj (nlc (NLt.ref _ _ _ _ (by decide)) (nlc (NLt.ref _ _ _ _ (by decide)) (nlc (NLt.ref _ _ _ _ (by decide)) (nlc (NLt.ref _ _ _ _ (by decide)) nl0))))) Qbz))⟩
def Qi4 (N:Nat) (p0:GStream) (p1:Int) (p2:Int) (p3:Int) (p4:Int):Option Unit:=
  (Qcn N p0.Mass p0.Heat p0.Silica p0.Gas).bind fun _=>
  (Qcn N p1 p2 p3 p4).bind fun _=>
  (Qcn N (w64 (p1+p0.Mass)) p2 p3 p4).bind fun _=>
  (Qcn N (w64 (p1+p0.Mass)) (w64 (p2+p0.Heat)) p3 p4).bind fun _=>
  (Qcn N (w64 (p1+p0.Mass)) (w64 (p2+p0.Heat)) (w64 (p3+p0.Silica)) p4).bind fun _=>
  some ()
def Q09 (p1:Int) (p2:Int) (p3:Int) (p4:Int):Slot:=.own 4 [[(I (p1)),(I (p2)),(I (p3)),(I (p4))]]
def Q8q (p1:Int) (p0:GStream) (p2:Int) (p3:Int) (p4:Int):Slot:=.own 4 [[(I (w64 (p1+p0.Mass))),(I (w64 (p2+p0.Heat))),(I (w64 (p3+p0.Silica))),(I (w64 (p4+p0.Gas)))]]
def Qyf (p0:GStream):Slot:=.own 4 [[(I (p0.Mass)),(I (p0.Heat)),(I (p0.Silica)),(I (p0.Gas))]]
def Q50:AV:=.agg [(.ref 1 4 (0) 0),(.ref 1 4 (0) 1),(.ref 1 4 (0) 2),(.ref 1 4 (0) 3)]
def Zlo:Slot:=.own 4 [[(.ref 1 4 (0) 0),(.ref 1 4 (0) 1),(.ref 1 4 (0) 2),(.ref 1 4 (0) 3)]]
def Qrz:AV:=.agg [(.ref 0 4 (0) 0),(.ref 0 4 (0) 1),(.ref 0 4 (0) 2),(.ref 0 4 (0) 3)]
def Qye:Slot:=.own 4 [[(.ref 0 4 (0) 0),(.ref 0 4 (0) 1),(.ref 0 4 (0) 2),(.ref 0 4 (0) 3)]]
def Q5z (p1:Int) (p0:GStream) (p2:Int) (p3:Int) (p4:Int):Slot:=.own 4 [[(I (w64 (p1+p0.Mass))),(I (p2)),(I (p3)),(I (p4))]]
def Q5y (p1:Int) (p0:GStream) (p2:Int) (p3:Int) (p4:Int):Slot:=.own 4 [[(I (w64 (p1+p0.Mass))),(I (w64 (p2+p0.Heat))),(I (p3)),(I (p4))]]
def Q5x (p1:Int) (p0:GStream) (p2:Int) (p3:Int) (p4:Int):Slot:=.own 4 [[(I (w64 (p1+p0.Mass))),(I (w64 (p2+p0.Heat))),(I (w64 (p3+p0.Silica))),(I (p4))]]
theorem Qqt (N:Nat) (p0:GStream) (p1:Int) (p2:Int) (p3:Int) (p4:Int) (r:Unit) (h:Qi4 N p0 p1 p2 p3 p4=some r):Spec Tryz.prog 160 [(.agg [(I (p0.Mass)),(I (p0.Heat)),(I (p0.Silica)),(I (p0.Gas))]),(.ref 0 4 (0) 0)] [(Q09 p1 p2 p3 p4)] (.tup []) [(Q8q p1 p0 p2 p3 p4)]:=by
  refine Qai Tryz.func160 rfl 1 (nle rfl) (fun X φ0 w0 hφ0 hd0=>?_)
  unfold Qi4 at h
  refine Qb2 ?_
  refine wxz ?_
  obtain ⟨x2,hf1,h⟩:=bno h
  refine wx tbk [(0,⟨[fu 161,(.tmp 2,.ref 1 4 0 0)],[(1,(Qyf p0)),(2,.unused)],Q50,[(1,(Qyf p0)),(2,Zlo)],false⟩)] ⟨Qau (first:=[]) (cap:=[]) (vs:=[.ref 1 4 0 0]) (σr:=[(Qyf p0)]) (σr':=[(Qyf p0),Zlo]) (res':=Q50) [1,2] rfl Qp5 (Qdd N p0.Mass p0.Heat p0.Silica p0.Gas _ hf1) rfl (Qbx (rnc (Qbo rfl) rn0)) (slc (Qar (rncc (rncc rn0))) Qat) (slc (Qar (rncc (rncc rn0))) (slc (Qar (rnc (Qbt rfl) (rnc (Qbt rfl) (rnc (Qbt rfl) (rnc (Qbt rfl) rn0))))) Qat)) (Qbx (rnc (Qbt rfl) (rnc (Qbt rfl) (rnc (Qbt rfl) (rnc (Qbt rfl) rn0))))) rfl rfl rfl,trivial⟩ ?_
  refine Qam ?_
  refine Q5d 17 ?_
  refine Qwd ?_
  refine wxz ?_
  refine wsq ?_
  refine wtr ?_
  refine Qan ?_
  refine thn ?_
  refine wsq ?_
  refine Qam ?_
  refine wx tbk [(1,rp [(.tmp 5,Q50),(.tmp 6,I 0)] (.ref 1 4 0 0))] ⟨Qhc rfl Tryz.underlying235 Qu0 (by decide) (by decide) (nle rfl) (by decide) rfl,trivial⟩ ?_
  obtain ⟨x4,hf3,h⟩:=bno h
  refine wy1 tbk [(0,⟨[fu 161,(.tmp 1,.ref 0 4 0 0)],[(0,(Q09 p1 p2 p3 p4)),(3,.unused)],Qrz,[(0,(Q09 p1 p2 p3 p4)),(3,Qye)],false⟩),(2,rp [(.tmp 10,Qrz),(.tmp 11,I 0)] (.ref 0 4 0 0)),(3,rb [(.tmp 12,.ref 0 4 0 0)] [(0,(Q09 p1 p2 p3 p4))] (.ref 0 4 0 0)),(6,rb [(.tmp 15,.ref 1 4 0 0)] [(1,(Qyf p0))] (.ref 1 4 0 0)),(9,rb [(.tmp 12,.ref 0 4 0 0)] [(0,(Q09 p1 p2 p3 p4))] (.ref 0 4 0 0))] ⟨Qau (first:=[]) (cap:=[]) (vs:=[.ref 0 4 0 0]) (σr:=[(Q09 p1 p2 p3 p4)]) (σr':=[(Q09 p1 p2 p3 p4),Qye]) (res':=Qrz) [0,3] rfl Qp5 (Qdd N p1 p2 p3 p4 _ hf3) rfl (Qbx (rnc (Qbo rfl) rn0)) (slc (Qar (rncc (rncc rn0))) Qat) (slc (Qar (rncc (rncc rn0))) (slc (Qar (rnc (Qbt rfl) (rnc (Qbt rfl) (rnc (Qbt rfl) (rnc (Qbt rfl) rn0))))) Qat)) (Qbx (rnc (Qbt rfl) (rnc (Qbt rfl) (rnc (Qbt rfl) (rnc (Qbt rfl) rn0))))) rfl rfl rfl,Qhc rfl Tryz.underlying235 Qu0 (by decide) (by decide) (nle rfl) (by decide) rfl,Qbi rfl,Qbi rfl,Qbi rfl,trivial⟩ ?_
  refine bln ?_
  refine thn ?_
  refine wxz1 ?_
  refine thn ?_
  refine Qwd ?_
  refine wxz ?_
  refine wsq ?_
  refine wtr ?_
  refine Qan ?_
  refine thn ?_
  refine wsq ?_
  refine Qam ?_
  refine wx tbk [(1,rp [(.tmp 5,Q50),(.tmp 6,I 1)] (.ref 1 4 0 1))] ⟨Qhc rfl Tryz.underlying235 Qu0 (by decide) (by decide) (nle rfl) (by decide) rfl,trivial⟩ ?_
  obtain ⟨x6,hf5,h⟩:=bno h
  refine wy1 tbk [(0,⟨[fu 161,(.tmp 1,.ref 0 4 0 0)],[(0,(Q5z p1 p0 p2 p3 p4)),(4,.unused)],Qrz,[(0,(Q5z p1 p0 p2 p3 p4)),(4,Qye)],false⟩),(2,rp [(.tmp 10,Qrz),(.tmp 11,I 1)] (.ref 0 4 0 1)),(3,rb [(.tmp 12,.ref 0 4 0 1)] [(0,(Q5z p1 p0 p2 p3 p4))] (.ref 0 4 0 1)),(6,rb [(.tmp 15,.ref 1 4 0 1)] [(1,(Qyf p0))] (.ref 1 4 0 1)),(9,rb [(.tmp 12,.ref 0 4 0 1)] [(0,(Q5z p1 p0 p2 p3 p4))] (.ref 0 4 0 1))] ⟨Qau (first:=[]) (cap:=[]) (vs:=[.ref 0 4 0 0]) (σr:=[(Q5z p1 p0 p2 p3 p4)]) (σr':=[(Q5z p1 p0 p2 p3 p4),Qye]) (res':=Qrz) [0,4] rfl Qp5 (Qdd N (w64 (p1+p0.Mass)) p2 p3 p4 _ hf5) rfl (Qbx (rnc (Qbo rfl) rn0)) (slc (Qar (rncc (rncc rn0))) Qat) (slc (Qar (rncc (rncc rn0))) (slc (Qar (rnc (Qbt rfl) (rnc (Qbt rfl) (rnc (Qbt rfl) (rnc (Qbt rfl) rn0))))) Qat)) (Qbx (rnc (Qbt rfl) (rnc (Qbt rfl) (rnc (Qbt rfl) (rnc (Qbt rfl) rn0))))) rfl rfl rfl,Qhc rfl Tryz.underlying235 Qu0 (by decide) (by decide) (nle rfl) (by decide) rfl,Qbi rfl,Qbi rfl,Qbi rfl,trivial⟩ ?_
  refine bln ?_
  refine thn ?_
  refine wxz1 ?_
  refine thn ?_
  refine Qwd ?_
  refine wxz ?_
  refine wsq ?_
  refine wtr ?_
  refine Qan ?_
  refine thn ?_
  refine wsq ?_
  refine Qam ?_
  refine wx tbk [(1,rp [(.tmp 5,Q50),(.tmp 6,I 2)] (.ref 1 4 0 2))] ⟨Qhc rfl Tryz.underlying235 Qu0 (by decide) (by decide) (nle rfl) (by decide) rfl,trivial⟩ ?_
  obtain ⟨x8,hf7,h⟩:=bno h
  refine wy1 tbk [(0,⟨[fu 161,(.tmp 1,.ref 0 4 0 0)],[(0,(Q5y p1 p0 p2 p3 p4)),(5,.unused)],Qrz,[(0,(Q5y p1 p0 p2 p3 p4)),(5,Qye)],false⟩),(2,rp [(.tmp 10,Qrz),(.tmp 11,I 2)] (.ref 0 4 0 2)),(3,rb [(.tmp 12,.ref 0 4 0 2)] [(0,(Q5y p1 p0 p2 p3 p4))] (.ref 0 4 0 2)),(6,rb [(.tmp 15,.ref 1 4 0 2)] [(1,(Qyf p0))] (.ref 1 4 0 2)),(9,rb [(.tmp 12,.ref 0 4 0 2)] [(0,(Q5y p1 p0 p2 p3 p4))] (.ref 0 4 0 2))] ⟨Qau (first:=[]) (cap:=[]) (vs:=[.ref 0 4 0 0]) (σr:=[(Q5y p1 p0 p2 p3 p4)]) (σr':=[(Q5y p1 p0 p2 p3 p4),Qye]) (res':=Qrz) [0,5] rfl Qp5 (Qdd N (w64 (p1+p0.Mass)) (w64 (p2+p0.Heat)) p3 p4 _ hf7) rfl (Qbx (rnc (Qbo rfl) rn0)) (slc (Qar (rncc (rncc rn0))) Qat) (slc (Qar (rncc (rncc rn0))) (slc (Qar (rnc (Qbt rfl) (rnc (Qbt rfl) (rnc (Qbt rfl) (rnc (Qbt rfl) rn0))))) Qat)) (Qbx (rnc (Qbt rfl) (rnc (Qbt rfl) (rnc (Qbt rfl) (rnc (Qbt rfl) rn0))))) rfl rfl rfl,Qhc rfl Tryz.underlying235 Qu0 (by decide) (by decide) (nle rfl) (by decide) rfl,Qbi rfl,Qbi rfl,Qbi rfl,trivial⟩ ?_
  refine bln ?_
  refine thn ?_
  refine wxz1 ?_
  refine thn ?_
  refine Qwd ?_
  refine wxz ?_
  refine wsq ?_
  refine wtr ?_
  refine Qan ?_
  refine thn ?_
  refine wsq ?_
  refine Qam ?_
  refine wx tbk [(1,rp [(.tmp 5,Q50),(.tmp 6,I 3)] (.ref 1 4 0 3))] ⟨Qhc rfl Tryz.underlying235 Qu0 (by decide) (by decide) (nle rfl) (by decide) rfl,trivial⟩ ?_
  obtain ⟨x10,hf9,h⟩:=bno h
  refine wy1 tbk [(0,⟨[fu 161,(.tmp 1,.ref 0 4 0 0)],[(0,(Q5x p1 p0 p2 p3 p4)),(6,.unused)],Qrz,[(0,(Q5x p1 p0 p2 p3 p4)),(6,Qye)],false⟩),(2,rp [(.tmp 10,Qrz),(.tmp 11,I 3)] (.ref 0 4 0 3)),(3,rb [(.tmp 12,.ref 0 4 0 3)] [(0,(Q5x p1 p0 p2 p3 p4))] (.ref 0 4 0 3)),(6,rb [(.tmp 15,.ref 1 4 0 3)] [(1,(Qyf p0))] (.ref 1 4 0 3)),(9,rb [(.tmp 12,.ref 0 4 0 3)] [(0,(Q5x p1 p0 p2 p3 p4))] (.ref 0 4 0 3))] ⟨Qau (first:=[]) (cap:=[]) (vs:=[.ref 0 4 0 0]) (σr:=[(Q5x p1 p0 p2 p3 p4)]) (σr':=[(Q5x p1 p0 p2 p3 p4),Qye]) (res':=Qrz) [0,6] rfl Qp5 (Qdd N (w64 (p1+p0.Mass)) (w64 (p2+p0.Heat)) (w64 (p3+p0.Silica)) p4 _ hf9) rfl (Qbx (rnc (Qbo rfl) rn0)) (slc (Qar (rncc (rncc rn0))) Qat) (slc (Qar (rncc (rncc rn0))) (slc (Qar (rnc (Qbt rfl) (rnc (Qbt rfl) (rnc (Qbt rfl) (rnc (Qbt rfl) rn0))))) Qat)) (Qbx (rnc (Qbt rfl) (rnc (Qbt rfl) (rnc (Qbt rfl) (rnc (Qbt rfl) rn0))))) rfl rfl rfl,Qhc rfl Tryz.underlying235 Qu0 (by decide) (by decide) (nle rfl) (by decide) rfl,Qbi rfl,Qbi rfl,Qbi rfl,trivial⟩ ?_
  refine bln ?_
  refine thn ?_
  refine wxz1 ?_
  refine thn ?_
  refine Qwd ?_
  refine wxz ?_
  refine wsq ?_
  refine wfa ?_
  refine Qbh ?_
  refine Qax ?_
  refine Qax ?_
  refine Qbg rfl ?_
  obtain rfl:=osi h
  exact ⟨_,(mto (n:=21) (l':=[]) (own':=[(Q8q p1 p0 p2 p3 p4)]) [] [0] [(Q8q p1 p0 p2 p3 p4)] hφ0 pn (qc (spb (lcc (lcc ln))) qn)),Qda (vs:=[]) trivial rfl (NLt.tup _ nl0) (by kernel_rfl) (Qap (Qbj (nlc (NLt.of0 nll) (nlc (NLt.of0 nll) (nlc (NLt.of0 nll) (nlc (NLt.of0 nll) nl0))))) Qbz)⟩
def Qe4 (N:Nat) (p0:(List GStream)) (k5:Int×Int×Int×Int→Option GStream):Nat→Int→Int→Int→Int→Int→Option GStream
  | 0,_,_,_,_,_=>none
  | n16+1,y6,y7,y8,y9,y10=>
    bif (decide (y6<(p0.length:Int))) then
     (getI p0 y6).bind fun x18=>
     (Qi4 N x18 y7 y8 y9 y10).bind fun _=>
     Qe4 N p0 k5 n16 (w64 (y6+1)) (w64 (y7+x18.Mass)) (w64 (y8+x18.Heat)) (w64 (y9+x18.Silica)) (w64 (y10+x18.Gas))
    else
     k5 (y7,y8,y9,y10)
def Qkf (N:Nat) (p0:(List GStream)):Option GStream:=
  Qbf (fun ⟨y1,y2,y3,y4⟩=>
    some (⟨y1,y2,y3,y4⟩:GStream)) fun k5:Int×Int×Int×Int→Option GStream=>
  Qe4 N p0 k5 N 0 0 0 0 0
def Q52:AV:=.fn (.func 160) [] [(.ref 0 4 (0) 0)]
def Q51 (p0:(List GStream)):AV:=.dat 4 ((p0:List GStream).map Qaa)
def Zlp:Slot:=.own 4 [[(I (0)),(I (0)),(I (0)),(I (0))]]
def Q3x (y7:Int) (y8:Int) (y9:Int) (y10:Int):Slot:=.own 4 [[(I (y7)),(I (y8)),(I (y9)),(I (y10))]]
def Zgh (x18:GStream):AV:=.agg [(I (x18.Mass)),(I (x18.Heat)),(I (x18.Silica)),(I (x18.Gas))]
def Q8r (y7:Int) (x18:GStream) (y8:Int) (y9:Int) (y10:Int):Slot:=.own 4 [[(I (w64 (y7+x18.Mass))),(I (w64 (y8+x18.Heat))),(I (w64 (y9+x18.Silica))),(I (w64 (y10+x18.Gas)))]]
theorem Qw1 (N:Nat) (p0:(List GStream)) (r:GStream) (h:Qkf N p0=some r):Spec Tryz.prog 155 [(.dat 4 (p0.map Qaa))] [] (.agg (Qaa r)) []:=by
  refine Qai Tryz.func155 rfl 0 (nle rfl) (fun X φ0 w0 hφ0 hd0=>?_)
  unfold Qkf at h
  refine wxz ?_
  refine wx tbk [(0,rp [(.tmp 2,.ref 0 4 0 0)] Q52)] ⟨Qfz (fs:=[]) (cs:=[.ref 0 4 0 0]) rfl rfl rfl rfl,trivial⟩ ?_
  obtain ⟨k5,hk_k5,h⟩:=jko h
  refine wjn (τ:=Int×Int×Int×Int) (fun t=>k5 t=some r) (fun ⟨y1,y2,y3,y4⟩=>⟨mk 18 [(2,.ref 0 4 0 0)],[(.own 4 [[I y1,I y2,I y3,I y4]])]⟩) (fun t h=>?_) ?_
  ·subst hk_k5
   obtain ⟨y1,y2,y3,y4⟩:=t
   refine wxz ?_
   refine Qag ?_
   obtain rfl:=osi h
   exact fend ⟨[(.agg [I y1,I y2,I y3,I y4])],⟨Qbv (n:=0) (m:=4) (j:=0) (i:=0) (xs:=[[I y1,I y2,I y3,I y4]]) (by kernel_rfl) (by kernel_rfl) ti63 (by decide) rfl (nle rfl) rfl,trivial⟩,rfl⟩ (NLt.agg _ (nlcc (nlcc nl0)))
  ·skip
   refine wx tbk [(1,rp [(.tmp 7,(Q51 p0))] (I ((p0.length:Int))))] ⟨alm (c:=Qaa) (l:=p0) (aln rfl Tryz.underlying45 rfl),trivial⟩ ?_
   refine Qam ?_
   refine wmr (mto (n:=18) (l':=[(2,.ref 0 4 0 0),(3,Q52),(7,(Q51 p0)),(8,(I ((p0.length:Int)))),(9,I 0)]) (own':=[Zlp]) [(2,.ref 0 4 0 0),(3,Q52),(7,(Q51 p0)),(8,(I ((p0.length:Int)))),(9,I 0)] [0] [Zlp] hφ0 (pc (.rn (rqr rfl)) (pc (.rn (Qbr rn0 (rnc (rqr rfl) rn0))) (pc (rnd Qac) (pc rwl (pc rwl pn))))) (qc (spb (lcc (lcc ln))) qn)) ?_
   refine Qbw (τ:=Int×Int×Int×Int×Int) (fun n t=>Qe4 N p0 k5 n t.1 t.2.1 t.2.2.1 t.2.2.2.1 t.2.2.2.2=some r) (fun ⟨y6,y7,y8,y9,y10⟩=>⟨mk 18 [(2,.ref 0 4 0 0),(3,Q52),(7,(Q51 p0)),(8,(I ((p0.length:Int)))),(9,I y6)],[(Q3x y7 y8 y9 y10)]⟩) (fun t h=>by rw [Qe4] at h; cases h) (fun n16 ih t h=>?_) N (0,0,0,0,0) h
   obtain ⟨y6,y7,y8,y9,y10⟩:=t
   rw [Qe4] at h
   skip
   refine wxz ?_
   refine wsq ?_
   refine bfe h (fun hc17 h=>?_) fun hc17 h=>?_
   ·refine wft hc17 ?_
    refine Qan ?_
    refine thn ?_
    refine wsq ?_
    refine Qam ?_
    obtain ⟨x18,hg19,h⟩:=bno h
    obtain ⟨hi20,hj21⟩:=gsm hg19
    refine wx tbk [(0,rp [(.tmp 7,(Q51 p0)),(.tmp 9,I y6)] (.dptr (Qaa (x18)) 0))] ⟨aid rfl Tryz.underlying45 ti63 rfl rfl hi20 (mgt Qaa hj21) rfl,trivial⟩ ?_
    obtain ⟨x23,hf22,h⟩:=bno h
    refine wx1 tbk [(2,⟨[(.tmp 13,Q52),(.tmp 14,(Zgh x18))],[(0,(Q3x y7 y8 y9 y10))],(.tup []),[(0,(Q8r y7 x18 y8 y9 y10))],false⟩)] ⟨Qau (first:=[]) (cap:=[.ref 0 4 0 0]) (vs:=[(Zgh x18)]) (σr:=[(Q3x y7 y8 y9 y10)]) (σr':=[(Q8r y7 x18 y8 y9 y10)]) (res':=(.tup [])) [0] rfl Zea (Qqt N x18 y7 y8 y9 y10 _ hf22) rfl (Qbx (rnc (.plain _ (NLt.agg _ (nlcc (nlcc nl0)))) (rnc (Qbo rfl) rn0))) (slc (Qar (rncc (rncc rn0))) Qat) (slc (Qar (rncc (rncc rn0))) Qat) (.plain _ (NLt.tup _ nl0)) rfl rfl rfl,trivial⟩ ?_
    refine bln ?_
    refine thn ?_
    refine wxz1 ?_
    refine thn ?_
    exact arm (mto (n:=18) [(2,.ref 0 4 0 0),(3,Q52),(7,(Q51 p0)),(8,(I ((p0.length:Int)))),(9,(I (w64 (y6+1))))] [0] [(Q8r y7 x18 y8 y9 y10)] hφ0 (pc (.rn (rqr rfl)) (pc (.rn (Qbr rn0 (rnc (rqr rfl) rn0))) (pc (rnd Qac) (pc rwl (pc rwl pn))))) (qc (spb (lcc (lcc ln))) qn)) (ih (w64 (y6+1),w64 (y7+x18.Mass),w64 (y8+x18.Heat),w64 (y9+x18.Silica),w64 (y10+x18.Gas)) h)
   ·refine wfn hc17 ?_
    refine Qbh ?_
    refine Qax ?_
    refine Qax ?_
    refine Qbg rfl ?_
    refine thn ?_
    exact ⟨(y7,y8,y9,y10),h,(mto (n:=18) [(2,.ref 0 4 0 0)] [0] [(Q3x y7 y8 y9 y10)] hφ0 (pc (.rn (rqr rfl)) pn) (qc (spb (lcc (lcc ln))) qn))⟩
def Qd2 (N:Nat) (p0:GStream) (k3:(List GStream)→Option ((List GStream)×GLoss×Int)) (x7:(List Int)):Nat→(List GStream)→Int→Option ((List GStream)×GLoss×Int)
  | 0,_,_=>none
  | n12+1,y8,y9=>
    bif (decide (y9<(x7.length:Int))) then
     (getI x7 y9).bind fun x14=>
     (Qe5 N p0.Heat x14 p0.Mass p0.Heat p0.Silica p0.Gas).bind fun x19=>
     (Qe5 N p0.Silica x14 p0.Mass p0.Heat p0.Silica p0.Gas).bind fun x21=>
     (Qe5 N p0.Gas x14 p0.Mass p0.Heat p0.Silica p0.Gas).bind fun x23=>
     chk (decide ((y8.length+([(⟨x14,x19,x21,x23⟩:GStream)]).length) * 32≤140737488355328))<|
     Qd2 N p0 k3 x7 n12 (y8++([(⟨x14,x19,x21,x23⟩:GStream)])) (w64 (y9+1))
    else
     k3 (y8)
def Qjc (N:Nat) (p0:GStream) (p1:(List Int)):Option ((List GStream)×GLoss×Int):=
  Qbf (fun _=>
    Qbf (fun y2=>
      (Qkf N y2).bind fun x5=>
      some (y2,(⟨w64 (p0.Heat - x5.Heat),w64 (p0.Silica - x5.Silica),w64 (p0.Gas - x5.Gas)⟩:GLoss),0)) fun k3:(List GStream)→Option ((List GStream)×GLoss×Int)=>
    (Qh9 N p0.Mass p1).bind fun x7=>
    Qd2 N p0 k3 x7 N ([]) 0) fun k1:Unit→Option ((List GStream)×GLoss×Int)=>
  (Qdu N p0).bind fun x26=>
  bif (!x26) then
   some ([],(⟨0,0,0⟩:GLoss),1)
  else
   bif (decide ((p1.length:Int)>20)) then
    some ([],(⟨0,0,0⟩:GLoss),1)
   else
    (Qgz N p1).bind fun x30=>
    bif (!x30) then
     some ([],(⟨0,0,0⟩:GLoss),1)
    else
     (Qci N p1).bind fun x33=>
     bif (!x33) then
      some ([],(⟨0,0,0⟩:GLoss),1)
     else
      k1 ()
def Qqq (p1:(List Int)):AV:=.dat 1 ((p1:List Int).map Qak)
def Qss (p0:GStream):Slot:=.own 4 [[(I (p0.Mass)),(I (p0.Heat)),(I (p0.Silica)),(I (p0.Gas))]]
def Qyk:Slot:=.own 3 [[(I (0)),(I (0)),(I (0))]]
def Q8z (y2:(List GStream)):AV:=.acc 1 63 4 ((y2:List GStream).map Qaa)
def Q8y (y2:(List GStream)):AV:=.dat 4 ((y2:List GStream).map Qaa)
def Zgi (p0:GStream) (x5:GStream):AV:=.agg [(I (w64 (p0.Heat - x5.Heat))),(I (w64 (p0.Silica - x5.Silica))),(I (w64 (p0.Gas - x5.Gas)))]
def Qsr (x7:(List Int)):AV:=.dat 1 ((x7:List Int).map Qak)
def Q8x (y8:(List GStream)):AV:=.acc 1 63 4 ((y8:List GStream).map Qaa)
def Q35:AV:=.fn (.func 154) [] [(.ref 3 1 (0) 0),(.ref 0 4 (0) 0)]
def Q8w (x14:Int) (p0:GStream):AV:=.fn (.func 154) [] [(.dptr [(I (x14))] 0),(.dptr [(I (p0.Mass)),(I (p0.Heat)),(I (p0.Silica)),(I (p0.Gas))] 0)]
def Qyl (p0:GStream):AV:=.agg [(I (p0.Mass)),(I (p0.Heat)),(I (p0.Silica)),(I (p0.Gas))]
def Qyj:AV:=.agg [(I (0)),(I (0)),(I (0))]
def Q34:AV:=.dat 4 (([]:List GStream).map Qaa)
theorem Qtd (N:Nat) (p0:GStream) (p1:(List Int)) (r:((List GStream)×GLoss×Int)) (h:Qjc N p0 p1=some r):Spec Tryz.prog 146 [(.agg (Qaa p0)),(.dat 1 (p1.map Qak))] [] (.tup [(.dat 4 (r.1.map Qaa)),(.agg (Zbm r.2.1)),(I r.2.2)]) []:=by
  refine Qai Tryz.func146 rfl 0 (nle rfl) (fun X φ0 w0 hφ0 hd0=>?_)
  unfold Qjc at h
  refine wxz ?_
  refine wxz ?_
  obtain ⟨k1,hk_k1,h⟩:=jko h
  refine wjn (τ:=Unit) (fun t=>k1 t=some r) (fun _=>⟨mk 79 [(1,(Qqq p1)),(2,.ref 0 4 0 0),(4,nilS),(5,.ref 1 3 0 0)],[(Qss p0),Qyk]⟩) (fun t h=>?_) ?_
  ·subst hk_k1
   obtain ⟨k3,hk_k3,h⟩:=jko h
   refine wjn (τ:=(List GStream)) (fun t=>k3 t=some r) (fun y2=>⟨mk 79 [(2,.ref 0 4 0 0),(4,(Q8z y2)),(5,.ref 2 3 0 0)],[(Qss p0),.tok,Qyk]⟩) (fun y2 h=>?_) ?_
   ·subst hk_k3
    obtain ⟨x5,hf4,h⟩:=bno h
    refine wx tbk [(1,rp [fu 155,(.tmp 60,(Q8z y2))] (.agg [I x5.Mass,I x5.Heat,I x5.Silica,I x5.Gas]))] ⟨awk (rd':=(.func 155,(.fn (.func 155) [] []))::[(.tmp 60,(Q8y y2))]) ⟨rfl,lrf,rfl,Less.acc,trivial⟩ (apc (first:=[]) (cap:=[]) (vs:=[(Q8y y2)]) rfl Zee (Qw1 N y2 _ hf4) rfl rfl (nlc (nld Qac _) nl0) (NLt.agg _ (nlcc (nlcc nl0))) rfl),trivial⟩ ?_
    refine wxd tbk [(16,rp [(.tmp 67,(I (w64 (p0.Heat - x5.Heat)))),(.tmp 72,(I (w64 (p0.Silica - x5.Silica)))),(.tmp 77,(I (w64 (p0.Gas - x5.Gas))))] (Zgi p0 x5))] ⟨Qav (vs:=[(I (w64 (p0.Heat - x5.Heat))),(I (w64 (p0.Silica - x5.Silica))),(I (w64 (p0.Gas - x5.Gas)))]) rfl Q9i Q6f rfl (by rfl) rfl,trivial⟩ ?_
    refine Qag ?_
    obtain rfl:=osi h
    exact fend ⟨[(Q8y y2),(Zgi p0 x5),I 0],⟨Qe0 (v:=(Q8z y2)) (rot) Less.acc,Qbv (n:=2) (m:=3) (j:=0) (i:=0) (xs:=[[(I (w64 (p0.Heat - x5.Heat))),(I (w64 (p0.Silica - x5.Silica))),(I (w64 (p0.Gas - x5.Gas)))]]) (by kernel_rfl) (by kernel_rfl) Q6i (by decide) rfl (nle rfl) rfl,rot,trivial⟩,rfl⟩ (NLt.tup _ (nlc (nld Qac _) (nlc (NLt.agg _ (nlcc (nlc nll nl0))) (nlc nll nl0))))
   ·skip
    obtain ⟨x7,hf6,h⟩:=bno h
    refine wx tbk [(3,rp [fu 153,(.tmp 33,I p0.Mass),(.tmp 34,(Qqq p1))] (Qsr x7)),(4,rp [(.tmp 35,(Qsr x7))] (I ((x7.length:Int))))] ⟨apc (first:=[]) (cap:=[]) (vs:=[I p0.Mass,(Qqq p1)]) rfl Zef (Qr5 N p0.Mass p1 _ hf6) rfl rfl (nlc nll (nlc (nld Qae _) nl0)) (nld Qae _) rfl,alm (c:=Qak) (l:=x7) (aln rfl Tryz.underlying27 rfl),trivial⟩ ?_
    refine Qam ?_
    refine wmr (Mor.trans (Qq4 2 63 4 4 (by kernel_rfl) (by kernel_rfl)) (mto (n:=79) (l':=[(2,.ref 0 4 0 0),(4,(.acc 1 63 4 ((([]):List GStream).map Qaa))),(5,.ref 2 3 0 0),(35,(Qsr x7)),(36,(I ((x7.length:Int)))),(37,I 0)]) (own':=[(Qss p0),.tok,Qyk]) [(2,.ref 0 4 0 0),(4,(.acc 2 63 4 (([]:List GStream).map Qaa))),(5,.ref 1 3 0 0),(35,(Qsr x7)),(36,(I ((x7.length:Int)))),(37,I 0)] [0,2,1] [(Qss p0),.tok,Qyk] hφ0 (pc (.rn (rqr rfl)) (pc (.rn (Qa7 rfl (Qa1 Qac _))) (pc (.rn (rqr rfl)) (pc (rnd Qae) (pc rwl (pc rwl pn)))))) (qc (spb (lcc (lcc ln))) (qc .tok (qc (spb (lcc (lc rwl ln))) qn))))) ?_
    refine Qbw (τ:=(List GStream)×Int) (fun n t=>Qd2 N p0 k3 x7 n t.1 t.2=some r) (fun ⟨y8,y9⟩=>⟨mk 79 [(2,.ref 0 4 0 0),(4,(Q8x y8)),(5,.ref 2 3 0 0),(35,(Qsr x7)),(36,(I ((x7.length:Int)))),(37,I y9)],[(Qss p0),.tok,Qyk]⟩) (fun t h=>by rw [Qd2] at h; cases h) (fun n12 ih t h=>?_) N ([],0) h
    obtain ⟨y8,y9⟩:=t
    rw [Qd2] at h
    skip
    refine wxz ?_
    refine wsq ?_
    refine bfe h (fun hc13 h=>?_) fun hc13 h=>?_
    ·refine wft hc13 ?_
     refine Qan ?_
     refine thn ?_
     refine wsq ?_
     refine Qam ?_
     obtain ⟨x14,hg15,h⟩:=bno h
     obtain ⟨hi16,hj17⟩:=gsm hg15
     refine wx tbk [(0,rp [(.tmp 35,(Qsr x7)),(.tmp 37,I y9)] (.dptr (Qak (x14)) 0))] ⟨aid rfl Tryz.underlying27 ti3 rfl rfl hi16 (mgt Qak hj17) rfl,trivial⟩ ?_
     refine wx tbk [(0,rp [(.tmp 9,.ref 3 1 0 0),(.tmp 2,.ref 0 4 0 0)] Q35)] ⟨Qfz (fs:=[]) (cs:=[.ref 3 1 0 0,.ref 0 4 0 0]) rfl rfl rfl rfl,trivial⟩ ?_
     obtain ⟨x19,hf18,h⟩:=bno h
     obtain ⟨x21,hf20,h⟩:=bno h
     obtain ⟨x23,hf22,h⟩:=bno h
     obtain ⟨ha24,h⟩:=cko h
     refine wy1 tbk [(5,rb [(.tmp 44,Q35),(.tmp 46,I p0.Heat)] [(3,.own 1 [[I x14]]),(0,(Qss p0))] (I x19)),(9,rb [(.tmp 48,Q35),(.tmp 50,I p0.Silica)] [(3,.own 1 [[I x14]]),(0,(Qss p0))] (I x21)),(13,rb [(.tmp 52,Q35),(.tmp 54,I p0.Gas)] [(3,.own 1 [[I x14]]),(0,(Qss p0))] (I x23)),(14,rp [(.tmp 43,I x14),(.tmp 47,I x19),(.tmp 51,I x21),(.tmp 55,I x23)] (.agg [I x14,I x19,I x21,I x23])),(15,rp [(.tmp 56,(.agg [I x14,I x19,I x21,I x23]))] (.dat 4 (([(⟨x14,x19,x21,x23⟩:GStream)]:List GStream).map Qaa))),(16,⟨[(.tmp 42,(Q8x y8)),(.tmp 57,(.dat 4 (([(⟨x14,x19,x21,x23⟩:GStream)]:List GStream).map Qaa)))],[(1,.tok),(4,.unused)],(.acc 4 63 4 ((y8++([(⟨x14,x19,x21,x23⟩:GStream)]):List GStream).map Qaa)),[(1,.dead),(4,.tok)],false⟩)] ⟨Qhl (rd':=[(.tmp 44,(Q8w x14 p0)),(.tmp 46,I p0.Heat)]) [(3,1,[[I x14]]),(0,4,[[I p0.Mass,I p0.Heat,I p0.Silica,I p0.Gas]])] ⟨rfl,(Zfh trivial ⟨(Qp9 0 rfl (lc (.same _) ln)),(Qp9 1 rfl (lc (.same _) (lc (.same _) (lc (.same _) (lc (.same _) ln))))),trivial⟩),rfl,.same _,trivial⟩ (by rfl) (.lit _) Qqw (Qau (first:=[]) (cap:=[(.dptr [I x14] 0),(.dptr [I p0.Mass,I p0.Heat,I p0.Silica,I p0.Gas] 0)]) (vs:=[I p0.Heat]) (σr:=[]) (σr':=[]) (res':=(I x19)) [] rfl Qxt (Qhw N p0.Heat x14 p0.Mass p0.Heat p0.Silica p0.Gas _ hf18) rfl (Qbx (rnc (.plain _ nll) (rnc (.plain _ (NLt.dptr _ _ (nlc nll nl0))) (rnc (.plain _ (NLt.dptr _ _ (nlcc (nlcc nl0)))) rn0)))) Qat Qat (.plain _ nll) rfl rfl rfl),Qhl (rd':=[(.tmp 48,(Q8w x14 p0)),(.tmp 50,I p0.Silica)]) [(3,1,[[I x14]]),(0,4,[[I p0.Mass,I p0.Heat,I p0.Silica,I p0.Gas]])] ⟨rfl,(Zfh trivial ⟨(Qp9 0 rfl (lc (.same _) ln)),(Qp9 1 rfl (lc (.same _) (lc (.same _) (lc (.same _) (lc (.same _) ln))))),trivial⟩),rfl,.same _,trivial⟩ (by rfl) (.lit _) Qqw (Qau (first:=[]) (cap:=[(.dptr [I x14] 0),(.dptr [I p0.Mass,I p0.Heat,I p0.Silica,I p0.Gas] 0)]) (vs:=[I p0.Silica]) (σr:=[]) (σr':=[]) (res':=(I x21)) [] rfl Qxt (Qhw N p0.Silica x14 p0.Mass p0.Heat p0.Silica p0.Gas _ hf20) rfl (Qbx (rnc (.plain _ nll) (rnc (.plain _ (NLt.dptr _ _ (nlc nll nl0))) (rnc (.plain _ (NLt.dptr _ _ (nlcc (nlcc nl0)))) rn0)))) Qat Qat (.plain _ nll) rfl rfl rfl),Qhl (rd':=[(.tmp 52,(Q8w x14 p0)),(.tmp 54,I p0.Gas)]) [(3,1,[[I x14]]),(0,4,[[I p0.Mass,I p0.Heat,I p0.Silica,I p0.Gas]])] ⟨rfl,(Zfh trivial ⟨(Qp9 0 rfl (lc (.same _) ln)),(Qp9 1 rfl (lc (.same _) (lc (.same _) (lc (.same _) (lc (.same _) ln))))),trivial⟩),rfl,.same _,trivial⟩ (by rfl) (.lit _) Qqw (Qau (first:=[]) (cap:=[(.dptr [I x14] 0),(.dptr [I p0.Mass,I p0.Heat,I p0.Silica,I p0.Gas] 0)]) (vs:=[I p0.Gas]) (σr:=[]) (σr':=[]) (res':=(I x23)) [] rfl Qxt (Qhw N p0.Gas x14 p0.Mass p0.Heat p0.Silica p0.Gas _ hf22) rfl (Qbx (rnc (.plain _ nll) (rnc (.plain _ (NLt.dptr _ _ (nlc nll nl0))) (rnc (.plain _ (NLt.dptr _ _ (nlcc (nlcc nl0)))) rn0)))) Qat Qat (.plain _ nll) rfl rfl rfl),Qav (vs:=[I x14,I x19,I x21,I x23]) rfl ts63 tz63 rfl (by rfl) rfl,Qbn (vs:=[(.agg [I x14,I x19,I x21,I x23])]) rfl Tryz.underlying45 ti63 tz63 rfl (by decide) rfl (by decide) (by rfl) (by rfl) (by rfl) rfl,Qex rfl Tryz.underlying45 te63 (Base.acc _ _) rfl rfl (by rfl) (Qhf Qaa ha24) (Qhe Qaa ha24 (by decide)) (Qhd Qaa) rfl rfl,trivial⟩ ?_
     refine bln ?_
     refine thn ?_
     refine wxz1 ?_
     refine thn ?_
     exact arm (mto (n:=79) [(2,.ref 0 4 0 0),(4,(.acc 4 63 4 ((y8++([(⟨x14,x19,x21,x23⟩:GStream)]):List GStream).map Qaa))),(5,.ref 2 3 0 0),(35,(Qsr x7)),(36,(I ((x7.length:Int)))),(37,(I (w64 (y9+1))))] [0,4,2] [(Qss p0),.tok,Qyk] hφ0 (pc (.rn (rqr rfl)) (pc (.rn (Qa7 rfl (Qa1 Qac _))) (pc (.rn (rqr rfl)) (pc (rnd Qae) (pc rwl (pc rwl pn)))))) (qc (spb (lcc (lcc ln))) (qc .tok (qc (spb (lcc (lc rwl ln))) qn)))) (ih (y8++([(⟨x14,x19,x21,x23⟩:GStream)]),w64 (y9+1)) h)
    ·refine wfn hc13 ?_
     refine Qbh ?_
     refine Qax ?_
     refine Qax ?_
     refine Qbg rfl ?_
     refine thn ?_
     exact ⟨(y8),h,(mto (n:=79) [(2,.ref 0 4 0 0),(4,(Q8x y8)),(5,.ref 2 3 0 0)] [0,1,2] [(Qss p0),.tok,Qyk] hφ0 (pc (.rn (rqr rfl)) (pc (.rn (Qa7 rfl (Qa1 Qac _))) (pc (.rn (rqr rfl)) pn))) (qc (spb (lcc (lcc ln))) (qc .tok (qc (spb (lcc (lc rwl ln))) qn))))⟩
  ·skip
   obtain ⟨x26,hf25,h⟩:=bno h
   refine bfe h (fun hb27 h=>?_) fun hb27 h=>?_
   ·refine wx tbk [(1,rp [fu 131,(.tmp 12,(Qyl p0))] (B x26)),(3,rp [(.tmp 14,(B ((!x26))))] (B true))] ⟨apc (first:=[]) (cap:=[]) (vs:=[(Qyl p0)]) rfl Qnw (Qdm N p0 _ hf25) rfl rfl (nlc (NLt.agg _ (nlcc (nlcc nl0))) nl0) nll rfl,asb hb27 (amv rfl),trivial⟩ ?_
    refine wtr ?_
    refine wx tbk [(0,rp [] Qyj)] ⟨Qav (vs:=[]) rfl Q9i Q6f rfl (by rfl) rfl,trivial⟩ ?_
    refine Qag ?_
    refine Qah ?_
    obtain rfl:=osi h
    exact fend ⟨[Q34,Qyj,I 1],⟨Qe0 (v:=nilS) (rot) Less.nil,Qbv (n:=1) (m:=3) (j:=0) (i:=0) (xs:=[[I 0,I 0,I 0]]) (by kernel_rfl) (by kernel_rfl) Q6i (by decide) rfl (nle rfl) rfl,rot,trivial⟩,rfl⟩ (NLt.tup _ (nlc (nld Qac _) (nlc (NLt.agg _ (nlcc (nlc nll nl0))) (nlc nll nl0))))
   ·refine bfe h (fun hb28 h=>?_) fun hb28 h=>?_
    ·refine wx tbk [(1,rp [fu 131,(.tmp 12,(Qyl p0))] (B x26)),(3,rp [(.tmp 14,(B ((!x26))))] (B false)),(5,rp [(.tmp 15,B false),(.tmp 16,(Qqq p1))] (I ((p1.length:Int)))),(8,rp [(.tmp 19,(B ((decide ((p1.length:Int)>20)))))] (B true))] ⟨apc (first:=[]) (cap:=[]) (vs:=[(Qyl p0)]) rfl Qnw (Qdm N p0 _ hf25) rfl rfl (nlc (NLt.agg _ (nlcc (nlcc nl0))) nl0) nll rfl,asb hb27 (amv rfl),ag_ (alm (c:=Qak) (l:=p1) (aln rfl Tryz.underlying27 rfl)),asb hb28 (amv rfl),trivial⟩ ?_
     refine wtr ?_
     refine wx tbk [(0,rp [] Qyj)] ⟨Qav (vs:=[]) rfl Q9i Q6f rfl (by rfl) rfl,trivial⟩ ?_
     refine Qag ?_
     refine Qah ?_
     obtain rfl:=osi h
     exact fend ⟨[Q34,Qyj,I 1],⟨Qe0 (v:=nilS) (rot) Less.nil,Qbv (n:=1) (m:=3) (j:=0) (i:=0) (xs:=[[I 0,I 0,I 0]]) (by kernel_rfl) (by kernel_rfl) Q6i (by decide) rfl (nle rfl) rfl,rot,trivial⟩,rfl⟩ (NLt.tup _ (nlc (nld Qac _) (nlc (NLt.agg _ (nlcc (nlc nll nl0))) (nlc nll nl0))))
    ·obtain ⟨x30,hf29,h⟩:=bno h
     refine bfe h (fun hb31 h=>?_) fun hb31 h=>?_
     ·refine wx tbk [(1,rp [fu 131,(.tmp 12,(Qyl p0))] (B x26)),(3,rp [(.tmp 14,(B ((!x26))))] (B false)),(5,rp [(.tmp 15,B false),(.tmp 16,(Qqq p1))] (I ((p1.length:Int)))),(8,rp [(.tmp 19,(B ((decide ((p1.length:Int)>20)))))] (B false)),(11,rp [(.tmp 20,B false),fu 151,(.tmp 21,(Qqq p1)),(.tmp 22,(.fn (.func 150) [] []))] (B x30)),(14,rp [(.tmp 25,(B ((!x30))))] (B true))] ⟨apc (first:=[]) (cap:=[]) (vs:=[(Qyl p0)]) rfl Qnw (Qdm N p0 _ hf25) rfl rfl (nlc (NLt.agg _ (nlcc (nlcc nl0))) nl0) nll rfl,asb hb27 (amv rfl),ag_ (alm (c:=Qak) (l:=p1) (aln rfl Tryz.underlying27 rfl)),asb hb28 (amv rfl),ag_ (Qau (first:=[]) (cap:=[]) (vs:=[(Qqq p1),(.fn (.func 150) [] [])]) (σr:=[]) (σr':=[]) (res':=(B x30)) [] rfl Q43 (Qkn N p1 _ hf29) rfl (Qbx (rnc (pld Qae) (rnc (.plain _ (NLt.fn _ _ _ nl0 nl0)) rn0))) Qat Qat (.plain _ nll) rfl rfl rfl),asb hb31 (amv rfl),trivial⟩ ?_
      refine wtr ?_
      refine wx tbk [(0,rp [] Qyj)] ⟨Qav (vs:=[]) rfl Q9i Q6f rfl (by rfl) rfl,trivial⟩ ?_
      refine Qag ?_
      refine Qah ?_
      obtain rfl:=osi h
      exact fend ⟨[Q34,Qyj,I 1],⟨Qe0 (v:=nilS) (rot) Less.nil,Qbv (n:=1) (m:=3) (j:=0) (i:=0) (xs:=[[I 0,I 0,I 0]]) (by kernel_rfl) (by kernel_rfl) Q6i (by decide) rfl (nle rfl) rfl,rot,trivial⟩,rfl⟩ (NLt.tup _ (nlc (nld Qac _) (nlc (NLt.agg _ (nlcc (nlc nll nl0))) (nlc nll nl0))))
     ·obtain ⟨x33,hf32,h⟩:=bno h
      refine wx tbk [(1,rp [fu 131,(.tmp 12,(Qyl p0))] (B x26)),(3,rp [(.tmp 14,(B ((!x26))))] (B false)),(5,rp [(.tmp 15,B false),(.tmp 16,(Qqq p1))] (I ((p1.length:Int)))),(8,rp [(.tmp 19,(B ((decide ((p1.length:Int)>20)))))] (B false)),(11,rp [(.tmp 20,B false),fu 151,(.tmp 21,(Qqq p1)),(.tmp 22,(.fn (.func 150) [] []))] (B x30)),(14,rp [(.tmp 25,(B ((!x30))))] (B false)),(16,rp [(.tmp 26,B false),fu 126,(.tmp 27,(Qqq p1)),fu 152] (B x33))] ⟨apc (first:=[]) (cap:=[]) (vs:=[(Qyl p0)]) rfl Qnw (Qdm N p0 _ hf25) rfl rfl (nlc (NLt.agg _ (nlcc (nlcc nl0))) nl0) nll rfl,asb hb27 (amv rfl),ag_ (alm (c:=Qak) (l:=p1) (aln rfl Tryz.underlying27 rfl)),asb hb28 (amv rfl),ag_ (Qau (first:=[]) (cap:=[]) (vs:=[(Qqq p1),(.fn (.func 150) [] [])]) (σr:=[]) (σr':=[]) (res':=(B x30)) [] rfl Q43 (Qkn N p1 _ hf29) rfl (Qbx (rnc (pld Qae) (rnc (.plain _ (NLt.fn _ _ _ nl0 nl0)) rn0))) Qat Qat (.plain _ nll) rfl rfl rfl),asb hb31 (amv rfl),ag_ (Qau (first:=[]) (cap:=[]) (vs:=[(Qqq p1),(.fn (.func 152) [] [])]) (σr:=[]) (σr':=[]) (res':=(B x33)) [] rfl Qp7 (Qib N p1 _ hf32) rfl (Qbx (rnc (pld Qae) (rnc (.plain _ (NLt.fn _ _ _ nl0 nl0)) rn0))) Qat Qat (.plain _ nll) rfl rfl rfl),trivial⟩ ?_
      refine bfe h (fun hc34 h=>?_) fun hc34 h=>?_
      ·refine wft hc34 ?_
       refine wx tbk [(0,rp [] Qyj)] ⟨Qav (vs:=[]) rfl Q9i Q6f rfl (by rfl) rfl,trivial⟩ ?_
       refine Qag ?_
       refine Qah ?_
       obtain rfl:=osi h
       exact fend ⟨[Q34,Qyj,I 1],⟨Qe0 (v:=nilS) (rot) Less.nil,Qbv (n:=1) (m:=3) (j:=0) (i:=0) (xs:=[[I 0,I 0,I 0]]) (by kernel_rfl) (by kernel_rfl) Q6i (by decide) rfl (nle rfl) rfl,rot,trivial⟩,rfl⟩ (NLt.tup _ (nlc (nld Qac _) (nlc (NLt.agg _ (nlcc (nlc nll nl0))) (nlc nll nl0))))
      ·refine wfn hc34 ?_
       refine Qan ?_
       refine thn ?_
       exact ⟨(),h,(mto (n:=79) [(1,(Qqq p1)),(2,.ref 0 4 0 0),(4,nilS),(5,.ref 1 3 0 0)] [0,1] [(Qss p0),Qyk] hφ0 (pc (rnd Qae) (pc (.rn (rqr rfl)) (pc rwl (pc (.rn (rqr rfl)) pn)))) (qc (spb (lcc (lcc ln))) (qc (spb (lcc (lc rwl ln))) qn)))⟩
end Go.Proofs.YtmbhnllcfmiajaaGreat
