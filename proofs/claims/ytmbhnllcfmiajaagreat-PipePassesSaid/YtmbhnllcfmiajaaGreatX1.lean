/-
  Functions of the program: what they compute, as plain functions, and that they do. No conditions.
-/
import Derived.Test.YtmbhnllcfmiajaaGreatXt
namespace Go.Proofs.YtmbhnllcfmiajaaGreat
set_option maxRecDepth 100000
set_option maxHeartbeats 4000000
open Go.RowKit
def Qcy (_N:Nat) (p0:Int) (p1:Int) (p2:Int):Option Bool:=
  bif (decide (p1≤p0)) then
   some (decide (p0≤p2))
  else
   some false
theorem Qc4 (N:Nat) (p0:Int) (p1:Int) (p2:Int) (r:Bool) (h:Qcy N p0 p1 p2=some r):Spec Tryz.prog 137 [(I p0),(I p1),(I p2)] [] (B r) []:=by
  refine Qah Tryz.func137 rfl 0 (nle rfl) (fun X φ0 w0 hφ0 hd0=>?_)
  unfold Qcy at h
  refine wxz ?_
  refine bfe h (fun hb1 h=>?_) fun hb1 h=>?_
  ·refine wx tbk [(3,rp [(.tmp 9,(B ((decide (p1≤p0)))))] (B true))] ⟨asb hb1 (amv rfl),tv⟩<|Qae ?_
   obtain rfl:=osi h
   exact fend ⟨[(B ((decide (p0≤p2))))],⟨rot,tv⟩,rfl⟩ nll
  ·exact wx tbk [(3,rp [(.tmp 9,(B ((decide (p1≤p0)))))] (B false))] ⟨asb hb1 (amv rfl),tv⟩<|Qae<|frb h
def Qgi (N:Nat) (p0:GRow):Option Bool:=
  (Qcy N p0.T 0 400).bind fun x2=>
  bif x2 then
   (Qcy N p0.P 1 10000).bind fun x5=>
   bif x5 then
    (Qcy N p0.Liquid 0 4000).bind fun x8=>
    bif x8 then
     (Qcy N p0.Silica 0 2000).bind fun x11=>
     bif x11 then
      bif (decide (p0.Liquid<p0.Vapour)) then
       some (decide (p0.Vapour≤4000))
      else
       some false
     else
      some false
    else
     some false
   else
    some false
  else
   some false
def z8_2 (p0:GRow) (x2:Bool):List (Nat×Rec):=[(2,rp [fu 137,((.tmp 4),(I (p0.T))),ci 0,ci 400] (B (x2)))]
def z8_3 (p0) (x2) (x5:Bool):=hcat (z8_2 p0 x2) [(3,rp [((.tmp 5),(B (x2)))] (B (true))),(6,rp [((.tmp 6),(B (true))),fu 137,((.tmp 8),(I (p0.P))),ci 1,ci 10000] (B (x5)))]
def z8_4 (p0) (x2) (x5) (x8:Bool):=hcat (z8_3 p0 x2 x5) [(8,rp [((.tmp 10),(B (x5)))] (B (true))),(11,rp [((.tmp 11),(B (true))),fu 137,((.tmp 13),(I (p0.Liquid))),ci 0,ci 4000] (B (x8)))]
def z8_5 (p0) (x2) (x5) (x8) (x11:Bool):=hcat (z8_4 p0 x2 x5 x8) [(13,rp [((.tmp 15),(B (x8)))] (B (true))),(16,rp [((.tmp 16),(B (true))),fu 137,((.tmp 18),(I (p0.Silica))),ci 0,ci 2000] (B (x11)))]
theorem Qm3 (N:Nat) (p0:GRow) (r:Bool) (h:Qgi N p0=some r):Spec Tryz.prog 139 [(.agg (Qa1 p0))] [] (B r) []:=by
  refine Qah Tryz.func139 rfl 0 (nle rfl) (fun X φ0 w0 hφ0 hd0=>?_)
  unfold Qgi at h
  refine wxz ?_
  obtain ⟨x2,hf1,h⟩:=bno h
  refine hpre (A:=(z8_2 p0 x2)) ⟨apv Qh5 (Qc4 N p0.T 0 400 _ hf1) (nlcc (nlc nll nl0)) nll,tv⟩ fun q1_=>?_
  refine bfe h (fun hb3 h=>?_) fun hb3 h=>?_
  ·obtain ⟨x5,hf4,h⟩:=bno h
   refine hpre (A:=(z8_3 p0 x2 x5)) (hap q1_ ⟨asb hb3 (amv rfl),ag_ (apv Qh5 (Qc4 N p0.P 1 10000 _ hf4) (nlcc (nlc nll nl0)) nll),tv⟩) fun q2_=>?_
   refine bfe h (fun hb6 h=>?_) fun hb6 h=>?_
   ·obtain ⟨x8,hf7,h⟩:=bno h
    refine hpre (A:=(z8_4 p0 x2 x5 x8)) (hap q2_ ⟨asb hb6 (amv rfl),ag_ (apv Qh5 (Qc4 N p0.Liquid 0 4000 _ hf7) (nlcc (nlc nll nl0)) nll),tv⟩) fun q3_=>?_
    refine bfe h (fun hb9 h=>?_) fun hb9 h=>?_
    ·obtain ⟨x11,hf10,h⟩:=bno h
     refine hpre (A:=(z8_5 p0 x2 x5 x8 x11)) (hap q3_ ⟨asb hb9 (amv rfl),ag_ (apv Qh5 (Qc4 N p0.Silica 0 2000 _ hf10) (nlcc (nlc nll nl0)) nll),tv⟩) fun q4_=>?_
     refine bfe h (fun hb12 h=>?_) fun hb12 h=>?_
     ·refine bfe h (fun hb13 h=>?_) fun hb13 h=>?_
      ·refine wx tbk (hcat (z8_5 p0 x2 x5 x8 x11) [(18,rp [(.tmp 20,B x11)] (B true)),(25,rp [(.tmp 27,(B ((decide (p0.Liquid<p0.Vapour)))))] (B true))]) (hap q4_ ⟨asb hb12 (amv rfl),asb hb13 (amv rfl),tv⟩)<|Qae ?_
       obtain rfl:=osi h
       exact fend ⟨[(B ((decide (p0.Vapour≤4000))))],⟨rot,tv⟩,rfl⟩ nll
      ·exact wx tbk (hcat (z8_5 p0 x2 x5 x8 x11) [(18,rp [(.tmp 20,B x11)] (B true)),(25,rp [(.tmp 27,(B ((decide (p0.Liquid<p0.Vapour)))))] (B false))]) (hap q4_ ⟨asb hb12 (amv rfl),asb hb13 (amv rfl),tv⟩)<|Qae<|frb h
     ·exact wx tbk (hcat (z8_5 p0 x2 x5 x8 x11) [(18,rp [(.tmp 20,B x11)] (B false))]) (hap q4_ ⟨asb hb12 (amv rfl),tv⟩)<|Qae<|frb h
    ·exact wx tbk (hcat (z8_4 p0 x2 x5 x8) [(13,rp [(.tmp 15,B x8)] (B false))]) (hap q3_ ⟨asb hb9 (amv rfl),tv⟩)<|Qae<|frb h
   ·exact wx tbk (hcat (z8_3 p0 x2 x5) [(8,rp [(.tmp 10,B x5)] (B false))]) (hap q2_ ⟨asb hb6 (amv rfl),tv⟩)<|Qae<|frb h
  ·exact wx tbk (hcat (z8_2 p0 x2) [(3,rp [(.tmp 5,B x2)] (B false))]) (hap q1_ ⟨asb hb3 (amv rfl),tv⟩)<|Qae<|frb h
def Qes (N:Nat) (p0:GRow):Option Bool:=
  (Qgi N p0).bind fun x3=>
  some (!x3)
def z7_1 (p0:GRow):AV:=.agg [(I (p0.T)),(I (p0.P)),(I (p0.Liquid)),(I (p0.Vapour)),(I (p0.Silica))]
def z7_2:Slot:=.own 1 [[(.fn (.func 139) [] [])]]
theorem Qjv (N:Nat) (p0:GRow) (r:Bool) (h:Qes N p0=some r):Spec Tryz.prog 148 [(z7_1 p0),(.ref 0 1 (0) 0)] [z7_2] (B (r)) [z7_2]:=by
  refine Qah Tryz.func148 rfl 1 (nle rfl) (fun X φ0 w0 hφ0 hd0=>?_)
  unfold Qes at h
  refine Qbx<|wxz ?_
  obtain ⟨x3,hf2,h⟩:=bno h
  refine wx tbk [(2,rp [(.tmp 4,(.fn (.func 139) [] [])),(.tmp 5,(z7_1 p0))] (B x3))] ⟨apv Zdj (Qm3 N p0 _ hf2) (nlc (NLt.agg _ (nlcc (nlcc (nlc nll nl0)))) nl0) nll,tv⟩ ?_
  refine wmr (mto (n:=8) (l':=[(3,(B ((!x3))))]) (own':=[z7_2]) [(3,(B ((!x3))))] [0] [z7_2] hφ0 (pw pn) (qb (lc (.rn (Qbn rn0 rn0)) ln) qn))<|Qae ?_
  obtain rfl:=osi h
  exact ⟨_,Mor.rfl,Qc8 (vs:=[(B ((!x3)))]) ⟨rot,tv⟩ rfl (NLt.of0 nll) (by kernel_rfl) (Qao (Qbc (nlc (NLt.of0 (NLt.fn _ _ _ nl0 nl0)) nl0)) Qbs)⟩
def Qa4 (N:Nat) (p0:(List GRow)) (k2:Unit→Option Int):Nat→Int→Option Int
  | 0,_=>none
  | n5+1,y3=>
    bif (decide (y3<(p0.length:Int))) then
     (getI p0 y3).bind fun x7=>
     (Qes N x7).bind fun x12=>
     bif x12 then
      some y3
     else
      Qa4 N p0 k2 n5 (w64 (y3+1))
    else
     k2 ()
def Qcm (N:Nat) (p0:(List GRow)):Option Int:=
  Qbp (fun _=>
    some (-1)) fun k2:Unit→Option Int=>
  Qa4 N p0 k2 N 0
def z6_0 (p0:(List GRow)):AV:=.dat 5 ((p0:List GRow).map Qa1)
def z6_1:AV:=.fn (.func 148) [] [(.ref 0 1 (0) 0)]
def z6_3:Slot:=.own 1 [[(.fn (.func 139) [] [])]]
def z6_8 (x7:GRow):AV:=.agg [(I (x7.T)),(I (x7.P)),(I (x7.Liquid)),(I (x7.Vapour)),(I (x7.Silica))]
theorem Qgj (N:Nat) (p0:(List GRow)) (r:Int) (h:Qcm N p0=some r):Spec Tryz.prog 156 [(z6_0 p0),z6_1] [z6_3] (I (r)) [z6_3]:=by
  refine Qah Tryz.func156 rfl 1 (nle rfl) (fun X φ0 w0 hφ0 hd0=>?_)
  unfold Qcm at h
  refine Qbx<|wxz ?_
  obtain ⟨k2,hk_k2,h⟩:=jko h
  refine wjn (τ:=Unit) (fun t=>k2 t=some r) (fun _=>⟨mk 19 [],[z6_3]⟩) (fun t h=>?_) ?_
  ·subst hk_k2
   refine wxz<|wmr (mto (n:=19) (l':=[(4,(I ((-1))))]) (own':=[z6_3]) [(4,(I ((-1))))] [0] [z6_3] hφ0 (pw pn) (qb (lc (.rn (Qbn rn0 rn0)) ln) qn))<|Qae ?_
   obtain rfl:=osi h
   exact ⟨_,Mor.rfl,Qc8 (vs:=[(I ((-1)))]) ⟨rot,tv⟩ rfl (NLt.of0 nll) (by kernel_rfl) (Qao (Qbc (nlc (NLt.of0 (NLt.fn _ _ _ nl0 nl0)) nl0)) Qbs)⟩
  ·skip
   refine wx tbk [(1,rp [(.tmp 6,(z6_0 p0))] (I ((p0.length:Int))))] ⟨alm (c:=Qa1) (l:=p0) (aln rfl Tryz.underlying38 rfl),tv⟩<|Qaj ?_
   refine wmr (mto (n:=19) (l':=[(0,(z6_0 p0)),(1,z6_1),(7,(I ((p0.length:Int)))),(8,I 0)]) (own':=[z6_3]) [(0,(z6_0 p0)),(1,z6_1),(7,(I ((p0.length:Int)))),(8,I 0)] [0] [z6_3] hφ0 (pc (rnd Qai) (pc (.rn (Qbn rn0 (rnc (rqr rfl) rn0))) (pw (pw pn)))) (qb (lc (.rn (Qbn rn0 rn0)) ln) qn)) ?_
   refine Qcb (τ:=Int) (fun n t=>Qa4 N p0 k2 n t=some r) (fun y3=>⟨mk 19 [(0,(z6_0 p0)),(1,z6_1),(7,(I ((p0.length:Int)))),(8,I y3)],[z6_3]⟩) (fun t h=>by rw [Qa4] at h; cases h) (fun n5 ih y3 h=>?_) N (0) h
   rw [Qa4] at h
   skip
   refine wxz<|wsq ?_
   refine bfe h (fun hc6 h=>?_) fun hc6 h=>?_
   ·refine wft hc6<|Qan<|thn<|wsq<|Qaj<|wxz ?_
    obtain ⟨x7,hg8,h⟩:=bno h
    obtain ⟨hi9,hj10⟩:=gsm hg8
    obtain ⟨x12,hf11,h⟩:=bno h
    refine wx tbk [(3,rp [(.tmp 12,(z6_0 p0)),(.tmp 13,I y3)] (.dptr (Qa1 (x7)) 0)),(5,⟨[(.tmp 11,z6_1),(.tmp 15,(z6_8 x7))],[(0,z6_3)],B x12,[(0,z6_3)],false⟩)] ⟨aid rfl Tryz.underlying38 Qsx rfl rfl hi9 (mgt Qa1 hj10) rfl,Qat (first:=[]) (cap:=[.ref 0 1 0 0]) (vs:=[(z6_8 x7)]) (σr:=[z6_3]) (σr':=[z6_3]) (res':=(B x12)) [0] rfl Zdb (Qjv N x7 _ hf11) rfl (Qbt (rnc (.plain _ (NLt.agg _ (nlcc (nlcc (nlc nll nl0))))) (rnc (Qbj rfl) rn0))) (slc (Qaq (rnc (.plain _ (NLt.fn _ _ _ nl0 nl0)) rn0)) Qas) (slc (Qaq (rnc (.plain _ (NLt.fn _ _ _ nl0 nl0)) rn0)) Qas) (.plain _ nll) rfl rfl rfl,tv⟩ ?_
    refine bfe h (fun hc13 h=>?_) fun hc13 h=>?_
    ·refine wft hc13<|wxz ?_
     refine wmr (mto (n:=19) (l':=[(4,I y3)]) (own':=[z6_3]) [(4,I y3)] [0] [z6_3] hφ0 (pw pn) (qb (lc (.rn (Qbn rn0 rn0)) ln) qn))<|Qae<|Qap<|Qag<|Qag<|Qap<|Qag ?_
     obtain rfl:=osi h
     exact ⟨_,Mor.rfl,Qc8 (vs:=[I y3]) ⟨rot,tv⟩ rfl (NLt.of0 nll) (by kernel_rfl) (Qao (Qbc (nlc (NLt.of0 (NLt.fn _ _ _ nl0 nl0)) nl0)) Qbs)⟩
    ·exact wfn hc13<|Qan<|bln<|thn<|wxz1<|thn<|arm (mto (n:=19) [(0,(z6_0 p0)),(1,z6_1),(7,(I ((p0.length:Int)))),(8,(I (w64 (y3+1))))] [0] [z6_3] hφ0 (pc (rnd Qai) (pc (.rn (Qbn rn0 (rnc (rqr rfl) rn0))) (pw (pw pn)))) (qb (lc (.rn (Qbn rn0 rn0)) ln) qn)) (ih (w64 (y3+1)) h)
   ·exact wfn hc6<|Qbi<|Qax<|Qax<|Qbh rfl<|thn<|⟨(),h,(mto (n:=19) [] [0] [z6_3] hφ0 pn (qb (lc (.rn (Qbn rn0 rn0)) ln) qn))⟩
def Qcd (N:Nat) (p0:(List GRow)):Option Bool:=
  (Qcm N p0).bind fun x3=>
  some (decide (x3≥0))
def z5_0 (p0:(List GRow)):AV:=.dat 5 ((p0:List GRow).map Qa1)
def z5_1:AV:=.fn (.func 148) [] [(.ref 0 1 (0) 0)]
def z5_2:Slot:=.own 1 [[(.fn (.func 139) [] [])]]
theorem Qf5 (N:Nat) (p0:(List GRow)) (r:Bool) (h:Qcd N p0=some r):Spec Tryz.prog 147 [(z5_0 p0),z5_1] [z5_2] (B (r)) [z5_2]:=by
  refine Qah Tryz.func147 rfl 1 (nle rfl) (fun X φ0 w0 hφ0 hd0=>?_)
  unfold Qcd at h
  refine Qbx<|wxz ?_
  obtain ⟨x3,hf2,h⟩:=bno h
  refine wx tbk [(2,⟨[fu 156,(.tmp 5,(z5_0 p0)),(.tmp 6,z5_1)],[(0,z5_2)],I x3,[(0,z5_2)],false⟩)] ⟨Qat (first:=[]) (cap:=[]) (vs:=[(z5_0 p0),z5_1]) (σr:=[z5_2]) (σr':=[z5_2]) (res':=(I x3)) [0] rfl Zc4 (Qgj N p0 _ hf2) rfl (Qbt (rnc (pld Qai) (rnc (Qbn rn0 (rnc (Qbj rfl) rn0)) rn0))) (slc (Qaq (rnc (.plain _ (NLt.fn _ _ _ nl0 nl0)) rn0)) Qas) (slc (Qaq (rnc (.plain _ (NLt.fn _ _ _ nl0 nl0)) rn0)) Qas) (.plain _ nll) rfl rfl rfl,tv⟩ ?_
  refine wmr (mto (n:=9) (l':=[(4,(B ((decide (x3≥0)))))]) (own':=[z5_2]) [(4,(B ((decide (x3≥0)))))] [0] [z5_2] hφ0 (pw pn) (qb (lc (.rn (Qbn rn0 rn0)) ln) qn))<|Qae ?_
  obtain rfl:=osi h
  exact ⟨_,Mor.rfl,Qc8 (vs:=[(B ((decide (x3≥0))))]) ⟨rot,tv⟩ rfl (NLt.of0 nll) (by kernel_rfl) (Qao (Qbc (nlc (NLt.of0 (NLt.fn _ _ _ nl0 nl0)) nl0)) Qbs)⟩
def Qed (N:Nat) (p0:(List GRow)):Option Bool:=
  (Qcd N p0).bind fun x2=>
  some (!x2)
def z4_1 (p0:(List GRow)):AV:=.dat 5 ((p0:List GRow).map Qa1)
def z4_2:AV:=.fn (.func 148) [] [(.ref 0 1 (0) 0)]
def z4_0:Slot:=.own 1 [[(.fn (.func 139) [] [])]]
theorem Qkh (N:Nat) (p0:(List GRow)) (r:Bool) (h:Qed N p0=some r):Spec Tryz.prog 138 [(z4_1 p0),(.fn (.func 139) [] [])] [] (B (r)) []:=by
  refine Qah Tryz.func138 rfl 0 (nle rfl) (fun X φ0 w0 hφ0 hd0=>?_)
  unfold Qed at h
  refine wxz ?_
  obtain ⟨x2,hf1,h⟩:=bno h
  refine wx tbk [(1,rp [(.tmp 3,.ref 0 1 0 0)] z4_2),(2,⟨[fu 147,(.tmp 5,(z4_1 p0)),(.tmp 6,z4_2)],[(0,z4_0)],B x2,[(0,z4_0)],false⟩)] ⟨Qfl (fs:=[]) (cs:=[.ref 0 1 0 0]) rfl rfl rfl rfl,Qat (first:=[]) (cap:=[]) (vs:=[(z4_1 p0),z4_2]) (σr:=[z4_0]) (σr':=[z4_0]) (res':=(B x2)) [0] rfl Zdc (Qf5 N p0 _ hf1) rfl (Qbt (rnc (pld Qai) (rnc (Qbn rn0 (rnc (Qbj rfl) rn0)) rn0))) (slc (Qaq (rnc (.plain _ (NLt.fn _ _ _ nl0 nl0)) rn0)) Qas) (slc (Qaq (rnc (.plain _ (NLt.fn _ _ _ nl0 nl0)) rn0)) Qas) (.plain _ nll) rfl rfl rfl,tv⟩<|Qae ?_
  obtain rfl:=osi h
  exact fend ⟨[(B ((!x2)))],⟨rot,tv⟩,rfl⟩ nll
def Qcs (N:Nat) (p0:(List GRow)) (k2:Unit→Option Bool):Nat→Int→Option Bool
  | 0,_=>none
  | n6+1,y4=>
    bif (decide (y4<((p0.drop (1:Int).toNat).length:Int))) then
     (getI (p0.drop (1:Int).toNat) y4).bind fun x8=>
     (getI p0 y4).bind fun x12=>
     bif (decide (x8.T≤x12.T)) then
      some false
     else
      bif (decide (x8.P≤x12.P)) then
       some false
      else
       bif (decide (x8.Liquid≤x12.Liquid)) then
        some false
       else
        bif (decide (x8.Silica<x12.Silica)) then
         some false
        else
         Qcs N p0 k2 n6 (w64 (y4+1))
    else
     k2 ()
def Qet (N:Nat) (p0:(List GRow)):Option Bool:=
  Qbp (fun _=>
    Qbp (fun _=>
      some true) fun k2:Unit→Option Bool=>
    chk (decide (0≤1)&&decide (1≤(p0.length:Int))&&decide ((p0.length:Int)≤(p0.length:Int)))<|
    Qcs N p0 k2 N 0) fun k1:Unit→Option Bool=>
  (Qcy N (p0.length:Int) 2 20).bind fun x21=>
  bif (!x21) then
   some false
  else
   (Qed N p0).bind fun x24=>
   bif (!x24) then
    some false
   else
    k1 ()
def z2_0 (p0:(List GRow)):AV:=.dat 5 ((p0:List GRow).map Qa1)
def z2_1 (p0:(List GRow)):AV:=.dat 5 ((p0.drop (1:Int).toNat:List GRow).map Qa1)
def Zbl (x8:GRow) (x12:GRow):List (Nat×Rec):=[(5,rp [((.tmp 31),(B ((decide (x8.T≤x12.T)))))] (B (false)))]
def Zhp (p0:(List GRow)) (x21:Bool):List (Nat×Rec):=[(1,rp [((.tmp 6),(z2_0 p0))] (I ((p0.length:Int)))),(2,rp [fu 137,((.tmp 7),(I ((p0.length:Int)))),ci 2,ci 20] (B (x21)))]
theorem Qik (N:Nat) (p0:(List GRow)) (r:Bool) (h:Qet N p0=some r):Spec Tryz.prog 122 [(.dat 5 (p0.map Qa1))] [] (B r) []:=by
  refine Qah Tryz.func122 rfl 0 (nle rfl) (fun X φ0 w0 hφ0 hd0=>?_)
  unfold Qet at h
  refine wxz ?_
  obtain ⟨k1,hk_k1,h⟩:=jko h
  refine wjn (τ:=Unit) (fun t=>k1 t=some r) (fun _=>⟨mk 54 [(0,(z2_0 p0))],[]⟩) (fun t h=>?_) ?_
  ·subst hk_k1
   obtain ⟨k2,hk_k2,h⟩:=jko h
   refine wjn (τ:=Unit) (fun t=>k2 t=some r) (fun _=>⟨mk 54 [],[]⟩) (fun t h=>?_) ?_
   ·subst hk_k2
    exact wxz<|Qae<|frb h
   ·skip
    obtain ⟨hs3,h⟩:=cko h
    refine wx tbk [(1,rp [(.tmp 15,(z2_0 p0)),ci 1] (z2_1 p0)),(2,rp [(.tmp 16,(z2_1 p0))] (I (((p0.drop (1:Int).toNat).length:Int))))] ⟨Qke (k:=.i64) (k':=.i64) (lo:=some (.const (.int .i64 1))) (hi:=none) (l:=1) (hh:=((p0.length:Nat):Int)) rfl Tryz.underlying39 Qsx rfl (fun e=>nomatch e) (fun _=>by simp) (Q0q hs3) (Q0p hs3) (Zeo (Qa1) hs3) (Zl1 Qa1),alm (c:=Qa1) (l:=p0.drop (1:Int).toNat) (aln rfl Tryz.underlying39 rfl),tv⟩<|Qaj ?_
    refine wmr (mto (n:=54) (l':=[(0,(z2_0 p0)),(16,(z2_1 p0)),(17,(I (((p0.drop (1:Int).toNat).length:Int)))),(18,I 0)]) (own':=[]) [(0,(z2_0 p0)),(16,(z2_1 p0)),(17,(I (((p0.drop (1:Int).toNat).length:Int)))),(18,I 0)] [] [] hφ0 (pc (rnd Qai) (pc (rnd Qai) (pw (pw pn)))) qn) ?_
    refine Qcb (τ:=Int) (fun n t=>Qcs N p0 k2 n t=some r) (fun y4=>⟨mk 54 [(0,(z2_0 p0)),(16,(z2_1 p0)),(17,(I (((p0.drop (1:Int).toNat).length:Int)))),(18,I y4)],[]⟩) (fun t h=>by rw [Qcs] at h; cases h) (fun n6 ih y4 h=>?_) N (0) h
    rw [Qcs] at h
    skip
    refine wxz<|wsq ?_
    refine bfe h (fun hc7 h=>?_) fun hc7 h=>?_
    ·refine wft hc7<|Qan<|thn<|wsq<|Qaj ?_
     obtain ⟨x8,hg9,h⟩:=bno h
     obtain ⟨hi10,hj11⟩:=gsm hg9
     refine wx tbk [(1,rp [(.tmp 16,(z2_1 p0)),(.tmp 18,I y4)] (.dptr (Qa1 (x8)) 0))] ⟨aid rfl Tryz.underlying39 Qsx rfl rfl hi10 (mgt Qa1 hj11) rfl,tv⟩ ?_
     obtain ⟨x12,hg13,h⟩:=bno h
     obtain ⟨hi14,hj15⟩:=gsm hg13
     refine wx tbk [(2,rp [(.tmp 23,(z2_0 p0)),(.tmp 24,I y4)] (.dptr (Qa1 (x12)) 0))] ⟨aid rfl Tryz.underlying39 Qsx rfl rfl hi14 (mgt Qa1 hj15) rfl,tv⟩ ?_
     refine bfe h (fun hb16 h=>?_) fun hb16 h=>?_
     ·exact wx tbk [(5,rp [(.tmp 31,(B ((decide (x8.T≤x12.T)))))] (B true))] ⟨asb hb16 (amv rfl),tv⟩<|wtr<|wxz<|Qae<|Qap<|Qag<|Qag<|Qap<|Qag<|frb h
     ·refine hpre (A:=(Zbl x8 x12)) ⟨asb hb16 (amv rfl),tv⟩ fun q1_=>?_
      refine bfe h (fun hb17 h=>?_) fun hb17 h=>?_
      ·exact wx tbk (hcat (Zbl x8 x12) [(12,rp [(.tmp 38,(B ((decide (x8.P≤x12.P)))))] (B true))]) (hap q1_ ⟨asb hb17 (amv rfl),tv⟩)<|wtr<|wxz<|Qae<|Qap<|Qag<|Qag<|Qap<|Qag<|frb h
      ·refine bfe h (fun hb18 h=>?_) fun hb18 h=>?_
       ·exact wx tbk (hcat (Zbl x8 x12) [(12,rp [(.tmp 38,(B ((decide (x8.P≤x12.P)))))] (B false)),(19,rp [(.tmp 45,(B ((decide (x8.Liquid≤x12.Liquid)))))] (B true))]) (hap q1_ ⟨asb hb17 (amv rfl),asb hb18 (amv rfl),tv⟩)<|wtr<|wxz<|Qae<|Qap<|Qag<|Qag<|Qap<|Qag<|frb h
       ·refine wx tbk (hcat (Zbl x8 x12) [(12,rp [(.tmp 38,(B ((decide (x8.P≤x12.P)))))] (B false)),(19,rp [(.tmp 45,(B ((decide (x8.Liquid≤x12.Liquid)))))] (B false))]) (hap q1_ ⟨asb hb17 (amv rfl),asb hb18 (amv rfl),tv⟩) ?_
        refine bfe h (fun hc19 h=>?_) fun hc19 h=>?_
        ·exact wft hc19<|wxz<|Qae<|Qap<|Qag<|Qag<|Qap<|Qag<|frb h
        ·exact wfn hc19<|Qan<|bln<|thn<|wxz1<|thn<|arm (mto (n:=54) [(0,(z2_0 p0)),(16,(z2_1 p0)),(17,(I (((p0.drop (1:Int).toNat).length:Int)))),(18,(I (w64 (y4+1))))] [] [] hφ0 (pc (rnd Qai) (pc (rnd Qai) (pw (pw pn)))) qn) (ih (w64 (y4+1)) h)
    ·exact wfn hc7<|Qbi<|Qax<|Qax<|Qbh rfl<|thn<|⟨(),h,(mto (n:=54) [] [] [] hφ0 pn qn)⟩
  ·skip
   obtain ⟨x21,hf20,h⟩:=bno h
   refine hpre (A:=(Zhp p0 x21)) ⟨alm (c:=Qa1) (l:=p0) (aln rfl Tryz.underlying39 rfl),apv Qh5 (Qc4 N (p0.length:Int) 2 20 _ hf20) (nlcc (nlc nll nl0)) nll,tv⟩ fun q2_=>?_
   refine bfe h (fun hb22 h=>?_) fun hb22 h=>?_
   ·exact wx tbk (hcat (Zhp p0 x21) [(4,rp [(.tmp 9,(B ((!x21))))] (B true))]) (hap q2_ ⟨asb hb22 (amv rfl),tv⟩)<|wtr<|wxz<|Qae<|Qag<|frb h
   ·obtain ⟨x24,hf23,h⟩:=bno h
    refine wx tbk (hcat (Zhp p0 x21) [(4,rp [(.tmp 9,(B ((!x21))))] (B false)),(6,rp [(.tmp 10,B false),fu 138,(.tmp 11,(z2_0 p0)),fu 139] (B x24))]) (hap q2_ ⟨asb hb22 (amv rfl),ag_ (Qat (first:=[]) (cap:=[]) (vs:=[(z2_0 p0),(.fn (.func 139) [] [])]) (σr:=[]) (σr':=[]) (res':=(B x24)) [] rfl Zdk (Qkh N p0 _ hf23) rfl (Qbt (rnc (pld Qai) (rnc (.plain _ (NLt.fn _ _ _ nl0 nl0)) rn0))) Qas Qas (.plain _ nll) rfl rfl rfl),tv⟩) ?_
    refine bfe h (fun hc25 h=>?_) fun hc25 h=>?_
    ·exact wft hc25<|wxz<|Qae<|Qag<|frb h
    ·exact wfn hc25<|Qan<|thn<|⟨(),h,(mto (n:=54) [(0,(z2_0 p0))] [] [] hφ0 (pc (rnd Qai) pn) qn)⟩
def Qg2 (N:Nat) (p0:(List GRow)):Option Int:=
  (Qet N p0).bind fun x2=>
  bif (!x2) then
   some 1
  else
   some 0
theorem Qmj (N:Nat) (p0:(List GRow)) (r:Int) (h:Qg2 N p0=some r):Spec Tryz.prog 100 [(.dat 5 (p0.map Qa1))] [] (I r) []:=by
  refine Qah Tryz.func100 rfl 0 (nle rfl) (fun X φ0 w0 hφ0 hd0=>?_)
  unfold Qg2 at h
  refine wxz<|wsq ?_
  obtain ⟨x2,hf1,h⟩:=bno h
  refine wx tbk [(1,rp [fu 122,(.tmp 3,(.dat 5 ((p0:List GRow).map Qa1)))] (B x2))] ⟨apv Q2y (Qik N p0 _ hf1) (nlc (nld Qai _) nl0) nll,tv⟩ ?_
  refine bfe h (fun hc3 h=>?_) fun hc3 h=>?_
  ·refine wft hc3<|wxz<|Qae<|Qag ?_
   obtain rfl:=osi h
   exact fend ⟨[I 1],⟨rot,tv⟩,rfl⟩ nll
  ·refine wfn hc3<|Qan<|thn<|wxz<|Qae ?_
   obtain rfl:=osi h
   exact fend ⟨[I 0],⟨rot,tv⟩,rfl⟩ nll
def Qcq (_N:Nat) (p0:Int) (p1:Int) (p2:Int):Option Bool:=
  bif (decide (p1≤p0)) then
   some (decide (p0≤p2))
  else
   some false
theorem Qdo (N:Nat) (p0:Int) (p1:Int) (p2:Int) (r:Bool) (h:Qcq N p0 p1 p2=some r):Spec Tryz.prog 65 [(I p0),(I p1),(I p2)] [] (B r) []:=by
  refine Qah Tryz.func65 rfl 0 (nle rfl) (fun X φ0 w0 hφ0 hd0=>?_)
  unfold Qcq at h
  refine wxz ?_
  refine bfe h (fun hb1 h=>?_) fun hb1 h=>?_
  ·refine wx tbk [(3,rp [(.tmp 9,(B ((decide (p1≤p0)))))] (B true))] ⟨asb hb1 (amv rfl),tv⟩<|Qae ?_
   obtain rfl:=osi h
   exact fend ⟨[(B ((decide (p0≤p2))))],⟨rot,tv⟩,rfl⟩ nll
  ·exact wx tbk [(3,rp [(.tmp 9,(B ((decide (p1≤p0)))))] (B false))] ⟨asb hb1 (amv rfl),tv⟩<|Qae<|frb h
def Qfv (N:Nat) (p0:Int):Option Bool:=
  (Qcq N p0 0 1000).bind fun x2=>
  some x2
theorem Qkv (N:Nat) (p0:Int) (r:Bool) (h:Qfv N p0=some r):Spec Tryz.prog 125 [(I p0)] [] (B r) []:=by
  refine Qah Tryz.func125 rfl 0 (nle rfl) (fun X φ0 w0 hφ0 hd0=>?_)
  unfold Qfv at h
  refine wxz ?_
  obtain ⟨x2,hf1,h⟩:=bno h
  exact wx tbk [(1,rp [fu 65,(.tmp 3,I p0),ci 0,ci 1000] (B x2))] ⟨apv Qkk (Qdo N p0 0 1000 _ hf1) (nlcc (nlc nll nl0)) nll,tv⟩<|Qae<|frb h
def Qga (N:Nat) (p0:Int):Option Bool:=
  (Qfv N p0).bind fun x3=>
  some (!x3)
def Zbq:Slot:=.own 1 [[(.fn (.func 125) [] [])]]
theorem Qmp (N:Nat) (p0:Int) (r:Bool) (h:Qga N p0=some r):Spec Tryz.prog 128 [(I (p0)),(.ref 0 1 (0) 0)] [Zbq] (B (r)) [Zbq]:=by
  refine Qah Tryz.func128 rfl 1 (nle rfl) (fun X φ0 w0 hφ0 hd0=>?_)
  unfold Qga at h
  refine Qbx<|wxz ?_
  obtain ⟨x3,hf2,h⟩:=bno h
  refine wx tbk [(2,rp [(.tmp 4,(.fn (.func 125) [] [])),(.tmp 5,I p0)] (B x3))] ⟨apv Zdr (Qkv N p0 _ hf2) (nlc nll nl0) nll,tv⟩ ?_
  refine wmr (mto (n:=8) (l':=[(3,(B ((!x3))))]) (own':=[Zbq]) [(3,(B ((!x3))))] [0] [Zbq] hφ0 (pw pn) (qb (lc (.rn (Qbn rn0 rn0)) ln) qn))<|Qae ?_
  obtain rfl:=osi h
  exact ⟨_,Mor.rfl,Qc8 (vs:=[(B ((!x3)))]) ⟨rot,tv⟩ rfl (NLt.of0 nll) (by kernel_rfl) (Qao (Qbc (nlc (NLt.of0 (NLt.fn _ _ _ nl0 nl0)) nl0)) Qbs)⟩
def Qb6 (N:Nat) (p0:(List Int)) (k2:Unit→Option Int):Nat→Int→Option Int
  | 0,_=>none
  | n5+1,y3=>
    bif (decide (y3<(p0.length:Int))) then
     (getI p0 y3).bind fun x7=>
     (Qga N x7).bind fun x12=>
     bif x12 then
      some y3
     else
      Qb6 N p0 k2 n5 (w64 (y3+1))
    else
     k2 ()
def Qd3 (N:Nat) (p0:(List Int)):Option Int:=
  Qbp (fun _=>
    some (-1)) fun k2:Unit→Option Int=>
  Qb6 N p0 k2 N 0
def Qy4 (p0:(List Int)):AV:=.dat 1 ((p0:List Int).map Qak)
def Q31:AV:=.fn (.func 128) [] [(.ref 0 1 (0) 0)]
def Qmh:Slot:=.own 1 [[(.fn (.func 125) [] [])]]
theorem Qis (N:Nat) (p0:(List Int)) (r:Int) (h:Qd3 N p0=some r):Spec Tryz.prog 141 [(Qy4 p0),Q31] [Qmh] (I (r)) [Qmh]:=by
  refine Qah Tryz.func141 rfl 1 (nle rfl) (fun X φ0 w0 hφ0 hd0=>?_)
  unfold Qd3 at h
  refine Qbx<|wxz ?_
  obtain ⟨k2,hk_k2,h⟩:=jko h
  refine wjn (τ:=Unit) (fun t=>k2 t=some r) (fun _=>⟨mk 19 [],[Qmh]⟩) (fun t h=>?_) ?_
  ·subst hk_k2
   refine wxz<|wmr (mto (n:=19) (l':=[(4,(I ((-1))))]) (own':=[Qmh]) [(4,(I ((-1))))] [0] [Qmh] hφ0 (pw pn) (qb (lc (.rn (Qbn rn0 rn0)) ln) qn))<|Qae ?_
   obtain rfl:=osi h
   exact ⟨_,Mor.rfl,Qc8 (vs:=[(I ((-1)))]) ⟨rot,tv⟩ rfl (NLt.of0 nll) (by kernel_rfl) (Qao (Qbc (nlc (NLt.of0 (NLt.fn _ _ _ nl0 nl0)) nl0)) Qbs)⟩
  ·skip
   refine wx tbk [(1,rp [(.tmp 6,(Qy4 p0))] (I ((p0.length:Int))))] ⟨alm (c:=Qak) (l:=p0) (aln rfl Tryz.underlying27 rfl),tv⟩<|Qaj ?_
   refine wmr (mto (n:=19) (l':=[(0,(Qy4 p0)),(1,Q31),(7,(I ((p0.length:Int)))),(8,I 0)]) (own':=[Qmh]) [(0,(Qy4 p0)),(1,Q31),(7,(I ((p0.length:Int)))),(8,I 0)] [0] [Qmh] hφ0 (pc (rnd Qaf) (pc (.rn (Qbn rn0 (rnc (rqr rfl) rn0))) (pw (pw pn)))) (qb (lc (.rn (Qbn rn0 rn0)) ln) qn)) ?_
   refine Qcb (τ:=Int) (fun n t=>Qb6 N p0 k2 n t=some r) (fun y3=>⟨mk 19 [(0,(Qy4 p0)),(1,Q31),(7,(I ((p0.length:Int)))),(8,I y3)],[Qmh]⟩) (fun t h=>by rw [Qb6] at h; cases h) (fun n5 ih y3 h=>?_) N (0) h
   rw [Qb6] at h
   skip
   refine wxz<|wsq ?_
   refine bfe h (fun hc6 h=>?_) fun hc6 h=>?_
   ·refine wft hc6<|Qan<|thn<|wsq<|Qaj<|wxz ?_
    obtain ⟨x7,hg8,h⟩:=bno h
    obtain ⟨hi9,hj10⟩:=gsm hg8
    obtain ⟨x12,hf11,h⟩:=bno h
    refine wx tbk [(3,rp [(.tmp 12,(Qy4 p0)),(.tmp 13,I y3)] (.dptr (Qak (x7)) 0)),(5,⟨[(.tmp 11,Q31),(.tmp 15,I x7)],[(0,Qmh)],B x12,[(0,Qmh)],false⟩)] ⟨aid rfl Tryz.underlying27 ti3 rfl rfl hi9 (mgt Qak hj10) rfl,Qat (first:=[]) (cap:=[.ref 0 1 0 0]) (vs:=[I x7]) (σr:=[Qmh]) (σr':=[Qmh]) (res':=(B x12)) [0] rfl Q2x (Qmp N x7 _ hf11) rfl (Qbt (rnc (.plain _ nll) (rnc (Qbj rfl) rn0))) (slc (Qaq (rnc (.plain _ (NLt.fn _ _ _ nl0 nl0)) rn0)) Qas) (slc (Qaq (rnc (.plain _ (NLt.fn _ _ _ nl0 nl0)) rn0)) Qas) (.plain _ nll) rfl rfl rfl,tv⟩ ?_
    refine bfe h (fun hc13 h=>?_) fun hc13 h=>?_
    ·refine wft hc13<|wxz ?_
     refine wmr (mto (n:=19) (l':=[(4,I y3)]) (own':=[Qmh]) [(4,I y3)] [0] [Qmh] hφ0 (pw pn) (qb (lc (.rn (Qbn rn0 rn0)) ln) qn))<|Qae<|Qap<|Qag<|Qag<|Qap<|Qag ?_
     obtain rfl:=osi h
     exact ⟨_,Mor.rfl,Qc8 (vs:=[I y3]) ⟨rot,tv⟩ rfl (NLt.of0 nll) (by kernel_rfl) (Qao (Qbc (nlc (NLt.of0 (NLt.fn _ _ _ nl0 nl0)) nl0)) Qbs)⟩
    ·exact wfn hc13<|Qan<|bln<|thn<|wxz1<|thn<|arm (mto (n:=19) [(0,(Qy4 p0)),(1,Q31),(7,(I ((p0.length:Int)))),(8,(I (w64 (y3+1))))] [0] [Qmh] hφ0 (pc (rnd Qaf) (pc (.rn (Qbn rn0 (rnc (rqr rfl) rn0))) (pw (pw pn)))) (qb (lc (.rn (Qbn rn0 rn0)) ln) qn)) (ih (w64 (y3+1)) h)
   ·exact wfn hc6<|Qbi<|Qax<|Qax<|Qbh rfl<|thn<|⟨(),h,(mto (n:=19) [] [0] [Qmh] hφ0 pn (qb (lc (.rn (Qbn rn0 rn0)) ln) qn))⟩
def Qcv (N:Nat) (p0:(List Int)):Option Bool:=
  (Qd3 N p0).bind fun x3=>
  some (decide (x3≥0))
def Zhy (p0:(List Int)):AV:=.dat 1 ((p0:List Int).map Qak)
def Zhx:AV:=.fn (.func 128) [] [(.ref 0 1 (0) 0)]
def Qwm:Slot:=.own 1 [[(.fn (.func 125) [] [])]]
theorem Qhu (N:Nat) (p0:(List Int)) (r:Bool) (h:Qcv N p0=some r):Spec Tryz.prog 126 [(Zhy p0),Zhx] [Qwm] (B (r)) [Qwm]:=by
  refine Qah Tryz.func126 rfl 1 (nle rfl) (fun X φ0 w0 hφ0 hd0=>?_)
  unfold Qcv at h
  refine Qbx<|wxz ?_
  obtain ⟨x3,hf2,h⟩:=bno h
  refine wx tbk [(2,⟨[fu 141,(.tmp 5,(Zhy p0)),(.tmp 6,Zhx)],[(0,Qwm)],I x3,[(0,Qwm)],false⟩)] ⟨Qat (first:=[]) (cap:=[]) (vs:=[(Zhy p0),Zhx]) (σr:=[Qwm]) (σr':=[Qwm]) (res':=(I x3)) [0] rfl Qof (Qis N p0 _ hf2) rfl (Qbt (rnc (pld Qaf) (rnc (Qbn rn0 (rnc (Qbj rfl) rn0)) rn0))) (slc (Qaq (rnc (.plain _ (NLt.fn _ _ _ nl0 nl0)) rn0)) Qas) (slc (Qaq (rnc (.plain _ (NLt.fn _ _ _ nl0 nl0)) rn0)) Qas) (.plain _ nll) rfl rfl rfl,tv⟩ ?_
  refine wmr (mto (n:=9) (l':=[(4,(B ((decide (x3≥0)))))]) (own':=[Qwm]) [(4,(B ((decide (x3≥0)))))] [0] [Qwm] hφ0 (pw pn) (qb (lc (.rn (Qbn rn0 rn0)) ln) qn))<|Qae ?_
  obtain rfl:=osi h
  exact ⟨_,Mor.rfl,Qc8 (vs:=[(B ((decide (x3≥0))))]) ⟨rot,tv⟩ rfl (NLt.of0 nll) (by kernel_rfl) (Qao (Qbc (nlc (NLt.of0 (NLt.fn _ _ _ nl0 nl0)) nl0)) Qbs)⟩
def Qgb (N:Nat) (p0:(List Int)):Option Bool:=
  (Qcv N p0).bind fun x2=>
  some (!x2)
def Zh0 (p0:(List Int)):AV:=.dat 1 ((p0:List Int).map Qak)
def Zhz:AV:=.fn (.func 128) [] [(.ref 0 1 (0) 0)]
def Zbr:Slot:=.own 1 [[(.fn (.func 125) [] [])]]
theorem Qn2 (N:Nat) (p0:(List Int)) (r:Bool) (h:Qgb N p0=some r):Spec Tryz.prog 108 [(Zh0 p0),(.fn (.func 125) [] [])] [] (B (r)) []:=by
  refine Qah Tryz.func108 rfl 0 (nle rfl) (fun X φ0 w0 hφ0 hd0=>?_)
  unfold Qgb at h
  refine wxz ?_
  obtain ⟨x2,hf1,h⟩:=bno h
  refine wx tbk [(1,rp [(.tmp 3,.ref 0 1 0 0)] Zhz),(2,⟨[fu 126,(.tmp 5,(Zh0 p0)),(.tmp 6,Zhz)],[(0,Zbr)],B x2,[(0,Zbr)],false⟩)] ⟨Qfl (fs:=[]) (cs:=[.ref 0 1 0 0]) rfl rfl rfl rfl,Qat (first:=[]) (cap:=[]) (vs:=[(Zh0 p0),Zhz]) (σr:=[Zbr]) (σr':=[Zbr]) (res':=(B x2)) [0] rfl Qog (Qhu N p0 _ hf1) rfl (Qbt (rnc (pld Qaf) (rnc (Qbn rn0 (rnc (Qbj rfl) rn0)) rn0))) (slc (Qaq (rnc (.plain _ (NLt.fn _ _ _ nl0 nl0)) rn0)) Qas) (slc (Qaq (rnc (.plain _ (NLt.fn _ _ _ nl0 nl0)) rn0)) Qas) (.plain _ nll) rfl rfl rfl,tv⟩<|Qae ?_
  obtain rfl:=osi h
  exact fend ⟨[(B ((!x2)))],⟨rot,tv⟩,rfl⟩ nll
def Qfu (_N:Nat) (p0:Int):Option Bool:=
  some (decide (p0>0))
theorem Qku (N:Nat) (p0:Int) (r:Bool) (h:Qfu N p0=some r):Spec Tryz.prog 127 [(I p0)] [] (B r) []:=by
  refine Qah Tryz.func127 rfl 0 (nle rfl) (fun X φ0 w0 hφ0 hd0=>?_)
  unfold Qfu at h
  refine wxz<|wxz<|Qae ?_
  obtain rfl:=osi h
  exact fend ⟨[(B ((decide (p0>0))))],⟨rot,tv⟩,rfl⟩ nll
def Qb5 (N:Nat) (p0:(List Int)) (k1:Unit→Option Int):Nat→Int→Option Int
  | 0,_=>none
  | n4+1,y2=>
    bif (decide (y2<(p0.length:Int))) then
     (getI p0 y2).bind fun x6=>
     (Qfu N x6).bind fun x11=>
     bif x11 then
      some y2
     else
      Qb5 N p0 k1 n4 (w64 (y2+1))
    else
     k1 ()
def Qd2 (N:Nat) (p0:(List Int)):Option Int:=
  Qbp (fun _=>
    some (-1)) fun k1:Unit→Option Int=>
  Qb5 N p0 k1 N 0
def Qy3 (p0:(List Int)):AV:=.dat 1 ((p0:List Int).map Qak)
theorem Qir (N:Nat) (p0:(List Int)) (r:Int) (h:Qd2 N p0=some r):Spec Tryz.prog 141 [(Qy3 p0),(.fn (.func 127) [] [])] [] (I (r)) []:=by
  refine Qah Tryz.func141 rfl 0 (nle rfl) (fun X φ0 w0 hφ0 hd0=>?_)
  unfold Qd2 at h
  refine wxz ?_
  obtain ⟨k1,hk_k1,h⟩:=jko h
  refine wjn (τ:=Unit) (fun t=>k1 t=some r) (fun _=>⟨mk 19 [],[]⟩) (fun t h=>?_) ?_
  ·subst hk_k1
   refine wxz<|Qae ?_
   obtain rfl:=osi h
   exact fend ⟨[(I ((-1)))],⟨rot,tv⟩,rfl⟩ nll
  ·skip
   refine wx tbk [(1,rp [(.tmp 6,(Qy3 p0))] (I ((p0.length:Int))))] ⟨alm (c:=Qak) (l:=p0) (aln rfl Tryz.underlying27 rfl),tv⟩<|Qaj ?_
   refine wmr (mto (n:=19) (l':=[(0,(Qy3 p0)),(1,(.fn (.func 127) [] [])),(7,(I ((p0.length:Int)))),(8,I 0)]) (own':=[]) [(0,(Qy3 p0)),(1,(.fn (.func 127) [] [])),(7,(I ((p0.length:Int)))),(8,I 0)] [] [] hφ0 (pc (rnd Qaf) (pc (.rn (Qbn rn0 rn0)) (pw (pw pn)))) qn) ?_
   refine Qcb (τ:=Int) (fun n t=>Qb5 N p0 k1 n t=some r) (fun y2=>⟨mk 19 [(0,(Qy3 p0)),(1,(.fn (.func 127) [] [])),(7,(I ((p0.length:Int)))),(8,I y2)],[]⟩) (fun t h=>by rw [Qb5] at h; cases h) (fun n4 ih y2 h=>?_) N (0) h
   rw [Qb5] at h
   skip
   refine wxz<|wsq ?_
   refine bfe h (fun hc5 h=>?_) fun hc5 h=>?_
   ·refine wft hc5<|Qan<|thn<|wsq<|Qaj<|wxz ?_
    obtain ⟨x6,hg7,h⟩:=bno h
    obtain ⟨hi8,hj9⟩:=gsm hg7
    obtain ⟨x11,hf10,h⟩:=bno h
    refine wx tbk [(3,rp [(.tmp 12,(Qy3 p0)),(.tmp 13,I y2)] (.dptr (Qak (x6)) 0)),(5,rp [(.tmp 11,(.fn (.func 127) [] [])),(.tmp 15,I x6)] (B x11))] ⟨aid rfl Tryz.underlying27 ti3 rfl rfl hi8 (mgt Qak hj9) rfl,apv Zdq (Qku N x6 _ hf10) (nlc nll nl0) nll,tv⟩ ?_
    refine bfe h (fun hc12 h=>?_) fun hc12 h=>?_
    ·refine wft hc12<|wxz<|Qae<|Qap<|Qag<|Qag<|Qap<|Qag ?_
     obtain rfl:=osi h
     exact fend ⟨[I y2],⟨rot,tv⟩,rfl⟩ nll
    ·exact wfn hc12<|Qan<|bln<|thn<|wxz1<|thn<|arm (mto (n:=19) [(0,(Qy3 p0)),(1,(.fn (.func 127) [] [])),(7,(I ((p0.length:Int)))),(8,(I (w64 (y2+1))))] [] [] hφ0 (pc (rnd Qaf) (pc (.rn (Qbn rn0 rn0)) (pw (pw pn)))) qn) (ih (w64 (y2+1)) h)
   ·exact wfn hc5<|Qbi<|Qax<|Qax<|Qbh rfl<|thn<|⟨(),h,(mto (n:=19) [] [] [] hφ0 pn qn)⟩
def Qci (N:Nat) (p0:(List Int)):Option Bool:=
  (Qd2 N p0).bind fun x2=>
  some (decide (x2≥0))
def Zhw (p0:(List Int)):AV:=.dat 1 ((p0:List Int).map Qak)
theorem Qht (N:Nat) (p0:(List Int)) (r:Bool) (h:Qci N p0=some r):Spec Tryz.prog 126 [(Zhw p0),(.fn (.func 127) [] [])] [] (B (r)) []:=by
  refine Qah Tryz.func126 rfl 0 (nle rfl) (fun X φ0 w0 hφ0 hd0=>?_)
  unfold Qci at h
  refine wxz ?_
  obtain ⟨x2,hf1,h⟩:=bno h
  refine wx tbk [(2,rp [fu 141,(.tmp 5,(Zhw p0)),(.tmp 6,(.fn (.func 127) [] []))] (I x2))] ⟨Qat (first:=[]) (cap:=[]) (vs:=[(Zhw p0),(.fn (.func 127) [] [])]) (σr:=[]) (σr':=[]) (res':=(I x2)) [] rfl Qof (Qir N p0 _ hf1) rfl (Qbt (rnc (pld Qaf) (rnc (.plain _ (NLt.fn _ _ _ nl0 nl0)) rn0))) Qas Qas (.plain _ nll) rfl rfl rfl,tv⟩<|Qae ?_
  obtain rfl:=osi h
  exact fend ⟨[(B ((decide (x2≥0))))],⟨rot,tv⟩,rfl⟩ nll
def Qfg (N:Nat) (p0:GElement):Option Bool:=
  Qbp (fun ⟨y1,y2⟩=>
    Qbp (fun _=>
      bif (p0.Kind != 5) then
       some ((p0.Weights.length:Int)==0)
      else
       (Qcq N (p0.Weights.length:Int) 1 20).bind fun x7=>
       bif x7 then
        (Qgb N p0.Weights).bind fun x10=>
        bif x10 then
         (Qci N p0.Weights).bind fun x13=>
         some x13
        else
         some false
       else
        some false) fun k4:Unit→Option Bool=>
    bif ((p0.From.length:Int) != y1) then
     some false
    else
     (Qcq N p0.Amount 0 y2).bind fun x16=>
     bif (!x16) then
      some false
     else
      (Qcq N p0.Wide 0 1000000).bind fun x19=>
      bif (!x19) then
       some false
      else
       (Qcq N p0.Narrow 1 1000000000).bind fun x22=>
       bif (!x22) then
        some false
       else
        k4 ()) fun k3:Int×Int→Option Bool=>
  bif (p0.Kind==1) then
   k3 (0,0)
  else
   bif (p0.Kind==2) then
    (some (if 6<(p0.From.length:Int) then 6 else (p0.From.length:Int))).bind fun x26=>
    (some (if x26>1 then x26 else 1)).bind fun x28=>
    k3 (x28,0)
   else
    bif (p0.Kind==3) then
     k3 (1,1000000000)
    else
     bif (p0.Kind==4) then
      k3 (1,1000)
     else
      bif (p0.Kind==5) then
       k3 (1,0)
      else
       bif (p0.Kind==6) then
        k3 (1,0)
       else
        some false
def Zh6 (p0:GElement):AV:=.dat 2 ((p0.From:List GPort).map Qar)
def Qy5 (p0:GElement):AV:=.dat 1 ((p0.Weights:List Int).map Qak)
def Qug (p0:GElement):Slot:=.own 7 [[(K .u8 (p0.Kind)),(Zh6 p0),(I (p0.Level)),(I (p0.Amount)),(I (p0.Wide)),(I (p0.Narrow)),(Qy5 p0)]]
def Zh5 (p0:GElement) (x7:Bool):List (Nat×Rec):=[(2,rp [((.tmp 55),(Qy5 p0))] (I ((p0.Weights.length:Int)))),(3,rp [fu 65,((.tmp 56),(I ((p0.Weights.length:Int)))),ci 1,ci 20] (B (x7)))]
def Zh4 (p0) (x7) (x10:Bool):=hcat (Zh5 p0 x7) [(4,rp [((.tmp 57),(B (x7)))] (B (true))),(7,rp [((.tmp 58),(B (true))),fu 108,((.tmp 60),(Qy5 p0)),fu 125] (B (x10)))]
def Zh3 (p0:GElement):List (Nat×Rec):=[(2,rp [((.tmp 24),(Zh6 p0))] (I ((p0.From.length:Int))))]
def Zh2 (p0) (y1:Int) (y2:Int) (x16:Bool):=hcat (Zh3 p0) [(5,rp [((.tmp 27),(B (((p0.From.length:Int) != y1))))] (B (false))),(9,rp [((.tmp 28),(B (false))),fu 65,((.tmp 30),(I (p0.Amount))),ci 0,((.tmp 31),(I (y2)))] (B (x16)))]
def Zh1 (p0) (y1) (y2) (x16) (x19:Bool):=hcat (Zh2 p0 y1 y2 x16) [(12,rp [((.tmp 34),(B ((!x16))))] (B (false))),(15,rp [((.tmp 35),(B (false))),fu 65,((.tmp 37),(I (p0.Wide))),ci 0,ci 1000000] (B (x19)))]
theorem Qlm (N:Nat) (p0:GElement) (r:Bool) (h:Qfg N p0=some r):Spec Tryz.prog 102 [(.agg (Qab p0))] [] (B r) []:=by
  refine Qah Tryz.func102 rfl 0 (nle rfl) (fun X φ0 w0 hφ0 hd0=>?_)
  unfold Qfg at h
  refine wxz<|wxz ?_
  obtain ⟨k3,hk_k3,h⟩:=jko h
  refine wjn (τ:=Int×Int) (fun t=>k3 t=some r) (fun ⟨y1,y2⟩=>⟨mk 68 [(1,.ref 0 7 0 0),(3,I y1),(4,I y2)],[(Qug p0)]⟩) (fun t h=>?_) ?_
  ·subst hk_k3
   obtain ⟨y1,y2⟩:=t
   obtain ⟨k4,hk_k4,h⟩:=jko h
   refine wjn (τ:=Unit) (fun t=>k4 t=some r) (fun _=>⟨mk 68 [(1,.ref 0 7 0 0)],[(Qug p0)]⟩) (fun t h=>?_) ?_
   ·subst hk_k4
    refine wsq<|wxz ?_
    refine bfe h (fun hc5 h=>?_) fun hc5 h=>?_
    ·refine wft hc5<|wx tbk [(2,rp [(.tmp 51,(Qy5 p0))] (I ((p0.Weights.length:Int))))] ⟨alm (c:=Qak) (l:=p0.Weights) (aln rfl Tryz.underlying27 rfl),tv⟩<|Qae<|Qag ?_
     obtain rfl:=osi h
     exact fend ⟨[(B (((p0.Weights.length:Int)==0)))],⟨rot,tv⟩,rfl⟩ nll
    ·refine wfn hc5<|Qan<|thn ?_
     obtain ⟨x7,hf6,h⟩:=bno h
     refine hpre (A:=(Zh5 p0 x7)) ⟨alm (c:=Qak) (l:=p0.Weights) (aln rfl Tryz.underlying27 rfl),apv Qkk (Qdo N (p0.Weights.length:Int) 1 20 _ hf6) (nlcc (nlc nll nl0)) nll,tv⟩ fun q1_=>?_
     refine bfe h (fun hb8 h=>?_) fun hb8 h=>?_
     ·obtain ⟨x10,hf9,h⟩:=bno h
      refine hpre (A:=(Zh4 p0 x7 x10)) (hap q1_ ⟨asb hb8 (amv rfl),ag_ (Qat (first:=[]) (cap:=[]) (vs:=[(Qy5 p0),(.fn (.func 125) [] [])]) (σr:=[]) (σr':=[]) (res':=(B x10)) [] rfl Q2z (Qn2 N p0.Weights _ hf9) rfl (Qbt (rnc (pld Qaf) (rnc (.plain _ (NLt.fn _ _ _ nl0 nl0)) rn0))) Qas Qas (.plain _ nll) rfl rfl rfl),tv⟩) fun q2_=>?_
      refine bfe h (fun hb11 h=>?_) fun hb11 h=>?_
      ·obtain ⟨x13,hf12,h⟩:=bno h
       refine wx tbk (hcat (Zh4 p0 x7 x10) [(9,rp [(.tmp 62,B x10)] (B true)),(12,rp [(.tmp 63,B true),fu 126,(.tmp 65,(Qy5 p0)),fu 127] (B x13))]) (hap q2_ ⟨asb hb11 (amv rfl),ag_ (Qat (first:=[]) (cap:=[]) (vs:=[(Qy5 p0),(.fn (.func 127) [] [])]) (σr:=[]) (σr':=[]) (res':=(B x13)) [] rfl Qog (Qht N p0.Weights _ hf12) rfl (Qbt (rnc (pld Qaf) (rnc (.plain _ (NLt.fn _ _ _ nl0 nl0)) rn0))) Qas Qas (.plain _ nll) rfl rfl rfl),tv⟩)<|Qae ?_
       exact frb h
      ·exact wx tbk (hcat (Zh4 p0 x7 x10) [(9,rp [(.tmp 62,B x10)] (B false))]) (hap q2_ ⟨asb hb11 (amv rfl),tv⟩)<|Qae<|frb h
     ·exact wx tbk (hcat (Zh5 p0 x7) [(4,rp [(.tmp 57,B x7)] (B false))]) (hap q1_ ⟨asb hb8 (amv rfl),tv⟩)<|Qae<|frb h
   ·skip
    refine hpre (A:=(Zh3 p0)) ⟨alm (c:=Qar) (l:=p0.From) (aln rfl Tryz.underlying116 rfl),tv⟩ fun q3_=>?_
    refine bfe h (fun hb14 h=>?_) fun hb14 h=>?_
    ·exact wx tbk (hcat (Zh3 p0) [(5,rp [(.tmp 27,(B (((p0.From.length:Int) != y1))))] (B true))]) (hap q3_ ⟨asb hb14 (amv rfl),tv⟩)<|wtr<|wxz<|Qae<|Qag<|frb h
    ·obtain ⟨x16,hf15,h⟩:=bno h
     refine hpre (A:=(Zh2 p0 y1 y2 x16)) (hap q3_ ⟨asb hb14 (amv rfl),ag_ (apv Qkk (Qdo N p0.Amount 0 y2 _ hf15) (nlcc (nlc nll nl0)) nll),tv⟩) fun q4_=>?_
     refine bfe h (fun hb17 h=>?_) fun hb17 h=>?_
     ·exact wx tbk (hcat (Zh2 p0 y1 y2 x16) [(12,rp [(.tmp 34,(B ((!x16))))] (B true))]) (hap q4_ ⟨asb hb17 (amv rfl),tv⟩)<|wtr<|wxz<|Qae<|Qag<|frb h
     ·obtain ⟨x19,hf18,h⟩:=bno h
      refine hpre (A:=(Zh1 p0 y1 y2 x16 x19)) (hap q4_ ⟨asb hb17 (amv rfl),ag_ (apv Qkk (Qdo N p0.Wide 0 1000000 _ hf18) (nlcc (nlc nll nl0)) nll),tv⟩) fun q5_=>?_
      refine bfe h (fun hb20 h=>?_) fun hb20 h=>?_
      ·exact wx tbk (hcat (Zh1 p0 y1 y2 x16 x19) [(18,rp [(.tmp 40,(B ((!x19))))] (B true))]) (hap q5_ ⟨asb hb20 (amv rfl),tv⟩)<|wtr<|wxz<|Qae<|Qag<|frb h
      ·obtain ⟨x22,hf21,h⟩:=bno h
       refine wx tbk (hcat (Zh1 p0 y1 y2 x16 x19) [(18,rp [(.tmp 40,(B ((!x19))))] (B false)),(21,rp [(.tmp 41,B false),fu 65,(.tmp 43,I p0.Narrow),ci 1,ci 1000000000] (B x22))]) (hap q5_ ⟨asb hb20 (amv rfl),ag_ (apv Qkk (Qdo N p0.Narrow 1 1000000000 _ hf21) (nlcc (nlc nll nl0)) nll),tv⟩) ?_
       refine bfe h (fun hc23 h=>?_) fun hc23 h=>?_
       ·exact wft hc23<|wxz<|Qae<|Qag<|frb h
       ·exact wfn hc23<|Qan<|thn<|⟨(),h,(mto (n:=68) [(1,.ref 0 7 0 0)] [0] [(Qug p0)] hφ0 (prr pn) (qb (lc rwl (lc (rnd Qav) (lcc (lcc (lc (rnd Qaf) ln))))) qn))⟩
  ·skip
   refine wxz<|Qaj<|wxz ?_
   refine bfe h (fun hc24 h=>?_) fun hc24 h=>?_
   ·exact wft hc24<|wxz1<|bln<|thn<|⟨(0,0),h,(mto (n:=68) [(1,.ref 0 7 0 0),(3,I 0),(4,I 0)] [0] [(Qug p0)] hφ0 (prr (pw (pw pn))) (qb (lc rwl (lc (rnd Qav) (lcc (lcc (lc (rnd Qaf) ln))))) qn))⟩
   ·refine wfn hc24<|wxz ?_
    refine bfe h (fun hc25 h=>?_) fun hc25 h=>?_
    ·refine wft hc25 ?_
     obtain ⟨x26,hl27,h⟩:=bno h
     obtain ⟨x28,hl29,h⟩:=bno h
     refine wx1 tbk [(2,rp [(.tmp 12,(Zh6 p0))] (I ((p0.From.length:Int)))),(3,rp [(.tmp 13,(I ((p0.From.length:Int)))),ci 6] (I x26)),(4,rp [ci 1,(.tmp 14,I x26)] (I ((if x26>1 then x26 else 1)))),(5,rp [(.tmp 15,(I ((if x26>1 then x26 else 1))))] (I x28))] ⟨alm (c:=Qar) (l:=p0.From) (aln rfl Tryz.underlying116 rfl),Qjd hl27 (Qsj rfl),Qoo rfl,Qjd hl29 (aas rfl),tv⟩<|bln<|thn ?_
     exact ⟨(x28,0),h,(mto (n:=68) [(1,.ref 0 7 0 0),(3,I x28),(4,I 0)] [0] [(Qug p0)] hφ0 (prr (pw (pw pn))) (qb (lc rwl (lc (rnd Qav) (lcc (lcc (lc (rnd Qaf) ln))))) qn))⟩
    ·refine wfn hc25<|wxz ?_
     refine bfe h (fun hc30 h=>?_) fun hc30 h=>?_
     ·exact wft hc30<|wxz1<|bln<|thn<|⟨(1,1000000000),h,(mto (n:=68) [(1,.ref 0 7 0 0),(3,I 1),(4,I 1000000000)] [0] [(Qug p0)] hφ0 (prr (pw (pw pn))) (qb (lc rwl (lc (rnd Qav) (lcc (lcc (lc (rnd Qaf) ln))))) qn))⟩
     ·refine wfn hc30<|wxz ?_
      refine bfe h (fun hc31 h=>?_) fun hc31 h=>?_
      ·exact wft hc31<|wxz1<|bln<|thn<|⟨(1,1000),h,(mto (n:=68) [(1,.ref 0 7 0 0),(3,I 1),(4,I 1000)] [0] [(Qug p0)] hφ0 (prr (pw (pw pn))) (qb (lc rwl (lc (rnd Qav) (lcc (lcc (lc (rnd Qaf) ln))))) qn))⟩
      ·refine wfn hc31<|wsq<|wxz ?_
       refine bfe h (fun hc32 h=>?_) fun hc32 h=>?_
       ·exact wft hc32<|Qan<|thn<|wft hc32<|Qan<|bln<|thn<|⟨(1,0),h,(mto (n:=68) [(1,.ref 0 7 0 0),(3,I 1),(4,I 0)] [0] [(Qug p0)] hφ0 (prr (pw (pw pn))) (qb (lc rwl (lc (rnd Qav) (lcc (lcc (lc (rnd Qaf) ln))))) qn))⟩
       ·refine wfn hc32<|wxz1<|thn ?_
        refine bfe h (fun hc33 h=>?_) fun hc33 h=>?_
        ·exact wft hc33<|Qan<|bln<|thn<|⟨(1,0),h,(mto (n:=68) [(1,.ref 0 7 0 0),(3,I 1),(4,I 0)] [0] [(Qug p0)] hφ0 (prr (pw (pw pn))) (qb (lc rwl (lc (rnd Qav) (lcc (lcc (lc (rnd Qaf) ln))))) qn))⟩
        ·exact wfn hc33<|wxz<|Qae<|Qap<|Qag<|frb h
def Qec (N:Nat) (p0:GElement):Option Bool:=
  (Qfg N p0).bind fun x3=>
  some (!x3)
def Zlf (p0:GElement):AV:=.agg [(K .u8 (p0.Kind)),(.dat 2 ((p0.From:List GPort).map Qar)),(I (p0.Level)),(I (p0.Amount)),(I (p0.Wide)),(I (p0.Narrow)),(.dat 1 ((p0.Weights:List Int).map Qak))]
def Zbs:Slot:=.own 1 [[(.fn (.func 102) [] [])]]
theorem Qja (N:Nat) (p0:GElement) (r:Bool) (h:Qec N p0=some r):Spec Tryz.prog 124 [(Zlf p0),(.ref 0 1 (0) 0)] [Zbs] (B (r)) [Zbs]:=by
  refine Qah Tryz.func124 rfl 1 (nle rfl) (fun X φ0 w0 hφ0 hd0=>?_)
  unfold Qec at h
  refine Qbx<|wxz ?_
  obtain ⟨x3,hf2,h⟩:=bno h
  refine wx tbk [(2,rp [(.tmp 4,(.fn (.func 102) [] [])),(.tmp 5,(Zlf p0))] (B x3))] ⟨apv Zd7 (Qlm N p0 _ hf2) (nlc (NLt.agg _ (nlc nll (nlc (nld Qav _) (nlcc (nlcc (nlc (nld Qaf _) nl0)))))) nl0) nll,tv⟩ ?_
  refine wmr (mto (n:=8) (l':=[(3,(B ((!x3))))]) (own':=[Zbs]) [(3,(B ((!x3))))] [0] [Zbs] hφ0 (pw pn) (qb (lc (.rn (Qbn rn0 rn0)) ln) qn))<|Qae ?_
  obtain rfl:=osi h
  exact ⟨_,Mor.rfl,Qc8 (vs:=[(B ((!x3)))]) ⟨rot,tv⟩ rfl (NLt.of0 nll) (by kernel_rfl) (Qao (Qbc (nlc (NLt.of0 (NLt.fn _ _ _ nl0 nl0)) nl0)) Qbs)⟩
def Qay (N:Nat) (p0:(List GElement)) (k2:Unit→Option Int):Nat→Int→Option Int
  | 0,_=>none
  | n5+1,y3=>
    bif (decide (y3<(p0.length:Int))) then
     (getI p0 y3).bind fun x7=>
     (Qec N x7).bind fun x12=>
     bif x12 then
      some y3
     else
      Qay N p0 k2 n5 (w64 (y3+1))
    else
     k2 ()
def Qb1 (N:Nat) (p0:(List GElement)):Option Int:=
  Qbp (fun _=>
    some (-1)) fun k2:Unit→Option Int=>
  Qay N p0 k2 N 0
def Qy6 (p0:(List GElement)):AV:=.dat 7 ((p0:List GElement).map Qab)
def Q32:AV:=.fn (.func 124) [] [(.ref 0 1 (0) 0)]
def Qmi:Slot:=.own 1 [[(.fn (.func 102) [] [])]]
def Zfi (x7:GElement):AV:=.agg [(K .u8 (x7.Kind)),(.dat 2 ((x7.From:List GPort).map Qar)),(I (x7.Level)),(I (x7.Amount)),(I (x7.Wide)),(I (x7.Narrow)),(.dat 1 ((x7.Weights:List Int).map Qak))]
theorem Qfr (N:Nat) (p0:(List GElement)) (r:Int) (h:Qb1 N p0=some r):Spec Tryz.prog 140 [(Qy6 p0),Q32] [Qmi] (I (r)) [Qmi]:=by
  refine Qah Tryz.func140 rfl 1 (nle rfl) (fun X φ0 w0 hφ0 hd0=>?_)
  unfold Qb1 at h
  refine Qbx<|wxz ?_
  obtain ⟨k2,hk_k2,h⟩:=jko h
  refine wjn (τ:=Unit) (fun t=>k2 t=some r) (fun _=>⟨mk 19 [],[Qmi]⟩) (fun t h=>?_) ?_
  ·subst hk_k2
   refine wxz<|wmr (mto (n:=19) (l':=[(4,(I ((-1))))]) (own':=[Qmi]) [(4,(I ((-1))))] [0] [Qmi] hφ0 (pw pn) (qb (lc (.rn (Qbn rn0 rn0)) ln) qn))<|Qae ?_
   obtain rfl:=osi h
   exact ⟨_,Mor.rfl,Qc8 (vs:=[(I ((-1)))]) ⟨rot,tv⟩ rfl (NLt.of0 nll) (by kernel_rfl) (Qao (Qbc (nlc (NLt.of0 (NLt.fn _ _ _ nl0 nl0)) nl0)) Qbs)⟩
  ·skip
   refine wx tbk [(1,rp [(.tmp 6,(Qy6 p0))] (I ((p0.length:Int))))] ⟨alm (c:=Qab) (l:=p0) (aln rfl Tryz.underlying40 rfl),tv⟩<|Qaj ?_
   refine wmr (mto (n:=19) (l':=[(0,(Qy6 p0)),(1,Q32),(7,(I ((p0.length:Int)))),(8,I 0)]) (own':=[Qmi]) [(0,(Qy6 p0)),(1,Q32),(7,(I ((p0.length:Int)))),(8,I 0)] [0] [Qmi] hφ0 (pc (rnd Qaa) (pc (.rn (Qbn rn0 (rnc (rqr rfl) rn0))) (pw (pw pn)))) (qb (lc (.rn (Qbn rn0 rn0)) ln) qn)) ?_
   refine Qcb (τ:=Int) (fun n t=>Qay N p0 k2 n t=some r) (fun y3=>⟨mk 19 [(0,(Qy6 p0)),(1,Q32),(7,(I ((p0.length:Int)))),(8,I y3)],[Qmi]⟩) (fun t h=>by rw [Qay] at h; cases h) (fun n5 ih y3 h=>?_) N (0) h
   rw [Qay] at h
   skip
   refine wxz<|wsq ?_
   refine bfe h (fun hc6 h=>?_) fun hc6 h=>?_
   ·refine wft hc6<|Qan<|thn<|wsq<|Qaj<|wxz ?_
    obtain ⟨x7,hg8,h⟩:=bno h
    obtain ⟨hi9,hj10⟩:=gsm hg8
    obtain ⟨x12,hf11,h⟩:=bno h
    refine wx tbk [(3,rp [(.tmp 12,(Qy6 p0)),(.tmp 13,I y3)] (.dptr (Qab (x7)) 0)),(5,⟨[(.tmp 11,Q32),(.tmp 15,(Zfi x7))],[(0,Qmi)],B x12,[(0,Qmi)],false⟩)] ⟨aid rfl Tryz.underlying40 Qju rfl rfl hi9 (mgt Qab hj10) rfl,Qat (first:=[]) (cap:=[.ref 0 1 0 0]) (vs:=[(Zfi x7)]) (σr:=[Qmi]) (σr':=[Qmi]) (res':=(B x12)) [0] rfl Zds (Qja N x7 _ hf11) rfl (Qbt (rnc (.plain _ (NLt.agg _ (nlc nll (nlc (nld Qav _) (nlcc (nlcc (nlc (nld Qaf _) nl0))))))) (rnc (Qbj rfl) rn0))) (slc (Qaq (rnc (.plain _ (NLt.fn _ _ _ nl0 nl0)) rn0)) Qas) (slc (Qaq (rnc (.plain _ (NLt.fn _ _ _ nl0 nl0)) rn0)) Qas) (.plain _ nll) rfl rfl rfl,tv⟩ ?_
    refine bfe h (fun hc13 h=>?_) fun hc13 h=>?_
    ·refine wft hc13<|wxz ?_
     refine wmr (mto (n:=19) (l':=[(4,I y3)]) (own':=[Qmi]) [(4,I y3)] [0] [Qmi] hφ0 (pw pn) (qb (lc (.rn (Qbn rn0 rn0)) ln) qn))<|Qae<|Qap<|Qag<|Qag<|Qap<|Qag ?_
     obtain rfl:=osi h
     exact ⟨_,Mor.rfl,Qc8 (vs:=[I y3]) ⟨rot,tv⟩ rfl (NLt.of0 nll) (by kernel_rfl) (Qao (Qbc (nlc (NLt.of0 (NLt.fn _ _ _ nl0 nl0)) nl0)) Qbs)⟩
    ·exact wfn hc13<|Qan<|bln<|thn<|wxz1<|thn<|arm (mto (n:=19) [(0,(Qy6 p0)),(1,Q32),(7,(I ((p0.length:Int)))),(8,(I (w64 (y3+1))))] [0] [Qmi] hφ0 (pc (rnd Qaa) (pc (.rn (Qbn rn0 (rnc (rqr rfl) rn0))) (pw (pw pn)))) (qb (lc (.rn (Qbn rn0 rn0)) ln) qn)) (ih (w64 (y3+1)) h)
   ·exact wfn hc6<|Qbi<|Qax<|Qax<|Qbh rfl<|thn<|⟨(),h,(mto (n:=19) [] [0] [Qmi] hφ0 pn (qb (lc (.rn (Qbn rn0 rn0)) ln) qn))⟩
def Qbg (N:Nat) (p0:(List GElement)):Option Bool:=
  (Qb1 N p0).bind fun x3=>
  some (decide (x3≥0))
def Zh8 (p0:(List GElement)):AV:=.dat 7 ((p0:List GElement).map Qab)
def Zh7:AV:=.fn (.func 124) [] [(.ref 0 1 (0) 0)]
def Qwn:Slot:=.own 1 [[(.fn (.func 102) [] [])]]
theorem Qfb (N:Nat) (p0:(List GElement)) (r:Bool) (h:Qbg N p0=some r):Spec Tryz.prog 123 [(Zh8 p0),Zh7] [Qwn] (B (r)) [Qwn]:=by
  refine Qah Tryz.func123 rfl 1 (nle rfl) (fun X φ0 w0 hφ0 hd0=>?_)
  unfold Qbg at h
  refine Qbx<|wxz ?_
  obtain ⟨x3,hf2,h⟩:=bno h
  refine wx tbk [(2,⟨[fu 140,(.tmp 5,(Zh8 p0)),(.tmp 6,Zh7)],[(0,Qwn)],I x3,[(0,Qwn)],false⟩)] ⟨Qat (first:=[]) (cap:=[]) (vs:=[(Zh8 p0),Zh7]) (σr:=[Qwn]) (σr':=[Qwn]) (res':=(I x3)) [0] rfl Zdi (Qfr N p0 _ hf2) rfl (Qbt (rnc (pld Qaa) (rnc (Qbn rn0 (rnc (Qbj rfl) rn0)) rn0))) (slc (Qaq (rnc (.plain _ (NLt.fn _ _ _ nl0 nl0)) rn0)) Qas) (slc (Qaq (rnc (.plain _ (NLt.fn _ _ _ nl0 nl0)) rn0)) Qas) (.plain _ nll) rfl rfl rfl,tv⟩ ?_
  refine wmr (mto (n:=9) (l':=[(4,(B ((decide (x3≥0)))))]) (own':=[Qwn]) [(4,(B ((decide (x3≥0)))))] [0] [Qwn] hφ0 (pw pn) (qb (lc (.rn (Qbn rn0 rn0)) ln) qn))<|Qae ?_
  obtain rfl:=osi h
  exact ⟨_,Mor.rfl,Qc8 (vs:=[(B ((decide (x3≥0))))]) ⟨rot,tv⟩ rfl (NLt.of0 nll) (by kernel_rfl) (Qao (Qbc (nlc (NLt.of0 (NLt.fn _ _ _ nl0 nl0)) nl0)) Qbs)⟩
def Qdu (N:Nat) (p0:(List GElement)):Option Bool:=
  (Qbg N p0).bind fun x2=>
  some (!x2)
def Zia (p0:(List GElement)):AV:=.dat 7 ((p0:List GElement).map Qab)
def Zh9:AV:=.fn (.func 124) [] [(.ref 0 1 (0) 0)]
def Zbt:Slot:=.own 1 [[(.fn (.func 102) [] [])]]
theorem Qj0 (N:Nat) (p0:(List GElement)) (r:Bool) (h:Qdu N p0=some r):Spec Tryz.prog 101 [(Zia p0),(.fn (.func 102) [] [])] [] (B (r)) []:=by
  refine Qah Tryz.func101 rfl 0 (nle rfl) (fun X φ0 w0 hφ0 hd0=>?_)
  unfold Qdu at h
  refine wxz ?_
  obtain ⟨x2,hf1,h⟩:=bno h
  refine wx tbk [(1,rp [(.tmp 3,.ref 0 1 0 0)] Zh9),(2,⟨[fu 123,(.tmp 5,(Zia p0)),(.tmp 6,Zh9)],[(0,Zbt)],B x2,[(0,Zbt)],false⟩)] ⟨Qfl (fs:=[]) (cs:=[.ref 0 1 0 0]) rfl rfl rfl rfl,Qat (first:=[]) (cap:=[]) (vs:=[(Zia p0),Zh9]) (σr:=[Zbt]) (σr':=[Zbt]) (res':=(B x2)) [0] rfl Zdt (Qfb N p0 _ hf1) rfl (Qbt (rnc (pld Qaa) (rnc (Qbn rn0 (rnc (Qbj rfl) rn0)) rn0))) (slc (Qaq (rnc (.plain _ (NLt.fn _ _ _ nl0 nl0)) rn0)) Qas) (slc (Qaq (rnc (.plain _ (NLt.fn _ _ _ nl0 nl0)) rn0)) Qas) (.plain _ nll) rfl rfl rfl,tv⟩<|Qae ?_
  obtain rfl:=osi h
  exact fend ⟨[(B ((!x2)))],⟨rot,tv⟩,rfl⟩ nll
def Qdv (_N:Nat) (p0:GElement):Option Int:=
  bif (p0.Kind==4) then
   some 2
  else
   bif (p0.Kind==5) then
    (some (p0.Weights.length:Int)).bind fun x3=>
    some x3
   else
    some 1
def Zmw (p0:GElement):AV:=.dat 1 ((p0.Weights:List Int).map Qak)
theorem Qhi (N:Nat) (p0:GElement) (r:Int) (h:Qdv N p0=some r):Spec Tryz.prog 103 [(.agg (Qab p0))] [] (I r) []:=by
  refine Qah Tryz.func103 rfl 0 (nle rfl) (fun X φ0 w0 hφ0 hd0=>?_)
  unfold Qdv at h
  refine wxz<|wsq<|wxz<|Qaj<|wxz ?_
  refine bfe h (fun hc1 h=>?_) fun hc1 h=>?_
  ·refine wft hc1<|wxz<|Qae<|Qap<|Qag ?_
   obtain rfl:=osi h
   exact fend ⟨[I 2],⟨rot,tv⟩,rfl⟩ nll
  ·refine wfn hc1<|wxz ?_
   refine bfe h (fun hc2 h=>?_) fun hc2 h=>?_
   ·refine wft hc2 ?_
    obtain ⟨x3,hl4,h⟩:=bno h
    refine wx tbk [(2,rp [(.tmp 10,(Zmw p0))] (I ((p0.Weights.length:Int)))),(3,rp [(.tmp 11,(I ((p0.Weights.length:Int))))] (I x3))] ⟨alm (c:=Qak) (l:=p0.Weights) (aln rfl Tryz.underlying27 rfl),Qjd hl4 (aas rfl),tv⟩<|Qae<|Qap<|Qag ?_
    obtain rfl:=osi h
    exact fend ⟨[I x3],⟨rot,tv⟩,rfl⟩ nll
   ·refine wfn hc2<|Qan<|bln<|thn<|wxz<|Qae ?_
    obtain rfl:=osi h
    exact fend ⟨[I 1],⟨rot,tv⟩,rfl⟩ nll
def Qda (N:Nat) (p0:GNet) (y3:Int) (k10:(List (Int×Int))→Option Bool) (x11:GElement):Nat→Int→(List (Int×Int))→Option Bool
  | 0,_,_=>none
  | n22+1,y18,y19=>
    bif (decide (y18<(x11.From.length:Int))) then
     (getI x11.From y18).bind fun x24=>
     (Qcq N x24.Element 0 (w64 (y3 - 1))).bind fun x29=>
     bif (!x29) then
      some false
     else
      (getI p0.Elements x24.Element).bind fun x31=>
      (Qdv N x31).bind fun x36=>
      (Qcq N x24.Outlet 0 (w64 (x36 - 1))).bind fun x38=>
      bif (!x38) then
       some false
      else
       bif y19.contains (x24.Element,x24.Outlet) then
        some false
       else
        bif (decide (x11.Level>x31.Level)) then
         some false
        else
         Qda N p0 y3 k10 x11 n22 (w64 (y18+1)) (addQ y19 (x24.Element,x24.Outlet))
    else
     k10 (y19)
def Qcx (N:Nat) (p0:GNet) (k2:Unit→Option Bool):Nat→Int→(List (Int×Int))→Option Bool
  | 0,_,_=>none
  | n7+1,y3,y4=>
    bif (decide (y3<(p0.Elements.length:Int))) then
     Qbp (fun y9=>
       Qcx N p0 k2 n7 (w64 (y3+1)) y9) fun k10:(List (Int×Int))→Option Bool=>
     (getI p0.Elements y3).bind fun x11=>
     (Qcq N x11.Level 0 (w64 ((p0.Table.length:Int) - 1))).bind fun x16=>
     bif (!x16) then
      some false
     else
      Qda N p0 y3 k10 x11 N 0 y4
    else
     k2 ()
def Qgc (N:Nat) (p0:GNet):Option Bool:=
  Qbp (fun _=>
    Qbp (fun _=>
      some true) fun k2:Unit→Option Bool=>
    Qcx N p0 k2 N 0 ([]:List (Int×Int))) fun k1:Unit→Option Bool=>
  (Qg2 N p0.Table).bind fun x43=>
  bif (x43 != 0) then
   some false
  else
   (Qcq N (p0.Elements.length:Int) 1 16).bind fun x46=>
   bif (!x46) then
    some false
   else
    (Qdu N p0.Elements).bind fun x49=>
    bif (!x49) then
     some false
    else
     k1 ()
def z9_0 (p0:GNet):AV:=.dat 5 ((p0.Table:List GRow).map Qa1)
def z9_1 (p0:GNet):AV:=.dat 7 ((p0.Elements:List GElement).map Qab)
def z9_2 (p0:GNet):Slot:=.own 2 [[(z9_0 p0),(z9_1 p0)]]
def Qqr (x11:GElement):AV:=.dat 2 ((x11.From:List GPort).map Qar)
def Q0s (x11:GElement):Slot:=.own 7 [[(K .u8 (x11.Kind)),(Qqr x11),(I (x11.Level)),(I (x11.Amount)),(I (x11.Wide)),(I (x11.Narrow)),(.dat 1 ((x11.Weights:List Int).map Qak))]]
def Q5k (x24:GPort) (y3:Int) (x29:Bool):List (Nat×Rec):=[(4,rp [fu 65,((.tmp 50),(I (x24.Element))),ci 0,((.tmp 52),(I (w64 (y3 - 1))))] (B (x29)))]
def Zkl (x31:GElement):AV:=.agg [(K .u8 (x31.Kind)),(.dat 2 ((x31.From:List GPort).map Qar)),(I (x31.Level)),(I (x31.Amount)),(I (x31.Wide)),(I (x31.Narrow)),(.dat 1 ((x31.Weights:List Int).map Qak))]
def Q5j (x24) (y3) (x29) (p0:GNet) (x31:GElement) (x36:Int) (x38:Bool):=hcat (Q5k x24 y3 x29) [(6,rp [((.tmp 54),(B ((!x29))))] (B (false))),(13,rp [((.tmp 55),(B (false))),((.tmp 59),(z9_1 p0)),((.tmp 61),(I (x24.Element)))] (.dptr (Qab (x31)) 0)),(15,rp [((.tmp 55),(B (false))),fu 103,((.tmp 63),(Zkl x31))] (I (x36))),(17,rp [((.tmp 55),(B (false))),fu 65,((.tmp 57),(I (x24.Outlet))),ci 0,((.tmp 65),(I (w64 (x36 - 1))))] (B (x38)))]
def Q5i (x24) (y3) (x29) (p0) (x31) (x36) (x38) (y19:(List (Int×Int))):=hcat (Q5j x24 y3 x29 p0 x31 x36 x38) [(20,rp [((.tmp 68),(B ((!x38))))] (B (false))),(23,rb [((.tmp 69),(B (false))),((.tmp 70),(.mp 1)),((.tmp 71),(.agg [(I (x24.Element)),(I (x24.Outlet))]))] [(1,(Qde y19))] (B (y19.contains (x24.Element,x24.Outlet))))]
def Q5h (p0:GNet) (x43:Int):List (Nat×Rec):=[(2,rp [fu 100,((.tmp 9),(z9_0 p0))] (I (x43)))]
def Q5g (p0) (x43) (x46:Bool):=hcat (Q5h p0 x43) [(4,rp [((.tmp 11),(B ((x43 != 0))))] (B (false))),(7,rp [((.tmp 12),(B (false))),((.tmp 14),(z9_1 p0))] (I ((p0.Elements.length:Int)))),(8,rp [((.tmp 12),(B (false))),fu 65,((.tmp 15),(I ((p0.Elements.length:Int)))),ci 1,ci 16] (B (x46)))]
theorem Qkb (N:Nat) (p0:GNet) (r:Bool) (h:Qgc N p0=some r):Spec Tryz.prog 66 [(.agg (Qh9 p0))] [] (B r) []:=by
  refine Qah Tryz.func66 rfl 0 (nle rfl) (fun X φ0 w0 hφ0 hd0=>?_)
  unfold Qgc at h
  refine wxz ?_
  obtain ⟨k1,hk_k1,h⟩:=jko h
  refine wjn (τ:=Unit) (fun t=>k1 t=some r) (fun _=>⟨mk 90 [(1,.ref 0 2 0 0)],[(z9_2 p0)]⟩) (fun t h=>?_) ?_
  ·subst hk_k1
   refine wx tbk [(0,⟨[],[(1,.unused)],(.mp 1),[(1,(Qde ([]:List (Int×Int))))],false⟩)] ⟨Qpz rfl,tv⟩ ?_
   obtain ⟨k2,hk_k2,h⟩:=jko h
   refine wjn (τ:=Unit) (fun t=>k2 t=some r) (fun _=>⟨mk 90 [],[]⟩) (fun t h=>?_) ?_
   ·subst hk_k2
    exact wxz<|Qae<|frb h
   ·skip
    refine wx tbk [(2,rp [(.tmp 27,(z9_1 p0))] (I ((p0.Elements.length:Int))))] ⟨alm (c:=Qab) (l:=p0.Elements) (aln rfl Tryz.underlying40 rfl),tv⟩<|Qaj ?_
    refine wmr (mto (n:=90) (l':=[(1,.ref 0 2 0 0),(3,(.mp 1)),(27,(z9_1 p0)),(28,(I ((p0.Elements.length:Int)))),(29,I 0)]) (own':=[(z9_2 p0),(Qde ([]:List (Int×Int)))]) [(1,.ref 0 2 0 0),(3,(.mp 1)),(27,(z9_1 p0)),(28,(I ((p0.Elements.length:Int)))),(29,I 0)] [0,1] [(z9_2 p0),(Qde ([]:List (Int×Int)))] hφ0 (prr (pc (.rn (Qhw rfl)) (pc (rnd Qaa) (pw (pw pn))))) (qb (lc (rnd Qai) (lc (rnd Qaa) ln)) (qc Qe3 qn))) ?_
    refine Qcb (τ:=Int×(List (Int×Int))) (fun n t=>Qcx N p0 k2 n t.1 t.2=some r) (fun ⟨y3,y4⟩=>⟨mk 90 [(1,.ref 0 2 0 0),(3,(.mp 1)),(27,(z9_1 p0)),(28,(I ((p0.Elements.length:Int)))),(29,I y3)],[(z9_2 p0),(Qde y4)]⟩) (fun t h=>by rw [Qcx] at h; cases h) (fun n7 ih t h=>?_) N (0,([]:List (Int×Int))) h
    obtain ⟨y3,y4⟩:=t
    rw [Qcx] at h
    skip
    refine wxz<|wsq ?_
    refine bfe h (fun hc8 h=>?_) fun hc8 h=>?_
    ·refine wft hc8<|Qan<|thn ?_
     obtain ⟨k10,hk_k10,h⟩:=jko h
     refine wjn (τ:=(List (Int×Int))) (fun t=>k10 t=some r) (fun y9=>⟨mk 90 [(1,.ref 0 2 0 0),(3,(.mp 1)),(27,(z9_1 p0)),(28,(I ((p0.Elements.length:Int)))),(29,I y3)],[(z9_2 p0),(Qde y9)]⟩) (fun y9 h=>?_) ?_
     ·subst hk_k10
      exact wxz1<|thn<|arm (mto (n:=90) [(1,.ref 0 2 0 0),(3,(.mp 1)),(27,(z9_1 p0)),(28,(I ((p0.Elements.length:Int)))),(29,(I (w64 (y3+1))))] [0,1] [(z9_2 p0),(Qde y9)] hφ0 (prr (pc (.rn (Qhw rfl)) (pc (rnd Qaa) (pw (pw pn))))) (qb (lc (rnd Qai) (lc (rnd Qaa) ln)) (qc Qe3 qn))) (ih (w64 (y3+1),y9) h)
     ·skip
      refine Qaj ?_
      obtain ⟨x11,hg12,h⟩:=bno h
      obtain ⟨hi13,hj14⟩:=gsm hg12
      refine wx tbk [(1,rp [(.tmp 27,(z9_1 p0)),(.tmp 29,I y3)] (.dptr (Qab (x11)) 0))] ⟨aid rfl Tryz.underlying40 Qju rfl rfl hi13 (mgt Qab hj14) rfl,tv⟩<|wsq ?_
      obtain ⟨x16,hf15,h⟩:=bno h
      refine wx tbk [(4,rp [(.tmp 37,(z9_0 p0))] (I ((p0.Table.length:Int)))),(6,rp [fu 65,(.tmp 35,I x11.Level),ci 0,(.tmp 39,(I (w64 ((p0.Table.length:Int) - 1))))] (B x16))] ⟨alm (c:=Qa1) (l:=p0.Table) (aln rfl Tryz.underlying39 rfl),apv Qkk (Qdo N x11.Level 0 (w64 ((p0.Table.length:Int) - 1)) _ hf15) (nlcc (nlc nll nl0)) nll,tv⟩ ?_
      refine bfe h (fun hc17 h=>?_) fun hc17 h=>?_
      ·exact wft hc17<|wxz<|Qae<|Qag<|Qap<|Qag<|Qag<|Qap<|Qag<|frb h
      ·refine wfn hc17<|Qan<|thn ?_
       refine wx tbk [(2,rp [(.tmp 43,(Qqr x11))] (I ((x11.From.length:Int))))] ⟨alm (c:=Qar) (l:=x11.From) (aln rfl Tryz.underlying116 rfl),tv⟩<|Qaj ?_
       refine wmr (mto (n:=90) (l':=[(1,.ref 0 2 0 0),(3,(.mp 1)),(4,I y3),(5,.ref 2 7 0 0),(27,(z9_1 p0)),(28,(I ((p0.Elements.length:Int)))),(29,I y3),(43,(Qqr x11)),(44,(I ((x11.From.length:Int)))),(45,I 0)]) (own':=[(z9_2 p0),(Qde y4),(Q0s x11)]) [(1,.ref 0 2 0 0),(3,(.mp 1)),(4,I y3),(5,.ref 2 7 0 0),(27,(z9_1 p0)),(28,(I ((p0.Elements.length:Int)))),(29,I y3),(43,(Qqr x11)),(44,(I ((x11.From.length:Int)))),(45,I 0)] [0,1,2] [(z9_2 p0),(Qde y4),(Q0s x11)] hφ0 (prr (pc (.rn (Qhw rfl)) (pw (prr (pc (rnd Qaa) (pw (pw (pc (rnd Qav) (pw (pw pn)))))))))) (qb (lc (rnd Qai) (lc (rnd Qaa) ln)) (qc Qe3 (qb (lc rwl (lc (rnd Qav) (lcc (lcc (lc (rnd Qaf) ln))))) qn)))) ?_
       refine Qcb (τ:=Int×(List (Int×Int))) (fun n t=>Qda N p0 y3 k10 x11 n t.1 t.2=some r) (fun ⟨y18,y19⟩=>⟨mk 90 [(1,.ref 0 2 0 0),(3,(.mp 1)),(4,I y3),(5,.ref 2 7 0 0),(27,(z9_1 p0)),(28,(I ((p0.Elements.length:Int)))),(29,I y3),(43,(Qqr x11)),(44,(I ((x11.From.length:Int)))),(45,I y18)],[(z9_2 p0),(Qde y19),(Q0s x11)]⟩) (fun t h=>by rw [Qda] at h; cases h) (fun n22 ih t h=>?_) N (0,y4) h
       obtain ⟨y18,y19⟩:=t
       rw [Qda] at h
       skip
       refine wxz<|wsq ?_
       refine bfe h (fun hc23 h=>?_) fun hc23 h=>?_
       ·refine wft hc23<|Qan<|thn<|wsq<|Qaj ?_
        obtain ⟨x24,hg25,h⟩:=bno h
        obtain ⟨hi26,hj27⟩:=gsm hg25
        refine wx tbk [(0,rp [(.tmp 43,(Qqr x11)),(.tmp 45,I y18)] (.dptr (Qar (x24)) 0))] ⟨aid rfl Tryz.underlying116 Qo1 rfl rfl hi26 (mgt Qar hj27) rfl,tv⟩<|wsq ?_
        obtain ⟨x29,hf28,h⟩:=bno h
        refine hpre (A:=(Q5k x24 y3 x29)) ⟨apv Qkk (Qdo N x24.Element 0 (w64 (y3 - 1)) _ hf28) (nlcc (nlc nll nl0)) nll,tv⟩ fun q1_=>?_
        refine bfe h (fun hb30 h=>?_) fun hb30 h=>?_
        ·refine wxd tbk (hcat (Q5k x24 y3 x29) [(6,rp [(.tmp 54,(B ((!x29))))] (B true))]) (hap q1_ ⟨asb hb30 (amv rfl),tv⟩)<|wtr<|wxz<|Qae<|Qag<|Qap<|Qag<|Qag<|Qap<|Qap ?_
         exact Qag<|Qag<|Qap<|Qag<|frb h
        ·obtain ⟨x31,hg32,h⟩:=bno h
         obtain ⟨hi33,hj34⟩:=gsm hg32
         obtain ⟨x36,hf35,h⟩:=bno h
         obtain ⟨x38,hf37,h⟩:=bno h
         refine hpre (A:=(Q5j x24 y3 x29 p0 x31 x36 x38)) (hap q1_ ⟨asb hb30 (amv rfl),ag_ (aid rfl Tryz.underlying40 Qju rfl rfl hi33 (mgt Qab hj34) rfl),ag_ (apv Q20 (Qhi N x31 _ hf35) (nlc (NLt.agg _ (nlc nll (nlc (nld Qav _) (nlcc (nlcc (nlc (nld Qaf _) nl0)))))) nl0) nll),ag_ (apv Qkk (Qdo N x24.Outlet 0 (w64 (x36 - 1)) _ hf37) (nlcc (nlc nll nl0)) nll),tv⟩) fun q2_=>?_
         refine bfe h (fun hb39 h=>?_) fun hb39 h=>?_
         ·refine wxd tbk (hcat (Q5j x24 y3 x29 p0 x31 x36 x38) [(20,rp [(.tmp 68,(B ((!x38))))] (B true))]) (hap q2_ ⟨asb hb39 (amv rfl),tv⟩)<|wtr<|wxz<|Qae<|Qag<|Qap<|Qag<|Qag<|Qap<|Qap ?_
          exact Qag<|Qag<|Qap<|Qag<|frb h
         ·refine hpre (A:=(Q5i x24 y3 x29 p0 x31 x36 x38 y19)) (hap q2_ ⟨asb hb39 (amv rfl),ag_ (Qle rfl Tryz.underlying190 Tryz.underlying120 zb4 Qtw Qr4),tv⟩) fun q3_=>?_
          refine bfe h (fun hb40 h=>?_) fun hb40 h=>?_
          ·refine wxd tbk (hcat (Q5i x24 y3 x29 p0 x31 x36 x38 y19) [(25,rp [(.tmp 73,(B (y19.contains (x24.Element,x24.Outlet))))] (B true))]) (hap q3_ ⟨asb hb40 (amv rfl),tv⟩)<|wtr<|wxz<|Qae<|Qag<|Qap<|Qag<|Qag<|Qap<|Qap ?_
           exact Qag<|Qag<|Qap<|Qag<|frb h
          ·refine wxd tbk (hcat (Q5i x24 y3 x29 p0 x31 x36 x38 y19) [(25,rp [(.tmp 73,(B (y19.contains (x24.Element,x24.Outlet))))] (B false)),(32,rp [(.tmp 74,B false),(.tmp 78,(z9_1 p0)),(.tmp 80,I x24.Element)] (.dptr (Qab (x31)) 0))]) (hap q3_ ⟨asb hb40 (amv rfl),ag_ (aid rfl Tryz.underlying40 Qju rfl rfl hi33 (mgt Qab hj34) rfl),tv⟩) ?_
           refine bfe h (fun hc41 h=>?_) fun hc41 h=>?_
           ·refine wft hc41<|wxz<|Qae<|Qag<|Qap<|Qag<|Qag<|Qap<|Qap<|Qag ?_
            exact Qag<|Qap<|Qag<|frb h
           ·refine wfn hc41<|Qan<|thn ?_
            exact wx1 tbk [(2,⟨[(.tmp 86,(.mp 1)),(.tmp 87,(.agg [I x24.Element,I x24.Outlet])),cb true],[(1,(Qde y19))],.any,[(1,(Qde (addQ y19 (x24.Element,x24.Outlet))))],false⟩)] ⟨Qsi rfl Tryz.underlying190 Tryz.underlying120 Qtw Qr4,tv⟩<|bln<|thn<|wxz1<|thn<|arm (mto (n:=90) [(1,.ref 0 2 0 0),(3,(.mp 1)),(4,I y3),(5,.ref 2 7 0 0),(27,(z9_1 p0)),(28,(I ((p0.Elements.length:Int)))),(29,I y3),(43,(Qqr x11)),(44,(I ((x11.From.length:Int)))),(45,(I (w64 (y18+1))))] [0,1,2] [(z9_2 p0),(Qde (addQ y19 (x24.Element,x24.Outlet))),(Q0s x11)] hφ0 (prr (pc (.rn (Qhw rfl)) (pw (prr (pc (rnd Qaa) (pw (pw (pc (rnd Qav) (pw (pw pn)))))))))) (qb (lc (rnd Qai) (lc (rnd Qaa) ln)) (qc Qe3 (qb (lc rwl (lc (rnd Qav) (lcc (lcc (lc (rnd Qaf) ln))))) qn)))) (ih (w64 (y18+1),addQ y19 (x24.Element,x24.Outlet)) h)
       ·exact wfn hc23<|Qbi<|Qax<|Qax<|Qbh rfl<|bln<|thn<|⟨(y19),h,(mto (n:=90) [(1,.ref 0 2 0 0),(3,(.mp 1)),(27,(z9_1 p0)),(28,(I ((p0.Elements.length:Int)))),(29,I y3)] [0,1] [(z9_2 p0),(Qde y19)] hφ0 (prr (pc (.rn (Qhw rfl)) (pc (rnd Qaa) (pw (pw pn))))) (qb (lc (rnd Qai) (lc (rnd Qaa) ln)) (qc Qe3 qn)))⟩
    ·exact wfn hc8<|Qbi<|Qax<|Qax<|Qbh rfl<|thn<|⟨(),h,(mto (n:=90) [] [] [] hφ0 pn qn)⟩
  ·skip
   obtain ⟨x43,hf42,h⟩:=bno h
   refine hpre (A:=(Q5h p0 x43)) ⟨apv Zd9 (Qmj N p0.Table _ hf42) (nlc (nld Qai _) nl0) nll,tv⟩ fun q4_=>?_
   refine bfe h (fun hb44 h=>?_) fun hb44 h=>?_
   ·exact wx tbk (hcat (Q5h p0 x43) [(4,rp [(.tmp 11,(B ((x43 != 0))))] (B true))]) (hap q4_ ⟨asb hb44 (amv rfl),tv⟩)<|wtr<|wxz<|Qae<|Qag<|frb h
   ·obtain ⟨x46,hf45,h⟩:=bno h
    refine hpre (A:=(Q5g p0 x43 x46)) (hap q4_ ⟨asb hb44 (amv rfl),ag_ (alm (c:=Qab) (l:=p0.Elements) (aln rfl Tryz.underlying40 rfl)),ag_ (apv Qkk (Qdo N (p0.Elements.length:Int) 1 16 _ hf45) (nlcc (nlc nll nl0)) nll),tv⟩) fun q5_=>?_
    refine bfe h (fun hb47 h=>?_) fun hb47 h=>?_
    ·exact wx tbk (hcat (Q5g p0 x43 x46) [(11,rp [(.tmp 18,(B ((!x46))))] (B true))]) (hap q5_ ⟨asb hb47 (amv rfl),tv⟩)<|wtr<|wxz<|Qae<|Qag<|frb h
    ·obtain ⟨x49,hf48,h⟩:=bno h
     refine wx tbk (hcat (Q5g p0 x43 x46) [(11,rp [(.tmp 18,(B ((!x46))))] (B false)),(14,rp [(.tmp 19,B false),fu 101,(.tmp 21,(z9_1 p0)),fu 102] (B x49))]) (hap q5_ ⟨asb hb47 (amv rfl),ag_ (Qat (first:=[]) (cap:=[]) (vs:=[(z9_1 p0),(.fn (.func 102) [] [])]) (σr:=[]) (σr':=[]) (res':=(B x49)) [] rfl Zd8 (Qj0 N p0.Elements _ hf48) rfl (Qbt (rnc (pld Qaa) (rnc (.plain _ (NLt.fn _ _ _ nl0 nl0)) rn0))) Qas Qas (.plain _ nll) rfl rfl rfl),tv⟩) ?_
     refine bfe h (fun hc50 h=>?_) fun hc50 h=>?_
     ·exact wft hc50<|wxz<|Qae<|Qag<|frb h
     ·exact wfn hc50<|Qan<|thn<|⟨(),h,(mto (n:=90) [(1,.ref 0 2 0 0)] [0] [(z9_2 p0)] hφ0 (prr pn) (qb (lc (rnd Qai) (lc (rnd Qaa) ln)) qn))⟩
end Go.Proofs.YtmbhnllcfmiajaaGreat
