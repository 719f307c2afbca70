/-
  Functions of the program: what they compute, as plain functions, and that they do. No conditions.
-/
import Derived.Test.YtmbhnllcfmiajaaGreatXt
namespace Go.Proofs.YtmbhnllcfmiajaaGreat
set_option maxRecDepth 100000
set_option maxHeartbeats 4000000
open Go.RowKit
def Qc1 (_N:Nat) (p0:Int) (p1:Int) (p2:Int):Option Bool:=
  bif (decide (p1≤p0)) then
   some (decide (p0≤p2))
  else
   some false
theorem Qc5 (N:Nat) (p0:Int) (p1:Int) (p2:Int) (r:Bool) (h:Qc1 N p0 p1 p2=some r):Spec Tryz.prog 137 [(I p0),(I p1),(I p2)] [] (B r) []:=by
  refine Qah Tryz.func137 rfl 0 (nle rfl) (fun X φ0 w0 hφ0 hd0=>?_)
  unfold Qc1 at h
  refine wxz ?_
  refine bfe h (fun hb1 h=>?_) fun hb1 h=>?_
  ·refine wx tbk [(3,rp [(.tmp 9,(B ((decide (p1≤p0)))))] (B true))] ⟨asb hb1 (amv rfl),tv⟩<|Qaf ?_
   obtain rfl:=osi h
   exact fend ⟨[(B ((decide (p0≤p2))))],⟨rot,tv⟩,rfl⟩ nll
  ·exact wx tbk [(3,rp [(.tmp 9,(B ((decide (p1≤p0)))))] (B false))] ⟨asb hb1 (amv rfl),tv⟩<|Qaf<|frb h
def Qg9 (N:Nat) (p0:GRow):Option Bool:=
  (Qc1 N p0.T 0 400).bind fun x2=>
  bif x2 then
   (Qc1 N p0.P 1 10000).bind fun x5=>
   bif x5 then
    (Qc1 N p0.Liquid 0 4000).bind fun x8=>
    bif x8 then
     (Qc1 N p0.Silica 0 2000).bind fun x11=>
     bif x11 then
      bif (decide (p0.Liquid<p0.Vapour)) then
       some (decide (p0.Vapour≤4000))
      else
       some false
     else
      some false
    else
     some false
   else
    some false
  else
   some false
def z8_2 (p0:GRow) (x2:Bool):List (Nat×Rec):=[(2,rp [fu 137,((.tmp 4),(I (p0.T))),ci 0,ci 400] (B (x2)))]
def z8_3 (p0) (x2) (x5:Bool):=hcat (z8_2 p0 x2) [(3,rp [((.tmp 5),(B (x2)))] (B (true))),(6,rp [((.tmp 6),(B (true))),fu 137,((.tmp 8),(I (p0.P))),ci 1,ci 10000] (B (x5)))]
def z8_4 (p0) (x2) (x5) (x8:Bool):=hcat (z8_3 p0 x2 x5) [(8,rp [((.tmp 10),(B (x5)))] (B (true))),(11,rp [((.tmp 11),(B (true))),fu 137,((.tmp 13),(I (p0.Liquid))),ci 0,ci 4000] (B (x8)))]
def z8_5 (p0) (x2) (x5) (x8) (x11:Bool):=hcat (z8_4 p0 x2 x5 x8) [(13,rp [((.tmp 15),(B (x8)))] (B (true))),(16,rp [((.tmp 16),(B (true))),fu 137,((.tmp 18),(I (p0.Silica))),ci 0,ci 2000] (B (x11)))]
theorem Qo2 (N:Nat) (p0:GRow) (r:Bool) (h:Qg9 N p0=some r):Spec Tryz.prog 139 [(.agg (Qa4 p0))] [] (B r) []:=by
  refine Qah Tryz.func139 rfl 0 (nle rfl) (fun X φ0 w0 hφ0 hd0=>?_)
  unfold Qg9 at h
  refine wxz ?_
  obtain ⟨x2,hf1,h⟩:=bno h
  refine hpre (A:=(z8_2 p0 x2)) ⟨apv Qi9 (Qc5 N p0.T 0 400 _ hf1) (nlcc (nlc nll nl0)) nll,tv⟩ fun q1_=>?_
  refine bfe h (fun hb3 h=>?_) fun hb3 h=>?_
  ·obtain ⟨x5,hf4,h⟩:=bno h
   refine hpre (A:=(z8_3 p0 x2 x5)) (hap q1_ ⟨asb hb3 (amv rfl),ag_ (apv Qi9 (Qc5 N p0.P 1 10000 _ hf4) (nlcc (nlc nll nl0)) nll),tv⟩) fun q2_=>?_
   refine bfe h (fun hb6 h=>?_) fun hb6 h=>?_
   ·obtain ⟨x8,hf7,h⟩:=bno h
    refine hpre (A:=(z8_4 p0 x2 x5 x8)) (hap q2_ ⟨asb hb6 (amv rfl),ag_ (apv Qi9 (Qc5 N p0.Liquid 0 4000 _ hf7) (nlcc (nlc nll nl0)) nll),tv⟩) fun q3_=>?_
    refine bfe h (fun hb9 h=>?_) fun hb9 h=>?_
    ·obtain ⟨x11,hf10,h⟩:=bno h
     refine hpre (A:=(z8_5 p0 x2 x5 x8 x11)) (hap q3_ ⟨asb hb9 (amv rfl),ag_ (apv Qi9 (Qc5 N p0.Silica 0 2000 _ hf10) (nlcc (nlc nll nl0)) nll),tv⟩) fun q4_=>?_
     refine bfe h (fun hb12 h=>?_) fun hb12 h=>?_
     ·refine bfe h (fun hb13 h=>?_) fun hb13 h=>?_
      ·refine wx tbk (hcat (z8_5 p0 x2 x5 x8 x11) [(18,rp [(.tmp 20,B x11)] (B true)),(25,rp [(.tmp 27,(B ((decide (p0.Liquid<p0.Vapour)))))] (B true))]) (hap q4_ ⟨asb hb12 (amv rfl),asb hb13 (amv rfl),tv⟩)<|Qaf ?_
       obtain rfl:=osi h
       exact fend ⟨[(B ((decide (p0.Vapour≤4000))))],⟨rot,tv⟩,rfl⟩ nll
      ·exact wx tbk (hcat (z8_5 p0 x2 x5 x8 x11) [(18,rp [(.tmp 20,B x11)] (B true)),(25,rp [(.tmp 27,(B ((decide (p0.Liquid<p0.Vapour)))))] (B false))]) (hap q4_ ⟨asb hb12 (amv rfl),asb hb13 (amv rfl),tv⟩)<|Qaf<|frb h
     ·exact wx tbk (hcat (z8_5 p0 x2 x5 x8 x11) [(18,rp [(.tmp 20,B x11)] (B false))]) (hap q4_ ⟨asb hb12 (amv rfl),tv⟩)<|Qaf<|frb h
    ·exact wx tbk (hcat (z8_4 p0 x2 x5 x8) [(13,rp [(.tmp 15,B x8)] (B false))]) (hap q3_ ⟨asb hb9 (amv rfl),tv⟩)<|Qaf<|frb h
   ·exact wx tbk (hcat (z8_3 p0 x2 x5) [(8,rp [(.tmp 10,B x5)] (B false))]) (hap q2_ ⟨asb hb6 (amv rfl),tv⟩)<|Qaf<|frb h
  ·exact wx tbk (hcat (z8_2 p0 x2) [(3,rp [(.tmp 5,B x2)] (B false))]) (hap q1_ ⟨asb hb3 (amv rfl),tv⟩)<|Qaf<|frb h
def Qe2 (N:Nat) (p0:GRow):Option Bool:=
  (Qg9 N p0).bind fun x3=>
  some (!x3)
def z7_1 (p0:GRow):AV:=.agg [(I (p0.T)),(I (p0.P)),(I (p0.Liquid)),(I (p0.Vapour)),(I (p0.Silica))]
def z7_2:Slot:=.own 1 [[(.fn (.func 139) [] [])]]
theorem Qk1 (N:Nat) (p0:GRow) (r:Bool) (h:Qe2 N p0=some r):Spec Tryz.prog 148 [(z7_1 p0),(.ref 0 1 (0) 0)] [z7_2] (B (r)) [z7_2]:=by
  refine Qah Tryz.func148 rfl 1 (nle rfl) (fun X φ0 w0 hφ0 hd0=>?_)
  unfold Qe2 at h
  refine Qb0<|wxz ?_
  obtain ⟨x3,hf2,h⟩:=bno h
  refine wx tbk [(2,rp [(.tmp 4,(.fn (.func 139) [] [])),(.tmp 5,(z7_1 p0))] (B x3))] ⟨apv Zhn (Qo2 N p0 _ hf2) (nlc (NLt.agg _ (nlcc (nlcc (nlc nll nl0)))) nl0) nll,tv⟩ ?_
  refine wmr (mto (n:=8) (l':=[(3,(B ((!x3))))]) (own':=[z7_2]) [(3,(B ((!x3))))] [0] [z7_2] hφ0 (pw pn) (qb (lc (.rn (Qbp rn0 rn0)) ln) qn))<|Qaf ?_
  obtain rfl:=osi h
  exact ⟨_,Mor.rfl,Qdf (vs:=[(B ((!x3)))]) ⟨rot,tv⟩ rfl (NLt.of0 nll) (by kernel_rfl) (Qao (Qbi (nlc (NLt.of0 (NLt.fn _ _ _ nl0 nl0)) nl0)) Qby)⟩
def Qa9 (N:Nat) (p0:(List GRow)) (k2:Unit→Option Int):Nat→Int→Option Int
  | 0,_=>none
  | n5+1,y3=>
    bif (decide (y3<(p0.length:Int))) then
     (getI p0 y3).bind fun x7=>
     (Qe2 N x7).bind fun x12=>
     bif x12 then
      some y3
     else
      Qa9 N p0 k2 n5 (w64 (y3+1))
    else
     k2 ()
def Qcm (N:Nat) (p0:(List GRow)):Option Int:=
  Qbb (fun _=>
    some (-1)) fun k2:Unit→Option Int=>
  Qa9 N p0 k2 N 0
def z6_0 (p0:(List GRow)):AV:=.dat 5 ((p0:List GRow).map Qa4)
def z6_1:AV:=.fn (.func 148) [] [(.ref 0 1 (0) 0)]
def z6_3:Slot:=.own 1 [[(.fn (.func 139) [] [])]]
def z6_8 (x7:GRow):AV:=.agg [(I (x7.T)),(I (x7.P)),(I (x7.Liquid)),(I (x7.Vapour)),(I (x7.Silica))]
theorem Qha (N:Nat) (p0:(List GRow)) (r:Int) (h:Qcm N p0=some r):Spec Tryz.prog 156 [(z6_0 p0),z6_1] [z6_3] (I (r)) [z6_3]:=by
  refine Qah Tryz.func156 rfl 1 (nle rfl) (fun X φ0 w0 hφ0 hd0=>?_)
  unfold Qcm at h
  refine Qb0<|wxz ?_
  obtain ⟨k2,hk_k2,h⟩:=jko h
  refine wjn (τ:=Unit) (fun t=>k2 t=some r) (fun _=>⟨mk 19 [],[z6_3]⟩) (fun t h=>?_) ?_
  ·subst hk_k2
   refine wxz<|wmr (mto (n:=19) (l':=[(4,(I ((-1))))]) (own':=[z6_3]) [(4,(I ((-1))))] [0] [z6_3] hφ0 (pw pn) (qb (lc (.rn (Qbp rn0 rn0)) ln) qn))<|Qaf ?_
   obtain rfl:=osi h
   exact ⟨_,Mor.rfl,Qdf (vs:=[(I ((-1)))]) ⟨rot,tv⟩ rfl (NLt.of0 nll) (by kernel_rfl) (Qao (Qbi (nlc (NLt.of0 (NLt.fn _ _ _ nl0 nl0)) nl0)) Qby)⟩
  ·skip
   refine wx tbk [(1,rp [(.tmp 6,(z6_0 p0))] (I ((p0.length:Int))))] ⟨alm (c:=Qa4) (l:=p0) (aln rfl Tryz.underlying38 rfl),tv⟩<|Qaj ?_
   refine wmr (mto (n:=19) (l':=[(0,(z6_0 p0)),(1,z6_1),(7,(I ((p0.length:Int)))),(8,I 0)]) (own':=[z6_3]) [(0,(z6_0 p0)),(1,z6_1),(7,(I ((p0.length:Int)))),(8,I 0)] [0] [z6_3] hφ0 (pc (rnd Qai) (pc (.rn (Qbp rn0 (rnc (rqr rfl) rn0))) (pw (pw pn)))) (qb (lc (.rn (Qbp rn0 rn0)) ln) qn)) ?_
   refine Qbt (τ:=Int) (fun n t=>Qa9 N p0 k2 n t=some r) (fun y3=>⟨mk 19 [(0,(z6_0 p0)),(1,z6_1),(7,(I ((p0.length:Int)))),(8,I y3)],[z6_3]⟩) (fun t h=>by rw [Qa9] at h; cases h) (fun n5 ih y3 h=>?_) N (0) h
   rw [Qa9] at h
   skip
   refine wxz<|wsq ?_
   refine bfe h (fun hc6 h=>?_) fun hc6 h=>?_
   ·refine wft hc6<|Qan<|thn<|wsq<|Qaj<|wxz ?_
    obtain ⟨x7,hg8,h⟩:=bno h
    obtain ⟨hi9,hj10⟩:=gsm hg8
    obtain ⟨x12,hf11,h⟩:=bno h
    refine wx tbk [(3,rp [(.tmp 12,(z6_0 p0)),(.tmp 13,I y3)] (.dptr (Qa4 (x7)) 0)),(5,⟨[(.tmp 11,z6_1),(.tmp 15,(z6_8 x7))],[(0,z6_3)],B x12,[(0,z6_3)],false⟩)] ⟨aid rfl Tryz.underlying38 Qva rfl rfl hi9 (mgt Qa4 hj10) rfl,Qav (first:=[]) (cap:=[.ref 0 1 0 0]) (vs:=[(z6_8 x7)]) (σr:=[z6_3]) (σr':=[z6_3]) (res':=(B x12)) [0] rfl Zhf (Qk1 N x7 _ hf11) rfl (Qbv (rnc (.plain _ (NLt.agg _ (nlcc (nlcc (nlc nll nl0))))) (rnc (Qbo rfl) rn0))) (slc (Qar (rnc (.plain _ (NLt.fn _ _ _ nl0 nl0)) rn0)) Qat) (slc (Qar (rnc (.plain _ (NLt.fn _ _ _ nl0 nl0)) rn0)) Qat) (.plain _ nll) rfl rfl rfl,tv⟩ ?_
    refine bfe h (fun hc13 h=>?_) fun hc13 h=>?_
    ·refine wft hc13<|wxz ?_
     refine wmr (mto (n:=19) (l':=[(4,I y3)]) (own':=[z6_3]) [(4,I y3)] [0] [z6_3] hφ0 (pw pn) (qb (lc (.rn (Qbp rn0 rn0)) ln) qn))<|Qaf<|Qaq<|Qag<|Qag<|Qaq<|Qag ?_
     obtain rfl:=osi h
     exact ⟨_,Mor.rfl,Qdf (vs:=[I y3]) ⟨rot,tv⟩ rfl (NLt.of0 nll) (by kernel_rfl) (Qao (Qbi (nlc (NLt.of0 (NLt.fn _ _ _ nl0 nl0)) nl0)) Qby)⟩
    ·exact wfn hc13<|Qan<|bln<|thn<|wxz1<|thn<|arm (mto (n:=19) [(0,(z6_0 p0)),(1,z6_1),(7,(I ((p0.length:Int)))),(8,(I (w64 (y3+1))))] [0] [z6_3] hφ0 (pc (rnd Qai) (pc (.rn (Qbp rn0 (rnc (rqr rfl) rn0))) (pw (pw pn)))) (qb (lc (.rn (Qbp rn0 rn0)) ln) qn)) (ih (w64 (y3+1)) h)
   ·exact wfn hc6<|Qbd<|Qax<|Qax<|Qbc rfl<|thn<|⟨(),h,(mto (n:=19) [] [0] [z6_3] hφ0 pn (qb (lc (.rn (Qbp rn0 rn0)) ln) qn))⟩
def Qce (N:Nat) (p0:(List GRow)):Option Bool:=
  (Qcm N p0).bind fun x3=>
  some (decide (x3≥0))
def z5_0 (p0:(List GRow)):AV:=.dat 5 ((p0:List GRow).map Qa4)
def z5_1:AV:=.fn (.func 148) [] [(.ref 0 1 (0) 0)]
def z5_2:Slot:=.own 1 [[(.fn (.func 139) [] [])]]
theorem Qgu (N:Nat) (p0:(List GRow)) (r:Bool) (h:Qce N p0=some r):Spec Tryz.prog 147 [(z5_0 p0),z5_1] [z5_2] (B (r)) [z5_2]:=by
  refine Qah Tryz.func147 rfl 1 (nle rfl) (fun X φ0 w0 hφ0 hd0=>?_)
  unfold Qce at h
  refine Qb0<|wxz ?_
  obtain ⟨x3,hf2,h⟩:=bno h
  refine wx tbk [(2,⟨[fu 156,(.tmp 5,(z5_0 p0)),(.tmp 6,z5_1)],[(0,z5_2)],I x3,[(0,z5_2)],false⟩)] ⟨Qav (first:=[]) (cap:=[]) (vs:=[(z5_0 p0),z5_1]) (σr:=[z5_2]) (σr':=[z5_2]) (res':=(I x3)) [0] rfl Zg8 (Qha N p0 _ hf2) rfl (Qbv (rnc (pld Qai) (rnc (Qbp rn0 (rnc (Qbo rfl) rn0)) rn0))) (slc (Qar (rnc (.plain _ (NLt.fn _ _ _ nl0 nl0)) rn0)) Qat) (slc (Qar (rnc (.plain _ (NLt.fn _ _ _ nl0 nl0)) rn0)) Qat) (.plain _ nll) rfl rfl rfl,tv⟩ ?_
  refine wmr (mto (n:=9) (l':=[(4,(B ((decide (x3≥0)))))]) (own':=[z5_2]) [(4,(B ((decide (x3≥0)))))] [0] [z5_2] hφ0 (pw pn) (qb (lc (.rn (Qbp rn0 rn0)) ln) qn))<|Qaf ?_
  obtain rfl:=osi h
  exact ⟨_,Mor.rfl,Qdf (vs:=[(B ((decide (x3≥0))))]) ⟨rot,tv⟩ rfl (NLt.of0 nll) (by kernel_rfl) (Qao (Qbi (nlc (NLt.of0 (NLt.fn _ _ _ nl0 nl0)) nl0)) Qby)⟩
def Qet (N:Nat) (p0:(List GRow)):Option Bool:=
  (Qce N p0).bind fun x2=>
  some (!x2)
def z4_1 (p0:(List GRow)):AV:=.dat 5 ((p0:List GRow).map Qa4)
def z4_2:AV:=.fn (.func 148) [] [(.ref 0 1 (0) 0)]
def z4_0:Slot:=.own 1 [[(.fn (.func 139) [] [])]]
theorem Qls (N:Nat) (p0:(List GRow)) (r:Bool) (h:Qet N p0=some r):Spec Tryz.prog 138 [(z4_1 p0),(.fn (.func 139) [] [])] [] (B (r)) []:=by
  refine Qah Tryz.func138 rfl 0 (nle rfl) (fun X φ0 w0 hφ0 hd0=>?_)
  unfold Qet at h
  refine wxz ?_
  obtain ⟨x2,hf1,h⟩:=bno h
  refine wx tbk [(1,rp [(.tmp 3,.ref 0 1 0 0)] z4_2),(2,⟨[fu 147,(.tmp 5,(z4_1 p0)),(.tmp 6,z4_2)],[(0,z4_0)],B x2,[(0,z4_0)],false⟩)] ⟨Qf7 (fs:=[]) (cs:=[.ref 0 1 0 0]) rfl rfl rfl rfl,Qav (first:=[]) (cap:=[]) (vs:=[(z4_1 p0),z4_2]) (σr:=[z4_0]) (σr':=[z4_0]) (res':=(B x2)) [0] rfl Zhg (Qgu N p0 _ hf1) rfl (Qbv (rnc (pld Qai) (rnc (Qbp rn0 (rnc (Qbo rfl) rn0)) rn0))) (slc (Qar (rnc (.plain _ (NLt.fn _ _ _ nl0 nl0)) rn0)) Qat) (slc (Qar (rnc (.plain _ (NLt.fn _ _ _ nl0 nl0)) rn0)) Qat) (.plain _ nll) rfl rfl rfl,tv⟩<|Qaf ?_
  obtain rfl:=osi h
  exact fend ⟨[(B ((!x2)))],⟨rot,tv⟩,rfl⟩ nll
def Qcu (N:Nat) (p0:(List GRow)) (k2:Unit→Option Bool):Nat→Int→Option Bool
  | 0,_=>none
  | n6+1,y4=>
    bif (decide (y4<((p0.drop (1:Int).toNat).length:Int))) then
     (getI (p0.drop (1:Int).toNat) y4).bind fun x8=>
     (getI p0 y4).bind fun x12=>
     bif (decide (x8.T≤x12.T)) then
      some false
     else
      bif (decide (x8.P≤x12.P)) then
       some false
      else
       bif (decide (x8.Liquid≤x12.Liquid)) then
        some false
       else
        bif (decide (x8.Silica<x12.Silica)) then
         some false
        else
         Qcu N p0 k2 n6 (w64 (y4+1))
    else
     k2 ()
def Qe3 (N:Nat) (p0:(List GRow)):Option Bool:=
  Qbb (fun _=>
    Qbb (fun _=>
      some true) fun k2:Unit→Option Bool=>
    chk (decide (0≤1)&&decide (1≤(p0.length:Int))&&decide ((p0.length:Int)≤(p0.length:Int)))<|
    Qcu N p0 k2 N 0) fun k1:Unit→Option Bool=>
  (Qc1 N (p0.length:Int) 2 20).bind fun x21=>
  bif (!x21) then
   some false
  else
   (Qet N p0).bind fun x24=>
   bif (!x24) then
    some false
   else
    k1 ()
def z2_0 (p0:(List GRow)):AV:=.dat 5 ((p0:List GRow).map Qa4)
def z2_1 (p0:(List GRow)):AV:=.dat 5 ((p0.drop (1:Int).toNat:List GRow).map Qa4)
def Zfr (x8:GRow) (x12:GRow):List (Nat×Rec):=[(5,rp [((.tmp 31),(B ((decide (x8.T≤x12.T)))))] (B (false)))]
def Zlr (p0:(List GRow)) (x21:Bool):List (Nat×Rec):=[(1,rp [((.tmp 6),(z2_0 p0))] (I ((p0.length:Int)))),(2,rp [fu 137,((.tmp 7),(I ((p0.length:Int)))),ci 2,ci 20] (B (x21)))]
theorem Qjt (N:Nat) (p0:(List GRow)) (r:Bool) (h:Qe3 N p0=some r):Spec Tryz.prog 122 [(.dat 5 (p0.map Qa4))] [] (B r) []:=by
  refine Qah Tryz.func122 rfl 0 (nle rfl) (fun X φ0 w0 hφ0 hd0=>?_)
  unfold Qe3 at h
  refine wxz ?_
  obtain ⟨k1,hk_k1,h⟩:=jko h
  refine wjn (τ:=Unit) (fun t=>k1 t=some r) (fun _=>⟨mk 54 [(0,(z2_0 p0))],[]⟩) (fun t h=>?_) ?_
  ·subst hk_k1
   obtain ⟨k2,hk_k2,h⟩:=jko h
   refine wjn (τ:=Unit) (fun t=>k2 t=some r) (fun _=>⟨mk 54 [],[]⟩) (fun t h=>?_) ?_
   ·subst hk_k2
    exact wxz<|Qaf<|frb h
   ·skip
    obtain ⟨hs3,h⟩:=cko h
    refine wx tbk [(1,rp [(.tmp 15,(z2_0 p0)),ci 1] (z2_1 p0)),(2,rp [(.tmp 16,(z2_1 p0))] (I (((p0.drop (1:Int).toNat).length:Int))))] ⟨Qnx (k:=.i64) (k':=.i64) (lo:=some (.const (.int .i64 1))) (hi:=none) (l:=1) (hh:=((p0.length:Nat):Int)) rfl Tryz.underlying39 Qva rfl (fun e=>nomatch e) (fun _=>by simp) (Q1q hs3) (Q1p hs3) (Zoe (Qa4) hs3) (Zrd Qa4),alm (c:=Qa4) (l:=p0.drop (1:Int).toNat) (aln rfl Tryz.underlying39 rfl),tv⟩<|Qaj ?_
    refine wmr (mto (n:=54) (l':=[(0,(z2_0 p0)),(16,(z2_1 p0)),(17,(I (((p0.drop (1:Int).toNat).length:Int)))),(18,I 0)]) (own':=[]) [(0,(z2_0 p0)),(16,(z2_1 p0)),(17,(I (((p0.drop (1:Int).toNat).length:Int)))),(18,I 0)] [] [] hφ0 (pc (rnd Qai) (pc (rnd Qai) (pw (pw pn)))) qn) ?_
    refine Qbt (τ:=Int) (fun n t=>Qcu N p0 k2 n t=some r) (fun y4=>⟨mk 54 [(0,(z2_0 p0)),(16,(z2_1 p0)),(17,(I (((p0.drop (1:Int).toNat).length:Int)))),(18,I y4)],[]⟩) (fun t h=>by rw [Qcu] at h; cases h) (fun n6 ih y4 h=>?_) N (0) h
    rw [Qcu] at h
    skip
    refine wxz<|wsq ?_
    refine bfe h (fun hc7 h=>?_) fun hc7 h=>?_
    ·refine wft hc7<|Qan<|thn<|wsq<|Qaj ?_
     obtain ⟨x8,hg9,h⟩:=bno h
     obtain ⟨hi10,hj11⟩:=gsm hg9
     refine wx tbk [(1,rp [(.tmp 16,(z2_1 p0)),(.tmp 18,I y4)] (.dptr (Qa4 (x8)) 0))] ⟨aid rfl Tryz.underlying39 Qva rfl rfl hi10 (mgt Qa4 hj11) rfl,tv⟩ ?_
     obtain ⟨x12,hg13,h⟩:=bno h
     obtain ⟨hi14,hj15⟩:=gsm hg13
     refine wx tbk [(2,rp [(.tmp 23,(z2_0 p0)),(.tmp 24,I y4)] (.dptr (Qa4 (x12)) 0))] ⟨aid rfl Tryz.underlying39 Qva rfl rfl hi14 (mgt Qa4 hj15) rfl,tv⟩ ?_
     refine bfe h (fun hb16 h=>?_) fun hb16 h=>?_
     ·exact wx tbk [(5,rp [(.tmp 31,(B ((decide (x8.T≤x12.T)))))] (B true))] ⟨asb hb16 (amv rfl),tv⟩<|wtr<|wxz<|Qaf<|Qaq<|Qag<|Qag<|Qaq<|Qag<|frb h
     ·refine hpre (A:=(Zfr x8 x12)) ⟨asb hb16 (amv rfl),tv⟩ fun q1_=>?_
      refine bfe h (fun hb17 h=>?_) fun hb17 h=>?_
      ·exact wx tbk (hcat (Zfr x8 x12) [(12,rp [(.tmp 38,(B ((decide (x8.P≤x12.P)))))] (B true))]) (hap q1_ ⟨asb hb17 (amv rfl),tv⟩)<|wtr<|wxz<|Qaf<|Qaq<|Qag<|Qag<|Qaq<|Qag<|frb h
      ·refine bfe h (fun hb18 h=>?_) fun hb18 h=>?_
       ·exact wx tbk (hcat (Zfr x8 x12) [(12,rp [(.tmp 38,(B ((decide (x8.P≤x12.P)))))] (B false)),(19,rp [(.tmp 45,(B ((decide (x8.Liquid≤x12.Liquid)))))] (B true))]) (hap q1_ ⟨asb hb17 (amv rfl),asb hb18 (amv rfl),tv⟩)<|wtr<|wxz<|Qaf<|Qaq<|Qag<|Qag<|Qaq<|Qag<|frb h
       ·refine wx tbk (hcat (Zfr x8 x12) [(12,rp [(.tmp 38,(B ((decide (x8.P≤x12.P)))))] (B false)),(19,rp [(.tmp 45,(B ((decide (x8.Liquid≤x12.Liquid)))))] (B false))]) (hap q1_ ⟨asb hb17 (amv rfl),asb hb18 (amv rfl),tv⟩) ?_
        refine bfe h (fun hc19 h=>?_) fun hc19 h=>?_
        ·exact wft hc19<|wxz<|Qaf<|Qaq<|Qag<|Qag<|Qaq<|Qag<|frb h
        ·exact wfn hc19<|Qan<|bln<|thn<|wxz1<|thn<|arm (mto (n:=54) [(0,(z2_0 p0)),(16,(z2_1 p0)),(17,(I (((p0.drop (1:Int).toNat).length:Int)))),(18,(I (w64 (y4+1))))] [] [] hφ0 (pc (rnd Qai) (pc (rnd Qai) (pw (pw pn)))) qn) (ih (w64 (y4+1)) h)
    ·exact wfn hc7<|Qbd<|Qax<|Qax<|Qbc rfl<|thn<|⟨(),h,(mto (n:=54) [] [] [] hφ0 pn qn)⟩
  ·skip
   obtain ⟨x21,hf20,h⟩:=bno h
   refine hpre (A:=(Zlr p0 x21)) ⟨alm (c:=Qa4) (l:=p0) (aln rfl Tryz.underlying39 rfl),apv Qi9 (Qc5 N (p0.length:Int) 2 20 _ hf20) (nlcc (nlc nll nl0)) nll,tv⟩ fun q2_=>?_
   refine bfe h (fun hb22 h=>?_) fun hb22 h=>?_
   ·exact wx tbk (hcat (Zlr p0 x21) [(4,rp [(.tmp 9,(B ((!x21))))] (B true))]) (hap q2_ ⟨asb hb22 (amv rfl),tv⟩)<|wtr<|wxz<|Qaf<|Qag<|frb h
   ·obtain ⟨x24,hf23,h⟩:=bno h
    refine wx tbk (hcat (Zlr p0 x21) [(4,rp [(.tmp 9,(B ((!x21))))] (B false)),(6,rp [(.tmp 10,B false),fu 138,(.tmp 11,(z2_0 p0)),fu 139] (B x24))]) (hap q2_ ⟨asb hb22 (amv rfl),ag_ (Qav (first:=[]) (cap:=[]) (vs:=[(z2_0 p0),(.fn (.func 139) [] [])]) (σr:=[]) (σr':=[]) (res':=(B x24)) [] rfl Zho (Qls N p0 _ hf23) rfl (Qbv (rnc (pld Qai) (rnc (.plain _ (NLt.fn _ _ _ nl0 nl0)) rn0))) Qat Qat (.plain _ nll) rfl rfl rfl),tv⟩) ?_
    refine bfe h (fun hc25 h=>?_) fun hc25 h=>?_
    ·exact wft hc25<|wxz<|Qaf<|Qag<|frb h
    ·exact wfn hc25<|Qan<|thn<|⟨(),h,(mto (n:=54) [(0,(z2_0 p0))] [] [] hφ0 (pc (rnd Qai) pn) qn)⟩
def Qhw (N:Nat) (p0:(List GRow)):Option Int:=
  (Qe3 N p0).bind fun x2=>
  bif (!x2) then
   some 1
  else
   some 0
theorem Qoe (N:Nat) (p0:(List GRow)) (r:Int) (h:Qhw N p0=some r):Spec Tryz.prog 100 [(.dat 5 (p0.map Qa4))] [] (I r) []:=by
  refine Qah Tryz.func100 rfl 0 (nle rfl) (fun X φ0 w0 hφ0 hd0=>?_)
  unfold Qhw at h
  refine wxz<|wsq ?_
  obtain ⟨x2,hf1,h⟩:=bno h
  refine wx tbk [(1,rp [fu 122,(.tmp 3,(.dat 5 ((p0:List GRow).map Qa4)))] (B x2))] ⟨apv Q6d (Qjt N p0 _ hf1) (nlc (nld Qai _) nl0) nll,tv⟩ ?_
  refine bfe h (fun hc3 h=>?_) fun hc3 h=>?_
  ·refine wft hc3<|wxz<|Qaf<|Qag ?_
   obtain rfl:=osi h
   exact fend ⟨[I 1],⟨rot,tv⟩,rfl⟩ nll
  ·refine wfn hc3<|Qan<|thn<|wxz<|Qaf ?_
   obtain rfl:=osi h
   exact fend ⟨[I 0],⟨rot,tv⟩,rfl⟩ nll
def Qcq (_N:Nat) (p0:Int) (p1:Int) (p2:Int):Option Bool:=
  bif (decide (p1≤p0)) then
   some (decide (p0≤p2))
  else
   some false
theorem Qds (N:Nat) (p0:Int) (p1:Int) (p2:Int) (r:Bool) (h:Qcq N p0 p1 p2=some r):Spec Tryz.prog 65 [(I p0),(I p1),(I p2)] [] (B r) []:=by
  refine Qah Tryz.func65 rfl 0 (nle rfl) (fun X φ0 w0 hφ0 hd0=>?_)
  unfold Qcq at h
  refine wxz ?_
  refine bfe h (fun hb1 h=>?_) fun hb1 h=>?_
  ·refine wx tbk [(3,rp [(.tmp 9,(B ((decide (p1≤p0)))))] (B true))] ⟨asb hb1 (amv rfl),tv⟩<|Qaf ?_
   obtain rfl:=osi h
   exact fend ⟨[(B ((decide (p0≤p2))))],⟨rot,tv⟩,rfl⟩ nll
  ·exact wx tbk [(3,rp [(.tmp 9,(B ((decide (p1≤p0)))))] (B false))] ⟨asb hb1 (amv rfl),tv⟩<|Qaf<|frb h
def Qgh (N:Nat) (p0:Int):Option Bool:=
  (Qcq N p0 0 1000).bind fun x2=>
  some x2
theorem Ql8 (N:Nat) (p0:Int) (r:Bool) (h:Qgh N p0=some r):Spec Tryz.prog 125 [(I p0)] [] (B r) []:=by
  refine Qah Tryz.func125 rfl 0 (nle rfl) (fun X φ0 w0 hφ0 hd0=>?_)
  unfold Qgh at h
  refine wxz ?_
  obtain ⟨x2,hf1,h⟩:=bno h
  exact wx tbk [(1,rp [fu 65,(.tmp 3,I p0),ci 0,ci 1000] (B x2))] ⟨apv Qlv (Qds N p0 0 1000 _ hf1) (nlcc (nlc nll nl0)) nll,tv⟩<|Qaf<|frb h
def Qg1 (N:Nat) (p0:Int):Option Bool:=
  (Qgh N p0).bind fun x3=>
  some (!x3)
def Zfw:Slot:=.own 1 [[(.fn (.func 125) [] [])]]
theorem Qok (N:Nat) (p0:Int) (r:Bool) (h:Qg1 N p0=some r):Spec Tryz.prog 128 [(I (p0)),(.ref 0 1 (0) 0)] [Zfw] (B (r)) [Zfw]:=by
  refine Qah Tryz.func128 rfl 1 (nle rfl) (fun X φ0 w0 hφ0 hd0=>?_)
  unfold Qg1 at h
  refine Qb0<|wxz ?_
  obtain ⟨x3,hf2,h⟩:=bno h
  refine wx tbk [(2,rp [(.tmp 4,(.fn (.func 125) [] [])),(.tmp 5,I p0)] (B x3))] ⟨apv Zhv (Ql8 N p0 _ hf2) (nlc nll nl0) nll,tv⟩ ?_
  refine wmr (mto (n:=8) (l':=[(3,(B ((!x3))))]) (own':=[Zfw]) [(3,(B ((!x3))))] [0] [Zfw] hφ0 (pw pn) (qb (lc (.rn (Qbp rn0 rn0)) ln) qn))<|Qaf ?_
  obtain rfl:=osi h
  exact ⟨_,Mor.rfl,Qdf (vs:=[(B ((!x3)))]) ⟨rot,tv⟩ rfl (NLt.of0 nll) (by kernel_rfl) (Qao (Qbi (nlc (NLt.of0 (NLt.fn _ _ _ nl0 nl0)) nl0)) Qby)⟩
def Qb8 (N:Nat) (p0:(List Int)) (k2:Unit→Option Int):Nat→Int→Option Int
  | 0,_=>none
  | n5+1,y3=>
    bif (decide (y3<(p0.length:Int))) then
     (getI p0 y3).bind fun x7=>
     (Qg1 N x7).bind fun x12=>
     bif x12 then
      some y3
     else
      Qb8 N p0 k2 n5 (w64 (y3+1))
    else
     k2 ()
def Qeg (N:Nat) (p0:(List Int)):Option Int:=
  Qbb (fun _=>
    some (-1)) fun k2:Unit→Option Int=>
  Qb8 N p0 k2 N 0
def Q2i (p0:(List Int)):AV:=.dat 1 ((p0:List Int).map Qal)
def Q7g:AV:=.fn (.func 128) [] [(.ref 0 1 (0) 0)]
def Qoc:Slot:=.own 1 [[(.fn (.func 125) [] [])]]
theorem Qj1 (N:Nat) (p0:(List Int)) (r:Int) (h:Qeg N p0=some r):Spec Tryz.prog 141 [(Q2i p0),Q7g] [Qoc] (I (r)) [Qoc]:=by
  refine Qah Tryz.func141 rfl 1 (nle rfl) (fun X φ0 w0 hφ0 hd0=>?_)
  unfold Qeg at h
  refine Qb0<|wxz ?_
  obtain ⟨k2,hk_k2,h⟩:=jko h
  refine wjn (τ:=Unit) (fun t=>k2 t=some r) (fun _=>⟨mk 19 [],[Qoc]⟩) (fun t h=>?_) ?_
  ·subst hk_k2
   refine wxz<|wmr (mto (n:=19) (l':=[(4,(I ((-1))))]) (own':=[Qoc]) [(4,(I ((-1))))] [0] [Qoc] hφ0 (pw pn) (qb (lc (.rn (Qbp rn0 rn0)) ln) qn))<|Qaf ?_
   obtain rfl:=osi h
   exact ⟨_,Mor.rfl,Qdf (vs:=[(I ((-1)))]) ⟨rot,tv⟩ rfl (NLt.of0 nll) (by kernel_rfl) (Qao (Qbi (nlc (NLt.of0 (NLt.fn _ _ _ nl0 nl0)) nl0)) Qby)⟩
  ·skip
   refine wx tbk [(1,rp [(.tmp 6,(Q2i p0))] (I ((p0.length:Int))))] ⟨alm (c:=Qal) (l:=p0) (aln rfl Tryz.underlying27 rfl),tv⟩<|Qaj ?_
   refine wmr (mto (n:=19) (l':=[(0,(Q2i p0)),(1,Q7g),(7,(I ((p0.length:Int)))),(8,I 0)]) (own':=[Qoc]) [(0,(Q2i p0)),(1,Q7g),(7,(I ((p0.length:Int)))),(8,I 0)] [0] [Qoc] hφ0 (pc (rnd Qae) (pc (.rn (Qbp rn0 (rnc (rqr rfl) rn0))) (pw (pw pn)))) (qb (lc (.rn (Qbp rn0 rn0)) ln) qn)) ?_
   refine Qbt (τ:=Int) (fun n t=>Qb8 N p0 k2 n t=some r) (fun y3=>⟨mk 19 [(0,(Q2i p0)),(1,Q7g),(7,(I ((p0.length:Int)))),(8,I y3)],[Qoc]⟩) (fun t h=>by rw [Qb8] at h; cases h) (fun n5 ih y3 h=>?_) N (0) h
   rw [Qb8] at h
   skip
   refine wxz<|wsq ?_
   refine bfe h (fun hc6 h=>?_) fun hc6 h=>?_
   ·refine wft hc6<|Qan<|thn<|wsq<|Qaj<|wxz ?_
    obtain ⟨x7,hg8,h⟩:=bno h
    obtain ⟨hi9,hj10⟩:=gsm hg8
    obtain ⟨x12,hf11,h⟩:=bno h
    refine wx tbk [(3,rp [(.tmp 12,(Q2i p0)),(.tmp 13,I y3)] (.dptr (Qal (x7)) 0)),(5,⟨[(.tmp 11,Q7g),(.tmp 15,I x7)],[(0,Qoc)],B x12,[(0,Qoc)],false⟩)] ⟨aid rfl Tryz.underlying27 ti3 rfl rfl hi9 (mgt Qal hj10) rfl,Qav (first:=[]) (cap:=[.ref 0 1 0 0]) (vs:=[I x7]) (σr:=[Qoc]) (σr':=[Qoc]) (res':=(B x12)) [0] rfl Q6c (Qok N x7 _ hf11) rfl (Qbv (rnc (.plain _ nll) (rnc (Qbo rfl) rn0))) (slc (Qar (rnc (.plain _ (NLt.fn _ _ _ nl0 nl0)) rn0)) Qat) (slc (Qar (rnc (.plain _ (NLt.fn _ _ _ nl0 nl0)) rn0)) Qat) (.plain _ nll) rfl rfl rfl,tv⟩ ?_
    refine bfe h (fun hc13 h=>?_) fun hc13 h=>?_
    ·refine wft hc13<|wxz ?_
     refine wmr (mto (n:=19) (l':=[(4,I y3)]) (own':=[Qoc]) [(4,I y3)] [0] [Qoc] hφ0 (pw pn) (qb (lc (.rn (Qbp rn0 rn0)) ln) qn))<|Qaf<|Qaq<|Qag<|Qag<|Qaq<|Qag ?_
     obtain rfl:=osi h
     exact ⟨_,Mor.rfl,Qdf (vs:=[I y3]) ⟨rot,tv⟩ rfl (NLt.of0 nll) (by kernel_rfl) (Qao (Qbi (nlc (NLt.of0 (NLt.fn _ _ _ nl0 nl0)) nl0)) Qby)⟩
    ·exact wfn hc13<|Qan<|bln<|thn<|wxz1<|thn<|arm (mto (n:=19) [(0,(Q2i p0)),(1,Q7g),(7,(I ((p0.length:Int)))),(8,(I (w64 (y3+1))))] [0] [Qoc] hφ0 (pc (rnd Qae) (pc (.rn (Qbp rn0 (rnc (rqr rfl) rn0))) (pw (pw pn)))) (qb (lc (.rn (Qbp rn0 rn0)) ln) qn)) (ih (w64 (y3+1)) h)
   ·exact wfn hc6<|Qbd<|Qax<|Qax<|Qbc rfl<|thn<|⟨(),h,(mto (n:=19) [] [0] [Qoc] hφ0 pn (qb (lc (.rn (Qbp rn0 rn0)) ln) qn))⟩
def Qcy (N:Nat) (p0:(List Int)):Option Bool:=
  (Qeg N p0).bind fun x3=>
  some (decide (x3≥0))
def Zl0 (p0:(List Int)):AV:=.dat 1 ((p0:List Int).map Qal)
def Zlz:AV:=.fn (.func 128) [] [(.ref 0 1 (0) 0)]
def Qzh:Slot:=.own 1 [[(.fn (.func 125) [] [])]]
theorem Qiv (N:Nat) (p0:(List Int)) (r:Bool) (h:Qcy N p0=some r):Spec Tryz.prog 126 [(Zl0 p0),Zlz] [Qzh] (B (r)) [Qzh]:=by
  refine Qah Tryz.func126 rfl 1 (nle rfl) (fun X φ0 w0 hφ0 hd0=>?_)
  unfold Qcy at h
  refine Qb0<|wxz ?_
  obtain ⟨x3,hf2,h⟩:=bno h
  refine wx tbk [(2,⟨[fu 141,(.tmp 5,(Zl0 p0)),(.tmp 6,Zlz)],[(0,Qzh)],I x3,[(0,Qzh)],false⟩)] ⟨Qav (first:=[]) (cap:=[]) (vs:=[(Zl0 p0),Zlz]) (σr:=[Qzh]) (σr':=[Qzh]) (res':=(I x3)) [0] rfl Qqi (Qj1 N p0 _ hf2) rfl (Qbv (rnc (pld Qae) (rnc (Qbp rn0 (rnc (Qbo rfl) rn0)) rn0))) (slc (Qar (rnc (.plain _ (NLt.fn _ _ _ nl0 nl0)) rn0)) Qat) (slc (Qar (rnc (.plain _ (NLt.fn _ _ _ nl0 nl0)) rn0)) Qat) (.plain _ nll) rfl rfl rfl,tv⟩ ?_
  refine wmr (mto (n:=9) (l':=[(4,(B ((decide (x3≥0)))))]) (own':=[Qzh]) [(4,(B ((decide (x3≥0)))))] [0] [Qzh] hφ0 (pw pn) (qb (lc (.rn (Qbp rn0 rn0)) ln) qn))<|Qaf ?_
  obtain rfl:=osi h
  exact ⟨_,Mor.rfl,Qdf (vs:=[(B ((decide (x3≥0))))]) ⟨rot,tv⟩ rfl (NLt.of0 nll) (by kernel_rfl) (Qao (Qbi (nlc (NLt.of0 (NLt.fn _ _ _ nl0 nl0)) nl0)) Qby)⟩
def Qg2 (N:Nat) (p0:(List Int)):Option Bool:=
  (Qcy N p0).bind fun x2=>
  some (!x2)
def Zl2 (p0:(List Int)):AV:=.dat 1 ((p0:List Int).map Qal)
def Zl1:AV:=.fn (.func 128) [] [(.ref 0 1 (0) 0)]
def Zfx:Slot:=.own 1 [[(.fn (.func 125) [] [])]]
theorem Qp7 (N:Nat) (p0:(List Int)) (r:Bool) (h:Qg2 N p0=some r):Spec Tryz.prog 108 [(Zl2 p0),(.fn (.func 125) [] [])] [] (B (r)) []:=by
  refine Qah Tryz.func108 rfl 0 (nle rfl) (fun X φ0 w0 hφ0 hd0=>?_)
  unfold Qg2 at h
  refine wxz ?_
  obtain ⟨x2,hf1,h⟩:=bno h
  refine wx tbk [(1,rp [(.tmp 3,.ref 0 1 0 0)] Zl1),(2,⟨[fu 126,(.tmp 5,(Zl2 p0)),(.tmp 6,Zl1)],[(0,Zfx)],B x2,[(0,Zfx)],false⟩)] ⟨Qf7 (fs:=[]) (cs:=[.ref 0 1 0 0]) rfl rfl rfl rfl,Qav (first:=[]) (cap:=[]) (vs:=[(Zl2 p0),Zl1]) (σr:=[Zfx]) (σr':=[Zfx]) (res':=(B x2)) [0] rfl Qqj (Qiv N p0 _ hf1) rfl (Qbv (rnc (pld Qae) (rnc (Qbp rn0 (rnc (Qbo rfl) rn0)) rn0))) (slc (Qar (rnc (.plain _ (NLt.fn _ _ _ nl0 nl0)) rn0)) Qat) (slc (Qar (rnc (.plain _ (NLt.fn _ _ _ nl0 nl0)) rn0)) Qat) (.plain _ nll) rfl rfl rfl,tv⟩<|Qaf ?_
  obtain rfl:=osi h
  exact fend ⟨[(B ((!x2)))],⟨rot,tv⟩,rfl⟩ nll
def Qgg (_N:Nat) (p0:Int):Option Bool:=
  some (decide (p0>0))
theorem Ql7 (N:Nat) (p0:Int) (r:Bool) (h:Qgg N p0=some r):Spec Tryz.prog 127 [(I p0)] [] (B r) []:=by
  refine Qah Tryz.func127 rfl 0 (nle rfl) (fun X φ0 w0 hφ0 hd0=>?_)
  unfold Qgg at h
  refine wxz<|wxz<|Qaf ?_
  obtain rfl:=osi h
  exact fend ⟨[(B ((decide (p0>0))))],⟨rot,tv⟩,rfl⟩ nll
def Qb7 (N:Nat) (p0:(List Int)) (k1:Unit→Option Int):Nat→Int→Option Int
  | 0,_=>none
  | n4+1,y2=>
    bif (decide (y2<(p0.length:Int))) then
     (getI p0 y2).bind fun x6=>
     (Qgg N x6).bind fun x11=>
     bif x11 then
      some y2
     else
      Qb7 N p0 k1 n4 (w64 (y2+1))
    else
     k1 ()
def Qef (N:Nat) (p0:(List Int)):Option Int:=
  Qbb (fun _=>
    some (-1)) fun k1:Unit→Option Int=>
  Qb7 N p0 k1 N 0
def Q2h (p0:(List Int)):AV:=.dat 1 ((p0:List Int).map Qal)
theorem Qj0 (N:Nat) (p0:(List Int)) (r:Int) (h:Qef N p0=some r):Spec Tryz.prog 141 [(Q2h p0),(.fn (.func 127) [] [])] [] (I (r)) []:=by
  refine Qah Tryz.func141 rfl 0 (nle rfl) (fun X φ0 w0 hφ0 hd0=>?_)
  unfold Qef at h
  refine wxz ?_
  obtain ⟨k1,hk_k1,h⟩:=jko h
  refine wjn (τ:=Unit) (fun t=>k1 t=some r) (fun _=>⟨mk 19 [],[]⟩) (fun t h=>?_) ?_
  ·subst hk_k1
   refine wxz<|Qaf ?_
   obtain rfl:=osi h
   exact fend ⟨[(I ((-1)))],⟨rot,tv⟩,rfl⟩ nll
  ·skip
   refine wx tbk [(1,rp [(.tmp 6,(Q2h p0))] (I ((p0.length:Int))))] ⟨alm (c:=Qal) (l:=p0) (aln rfl Tryz.underlying27 rfl),tv⟩<|Qaj ?_
   refine wmr (mto (n:=19) (l':=[(0,(Q2h p0)),(1,(.fn (.func 127) [] [])),(7,(I ((p0.length:Int)))),(8,I 0)]) (own':=[]) [(0,(Q2h p0)),(1,(.fn (.func 127) [] [])),(7,(I ((p0.length:Int)))),(8,I 0)] [] [] hφ0 (pc (rnd Qae) (pc (.rn (Qbp rn0 rn0)) (pw (pw pn)))) qn) ?_
   refine Qbt (τ:=Int) (fun n t=>Qb7 N p0 k1 n t=some r) (fun y2=>⟨mk 19 [(0,(Q2h p0)),(1,(.fn (.func 127) [] [])),(7,(I ((p0.length:Int)))),(8,I y2)],[]⟩) (fun t h=>by rw [Qb7] at h; cases h) (fun n4 ih y2 h=>?_) N (0) h
   rw [Qb7] at h
   skip
   refine wxz<|wsq ?_
   refine bfe h (fun hc5 h=>?_) fun hc5 h=>?_
   ·refine wft hc5<|Qan<|thn<|wsq<|Qaj<|wxz ?_
    obtain ⟨x6,hg7,h⟩:=bno h
    obtain ⟨hi8,hj9⟩:=gsm hg7
    obtain ⟨x11,hf10,h⟩:=bno h
    refine wx tbk [(3,rp [(.tmp 12,(Q2h p0)),(.tmp 13,I y2)] (.dptr (Qal (x6)) 0)),(5,rp [(.tmp 11,(.fn (.func 127) [] [])),(.tmp 15,I x6)] (B x11))] ⟨aid rfl Tryz.underlying27 ti3 rfl rfl hi8 (mgt Qal hj9) rfl,apv Zhu (Ql7 N x6 _ hf10) (nlc nll nl0) nll,tv⟩ ?_
    refine bfe h (fun hc12 h=>?_) fun hc12 h=>?_
    ·refine wft hc12<|wxz<|Qaf<|Qaq<|Qag<|Qag<|Qaq<|Qag ?_
     obtain rfl:=osi h
     exact fend ⟨[I y2],⟨rot,tv⟩,rfl⟩ nll
    ·exact wfn hc12<|Qan<|bln<|thn<|wxz1<|thn<|arm (mto (n:=19) [(0,(Q2h p0)),(1,(.fn (.func 127) [] [])),(7,(I ((p0.length:Int)))),(8,(I (w64 (y2+1))))] [] [] hφ0 (pc (rnd Qae) (pc (.rn (Qbp rn0 rn0)) (pw (pw pn)))) qn) (ih (w64 (y2+1)) h)
   ·exact wfn hc5<|Qbd<|Qax<|Qax<|Qbc rfl<|thn<|⟨(),h,(mto (n:=19) [] [] [] hφ0 pn qn)⟩
def Qch (N:Nat) (p0:(List Int)):Option Bool:=
  (Qef N p0).bind fun x2=>
  some (decide (x2≥0))
def Zly (p0:(List Int)):AV:=.dat 1 ((p0:List Int).map Qal)
theorem Qiu (N:Nat) (p0:(List Int)) (r:Bool) (h:Qch N p0=some r):Spec Tryz.prog 126 [(Zly p0),(.fn (.func 127) [] [])] [] (B (r)) []:=by
  refine Qah Tryz.func126 rfl 0 (nle rfl) (fun X φ0 w0 hφ0 hd0=>?_)
  unfold Qch at h
  refine wxz ?_
  obtain ⟨x2,hf1,h⟩:=bno h
  refine wx tbk [(2,rp [fu 141,(.tmp 5,(Zly p0)),(.tmp 6,(.fn (.func 127) [] []))] (I x2))] ⟨Qav (first:=[]) (cap:=[]) (vs:=[(Zly p0),(.fn (.func 127) [] [])]) (σr:=[]) (σr':=[]) (res':=(I x2)) [] rfl Qqi (Qj0 N p0 _ hf1) rfl (Qbv (rnc (pld Qae) (rnc (.plain _ (NLt.fn _ _ _ nl0 nl0)) rn0))) Qat Qat (.plain _ nll) rfl rfl rfl,tv⟩<|Qaf ?_
  obtain rfl:=osi h
  exact fend ⟨[(B ((decide (x2≥0))))],⟨rot,tv⟩,rfl⟩ nll
def Qfv (N:Nat) (p0:GElement):Option Bool:=
  Qbb (fun ⟨y1,y2⟩=>
    Qbb (fun _=>
      bif (p0.Kind != 5) then
       some ((p0.Weights.length:Int)==0)
      else
       (Qcq N (p0.Weights.length:Int) 1 20).bind fun x7=>
       bif x7 then
        (Qg2 N p0.Weights).bind fun x10=>
        bif x10 then
         (Qch N p0.Weights).bind fun x13=>
         some x13
        else
         some false
       else
        some false) fun k4:Unit→Option Bool=>
    bif ((p0.From.length:Int) != y1) then
     some false
    else
     (Qcq N p0.Amount 0 y2).bind fun x16=>
     bif (!x16) then
      some false
     else
      (Qcq N p0.Wide 0 1000000).bind fun x19=>
      bif (!x19) then
       some false
      else
       (Qcq N p0.Narrow 1 1000000000).bind fun x22=>
       bif (!x22) then
        some false
       else
        k4 ()) fun k3:Int×Int→Option Bool=>
  bif (p0.Kind==1) then
   k3 (0,0)
  else
   bif (p0.Kind==2) then
    (some (if 6<(p0.From.length:Int) then 6 else (p0.From.length:Int))).bind fun x26=>
    (some (if x26>1 then x26 else 1)).bind fun x28=>
    k3 (x28,0)
   else
    bif (p0.Kind==3) then
     k3 (1,1000000000)
    else
     bif (p0.Kind==4) then
      k3 (1,1000)
     else
      bif (p0.Kind==5) then
       k3 (1,0)
      else
       bif (p0.Kind==6) then
        k3 (1,0)
       else
        some false
def Zl8 (p0:GElement):AV:=.dat 2 ((p0.From:List GPort).map Qap)
def Q2j (p0:GElement):AV:=.dat 1 ((p0.Weights:List Int).map Qal)
def Qwx (p0:GElement):Slot:=.own 7 [[(K .u8 (p0.Kind)),(Zl8 p0),(I (p0.Level)),(I (p0.Amount)),(I (p0.Wide)),(I (p0.Narrow)),(Q2j p0)]]
def Zl7 (p0:GElement) (x7:Bool):List (Nat×Rec):=[(2,rp [((.tmp 55),(Q2j p0))] (I ((p0.Weights.length:Int)))),(3,rp [fu 65,((.tmp 56),(I ((p0.Weights.length:Int)))),ci 1,ci 20] (B (x7)))]
def Zl6 (p0) (x7) (x10:Bool):=hcat (Zl7 p0 x7) [(4,rp [((.tmp 57),(B (x7)))] (B (true))),(7,rp [((.tmp 58),(B (true))),fu 108,((.tmp 60),(Q2j p0)),fu 125] (B (x10)))]
def Zl5 (p0:GElement):List (Nat×Rec):=[(2,rp [((.tmp 24),(Zl8 p0))] (I ((p0.From.length:Int))))]
def Zl4 (p0) (y1:Int) (y2:Int) (x16:Bool):=hcat (Zl5 p0) [(5,rp [((.tmp 27),(B (((p0.From.length:Int) != y1))))] (B (false))),(9,rp [((.tmp 28),(B (false))),fu 65,((.tmp 30),(I (p0.Amount))),ci 0,((.tmp 31),(I (y2)))] (B (x16)))]
def Zl3 (p0) (y1) (y2) (x16) (x19:Bool):=hcat (Zl4 p0 y1 y2 x16) [(12,rp [((.tmp 34),(B ((!x16))))] (B (false))),(15,rp [((.tmp 35),(B (false))),fu 65,((.tmp 37),(I (p0.Wide))),ci 0,ci 1000000] (B (x19)))]
theorem Qm6 (N:Nat) (p0:GElement) (r:Bool) (h:Qfv N p0=some r):Spec Tryz.prog 102 [(.agg (Qad p0))] [] (B r) []:=by
  refine Qah Tryz.func102 rfl 0 (nle rfl) (fun X φ0 w0 hφ0 hd0=>?_)
  unfold Qfv at h
  refine wxz<|wxz ?_
  obtain ⟨k3,hk_k3,h⟩:=jko h
  refine wjn (τ:=Int×Int) (fun t=>k3 t=some r) (fun ⟨y1,y2⟩=>⟨mk 68 [(1,.ref 0 7 0 0),(3,I y1),(4,I y2)],[(Qwx p0)]⟩) (fun t h=>?_) ?_
  ·subst hk_k3
   obtain ⟨y1,y2⟩:=t
   obtain ⟨k4,hk_k4,h⟩:=jko h
   refine wjn (τ:=Unit) (fun t=>k4 t=some r) (fun _=>⟨mk 68 [(1,.ref 0 7 0 0)],[(Qwx p0)]⟩) (fun t h=>?_) ?_
   ·subst hk_k4
    refine wsq<|wxz ?_
    refine bfe h (fun hc5 h=>?_) fun hc5 h=>?_
    ·refine wft hc5<|wx tbk [(2,rp [(.tmp 51,(Q2j p0))] (I ((p0.Weights.length:Int))))] ⟨alm (c:=Qal) (l:=p0.Weights) (aln rfl Tryz.underlying27 rfl),tv⟩<|Qaf<|Qag ?_
     obtain rfl:=osi h
     exact fend ⟨[(B (((p0.Weights.length:Int)==0)))],⟨rot,tv⟩,rfl⟩ nll
    ·refine wfn hc5<|Qan<|thn ?_
     obtain ⟨x7,hf6,h⟩:=bno h
     refine hpre (A:=(Zl7 p0 x7)) ⟨alm (c:=Qal) (l:=p0.Weights) (aln rfl Tryz.underlying27 rfl),apv Qlv (Qds N (p0.Weights.length:Int) 1 20 _ hf6) (nlcc (nlc nll nl0)) nll,tv⟩ fun q1_=>?_
     refine bfe h (fun hb8 h=>?_) fun hb8 h=>?_
     ·obtain ⟨x10,hf9,h⟩:=bno h
      refine hpre (A:=(Zl6 p0 x7 x10)) (hap q1_ ⟨asb hb8 (amv rfl),ag_ (Qav (first:=[]) (cap:=[]) (vs:=[(Q2j p0),(.fn (.func 125) [] [])]) (σr:=[]) (σr':=[]) (res':=(B x10)) [] rfl Q6f (Qp7 N p0.Weights _ hf9) rfl (Qbv (rnc (pld Qae) (rnc (.plain _ (NLt.fn _ _ _ nl0 nl0)) rn0))) Qat Qat (.plain _ nll) rfl rfl rfl),tv⟩) fun q2_=>?_
      refine bfe h (fun hb11 h=>?_) fun hb11 h=>?_
      ·obtain ⟨x13,hf12,h⟩:=bno h
       refine wx tbk (hcat (Zl6 p0 x7 x10) [(9,rp [(.tmp 62,B x10)] (B true)),(12,rp [(.tmp 63,B true),fu 126,(.tmp 65,(Q2j p0)),fu 127] (B x13))]) (hap q2_ ⟨asb hb11 (amv rfl),ag_ (Qav (first:=[]) (cap:=[]) (vs:=[(Q2j p0),(.fn (.func 127) [] [])]) (σr:=[]) (σr':=[]) (res':=(B x13)) [] rfl Qqj (Qiu N p0.Weights _ hf12) rfl (Qbv (rnc (pld Qae) (rnc (.plain _ (NLt.fn _ _ _ nl0 nl0)) rn0))) Qat Qat (.plain _ nll) rfl rfl rfl),tv⟩)<|Qaf ?_
       exact frb h
      ·exact wx tbk (hcat (Zl6 p0 x7 x10) [(9,rp [(.tmp 62,B x10)] (B false))]) (hap q2_ ⟨asb hb11 (amv rfl),tv⟩)<|Qaf<|frb h
     ·exact wx tbk (hcat (Zl7 p0 x7) [(4,rp [(.tmp 57,B x7)] (B false))]) (hap q1_ ⟨asb hb8 (amv rfl),tv⟩)<|Qaf<|frb h
   ·skip
    refine hpre (A:=(Zl5 p0)) ⟨alm (c:=Qap) (l:=p0.From) (aln rfl Tryz.underlying116 rfl),tv⟩ fun q3_=>?_
    refine bfe h (fun hb14 h=>?_) fun hb14 h=>?_
    ·exact wx tbk (hcat (Zl5 p0) [(5,rp [(.tmp 27,(B (((p0.From.length:Int) != y1))))] (B true))]) (hap q3_ ⟨asb hb14 (amv rfl),tv⟩)<|wtr<|wxz<|Qaf<|Qag<|frb h
    ·obtain ⟨x16,hf15,h⟩:=bno h
     refine hpre (A:=(Zl4 p0 y1 y2 x16)) (hap q3_ ⟨asb hb14 (amv rfl),ag_ (apv Qlv (Qds N p0.Amount 0 y2 _ hf15) (nlcc (nlc nll nl0)) nll),tv⟩) fun q4_=>?_
     refine bfe h (fun hb17 h=>?_) fun hb17 h=>?_
     ·exact wx tbk (hcat (Zl4 p0 y1 y2 x16) [(12,rp [(.tmp 34,(B ((!x16))))] (B true))]) (hap q4_ ⟨asb hb17 (amv rfl),tv⟩)<|wtr<|wxz<|Qaf<|Qag<|frb h
     ·obtain ⟨x19,hf18,h⟩:=bno h
      refine hpre (A:=(Zl3 p0 y1 y2 x16 x19)) (hap q4_ ⟨asb hb17 (amv rfl),ag_ (apv Qlv (Qds N p0.Wide 0 1000000 _ hf18) (nlcc (nlc nll nl0)) nll),tv⟩) fun q5_=>?_
      refine bfe h (fun hb20 h=>?_) fun hb20 h=>?_
      ·exact wx tbk (hcat (Zl3 p0 y1 y2 x16 x19) [(18,rp [(.tmp 40,(B ((!x19))))] (B true))]) (hap q5_ ⟨asb hb20 (amv rfl),tv⟩)<|wtr<|wxz<|Qaf<|Qag<|frb h
      ·obtain ⟨x22,hf21,h⟩:=bno h
       refine wx tbk (hcat (Zl3 p0 y1 y2 x16 x19) [(18,rp [(.tmp 40,(B ((!x19))))] (B false)),(21,rp [(.tmp 41,B false),fu 65,(.tmp 43,I p0.Narrow),ci 1,ci 1000000000] (B x22))]) (hap q5_ ⟨asb hb20 (amv rfl),ag_ (apv Qlv (Qds N p0.Narrow 1 1000000000 _ hf21) (nlcc (nlc nll nl0)) nll),tv⟩) ?_
       refine bfe h (fun hc23 h=>?_) fun hc23 h=>?_
       ·exact wft hc23<|wxz<|Qaf<|Qag<|frb h
       ·exact wfn hc23<|Qan<|thn<|⟨(),h,(mto (n:=68) [(1,.ref 0 7 0 0)] [0] [(Qwx p0)] hφ0 (prr pn) (qb (lc rwl (lc (rnd Qay) (lcc (lcc (lc (rnd Qae) ln))))) qn))⟩
  ·skip
   refine wxz<|Qaj<|wxz ?_
   refine bfe h (fun hc24 h=>?_) fun hc24 h=>?_
   ·exact wft hc24<|wxz1<|bln<|thn<|⟨(0,0),h,(mto (n:=68) [(1,.ref 0 7 0 0),(3,I 0),(4,I 0)] [0] [(Qwx p0)] hφ0 (prr (pw (pw pn))) (qb (lc rwl (lc (rnd Qay) (lcc (lcc (lc (rnd Qae) ln))))) qn))⟩
   ·refine wfn hc24<|wxz ?_
    refine bfe h (fun hc25 h=>?_) fun hc25 h=>?_
    ·refine wft hc25 ?_
     obtain ⟨x26,hl27,h⟩:=bno h
     obtain ⟨x28,hl29,h⟩:=bno h
     refine wx1 tbk [(2,rp [(.tmp 12,(Zl8 p0))] (I ((p0.From.length:Int)))),(3,rp [(.tmp 13,(I ((p0.From.length:Int)))),ci 6] (I x26)),(4,rp [ci 1,(.tmp 14,I x26)] (I ((if x26>1 then x26 else 1)))),(5,rp [(.tmp 15,(I ((if x26>1 then x26 else 1))))] (I x28))] ⟨alm (c:=Qap) (l:=p0.From) (aln rfl Tryz.underlying116 rfl),Qhj hl27 (Qqr rfl),Qmf rfl,Qhj hl29 (aas rfl),tv⟩<|bln<|thn ?_
     exact ⟨(x28,0),h,(mto (n:=68) [(1,.ref 0 7 0 0),(3,I x28),(4,I 0)] [0] [(Qwx p0)] hφ0 (prr (pw (pw pn))) (qb (lc rwl (lc (rnd Qay) (lcc (lcc (lc (rnd Qae) ln))))) qn))⟩
    ·refine wfn hc25<|wxz ?_
     refine bfe h (fun hc30 h=>?_) fun hc30 h=>?_
     ·exact wft hc30<|wxz1<|bln<|thn<|⟨(1,1000000000),h,(mto (n:=68) [(1,.ref 0 7 0 0),(3,I 1),(4,I 1000000000)] [0] [(Qwx p0)] hφ0 (prr (pw (pw pn))) (qb (lc rwl (lc (rnd Qay) (lcc (lcc (lc (rnd Qae) ln))))) qn))⟩
     ·refine wfn hc30<|wxz ?_
      refine bfe h (fun hc31 h=>?_) fun hc31 h=>?_
      ·exact wft hc31<|wxz1<|bln<|thn<|⟨(1,1000),h,(mto (n:=68) [(1,.ref 0 7 0 0),(3,I 1),(4,I 1000)] [0] [(Qwx p0)] hφ0 (prr (pw (pw pn))) (qb (lc rwl (lc (rnd Qay) (lcc (lcc (lc (rnd Qae) ln))))) qn))⟩
      ·refine wfn hc31<|wsq<|wxz ?_
       refine bfe h (fun hc32 h=>?_) fun hc32 h=>?_
       ·exact wft hc32<|Qan<|thn<|wft hc32<|Qan<|bln<|thn<|⟨(1,0),h,(mto (n:=68) [(1,.ref 0 7 0 0),(3,I 1),(4,I 0)] [0] [(Qwx p0)] hφ0 (prr (pw (pw pn))) (qb (lc rwl (lc (rnd Qay) (lcc (lcc (lc (rnd Qae) ln))))) qn))⟩
       ·refine wfn hc32<|wxz1<|thn ?_
        refine bfe h (fun hc33 h=>?_) fun hc33 h=>?_
        ·exact wft hc33<|Qan<|bln<|thn<|⟨(1,0),h,(mto (n:=68) [(1,.ref 0 7 0 0),(3,I 1),(4,I 0)] [0] [(Qwx p0)] hφ0 (prr (pw (pw pn))) (qb (lc rwl (lc (rnd Qay) (lcc (lcc (lc (rnd Qae) ln))))) qn))⟩
        ·exact wfn hc33<|wxz<|Qaf<|Qaq<|Qag<|frb h
def Qes (N:Nat) (p0:GElement):Option Bool:=
  (Qfv N p0).bind fun x3=>
  some (!x3)
def Zpd (p0:GElement):AV:=.agg [(K .u8 (p0.Kind)),(.dat 2 ((p0.From:List GPort).map Qap)),(I (p0.Level)),(I (p0.Amount)),(I (p0.Wide)),(I (p0.Narrow)),(.dat 1 ((p0.Weights:List Int).map Qal))]
def Zfy:Slot:=.own 1 [[(.fn (.func 102) [] [])]]
theorem Qkj (N:Nat) (p0:GElement) (r:Bool) (h:Qes N p0=some r):Spec Tryz.prog 124 [(Zpd p0),(.ref 0 1 (0) 0)] [Zfy] (B (r)) [Zfy]:=by
  refine Qah Tryz.func124 rfl 1 (nle rfl) (fun X φ0 w0 hφ0 hd0=>?_)
  unfold Qes at h
  refine Qb0<|wxz ?_
  obtain ⟨x3,hf2,h⟩:=bno h
  refine wx tbk [(2,rp [(.tmp 4,(.fn (.func 102) [] [])),(.tmp 5,(Zpd p0))] (B x3))] ⟨apv Zia (Qm6 N p0 _ hf2) (nlc (NLt.agg _ (nlc nll (nlc (nld Qay _) (nlcc (nlcc (nlc (nld Qae _) nl0)))))) nl0) nll,tv⟩ ?_
  refine wmr (mto (n:=8) (l':=[(3,(B ((!x3))))]) (own':=[Zfy]) [(3,(B ((!x3))))] [0] [Zfy] hφ0 (pw pn) (qb (lc (.rn (Qbp rn0 rn0)) ln) qn))<|Qaf ?_
  obtain rfl:=osi h
  exact ⟨_,Mor.rfl,Qdf (vs:=[(B ((!x3)))]) ⟨rot,tv⟩ rfl (NLt.of0 nll) (by kernel_rfl) (Qao (Qbi (nlc (NLt.of0 (NLt.fn _ _ _ nl0 nl0)) nl0)) Qby)⟩
def Qa5 (N:Nat) (p0:(List GElement)) (k2:Unit→Option Int):Nat→Int→Option Int
  | 0,_=>none
  | n5+1,y3=>
    bif (decide (y3<(p0.length:Int))) then
     (getI p0 y3).bind fun x7=>
     (Qes N x7).bind fun x12=>
     bif x12 then
      some y3
     else
      Qa5 N p0 k2 n5 (w64 (y3+1))
    else
     k2 ()
def Qb3 (N:Nat) (p0:(List GElement)):Option Int:=
  Qbb (fun _=>
    some (-1)) fun k2:Unit→Option Int=>
  Qa5 N p0 k2 N 0
def Q2k (p0:(List GElement)):AV:=.dat 7 ((p0:List GElement).map Qad)
def Q7h:AV:=.fn (.func 124) [] [(.ref 0 1 (0) 0)]
def Qod:Slot:=.own 1 [[(.fn (.func 102) [] [])]]
def Zjj (x7:GElement):AV:=.agg [(K .u8 (x7.Kind)),(.dat 2 ((x7.From:List GPort).map Qap)),(I (x7.Level)),(I (x7.Amount)),(I (x7.Wide)),(I (x7.Narrow)),(.dat 1 ((x7.Weights:List Int).map Qal))]
theorem Qgd (N:Nat) (p0:(List GElement)) (r:Int) (h:Qb3 N p0=some r):Spec Tryz.prog 140 [(Q2k p0),Q7h] [Qod] (I (r)) [Qod]:=by
  refine Qah Tryz.func140 rfl 1 (nle rfl) (fun X φ0 w0 hφ0 hd0=>?_)
  unfold Qb3 at h
  refine Qb0<|wxz ?_
  obtain ⟨k2,hk_k2,h⟩:=jko h
  refine wjn (τ:=Unit) (fun t=>k2 t=some r) (fun _=>⟨mk 19 [],[Qod]⟩) (fun t h=>?_) ?_
  ·subst hk_k2
   refine wxz<|wmr (mto (n:=19) (l':=[(4,(I ((-1))))]) (own':=[Qod]) [(4,(I ((-1))))] [0] [Qod] hφ0 (pw pn) (qb (lc (.rn (Qbp rn0 rn0)) ln) qn))<|Qaf ?_
   obtain rfl:=osi h
   exact ⟨_,Mor.rfl,Qdf (vs:=[(I ((-1)))]) ⟨rot,tv⟩ rfl (NLt.of0 nll) (by kernel_rfl) (Qao (Qbi (nlc (NLt.of0 (NLt.fn _ _ _ nl0 nl0)) nl0)) Qby)⟩
  ·skip
   refine wx tbk [(1,rp [(.tmp 6,(Q2k p0))] (I ((p0.length:Int))))] ⟨alm (c:=Qad) (l:=p0) (aln rfl Tryz.underlying40 rfl),tv⟩<|Qaj ?_
   refine wmr (mto (n:=19) (l':=[(0,(Q2k p0)),(1,Q7h),(7,(I ((p0.length:Int)))),(8,I 0)]) (own':=[Qod]) [(0,(Q2k p0)),(1,Q7h),(7,(I ((p0.length:Int)))),(8,I 0)] [0] [Qod] hφ0 (pc (rnd Qab) (pc (.rn (Qbp rn0 (rnc (rqr rfl) rn0))) (pw (pw pn)))) (qb (lc (.rn (Qbp rn0 rn0)) ln) qn)) ?_
   refine Qbt (τ:=Int) (fun n t=>Qa5 N p0 k2 n t=some r) (fun y3=>⟨mk 19 [(0,(Q2k p0)),(1,Q7h),(7,(I ((p0.length:Int)))),(8,I y3)],[Qod]⟩) (fun t h=>by rw [Qa5] at h; cases h) (fun n5 ih y3 h=>?_) N (0) h
   rw [Qa5] at h
   skip
   refine wxz<|wsq ?_
   refine bfe h (fun hc6 h=>?_) fun hc6 h=>?_
   ·refine wft hc6<|Qan<|thn<|wsq<|Qaj<|wxz ?_
    obtain ⟨x7,hg8,h⟩:=bno h
    obtain ⟨hi9,hj10⟩:=gsm hg8
    obtain ⟨x12,hf11,h⟩:=bno h
    refine wx tbk [(3,rp [(.tmp 12,(Q2k p0)),(.tmp 13,I y3)] (.dptr (Qad (x7)) 0)),(5,⟨[(.tmp 11,Q7h),(.tmp 15,(Zjj x7))],[(0,Qod)],B x12,[(0,Qod)],false⟩)] ⟨aid rfl Tryz.underlying40 Qk0 rfl rfl hi9 (mgt Qad hj10) rfl,Qav (first:=[]) (cap:=[.ref 0 1 0 0]) (vs:=[(Zjj x7)]) (σr:=[Qod]) (σr':=[Qod]) (res':=(B x12)) [0] rfl Zhw (Qkj N x7 _ hf11) rfl (Qbv (rnc (.plain _ (NLt.agg _ (nlc nll (nlc (nld Qay _) (nlcc (nlcc (nlc (nld Qae _) nl0))))))) (rnc (Qbo rfl) rn0))) (slc (Qar (rnc (.plain _ (NLt.fn _ _ _ nl0 nl0)) rn0)) Qat) (slc (Qar (rnc (.plain _ (NLt.fn _ _ _ nl0 nl0)) rn0)) Qat) (.plain _ nll) rfl rfl rfl,tv⟩ ?_
    refine bfe h (fun hc13 h=>?_) fun hc13 h=>?_
    ·refine wft hc13<|wxz ?_
     refine wmr (mto (n:=19) (l':=[(4,I y3)]) (own':=[Qod]) [(4,I y3)] [0] [Qod] hφ0 (pw pn) (qb (lc (.rn (Qbp rn0 rn0)) ln) qn))<|Qaf<|Qaq<|Qag<|Qag<|Qaq<|Qag ?_
     obtain rfl:=osi h
     exact ⟨_,Mor.rfl,Qdf (vs:=[I y3]) ⟨rot,tv⟩ rfl (NLt.of0 nll) (by kernel_rfl) (Qao (Qbi (nlc (NLt.of0 (NLt.fn _ _ _ nl0 nl0)) nl0)) Qby)⟩
    ·exact wfn hc13<|Qan<|bln<|thn<|wxz1<|thn<|arm (mto (n:=19) [(0,(Q2k p0)),(1,Q7h),(7,(I ((p0.length:Int)))),(8,(I (w64 (y3+1))))] [0] [Qod] hφ0 (pc (rnd Qab) (pc (.rn (Qbp rn0 (rnc (rqr rfl) rn0))) (pw (pw pn)))) (qb (lc (.rn (Qbp rn0 rn0)) ln) qn)) (ih (w64 (y3+1)) h)
   ·exact wfn hc6<|Qbd<|Qax<|Qax<|Qbc rfl<|thn<|⟨(),h,(mto (n:=19) [] [0] [Qod] hφ0 pn (qb (lc (.rn (Qbp rn0 rn0)) ln) qn))⟩
def Qbn (N:Nat) (p0:(List GElement)):Option Bool:=
  (Qb3 N p0).bind fun x3=>
  some (decide (x3≥0))
def Zma (p0:(List GElement)):AV:=.dat 7 ((p0:List GElement).map Qad)
def Zl9:AV:=.fn (.func 124) [] [(.ref 0 1 (0) 0)]
def Qzi:Slot:=.own 1 [[(.fn (.func 102) [] [])]]
theorem Qfp (N:Nat) (p0:(List GElement)) (r:Bool) (h:Qbn N p0=some r):Spec Tryz.prog 123 [(Zma p0),Zl9] [Qzi] (B (r)) [Qzi]:=by
  refine Qah Tryz.func123 rfl 1 (nle rfl) (fun X φ0 w0 hφ0 hd0=>?_)
  unfold Qbn at h
  refine Qb0<|wxz ?_
  obtain ⟨x3,hf2,h⟩:=bno h
  refine wx tbk [(2,⟨[fu 140,(.tmp 5,(Zma p0)),(.tmp 6,Zl9)],[(0,Qzi)],I x3,[(0,Qzi)],false⟩)] ⟨Qav (first:=[]) (cap:=[]) (vs:=[(Zma p0),Zl9]) (σr:=[Qzi]) (σr':=[Qzi]) (res':=(I x3)) [0] rfl Zhm (Qgd N p0 _ hf2) rfl (Qbv (rnc (pld Qab) (rnc (Qbp rn0 (rnc (Qbo rfl) rn0)) rn0))) (slc (Qar (rnc (.plain _ (NLt.fn _ _ _ nl0 nl0)) rn0)) Qat) (slc (Qar (rnc (.plain _ (NLt.fn _ _ _ nl0 nl0)) rn0)) Qat) (.plain _ nll) rfl rfl rfl,tv⟩ ?_
  refine wmr (mto (n:=9) (l':=[(4,(B ((decide (x3≥0)))))]) (own':=[Qzi]) [(4,(B ((decide (x3≥0)))))] [0] [Qzi] hφ0 (pw pn) (qb (lc (.rn (Qbp rn0 rn0)) ln) qn))<|Qaf ?_
  obtain rfl:=osi h
  exact ⟨_,Mor.rfl,Qdf (vs:=[(B ((decide (x3≥0))))]) ⟨rot,tv⟩ rfl (NLt.of0 nll) (by kernel_rfl) (Qao (Qbi (nlc (NLt.of0 (NLt.fn _ _ _ nl0 nl0)) nl0)) Qby)⟩
def Qd4 (N:Nat) (p0:(List GElement)):Option Bool:=
  (Qbn N p0).bind fun x2=>
  some (!x2)
def Zmc (p0:(List GElement)):AV:=.dat 7 ((p0:List GElement).map Qad)
def Zmb:AV:=.fn (.func 124) [] [(.ref 0 1 (0) 0)]
def Zfz:Slot:=.own 1 [[(.fn (.func 102) [] [])]]
theorem Qk8 (N:Nat) (p0:(List GElement)) (r:Bool) (h:Qd4 N p0=some r):Spec Tryz.prog 101 [(Zmc p0),(.fn (.func 102) [] [])] [] (B (r)) []:=by
  refine Qah Tryz.func101 rfl 0 (nle rfl) (fun X φ0 w0 hφ0 hd0=>?_)
  unfold Qd4 at h
  refine wxz ?_
  obtain ⟨x2,hf1,h⟩:=bno h
  refine wx tbk [(1,rp [(.tmp 3,.ref 0 1 0 0)] Zmb),(2,⟨[fu 123,(.tmp 5,(Zmc p0)),(.tmp 6,Zmb)],[(0,Zfz)],B x2,[(0,Zfz)],false⟩)] ⟨Qf7 (fs:=[]) (cs:=[.ref 0 1 0 0]) rfl rfl rfl rfl,Qav (first:=[]) (cap:=[]) (vs:=[(Zmc p0),Zmb]) (σr:=[Zfz]) (σr':=[Zfz]) (res':=(B x2)) [0] rfl Zhx (Qfp N p0 _ hf1) rfl (Qbv (rnc (pld Qab) (rnc (Qbp rn0 (rnc (Qbo rfl) rn0)) rn0))) (slc (Qar (rnc (.plain _ (NLt.fn _ _ _ nl0 nl0)) rn0)) Qat) (slc (Qar (rnc (.plain _ (NLt.fn _ _ _ nl0 nl0)) rn0)) Qat) (.plain _ nll) rfl rfl rfl,tv⟩<|Qaf ?_
  obtain rfl:=osi h
  exact fend ⟨[(B ((!x2)))],⟨rot,tv⟩,rfl⟩ nll
def Qd6 (_N:Nat) (p0:GElement):Option Int:=
  bif (p0.Kind==4) then
   some 2
  else
   bif (p0.Kind==5) then
    (some (p0.Weights.length:Int)).bind fun x3=>
    some x3
   else
    some 1
def Zqu (p0:GElement):AV:=.dat 1 ((p0.Weights:List Int).map Qal)
theorem Qij (N:Nat) (p0:GElement) (r:Int) (h:Qd6 N p0=some r):Spec Tryz.prog 103 [(.agg (Qad p0))] [] (I r) []:=by
  refine Qah Tryz.func103 rfl 0 (nle rfl) (fun X φ0 w0 hφ0 hd0=>?_)
  unfold Qd6 at h
  refine wxz<|wsq<|wxz<|Qaj<|wxz ?_
  refine bfe h (fun hc1 h=>?_) fun hc1 h=>?_
  ·refine wft hc1<|wxz<|Qaf<|Qaq<|Qag ?_
   obtain rfl:=osi h
   exact fend ⟨[I 2],⟨rot,tv⟩,rfl⟩ nll
  ·refine wfn hc1<|wxz ?_
   refine bfe h (fun hc2 h=>?_) fun hc2 h=>?_
   ·refine wft hc2 ?_
    obtain ⟨x3,hl4,h⟩:=bno h
    refine wx tbk [(2,rp [(.tmp 10,(Zqu p0))] (I ((p0.Weights.length:Int)))),(3,rp [(.tmp 11,(I ((p0.Weights.length:Int))))] (I x3))] ⟨alm (c:=Qal) (l:=p0.Weights) (aln rfl Tryz.underlying27 rfl),Qhj hl4 (aas rfl),tv⟩<|Qaf<|Qaq<|Qag ?_
    obtain rfl:=osi h
    exact fend ⟨[I x3],⟨rot,tv⟩,rfl⟩ nll
   ·refine wfn hc2<|Qan<|bln<|thn<|wxz<|Qaf ?_
    obtain rfl:=osi h
    exact fend ⟨[I 1],⟨rot,tv⟩,rfl⟩ nll
def Qde (N:Nat) (p0:GNet) (y3:Int) (k10:(List (Int×Int))→Option Bool) (x11:GElement):Nat→Int→(List (Int×Int))→Option Bool
  | 0,_,_=>none
  | n22+1,y18,y19=>
    bif (decide (y18<(x11.From.length:Int))) then
     (getI x11.From y18).bind fun x24=>
     (Qcq N x24.Element 0 (w64 (y3 - 1))).bind fun x29=>
     bif (!x29) then
      some false
     else
      (getI p0.Elements x24.Element).bind fun x31=>
      (Qd6 N x31).bind fun x36=>
      (Qcq N x24.Outlet 0 (w64 (x36 - 1))).bind fun x38=>
      bif (!x38) then
       some false
      else
       bif y19.contains (x24.Element,x24.Outlet) then
        some false
       else
        bif (decide (x11.Level>x31.Level)) then
         some false
        else
         Qde N p0 y3 k10 x11 n22 (w64 (y18+1)) (addQ y19 (x24.Element,x24.Outlet))
    else
     k10 (y19)
def Qc0 (N:Nat) (p0:GNet) (k2:Unit→Option Bool):Nat→Int→(List (Int×Int))→Option Bool
  | 0,_,_=>none
  | n7+1,y3,y4=>
    bif (decide (y3<(p0.Elements.length:Int))) then
     Qbb (fun y9=>
       Qc0 N p0 k2 n7 (w64 (y3+1)) y9) fun k10:(List (Int×Int))→Option Bool=>
     (getI p0.Elements y3).bind fun x11=>
     (Qcq N x11.Level 0 (w64 ((p0.Table.length:Int) - 1))).bind fun x16=>
     bif (!x16) then
      some false
     else
      Qde N p0 y3 k10 x11 N 0 y4
    else
     k2 ()
def Qg3 (N:Nat) (p0:GNet):Option Bool:=
  Qbb (fun _=>
    Qbb (fun _=>
      some true) fun k2:Unit→Option Bool=>
    Qc0 N p0 k2 N 0 ([]:List (Int×Int))) fun k1:Unit→Option Bool=>
  (Qhw N p0.Table).bind fun x43=>
  bif (x43 != 0) then
   some false
  else
   (Qcq N (p0.Elements.length:Int) 1 16).bind fun x46=>
   bif (!x46) then
    some false
   else
    (Qd4 N p0.Elements).bind fun x49=>
    bif (!x49) then
     some false
    else
     k1 ()
def z9_0 (p0:GNet):AV:=.dat 5 ((p0.Table:List GRow).map Qa4)
def z9_1 (p0:GNet):AV:=.dat 7 ((p0.Elements:List GElement).map Qad)
def z9_2 (p0:GNet):Slot:=.own 2 [[(z9_0 p0),(z9_1 p0)]]
def Qsp (x11:GElement):AV:=.dat 2 ((x11.From:List GPort).map Qap)
def Q4d (x11:GElement):Slot:=.own 7 [[(K .u8 (x11.Kind)),(Qsp x11),(I (x11.Level)),(I (x11.Amount)),(I (x11.Wide)),(I (x11.Narrow)),(.dat 1 ((x11.Weights:List Int).map Qal))]]
def Q84 (x24:GPort) (y3:Int) (x29:Bool):List (Nat×Rec):=[(4,rp [fu 65,((.tmp 50),(I (x24.Element))),ci 0,((.tmp 52),(I (w64 (y3 - 1))))] (B (x29)))]
def Zoh (x31:GElement):AV:=.agg [(K .u8 (x31.Kind)),(.dat 2 ((x31.From:List GPort).map Qap)),(I (x31.Level)),(I (x31.Amount)),(I (x31.Wide)),(I (x31.Narrow)),(.dat 1 ((x31.Weights:List Int).map Qal))]
def Q83 (x24) (y3) (x29) (p0:GNet) (x31:GElement) (x36:Int) (x38:Bool):=hcat (Q84 x24 y3 x29) [(6,rp [((.tmp 54),(B ((!x29))))] (B (false))),(13,rp [((.tmp 55),(B (false))),((.tmp 59),(z9_1 p0)),((.tmp 61),(I (x24.Element)))] (.dptr (Qad (x31)) 0)),(15,rp [((.tmp 55),(B (false))),fu 103,((.tmp 63),(Zoh x31))] (I (x36))),(17,rp [((.tmp 55),(B (false))),fu 65,((.tmp 57),(I (x24.Outlet))),ci 0,((.tmp 65),(I (w64 (x36 - 1))))] (B (x38)))]
def Q82 (x24) (y3) (x29) (p0) (x31) (x36) (x38) (y19:(List (Int×Int))):=hcat (Q83 x24 y3 x29 p0 x31 x36 x38) [(20,rp [((.tmp 68),(B ((!x38))))] (B (false))),(23,rb [((.tmp 69),(B (false))),((.tmp 70),(.mp 1)),((.tmp 71),(.agg [(I (x24.Element)),(I (x24.Outlet))]))] [(1,(Qdc y19))] (B (y19.contains (x24.Element,x24.Outlet))))]
def Q81 (p0:GNet) (x43:Int):List (Nat×Rec):=[(2,rp [fu 100,((.tmp 9),(z9_0 p0))] (I (x43)))]
def Q80 (p0) (x43) (x46:Bool):=hcat (Q81 p0 x43) [(4,rp [((.tmp 11),(B ((x43 != 0))))] (B (false))),(7,rp [((.tmp 12),(B (false))),((.tmp 14),(z9_1 p0))] (I ((p0.Elements.length:Int)))),(8,rp [((.tmp 12),(B (false))),fu 65,((.tmp 15),(I ((p0.Elements.length:Int)))),ci 1,ci 16] (B (x46)))]
theorem Qlm (N:Nat) (p0:GNet) (r:Bool) (h:Qg3 N p0=some r):Spec Tryz.prog 66 [(.agg (Qhz p0))] [] (B r) []:=by
  refine Qah Tryz.func66 rfl 0 (nle rfl) (fun X φ0 w0 hφ0 hd0=>?_)
  unfold Qg3 at h
  refine wxz ?_
  obtain ⟨k1,hk_k1,h⟩:=jko h
  refine wjn (τ:=Unit) (fun t=>k1 t=some r) (fun _=>⟨mk 90 [(1,.ref 0 2 0 0)],[(z9_2 p0)]⟩) (fun t h=>?_) ?_
  ·subst hk_k1
   refine wx tbk [(0,⟨[],[(1,.unused)],(.mp 1),[(1,(Qdc ([]:List (Int×Int))))],false⟩)] ⟨Qr1 rfl,tv⟩ ?_
   obtain ⟨k2,hk_k2,h⟩:=jko h
   refine wjn (τ:=Unit) (fun t=>k2 t=some r) (fun _=>⟨mk 90 [],[]⟩) (fun t h=>?_) ?_
   ·subst hk_k2
    exact wxz<|Qaf<|frb h
   ·skip
    refine wx tbk [(2,rp [(.tmp 27,(z9_1 p0))] (I ((p0.Elements.length:Int))))] ⟨alm (c:=Qad) (l:=p0.Elements) (aln rfl Tryz.underlying40 rfl),tv⟩<|Qaj ?_
    refine wmr (mto (n:=90) (l':=[(1,.ref 0 2 0 0),(3,(.mp 1)),(27,(z9_1 p0)),(28,(I ((p0.Elements.length:Int)))),(29,I 0)]) (own':=[(z9_2 p0),(Qdc ([]:List (Int×Int)))]) [(1,.ref 0 2 0 0),(3,(.mp 1)),(27,(z9_1 p0)),(28,(I ((p0.Elements.length:Int)))),(29,I 0)] [0,1] [(z9_2 p0),(Qdc ([]:List (Int×Int)))] hφ0 (prr (pc (.rn (Qif rfl)) (pc (rnd Qab) (pw (pw pn))))) (qb (lc (rnd Qai) (lc (rnd Qab) ln)) (qc Qe4 qn))) ?_
    refine Qbt (τ:=Int×(List (Int×Int))) (fun n t=>Qc0 N p0 k2 n t.1 t.2=some r) (fun ⟨y3,y4⟩=>⟨mk 90 [(1,.ref 0 2 0 0),(3,(.mp 1)),(27,(z9_1 p0)),(28,(I ((p0.Elements.length:Int)))),(29,I y3)],[(z9_2 p0),(Qdc y4)]⟩) (fun t h=>by rw [Qc0] at h; cases h) (fun n7 ih t h=>?_) N (0,([]:List (Int×Int))) h
    obtain ⟨y3,y4⟩:=t
    rw [Qc0] at h
    skip
    refine wxz<|wsq ?_
    refine bfe h (fun hc8 h=>?_) fun hc8 h=>?_
    ·refine wft hc8<|Qan<|thn ?_
     obtain ⟨k10,hk_k10,h⟩:=jko h
     refine wjn (τ:=(List (Int×Int))) (fun t=>k10 t=some r) (fun y9=>⟨mk 90 [(1,.ref 0 2 0 0),(3,(.mp 1)),(27,(z9_1 p0)),(28,(I ((p0.Elements.length:Int)))),(29,I y3)],[(z9_2 p0),(Qdc y9)]⟩) (fun y9 h=>?_) ?_
     ·subst hk_k10
      exact wxz1<|thn<|arm (mto (n:=90) [(1,.ref 0 2 0 0),(3,(.mp 1)),(27,(z9_1 p0)),(28,(I ((p0.Elements.length:Int)))),(29,(I (w64 (y3+1))))] [0,1] [(z9_2 p0),(Qdc y9)] hφ0 (prr (pc (.rn (Qif rfl)) (pc (rnd Qab) (pw (pw pn))))) (qb (lc (rnd Qai) (lc (rnd Qab) ln)) (qc Qe4 qn))) (ih (w64 (y3+1),y9) h)
     ·skip
      refine Qaj ?_
      obtain ⟨x11,hg12,h⟩:=bno h
      obtain ⟨hi13,hj14⟩:=gsm hg12
      refine wx tbk [(1,rp [(.tmp 27,(z9_1 p0)),(.tmp 29,I y3)] (.dptr (Qad (x11)) 0))] ⟨aid rfl Tryz.underlying40 Qk0 rfl rfl hi13 (mgt Qad hj14) rfl,tv⟩<|wsq ?_
      obtain ⟨x16,hf15,h⟩:=bno h
      refine wx tbk [(4,rp [(.tmp 37,(z9_0 p0))] (I ((p0.Table.length:Int)))),(6,rp [fu 65,(.tmp 35,I x11.Level),ci 0,(.tmp 39,(I (w64 ((p0.Table.length:Int) - 1))))] (B x16))] ⟨alm (c:=Qa4) (l:=p0.Table) (aln rfl Tryz.underlying39 rfl),apv Qlv (Qds N x11.Level 0 (w64 ((p0.Table.length:Int) - 1)) _ hf15) (nlcc (nlc nll nl0)) nll,tv⟩ ?_
      refine bfe h (fun hc17 h=>?_) fun hc17 h=>?_
      ·exact wft hc17<|wxz<|Qaf<|Qag<|Qaq<|Qag<|Qag<|Qaq<|Qag<|frb h
      ·refine wfn hc17<|Qan<|thn ?_
       refine wx tbk [(2,rp [(.tmp 43,(Qsp x11))] (I ((x11.From.length:Int))))] ⟨alm (c:=Qap) (l:=x11.From) (aln rfl Tryz.underlying116 rfl),tv⟩<|Qaj ?_
       refine wmr (mto (n:=90) (l':=[(1,.ref 0 2 0 0),(3,(.mp 1)),(4,I y3),(5,.ref 2 7 0 0),(27,(z9_1 p0)),(28,(I ((p0.Elements.length:Int)))),(29,I y3),(43,(Qsp x11)),(44,(I ((x11.From.length:Int)))),(45,I 0)]) (own':=[(z9_2 p0),(Qdc y4),(Q4d x11)]) [(1,.ref 0 2 0 0),(3,(.mp 1)),(4,I y3),(5,.ref 2 7 0 0),(27,(z9_1 p0)),(28,(I ((p0.Elements.length:Int)))),(29,I y3),(43,(Qsp x11)),(44,(I ((x11.From.length:Int)))),(45,I 0)] [0,1,2] [(z9_2 p0),(Qdc y4),(Q4d x11)] hφ0 (prr (pc (.rn (Qif rfl)) (pw (prr (pc (rnd Qab) (pw (pw (pc (rnd Qay) (pw (pw pn)))))))))) (qb (lc (rnd Qai) (lc (rnd Qab) ln)) (qc Qe4 (qb (lc rwl (lc (rnd Qay) (lcc (lcc (lc (rnd Qae) ln))))) qn)))) ?_
       refine Qbt (τ:=Int×(List (Int×Int))) (fun n t=>Qde N p0 y3 k10 x11 n t.1 t.2=some r) (fun ⟨y18,y19⟩=>⟨mk 90 [(1,.ref 0 2 0 0),(3,(.mp 1)),(4,I y3),(5,.ref 2 7 0 0),(27,(z9_1 p0)),(28,(I ((p0.Elements.length:Int)))),(29,I y3),(43,(Qsp x11)),(44,(I ((x11.From.length:Int)))),(45,I y18)],[(z9_2 p0),(Qdc y19),(Q4d x11)]⟩) (fun t h=>by rw [Qde] at h; cases h) (fun n22 ih t h=>?_) N (0,y4) h
       obtain ⟨y18,y19⟩:=t
       rw [Qde] at h
       skip
       refine wxz<|wsq ?_
       refine bfe h (fun hc23 h=>?_) fun hc23 h=>?_
       ·refine wft hc23<|Qan<|thn<|wsq<|Qaj ?_
        obtain ⟨x24,hg25,h⟩:=bno h
        obtain ⟨hi26,hj27⟩:=gsm hg25
        refine wx tbk [(0,rp [(.tmp 43,(Qsp x11)),(.tmp 45,I y18)] (.dptr (Qap (x24)) 0))] ⟨aid rfl Tryz.underlying116 Qq3 rfl rfl hi26 (mgt Qap hj27) rfl,tv⟩<|wsq ?_
        obtain ⟨x29,hf28,h⟩:=bno h
        refine hpre (A:=(Q84 x24 y3 x29)) ⟨apv Qlv (Qds N x24.Element 0 (w64 (y3 - 1)) _ hf28) (nlcc (nlc nll nl0)) nll,tv⟩ fun q1_=>?_
        refine bfe h (fun hb30 h=>?_) fun hb30 h=>?_
        ·refine wxd tbk (hcat (Q84 x24 y3 x29) [(6,rp [(.tmp 54,(B ((!x29))))] (B true))]) (hap q1_ ⟨asb hb30 (amv rfl),tv⟩)<|wtr<|wxz<|Qaf<|Qag<|Qaq<|Qag<|Qag<|Qaq<|Qaq ?_
         exact Qag<|Qag<|Qaq<|Qag<|frb h
        ·obtain ⟨x31,hg32,h⟩:=bno h
         obtain ⟨hi33,hj34⟩:=gsm hg32
         obtain ⟨x36,hf35,h⟩:=bno h
         obtain ⟨x38,hf37,h⟩:=bno h
         refine hpre (A:=(Q83 x24 y3 x29 p0 x31 x36 x38)) (hap q1_ ⟨asb hb30 (amv rfl),ag_ (aid rfl Tryz.underlying40 Qk0 rfl rfl hi33 (mgt Qad hj34) rfl),ag_ (apv Q6g (Qij N x31 _ hf35) (nlc (NLt.agg _ (nlc nll (nlc (nld Qay _) (nlcc (nlcc (nlc (nld Qae _) nl0)))))) nl0) nll),ag_ (apv Qlv (Qds N x24.Outlet 0 (w64 (x36 - 1)) _ hf37) (nlcc (nlc nll nl0)) nll),tv⟩) fun q2_=>?_
         refine bfe h (fun hb39 h=>?_) fun hb39 h=>?_
         ·refine wxd tbk (hcat (Q83 x24 y3 x29 p0 x31 x36 x38) [(20,rp [(.tmp 68,(B ((!x38))))] (B true))]) (hap q2_ ⟨asb hb39 (amv rfl),tv⟩)<|wtr<|wxz<|Qaf<|Qag<|Qaq<|Qag<|Qag<|Qaq<|Qaq ?_
          exact Qag<|Qag<|Qaq<|Qag<|frb h
         ·refine hpre (A:=(Q82 x24 y3 x29 p0 x31 x36 x38 y19)) (hap q2_ ⟨asb hb39 (amv rfl),ag_ (Qmx rfl Tryz.underlying190 Tryz.underlying120 zb4 Qwe Quh),tv⟩) fun q3_=>?_
          refine bfe h (fun hb40 h=>?_) fun hb40 h=>?_
          ·refine wxd tbk (hcat (Q82 x24 y3 x29 p0 x31 x36 x38 y19) [(25,rp [(.tmp 73,(B (y19.contains (x24.Element,x24.Outlet))))] (B true))]) (hap q3_ ⟨asb hb40 (amv rfl),tv⟩)<|wtr<|wxz<|Qaf<|Qag<|Qaq<|Qag<|Qag<|Qaq<|Qaq ?_
           exact Qag<|Qag<|Qaq<|Qag<|frb h
          ·refine wxd tbk (hcat (Q82 x24 y3 x29 p0 x31 x36 x38 y19) [(25,rp [(.tmp 73,(B (y19.contains (x24.Element,x24.Outlet))))] (B false)),(32,rp [(.tmp 74,B false),(.tmp 78,(z9_1 p0)),(.tmp 80,I x24.Element)] (.dptr (Qad (x31)) 0))]) (hap q3_ ⟨asb hb40 (amv rfl),ag_ (aid rfl Tryz.underlying40 Qk0 rfl rfl hi33 (mgt Qad hj34) rfl),tv⟩) ?_
           refine bfe h (fun hc41 h=>?_) fun hc41 h=>?_
           ·refine wft hc41<|wxz<|Qaf<|Qag<|Qaq<|Qag<|Qag<|Qaq<|Qaq<|Qag ?_
            exact Qag<|Qaq<|Qag<|frb h
           ·refine wfn hc41<|Qan<|thn ?_
            exact wx1 tbk [(2,⟨[(.tmp 86,(.mp 1)),(.tmp 87,(.agg [I x24.Element,I x24.Outlet])),cb true],[(1,(Qdc y19))],.any,[(1,(Qdc (addQ y19 (x24.Element,x24.Outlet))))],false⟩)] ⟨Quy rfl Tryz.underlying190 Tryz.underlying120 Qwe Quh,tv⟩<|bln<|thn<|wxz1<|thn<|arm (mto (n:=90) [(1,.ref 0 2 0 0),(3,(.mp 1)),(4,I y3),(5,.ref 2 7 0 0),(27,(z9_1 p0)),(28,(I ((p0.Elements.length:Int)))),(29,I y3),(43,(Qsp x11)),(44,(I ((x11.From.length:Int)))),(45,(I (w64 (y18+1))))] [0,1,2] [(z9_2 p0),(Qdc (addQ y19 (x24.Element,x24.Outlet))),(Q4d x11)] hφ0 (prr (pc (.rn (Qif rfl)) (pw (prr (pc (rnd Qab) (pw (pw (pc (rnd Qay) (pw (pw pn)))))))))) (qb (lc (rnd Qai) (lc (rnd Qab) ln)) (qc Qe4 (qb (lc rwl (lc (rnd Qay) (lcc (lcc (lc (rnd Qae) ln))))) qn)))) (ih (w64 (y18+1),addQ y19 (x24.Element,x24.Outlet)) h)
       ·exact wfn hc23<|Qbd<|Qax<|Qax<|Qbc rfl<|bln<|thn<|⟨(y19),h,(mto (n:=90) [(1,.ref 0 2 0 0),(3,(.mp 1)),(27,(z9_1 p0)),(28,(I ((p0.Elements.length:Int)))),(29,I y3)] [0,1] [(z9_2 p0),(Qdc y19)] hφ0 (prr (pc (.rn (Qif rfl)) (pc (rnd Qab) (pw (pw pn))))) (qb (lc (rnd Qai) (lc (rnd Qab) ln)) (qc Qe4 qn)))⟩
    ·exact wfn hc8<|Qbd<|Qax<|Qax<|Qbc rfl<|thn<|⟨(),h,(mto (n:=90) [] [] [] hφ0 pn qn)⟩
  ·skip
   obtain ⟨x43,hf42,h⟩:=bno h
   refine hpre (A:=(Q81 p0 x43)) ⟨apv Zic (Qoe N p0.Table _ hf42) (nlc (nld Qai _) nl0) nll,tv⟩ fun q4_=>?_
   refine bfe h (fun hb44 h=>?_) fun hb44 h=>?_
   ·exact wx tbk (hcat (Q81 p0 x43) [(4,rp [(.tmp 11,(B ((x43 != 0))))] (B true))]) (hap q4_ ⟨asb hb44 (amv rfl),tv⟩)<|wtr<|wxz<|Qaf<|Qag<|frb h
   ·obtain ⟨x46,hf45,h⟩:=bno h
    refine hpre (A:=(Q80 p0 x43 x46)) (hap q4_ ⟨asb hb44 (amv rfl),ag_ (alm (c:=Qad) (l:=p0.Elements) (aln rfl Tryz.underlying40 rfl)),ag_ (apv Qlv (Qds N (p0.Elements.length:Int) 1 16 _ hf45) (nlcc (nlc nll nl0)) nll),tv⟩) fun q5_=>?_
    refine bfe h (fun hb47 h=>?_) fun hb47 h=>?_
    ·exact wx tbk (hcat (Q80 p0 x43 x46) [(11,rp [(.tmp 18,(B ((!x46))))] (B true))]) (hap q5_ ⟨asb hb47 (amv rfl),tv⟩)<|wtr<|wxz<|Qaf<|Qag<|frb h
    ·obtain ⟨x49,hf48,h⟩:=bno h
     refine wx tbk (hcat (Q80 p0 x43 x46) [(11,rp [(.tmp 18,(B ((!x46))))] (B false)),(14,rp [(.tmp 19,B false),fu 101,(.tmp 21,(z9_1 p0)),fu 102] (B x49))]) (hap q5_ ⟨asb hb47 (amv rfl),ag_ (Qav (first:=[]) (cap:=[]) (vs:=[(z9_1 p0),(.fn (.func 102) [] [])]) (σr:=[]) (σr':=[]) (res':=(B x49)) [] rfl Zib (Qk8 N p0.Elements _ hf48) rfl (Qbv (rnc (pld Qab) (rnc (.plain _ (NLt.fn _ _ _ nl0 nl0)) rn0))) Qat Qat (.plain _ nll) rfl rfl rfl),tv⟩) ?_
     refine bfe h (fun hc50 h=>?_) fun hc50 h=>?_
     ·exact wft hc50<|wxz<|Qaf<|Qag<|frb h
     ·exact wfn hc50<|Qan<|thn<|⟨(),h,(mto (n:=90) [(1,.ref 0 2 0 0)] [0] [(z9_2 p0)] hφ0 (prr pn) (qb (lc (rnd Qai) (lc (rnd Qab) ln)) qn))⟩
end Go.Proofs.YtmbhnllcfmiajaaGreat
