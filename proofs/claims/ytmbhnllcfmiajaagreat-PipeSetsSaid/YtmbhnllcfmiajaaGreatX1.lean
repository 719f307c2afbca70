/-
  Functions of the program: what they compute, as plain functions, and that they do. No conditions.
-/
import Derived.Test.YtmbhnllcfmiajaaGreatXt
namespace Go.Proofs.YtmbhnllcfmiajaaGreat
set_option maxRecDepth 100000
set_option maxHeartbeats 4000000
open Go.RowKit
def Qci (_N:Nat) (p0:Int) (p1:Int) (p2:Int):Option Bool:=
  bif (decide (p1≤p0)) then
   some (decide (p0≤p2))
  else
   some false
theorem Qcm (N:Nat) (p0:Int) (p1:Int) (p2:Int) (r:Bool) (h:Qci N p0 p1 p2=some r):Spec Tryz.prog 137 [(I p0),(I p1),(I p2)] [] (B r) []:=by
  refine Qah Tryz.func137 rfl 0 (nle rfl) (fun X φ0 w0 hφ0 hd0=>?_)
  unfold Qci at h
  refine wxz ?_
  refine bfe h (fun hb1 h=>?_) fun hb1 h=>?_
  ·refine wx tbk [(3,rp [(.tmp 9,(B ((decide (p1≤p0)))))] (B true))] ⟨asb hb1 (amv rfl),tv⟩<|Qad ?_
   obtain rfl:=osi h
   exact fend ⟨[(B ((decide (p0≤p2))))],⟨rot,tv⟩,rfl⟩ nll
  ·exact wx tbk [(3,rp [(.tmp 9,(B ((decide (p1≤p0)))))] (B false))] ⟨asb hb1 (amv rfl),tv⟩<|Qad<|frb h
def Qfz (N:Nat) (p0:GRow):Option Bool:=
  (Qci N p0.T 0 400).bind fun x2=>
  bif x2 then
   (Qci N p0.P 1 10000).bind fun x5=>
   bif x5 then
    (Qci N p0.Liquid 0 4000).bind fun x8=>
    bif x8 then
     (Qci N p0.Silica 0 2000).bind fun x11=>
     bif x11 then
      bif (decide (p0.Liquid<p0.Vapour)) then
       some (decide (p0.Vapour≤4000))
      else
       some false
     else
      some false
    else
     some false
   else
    some false
  else
   some false
def z8_2 (p0:GRow) (x2:Bool):List (Nat×Rec):=[(2,rp [fu 137,((.tmp 4),(I (p0.T))),ci 0,ci 400] (B (x2)))]
def z8_3 (p0) (x2) (x5:Bool):=hcat (z8_2 p0 x2) [(3,rp [((.tmp 5),(B (x2)))] (B (true))),(6,rp [((.tmp 6),(B (true))),fu 137,((.tmp 8),(I (p0.P))),ci 1,ci 10000] (B (x5)))]
def z8_4 (p0) (x2) (x5) (x8:Bool):=hcat (z8_3 p0 x2 x5) [(8,rp [((.tmp 10),(B (x5)))] (B (true))),(11,rp [((.tmp 11),(B (true))),fu 137,((.tmp 13),(I (p0.Liquid))),ci 0,ci 4000] (B (x8)))]
def z8_5 (p0) (x2) (x5) (x8) (x11:Bool):=hcat (z8_4 p0 x2 x5 x8) [(13,rp [((.tmp 15),(B (x8)))] (B (true))),(16,rp [((.tmp 16),(B (true))),fu 137,((.tmp 18),(I (p0.Silica))),ci 0,ci 2000] (B (x11)))]
theorem Ql7 (N:Nat) (p0:GRow) (r:Bool) (h:Qfz N p0=some r):Spec Tryz.prog 139 [(.agg (Qau p0))] [] (B r) []:=by
  refine Qah Tryz.func139 rfl 0 (nle rfl) (fun X φ0 w0 hφ0 hd0=>?_)
  unfold Qfz at h
  refine wxz ?_
  obtain ⟨x2,hf1,h⟩:=bno h
  refine hpre (A:=(z8_2 p0 x2)) ⟨apv Qhk (Qcm N p0.T 0 400 _ hf1) (nlcc (nlc nll nl0)) nll,tv⟩ fun q1_=>?_
  refine bfe h (fun hb3 h=>?_) fun hb3 h=>?_
  ·obtain ⟨x5,hf4,h⟩:=bno h
   refine hpre (A:=(z8_3 p0 x2 x5)) (hap q1_ ⟨asb hb3 (amv rfl),ag_ (apv Qhk (Qcm N p0.P 1 10000 _ hf4) (nlcc (nlc nll nl0)) nll),tv⟩) fun q2_=>?_
   refine bfe h (fun hb6 h=>?_) fun hb6 h=>?_
   ·obtain ⟨x8,hf7,h⟩:=bno h
    refine hpre (A:=(z8_4 p0 x2 x5 x8)) (hap q2_ ⟨asb hb6 (amv rfl),ag_ (apv Qhk (Qcm N p0.Liquid 0 4000 _ hf7) (nlcc (nlc nll nl0)) nll),tv⟩) fun q3_=>?_
    refine bfe h (fun hb9 h=>?_) fun hb9 h=>?_
    ·obtain ⟨x11,hf10,h⟩:=bno h
     refine hpre (A:=(z8_5 p0 x2 x5 x8 x11)) (hap q3_ ⟨asb hb9 (amv rfl),ag_ (apv Qhk (Qcm N p0.Silica 0 2000 _ hf10) (nlcc (nlc nll nl0)) nll),tv⟩) fun q4_=>?_
     refine bfe h (fun hb12 h=>?_) fun hb12 h=>?_
     ·refine bfe h (fun hb13 h=>?_) fun hb13 h=>?_
      ·refine wx tbk (hcat (z8_5 p0 x2 x5 x8 x11) [(18,rp [(.tmp 20,B x11)] (B true)),(25,rp [(.tmp 27,(B ((decide (p0.Liquid<p0.Vapour)))))] (B true))]) (hap q4_ ⟨asb hb12 (amv rfl),asb hb13 (amv rfl),tv⟩)<|Qad ?_
       obtain rfl:=osi h
       exact fend ⟨[(B ((decide (p0.Vapour≤4000))))],⟨rot,tv⟩,rfl⟩ nll
      ·exact wx tbk (hcat (z8_5 p0 x2 x5 x8 x11) [(18,rp [(.tmp 20,B x11)] (B true)),(25,rp [(.tmp 27,(B ((decide (p0.Liquid<p0.Vapour)))))] (B false))]) (hap q4_ ⟨asb hb12 (amv rfl),asb hb13 (amv rfl),tv⟩)<|Qad<|frb h
     ·exact wx tbk (hcat (z8_5 p0 x2 x5 x8 x11) [(18,rp [(.tmp 20,B x11)] (B false))]) (hap q4_ ⟨asb hb12 (amv rfl),tv⟩)<|Qad<|frb h
    ·exact wx tbk (hcat (z8_4 p0 x2 x5 x8) [(13,rp [(.tmp 15,B x8)] (B false))]) (hap q3_ ⟨asb hb9 (amv rfl),tv⟩)<|Qad<|frb h
   ·exact wx tbk (hcat (z8_3 p0 x2 x5) [(8,rp [(.tmp 10,B x5)] (B false))]) (hap q2_ ⟨asb hb6 (amv rfl),tv⟩)<|Qad<|frb h
  ·exact wx tbk (hcat (z8_2 p0 x2) [(3,rp [(.tmp 5,B x2)] (B false))]) (hap q1_ ⟨asb hb3 (amv rfl),tv⟩)<|Qad<|frb h
def Qd9 (N:Nat) (p0:GRow):Option Bool:=
  (Qfz N p0).bind fun x3=>
  some (!x3)
def z7_1 (p0:GRow):AV:=.agg [(I (p0.T)),(I (p0.P)),(I (p0.Liquid)),(I (p0.Vapour)),(I (p0.Silica))]
def z7_2:Slot:=.own 1 [[(.fn (.func 139) [] [])]]
theorem Qix (N:Nat) (p0:GRow) (r:Bool) (h:Qd9 N p0=some r):Spec Tryz.prog 148 [(z7_1 p0),(.ref 0 1 (0) 0)] [z7_2] (B (r)) [z7_2]:=by
  refine Qah Tryz.func148 rfl 1 (nle rfl) (fun X φ0 w0 hφ0 hd0=>?_)
  unfold Qd9 at h
  refine Qbh<|wxz ?_
  obtain ⟨x3,hf2,h⟩:=bno h
  refine wx tbk [(2,rp [(.tmp 4,(.fn (.func 139) [] [])),(.tmp 5,(z7_1 p0))] (B x3))] ⟨apv Q9h (Ql7 N p0 _ hf2) (nlc (NLt.agg _ (nlcc (nlcc (nlc nll nl0)))) nl0) nll,tv⟩ ?_
  refine wmr (mto (n:=8) (l':=[(3,(B ((!x3))))]) (own':=[z7_2]) [(3,(B ((!x3))))] [0] [z7_2] hφ0 (pw pn) (qb (lc (.rn (Qbd rn0 rn0)) ln) qn))<|Qad ?_
  obtain rfl:=osi h
  exact ⟨_,Mor.rfl,Qct (vs:=[(B ((!x3)))]) ⟨rot,tv⟩ rfl (NLt.of0 nll) (by kernel_rfl) (Qan (Qa7 (nlc (NLt.of0 (NLt.fn _ _ _ nl0 nl0)) nl0)) Qbi)⟩
def Qa2 (N:Nat) (p0:(List GRow)) (k2:Unit→Option Int):Nat→Int→Option Int
  | 0,_=>none
  | n5+1,y3=>
    bif (decide (y3<(p0.length:Int))) then
     (getI p0 y3).bind fun x7=>
     (Qd9 N x7).bind fun x12=>
     bif x12 then
      some y3
     else
      Qa2 N p0 k2 n5 (w64 (y3+1))
    else
     k2 ()
def Qb3 (N:Nat) (p0:(List GRow)):Option Int:=
  Qby (fun _=>
    some (-1)) fun k2:Unit→Option Int=>
  Qa2 N p0 k2 N 0
def z6_0 (p0:(List GRow)):AV:=.dat 5 ((p0:List GRow).map Qau)
def z6_1:AV:=.fn (.func 148) [] [(.ref 0 1 (0) 0)]
def z6_3:Slot:=.own 1 [[(.fn (.func 139) [] [])]]
def z6_8 (x7:GRow):AV:=.agg [(I (x7.T)),(I (x7.P)),(I (x7.Liquid)),(I (x7.Vapour)),(I (x7.Silica))]
theorem Qf0 (N:Nat) (p0:(List GRow)) (r:Int) (h:Qb3 N p0=some r):Spec Tryz.prog 156 [(z6_0 p0),z6_1] [z6_3] (I (r)) [z6_3]:=by
  refine Qah Tryz.func156 rfl 1 (nle rfl) (fun X φ0 w0 hφ0 hd0=>?_)
  unfold Qb3 at h
  refine Qbh<|wxz ?_
  obtain ⟨k2,hk_k2,h⟩:=jko h
  refine wjn (τ:=Unit) (fun t=>k2 t=some r) (fun _=>⟨mk 19 [],[z6_3]⟩) (fun t h=>?_) ?_
  ·subst hk_k2
   refine wxz<|wmr (mto (n:=19) (l':=[(4,(I ((-1))))]) (own':=[z6_3]) [(4,(I ((-1))))] [0] [z6_3] hφ0 (pw pn) (qb (lc (.rn (Qbd rn0 rn0)) ln) qn))<|Qad ?_
   obtain rfl:=osi h
   exact ⟨_,Mor.rfl,Qct (vs:=[(I ((-1)))]) ⟨rot,tv⟩ rfl (NLt.of0 nll) (by kernel_rfl) (Qan (Qa7 (nlc (NLt.of0 (NLt.fn _ _ _ nl0 nl0)) nl0)) Qbi)⟩
  ·skip
   refine wx tbk [(1,rp [(.tmp 6,(z6_0 p0))] (I ((p0.length:Int))))] ⟨alm (c:=Qau) (l:=p0) (aln rfl Tryz.underlying38 rfl),tv⟩<|Qal ?_
   refine wmr (mto (n:=19) (l':=[(0,(z6_0 p0)),(1,z6_1),(7,(I ((p0.length:Int)))),(8,I 0)]) (own':=[z6_3]) [(0,(z6_0 p0)),(1,z6_1),(7,(I ((p0.length:Int)))),(8,I 0)] [0] [z6_3] hφ0 (pc (rnd Qae) (pc (.rn (Qbd rn0 (rnc (rqr rfl) rn0))) (pw (pw pn)))) (qb (lc (.rn (Qbd rn0 rn0)) ln) qn)) ?_
   refine Qbu (τ:=Int) (fun n t=>Qa2 N p0 k2 n t=some r) (fun y3=>⟨mk 19 [(0,(z6_0 p0)),(1,z6_1),(7,(I ((p0.length:Int)))),(8,I y3)],[z6_3]⟩) (fun t h=>by rw [Qa2] at h; cases h) (fun n5 ih y3 h=>?_) N (0) h
   rw [Qa2] at h
   skip
   refine wxz<|wsq ?_
   refine bfe h (fun hc6 h=>?_) fun hc6 h=>?_
   ·refine wft hc6<|Qam<|thn<|wsq<|Qal<|wxz ?_
    obtain ⟨x7,hg8,h⟩:=bno h
    obtain ⟨hi9,hj10⟩:=gsm hg8
    obtain ⟨x12,hf11,h⟩:=bno h
    refine wx tbk [(3,rp [(.tmp 12,(z6_0 p0)),(.tmp 13,I y3)] (.dptr (Qau (x7)) 0)),(5,⟨[(.tmp 11,z6_1),(.tmp 15,(z6_8 x7))],[(0,z6_3)],B x12,[(0,z6_3)],false⟩)] ⟨aid rfl Tryz.underlying38 Qnx rfl rfl hi9 (mgt Qau hj10) rfl,Qat (first:=[]) (cap:=[.ref 0 1 0 0]) (vs:=[(z6_8 x7)]) (σr:=[z6_3]) (σr':=[z6_3]) (res':=(B x12)) [0] rfl Q89 (Qix N x7 _ hf11) rfl (Qbn (rnc (.plain _ (NLt.agg _ (nlcc (nlcc (nlc nll nl0))))) (rnc (Qbb rfl) rn0))) (slc (Qao (rnc (.plain _ (NLt.fn _ _ _ nl0 nl0)) rn0)) Qas) (slc (Qao (rnc (.plain _ (NLt.fn _ _ _ nl0 nl0)) rn0)) Qas) (.plain _ nll) rfl rfl rfl,tv⟩ ?_
    refine bfe h (fun hc13 h=>?_) fun hc13 h=>?_
    ·refine wft hc13<|wxz ?_
     refine wmr (mto (n:=19) (l':=[(4,I y3)]) (own':=[z6_3]) [(4,I y3)] [0] [z6_3] hφ0 (pw pn) (qb (lc (.rn (Qbd rn0 rn0)) ln) qn))<|Qad<|Qak<|Qac<|Qac<|Qak<|Qac ?_
     obtain rfl:=osi h
     exact ⟨_,Mor.rfl,Qct (vs:=[I y3]) ⟨rot,tv⟩ rfl (NLt.of0 nll) (by kernel_rfl) (Qan (Qa7 (nlc (NLt.of0 (NLt.fn _ _ _ nl0 nl0)) nl0)) Qbi)⟩
    ·exact wfn hc13<|Qam<|bln<|thn<|wxz1<|thn<|arm (mto (n:=19) [(0,(z6_0 p0)),(1,z6_1),(7,(I ((p0.length:Int)))),(8,(I (w64 (y3+1))))] [0] [z6_3] hφ0 (pc (rnd Qae) (pc (.rn (Qbd rn0 (rnc (rqr rfl) rn0))) (pw (pw pn)))) (qb (lc (.rn (Qbd rn0 rn0)) ln) qn)) (ih (w64 (y3+1)) h)
   ·exact wfn hc6<|Qbf<|Qav<|Qav<|Qbe rfl<|thn<|⟨(),h,(mto (n:=19) [] [0] [z6_3] hφ0 pn (qb (lc (.rn (Qbd rn0 rn0)) ln) qn))⟩
def Qbv (N:Nat) (p0:(List GRow)):Option Bool:=
  (Qb3 N p0).bind fun x3=>
  some (decide (x3≥0))
def z5_0 (p0:(List GRow)):AV:=.dat 5 ((p0:List GRow).map Qau)
def z5_1:AV:=.fn (.func 148) [] [(.ref 0 1 (0) 0)]
def z5_2:Slot:=.own 1 [[(.fn (.func 139) [] [])]]
theorem Qfl (N:Nat) (p0:(List GRow)) (r:Bool) (h:Qbv N p0=some r):Spec Tryz.prog 147 [(z5_0 p0),z5_1] [z5_2] (B (r)) [z5_2]:=by
  refine Qah Tryz.func147 rfl 1 (nle rfl) (fun X φ0 w0 hφ0 hd0=>?_)
  unfold Qbv at h
  refine Qbh<|wxz ?_
  obtain ⟨x3,hf2,h⟩:=bno h
  refine wx tbk [(2,⟨[fu 156,(.tmp 5,(z5_0 p0)),(.tmp 6,z5_1)],[(0,z5_2)],I x3,[(0,z5_2)],false⟩)] ⟨Qat (first:=[]) (cap:=[]) (vs:=[(z5_0 p0),z5_1]) (σr:=[z5_2]) (σr':=[z5_2]) (res':=(I x3)) [0] rfl Q82 (Qf0 N p0 _ hf2) rfl (Qbn (rnc (pld Qae) (rnc (Qbd rn0 (rnc (Qbb rfl) rn0)) rn0))) (slc (Qao (rnc (.plain _ (NLt.fn _ _ _ nl0 nl0)) rn0)) Qas) (slc (Qao (rnc (.plain _ (NLt.fn _ _ _ nl0 nl0)) rn0)) Qas) (.plain _ nll) rfl rfl rfl,tv⟩ ?_
  refine wmr (mto (n:=9) (l':=[(4,(B ((decide (x3≥0)))))]) (own':=[z5_2]) [(4,(B ((decide (x3≥0)))))] [0] [z5_2] hφ0 (pw pn) (qb (lc (.rn (Qbd rn0 rn0)) ln) qn))<|Qad ?_
  obtain rfl:=osi h
  exact ⟨_,Mor.rfl,Qct (vs:=[(B ((decide (x3≥0))))]) ⟨rot,tv⟩ rfl (NLt.of0 nll) (by kernel_rfl) (Qan (Qa7 (nlc (NLt.of0 (NLt.fn _ _ _ nl0 nl0)) nl0)) Qbi)⟩
def Qdw (N:Nat) (p0:(List GRow)):Option Bool:=
  (Qbv N p0).bind fun x2=>
  some (!x2)
def z4_1 (p0:(List GRow)):AV:=.dat 5 ((p0:List GRow).map Qau)
def z4_2:AV:=.fn (.func 148) [] [(.ref 0 1 (0) 0)]
def z4_0:Slot:=.own 1 [[(.fn (.func 139) [] [])]]
theorem Qjm (N:Nat) (p0:(List GRow)) (r:Bool) (h:Qdw N p0=some r):Spec Tryz.prog 138 [(z4_1 p0),(.fn (.func 139) [] [])] [] (B (r)) []:=by
  refine Qah Tryz.func138 rfl 0 (nle rfl) (fun X φ0 w0 hφ0 hd0=>?_)
  unfold Qdw at h
  refine wxz ?_
  obtain ⟨x2,hf1,h⟩:=bno h
  refine wx tbk [(1,rp [(.tmp 3,.ref 0 1 0 0)] z4_2),(2,⟨[fu 147,(.tmp 5,(z4_1 p0)),(.tmp 6,z4_2)],[(0,z4_0)],B x2,[(0,z4_0)],false⟩)] ⟨Qe5 (fs:=[]) (cs:=[.ref 0 1 0 0]) rfl rfl rfl rfl,Qat (first:=[]) (cap:=[]) (vs:=[(z4_1 p0),z4_2]) (σr:=[z4_0]) (σr':=[z4_0]) (res':=(B x2)) [0] rfl Q9a (Qfl N p0 _ hf1) rfl (Qbn (rnc (pld Qae) (rnc (Qbd rn0 (rnc (Qbb rfl) rn0)) rn0))) (slc (Qao (rnc (.plain _ (NLt.fn _ _ _ nl0 nl0)) rn0)) Qas) (slc (Qao (rnc (.plain _ (NLt.fn _ _ _ nl0 nl0)) rn0)) Qas) (.plain _ nll) rfl rfl rfl,tv⟩<|Qad ?_
  obtain rfl:=osi h
  exact fend ⟨[(B ((!x2)))],⟨rot,tv⟩,rfl⟩ nll
def Qcb (N:Nat) (p0:(List GRow)) (k2:Unit→Option Bool):Nat→Int→Option Bool
  | 0,_=>none
  | n6+1,y4=>
    bif (decide (y4<((p0.drop (1:Int).toNat).length:Int))) then
     (getI (p0.drop (1:Int).toNat) y4).bind fun x8=>
     (getI p0 y4).bind fun x12=>
     bif (decide (x8.T≤x12.T)) then
      some false
     else
      bif (decide (x8.P≤x12.P)) then
       some false
      else
       bif (decide (x8.Liquid≤x12.Liquid)) then
        some false
       else
        bif (decide (x8.Silica<x12.Silica)) then
         some false
        else
         Qcb N p0 k2 n6 (w64 (y4+1))
    else
     k2 ()
def Qea (N:Nat) (p0:(List GRow)):Option Bool:=
  Qby (fun _=>
    Qby (fun _=>
      some true) fun k2:Unit→Option Bool=>
    chk (decide (0≤1)&&decide (1≤(p0.length:Int))&&decide ((p0.length:Int)≤(p0.length:Int)))<|
    Qcb N p0 k2 N 0) fun k1:Unit→Option Bool=>
  (Qci N (p0.length:Int) 2 20).bind fun x21=>
  bif (!x21) then
   some false
  else
   (Qdw N p0).bind fun x24=>
   bif (!x24) then
    some false
   else
    k1 ()
def z2_0 (p0:(List GRow)):AV:=.dat 5 ((p0:List GRow).map Qau)
def z2_1 (p0:(List GRow)):AV:=.dat 5 ((p0.drop (1:Int).toNat:List GRow).map Qau)
def Q7u (x8:GRow) (x12:GRow):List (Nat×Rec):=[(5,rp [((.tmp 31),(B ((decide (x8.T≤x12.T)))))] (B (false)))]
def Zdj (p0:(List GRow)) (x21:Bool):List (Nat×Rec):=[(1,rp [((.tmp 6),(z2_0 p0))] (I ((p0.length:Int)))),(2,rp [fu 137,((.tmp 7),(I ((p0.length:Int)))),ci 2,ci 20] (B (x21)))]
theorem Qhw (N:Nat) (p0:(List GRow)) (r:Bool) (h:Qea N p0=some r):Spec Tryz.prog 122 [(.dat 5 (p0.map Qau))] [] (B r) []:=by
  refine Qah Tryz.func122 rfl 0 (nle rfl) (fun X φ0 w0 hφ0 hd0=>?_)
  unfold Qea at h
  refine wxz ?_
  obtain ⟨k1,hk_k1,h⟩:=jko h
  refine wjn (τ:=Unit) (fun t=>k1 t=some r) (fun _=>⟨mk 54 [(0,(z2_0 p0))],[]⟩) (fun t h=>?_) ?_
  ·subst hk_k1
   obtain ⟨k2,hk_k2,h⟩:=jko h
   refine wjn (τ:=Unit) (fun t=>k2 t=some r) (fun _=>⟨mk 54 [],[]⟩) (fun t h=>?_) ?_
   ·subst hk_k2
    exact wxz<|Qad<|frb h
   ·skip
    obtain ⟨hs3,h⟩:=cko h
    refine wx tbk [(1,rp [(.tmp 15,(z2_0 p0)),ci 1] (z2_1 p0)),(2,rp [(.tmp 16,(z2_1 p0))] (I (((p0.drop (1:Int).toNat).length:Int))))] ⟨Qop (k:=.i64) (k':=.i64) (lo:=some (.const (.int .i64 1))) (hi:=none) (l:=1) (hh:=((p0.length:Nat):Int)) rfl Tryz.underlying39 Qnx rfl (fun e=>nomatch e) (fun _=>by simp) (Q61 hs3) (Q60 hs3) (Zhn (Qau) hs3) (Zij Qau),alm (c:=Qau) (l:=p0.drop (1:Int).toNat) (aln rfl Tryz.underlying39 rfl),tv⟩<|Qal ?_
    refine wmr (mto (n:=54) (l':=[(0,(z2_0 p0)),(16,(z2_1 p0)),(17,(I (((p0.drop (1:Int).toNat).length:Int)))),(18,I 0)]) (own':=[]) [(0,(z2_0 p0)),(16,(z2_1 p0)),(17,(I (((p0.drop (1:Int).toNat).length:Int)))),(18,I 0)] [] [] hφ0 (pc (rnd Qae) (pc (rnd Qae) (pw (pw pn)))) qn) ?_
    refine Qbu (τ:=Int) (fun n t=>Qcb N p0 k2 n t=some r) (fun y4=>⟨mk 54 [(0,(z2_0 p0)),(16,(z2_1 p0)),(17,(I (((p0.drop (1:Int).toNat).length:Int)))),(18,I y4)],[]⟩) (fun t h=>by rw [Qcb] at h; cases h) (fun n6 ih y4 h=>?_) N (0) h
    rw [Qcb] at h
    skip
    refine wxz<|wsq ?_
    refine bfe h (fun hc7 h=>?_) fun hc7 h=>?_
    ·refine wft hc7<|Qam<|thn<|wsq<|Qal ?_
     obtain ⟨x8,hg9,h⟩:=bno h
     obtain ⟨hi10,hj11⟩:=gsm hg9
     refine wx tbk [(1,rp [(.tmp 16,(z2_1 p0)),(.tmp 18,I y4)] (.dptr (Qau (x8)) 0))] ⟨aid rfl Tryz.underlying39 Qnx rfl rfl hi10 (mgt Qau hj11) rfl,tv⟩ ?_
     obtain ⟨x12,hg13,h⟩:=bno h
     obtain ⟨hi14,hj15⟩:=gsm hg13
     refine wx tbk [(2,rp [(.tmp 23,(z2_0 p0)),(.tmp 24,I y4)] (.dptr (Qau (x12)) 0))] ⟨aid rfl Tryz.underlying39 Qnx rfl rfl hi14 (mgt Qau hj15) rfl,tv⟩ ?_
     refine bfe h (fun hb16 h=>?_) fun hb16 h=>?_
     ·exact wx tbk [(5,rp [(.tmp 31,(B ((decide (x8.T≤x12.T)))))] (B true))] ⟨asb hb16 (amv rfl),tv⟩<|wtr<|wxz<|Qad<|Qak<|Qac<|Qac<|Qak<|Qac<|frb h
     ·refine hpre (A:=(Q7u x8 x12)) ⟨asb hb16 (amv rfl),tv⟩ fun q1_=>?_
      refine bfe h (fun hb17 h=>?_) fun hb17 h=>?_
      ·exact wx tbk (hcat (Q7u x8 x12) [(12,rp [(.tmp 38,(B ((decide (x8.P≤x12.P)))))] (B true))]) (hap q1_ ⟨asb hb17 (amv rfl),tv⟩)<|wtr<|wxz<|Qad<|Qak<|Qac<|Qac<|Qak<|Qac<|frb h
      ·refine bfe h (fun hb18 h=>?_) fun hb18 h=>?_
       ·exact wx tbk (hcat (Q7u x8 x12) [(12,rp [(.tmp 38,(B ((decide (x8.P≤x12.P)))))] (B false)),(19,rp [(.tmp 45,(B ((decide (x8.Liquid≤x12.Liquid)))))] (B true))]) (hap q1_ ⟨asb hb17 (amv rfl),asb hb18 (amv rfl),tv⟩)<|wtr<|wxz<|Qad<|Qak<|Qac<|Qac<|Qak<|Qac<|frb h
       ·refine wx tbk (hcat (Q7u x8 x12) [(12,rp [(.tmp 38,(B ((decide (x8.P≤x12.P)))))] (B false)),(19,rp [(.tmp 45,(B ((decide (x8.Liquid≤x12.Liquid)))))] (B false))]) (hap q1_ ⟨asb hb17 (amv rfl),asb hb18 (amv rfl),tv⟩) ?_
        refine bfe h (fun hc19 h=>?_) fun hc19 h=>?_
        ·exact wft hc19<|wxz<|Qad<|Qak<|Qac<|Qac<|Qak<|Qac<|frb h
        ·exact wfn hc19<|Qam<|bln<|thn<|wxz1<|thn<|arm (mto (n:=54) [(0,(z2_0 p0)),(16,(z2_1 p0)),(17,(I (((p0.drop (1:Int).toNat).length:Int)))),(18,(I (w64 (y4+1))))] [] [] hφ0 (pc (rnd Qae) (pc (rnd Qae) (pw (pw pn)))) qn) (ih (w64 (y4+1)) h)
    ·exact wfn hc7<|Qbf<|Qav<|Qav<|Qbe rfl<|thn<|⟨(),h,(mto (n:=54) [] [] [] hφ0 pn qn)⟩
  ·skip
   obtain ⟨x21,hf20,h⟩:=bno h
   refine hpre (A:=(Zdj p0 x21)) ⟨alm (c:=Qau) (l:=p0) (aln rfl Tryz.underlying39 rfl),apv Qhk (Qcm N (p0.length:Int) 2 20 _ hf20) (nlcc (nlc nll nl0)) nll,tv⟩ fun q2_=>?_
   refine bfe h (fun hb22 h=>?_) fun hb22 h=>?_
   ·exact wx tbk (hcat (Zdj p0 x21) [(4,rp [(.tmp 9,(B ((!x21))))] (B true))]) (hap q2_ ⟨asb hb22 (amv rfl),tv⟩)<|wtr<|wxz<|Qad<|Qac<|frb h
   ·obtain ⟨x24,hf23,h⟩:=bno h
    refine wx tbk (hcat (Zdj p0 x21) [(4,rp [(.tmp 9,(B ((!x21))))] (B false)),(6,rp [(.tmp 10,B false),fu 138,(.tmp 11,(z2_0 p0)),fu 139] (B x24))]) (hap q2_ ⟨asb hb22 (amv rfl),ag_ (Qat (first:=[]) (cap:=[]) (vs:=[(z2_0 p0),(.fn (.func 139) [] [])]) (σr:=[]) (σr':=[]) (res':=(B x24)) [] rfl Q9i (Qjm N p0 _ hf23) rfl (Qbn (rnc (pld Qae) (rnc (.plain _ (NLt.fn _ _ _ nl0 nl0)) rn0))) Qas Qas (.plain _ nll) rfl rfl rfl),tv⟩) ?_
    refine bfe h (fun hc25 h=>?_) fun hc25 h=>?_
    ·exact wft hc25<|wxz<|Qad<|Qac<|frb h
    ·exact wfn hc25<|Qam<|thn<|⟨(),h,(mto (n:=54) [(0,(z2_0 p0))] [] [] hφ0 (pc (rnd Qae) pn) qn)⟩
def Qgc (N:Nat) (p0:(List GRow)):Option Int:=
  (Qea N p0).bind fun x2=>
  bif (!x2) then
   some 1
  else
   some 0
theorem Qlp (N:Nat) (p0:(List GRow)) (r:Int) (h:Qgc N p0=some r):Spec Tryz.prog 100 [(.dat 5 (p0.map Qau))] [] (I r) []:=by
  refine Qah Tryz.func100 rfl 0 (nle rfl) (fun X φ0 w0 hφ0 hd0=>?_)
  unfold Qgc at h
  refine wxz<|wsq ?_
  obtain ⟨x2,hf1,h⟩:=bno h
  refine wx tbk [(1,rp [fu 122,(.tmp 3,(.dat 5 ((p0:List GRow).map Qau)))] (B x2))] ⟨apv Qzx (Qhw N p0 _ hf1) (nlc (nld Qae _) nl0) nll,tv⟩ ?_
  refine bfe h (fun hc3 h=>?_) fun hc3 h=>?_
  ·refine wft hc3<|wxz<|Qad<|Qac ?_
   obtain rfl:=osi h
   exact fend ⟨[I 1],⟨rot,tv⟩,rfl⟩ nll
  ·refine wfn hc3<|Qam<|thn<|wxz<|Qad ?_
   obtain rfl:=osi h
   exact fend ⟨[I 0],⟨rot,tv⟩,rfl⟩ nll
def Qca (_N:Nat) (p0:Int) (p1:Int) (p2:Int):Option Bool:=
  bif (decide (p1≤p0)) then
   some (decide (p0≤p2))
  else
   some false
theorem Qda (N:Nat) (p0:Int) (p1:Int) (p2:Int) (r:Bool) (h:Qca N p0 p1 p2=some r):Spec Tryz.prog 65 [(I p0),(I p1),(I p2)] [] (B r) []:=by
  refine Qah Tryz.func65 rfl 0 (nle rfl) (fun X φ0 w0 hφ0 hd0=>?_)
  unfold Qca at h
  refine wxz ?_
  refine bfe h (fun hb1 h=>?_) fun hb1 h=>?_
  ·refine wx tbk [(3,rp [(.tmp 9,(B ((decide (p1≤p0)))))] (B true))] ⟨asb hb1 (amv rfl),tv⟩<|Qad ?_
   obtain rfl:=osi h
   exact fend ⟨[(B ((decide (p0≤p2))))],⟨rot,tv⟩,rfl⟩ nll
  ·exact wx tbk [(3,rp [(.tmp 9,(B ((decide (p1≤p0)))))] (B false))] ⟨asb hb1 (amv rfl),tv⟩<|Qad<|frb h
def Qfd (N:Nat) (p0:Int):Option Bool:=
  (Qca N p0 0 1000).bind fun x2=>
  some x2
theorem Qj1 (N:Nat) (p0:Int) (r:Bool) (h:Qfd N p0=some r):Spec Tryz.prog 125 [(I p0)] [] (B r) []:=by
  refine Qah Tryz.func125 rfl 0 (nle rfl) (fun X φ0 w0 hφ0 hd0=>?_)
  unfold Qfd at h
  refine wxz ?_
  obtain ⟨x2,hf1,h⟩:=bno h
  exact wx tbk [(1,rp [fu 65,(.tmp 3,I p0),ci 0,ci 1000] (B x2))] ⟨apv Qjr (Qda N p0 0 1000 _ hf1) (nlcc (nlc nll nl0)) nll,tv⟩<|Qad<|frb h
def Qfq (N:Nat) (p0:Int):Option Bool:=
  (Qfd N p0).bind fun x3=>
  some (!x3)
def Q7z:Slot:=.own 1 [[(.fn (.func 125) [] [])]]
theorem Qlu (N:Nat) (p0:Int) (r:Bool) (h:Qfq N p0=some r):Spec Tryz.prog 128 [(I (p0)),(.ref 0 1 (0) 0)] [Q7z] (B (r)) [Q7z]:=by
  refine Qah Tryz.func128 rfl 1 (nle rfl) (fun X φ0 w0 hφ0 hd0=>?_)
  unfold Qfq at h
  refine Qbh<|wxz ?_
  obtain ⟨x3,hf2,h⟩:=bno h
  refine wx tbk [(2,rp [(.tmp 4,(.fn (.func 125) [] [])),(.tmp 5,I p0)] (B x3))] ⟨apv Q9p (Qj1 N p0 _ hf2) (nlc nll nl0) nll,tv⟩ ?_
  refine wmr (mto (n:=8) (l':=[(3,(B ((!x3))))]) (own':=[Q7z]) [(3,(B ((!x3))))] [0] [Q7z] hφ0 (pw pn) (qb (lc (.rn (Qbd rn0 rn0)) ln) qn))<|Qad ?_
  obtain rfl:=osi h
  exact ⟨_,Mor.rfl,Qct (vs:=[(B ((!x3)))]) ⟨rot,tv⟩ rfl (NLt.of0 nll) (by kernel_rfl) (Qan (Qa7 (nlc (NLt.of0 (NLt.fn _ _ _ nl0 nl0)) nl0)) Qbi)⟩
def Qbq (N:Nat) (p0:(List Int)) (k2:Unit→Option Int):Nat→Int→Option Int
  | 0,_=>none
  | n5+1,y3=>
    bif (decide (y3<(p0.length:Int))) then
     (getI p0 y3).bind fun x7=>
     (Qfq N x7).bind fun x12=>
     bif x12 then
      some y3
     else
      Qbq N p0 k2 n5 (w64 (y3+1))
    else
     k2 ()
def Qdj (N:Nat) (p0:(List Int)):Option Int:=
  Qby (fun _=>
    some (-1)) fun k2:Unit→Option Int=>
  Qbq N p0 k2 N 0
def Qv9 (p0:(List Int)):AV:=.dat 1 ((p0:List Int).map Qaj)
def Q0x:AV:=.fn (.func 128) [] [(.ref 0 1 (0) 0)]
def Qln:Slot:=.own 1 [[(.fn (.func 125) [] [])]]
theorem Qh2 (N:Nat) (p0:(List Int)) (r:Int) (h:Qdj N p0=some r):Spec Tryz.prog 141 [(Qv9 p0),Q0x] [Qln] (I (r)) [Qln]:=by
  refine Qah Tryz.func141 rfl 1 (nle rfl) (fun X φ0 w0 hφ0 hd0=>?_)
  unfold Qdj at h
  refine Qbh<|wxz ?_
  obtain ⟨k2,hk_k2,h⟩:=jko h
  refine wjn (τ:=Unit) (fun t=>k2 t=some r) (fun _=>⟨mk 19 [],[Qln]⟩) (fun t h=>?_) ?_
  ·subst hk_k2
   refine wxz<|wmr (mto (n:=19) (l':=[(4,(I ((-1))))]) (own':=[Qln]) [(4,(I ((-1))))] [0] [Qln] hφ0 (pw pn) (qb (lc (.rn (Qbd rn0 rn0)) ln) qn))<|Qad ?_
   obtain rfl:=osi h
   exact ⟨_,Mor.rfl,Qct (vs:=[(I ((-1)))]) ⟨rot,tv⟩ rfl (NLt.of0 nll) (by kernel_rfl) (Qan (Qa7 (nlc (NLt.of0 (NLt.fn _ _ _ nl0 nl0)) nl0)) Qbi)⟩
  ·skip
   refine wx tbk [(1,rp [(.tmp 6,(Qv9 p0))] (I ((p0.length:Int))))] ⟨alm (c:=Qaj) (l:=p0) (aln rfl Tryz.underlying27 rfl),tv⟩<|Qal ?_
   refine wmr (mto (n:=19) (l':=[(0,(Qv9 p0)),(1,Q0x),(7,(I ((p0.length:Int)))),(8,I 0)]) (own':=[Qln]) [(0,(Qv9 p0)),(1,Q0x),(7,(I ((p0.length:Int)))),(8,I 0)] [0] [Qln] hφ0 (pc (rnd Qaf) (pc (.rn (Qbd rn0 (rnc (rqr rfl) rn0))) (pw (pw pn)))) (qb (lc (.rn (Qbd rn0 rn0)) ln) qn)) ?_
   refine Qbu (τ:=Int) (fun n t=>Qbq N p0 k2 n t=some r) (fun y3=>⟨mk 19 [(0,(Qv9 p0)),(1,Q0x),(7,(I ((p0.length:Int)))),(8,I y3)],[Qln]⟩) (fun t h=>by rw [Qbq] at h; cases h) (fun n5 ih y3 h=>?_) N (0) h
   rw [Qbq] at h
   skip
   refine wxz<|wsq ?_
   refine bfe h (fun hc6 h=>?_) fun hc6 h=>?_
   ·refine wft hc6<|Qam<|thn<|wsq<|Qal<|wxz ?_
    obtain ⟨x7,hg8,h⟩:=bno h
    obtain ⟨hi9,hj10⟩:=gsm hg8
    obtain ⟨x12,hf11,h⟩:=bno h
    refine wx tbk [(3,rp [(.tmp 12,(Qv9 p0)),(.tmp 13,I y3)] (.dptr (Qaj (x7)) 0)),(5,⟨[(.tmp 11,Q0x),(.tmp 15,I x7)],[(0,Qln)],B x12,[(0,Qln)],false⟩)] ⟨aid rfl Tryz.underlying27 ti3 rfl rfl hi9 (mgt Qaj hj10) rfl,Qat (first:=[]) (cap:=[.ref 0 1 0 0]) (vs:=[I x7]) (σr:=[Qln]) (σr':=[Qln]) (res':=(B x12)) [0] rfl Qzw (Qlu N x7 _ hf11) rfl (Qbn (rnc (.plain _ nll) (rnc (Qbb rfl) rn0))) (slc (Qao (rnc (.plain _ (NLt.fn _ _ _ nl0 nl0)) rn0)) Qas) (slc (Qao (rnc (.plain _ (NLt.fn _ _ _ nl0 nl0)) rn0)) Qas) (.plain _ nll) rfl rfl rfl,tv⟩ ?_
    refine bfe h (fun hc13 h=>?_) fun hc13 h=>?_
    ·refine wft hc13<|wxz ?_
     refine wmr (mto (n:=19) (l':=[(4,I y3)]) (own':=[Qln]) [(4,I y3)] [0] [Qln] hφ0 (pw pn) (qb (lc (.rn (Qbd rn0 rn0)) ln) qn))<|Qad<|Qak<|Qac<|Qac<|Qak<|Qac ?_
     obtain rfl:=osi h
     exact ⟨_,Mor.rfl,Qct (vs:=[I y3]) ⟨rot,tv⟩ rfl (NLt.of0 nll) (by kernel_rfl) (Qan (Qa7 (nlc (NLt.of0 (NLt.fn _ _ _ nl0 nl0)) nl0)) Qbi)⟩
    ·exact wfn hc13<|Qam<|bln<|thn<|wxz1<|thn<|arm (mto (n:=19) [(0,(Qv9 p0)),(1,Q0x),(7,(I ((p0.length:Int)))),(8,(I (w64 (y3+1))))] [0] [Qln] hφ0 (pc (rnd Qaf) (pc (.rn (Qbd rn0 (rnc (rqr rfl) rn0))) (pw (pw pn)))) (qb (lc (.rn (Qbd rn0 rn0)) ln) qn)) (ih (w64 (y3+1)) h)
   ·exact wfn hc6<|Qbf<|Qav<|Qav<|Qbe rfl<|thn<|⟨(),h,(mto (n:=19) [] [0] [Qln] hφ0 pn (qb (lc (.rn (Qbd rn0 rn0)) ln) qn))⟩
def Qcf (N:Nat) (p0:(List Int)):Option Bool:=
  (Qdj N p0).bind fun x3=>
  some (decide (x3≥0))
def Zds (p0:(List Int)):AV:=.dat 1 ((p0:List Int).map Qaj)
def Zdr:AV:=.fn (.func 128) [] [(.ref 0 1 (0) 0)]
def Qua:Slot:=.own 1 [[(.fn (.func 125) [] [])]]
theorem Qha (N:Nat) (p0:(List Int)) (r:Bool) (h:Qcf N p0=some r):Spec Tryz.prog 126 [(Zds p0),Zdr] [Qua] (B (r)) [Qua]:=by
  refine Qah Tryz.func126 rfl 1 (nle rfl) (fun X φ0 w0 hφ0 hd0=>?_)
  unfold Qcf at h
  refine Qbh<|wxz ?_
  obtain ⟨x3,hf2,h⟩:=bno h
  refine wx tbk [(2,⟨[fu 141,(.tmp 5,(Zds p0)),(.tmp 6,Zdr)],[(0,Qua)],I x3,[(0,Qua)],false⟩)] ⟨Qat (first:=[]) (cap:=[]) (vs:=[(Zds p0),Zdr]) (σr:=[Qua]) (σr':=[Qua]) (res':=(I x3)) [0] rfl Qna (Qh2 N p0 _ hf2) rfl (Qbn (rnc (pld Qaf) (rnc (Qbd rn0 (rnc (Qbb rfl) rn0)) rn0))) (slc (Qao (rnc (.plain _ (NLt.fn _ _ _ nl0 nl0)) rn0)) Qas) (slc (Qao (rnc (.plain _ (NLt.fn _ _ _ nl0 nl0)) rn0)) Qas) (.plain _ nll) rfl rfl rfl,tv⟩ ?_
  refine wmr (mto (n:=9) (l':=[(4,(B ((decide (x3≥0)))))]) (own':=[Qua]) [(4,(B ((decide (x3≥0)))))] [0] [Qua] hφ0 (pw pn) (qb (lc (.rn (Qbd rn0 rn0)) ln) qn))<|Qad ?_
  obtain rfl:=osi h
  exact ⟨_,Mor.rfl,Qct (vs:=[(B ((decide (x3≥0))))]) ⟨rot,tv⟩ rfl (NLt.of0 nll) (by kernel_rfl) (Qan (Qa7 (nlc (NLt.of0 (NLt.fn _ _ _ nl0 nl0)) nl0)) Qbi)⟩
def Qfr (N:Nat) (p0:(List Int)):Option Bool:=
  (Qcf N p0).bind fun x2=>
  some (!x2)
def Zdu (p0:(List Int)):AV:=.dat 1 ((p0:List Int).map Qaj)
def Zdt:AV:=.fn (.func 128) [] [(.ref 0 1 (0) 0)]
def Q70:Slot:=.own 1 [[(.fn (.func 125) [] [])]]
theorem Qm1 (N:Nat) (p0:(List Int)) (r:Bool) (h:Qfr N p0=some r):Spec Tryz.prog 108 [(Zdu p0),(.fn (.func 125) [] [])] [] (B (r)) []:=by
  refine Qah Tryz.func108 rfl 0 (nle rfl) (fun X φ0 w0 hφ0 hd0=>?_)
  unfold Qfr at h
  refine wxz ?_
  obtain ⟨x2,hf1,h⟩:=bno h
  refine wx tbk [(1,rp [(.tmp 3,.ref 0 1 0 0)] Zdt),(2,⟨[fu 126,(.tmp 5,(Zdu p0)),(.tmp 6,Zdt)],[(0,Q70)],B x2,[(0,Q70)],false⟩)] ⟨Qe5 (fs:=[]) (cs:=[.ref 0 1 0 0]) rfl rfl rfl rfl,Qat (first:=[]) (cap:=[]) (vs:=[(Zdu p0),Zdt]) (σr:=[Q70]) (σr':=[Q70]) (res':=(B x2)) [0] rfl Qnb (Qha N p0 _ hf1) rfl (Qbn (rnc (pld Qaf) (rnc (Qbd rn0 (rnc (Qbb rfl) rn0)) rn0))) (slc (Qao (rnc (.plain _ (NLt.fn _ _ _ nl0 nl0)) rn0)) Qas) (slc (Qao (rnc (.plain _ (NLt.fn _ _ _ nl0 nl0)) rn0)) Qas) (.plain _ nll) rfl rfl rfl,tv⟩<|Qad ?_
  obtain rfl:=osi h
  exact fend ⟨[(B ((!x2)))],⟨rot,tv⟩,rfl⟩ nll
def Qfc (_N:Nat) (p0:Int):Option Bool:=
  some (decide (p0>0))
theorem Qj0 (N:Nat) (p0:Int) (r:Bool) (h:Qfc N p0=some r):Spec Tryz.prog 127 [(I p0)] [] (B r) []:=by
  refine Qah Tryz.func127 rfl 0 (nle rfl) (fun X φ0 w0 hφ0 hd0=>?_)
  unfold Qfc at h
  refine wxz<|wxz<|Qad ?_
  obtain rfl:=osi h
  exact fend ⟨[(B ((decide (p0>0))))],⟨rot,tv⟩,rfl⟩ nll
def Qbp (N:Nat) (p0:(List Int)) (k1:Unit→Option Int):Nat→Int→Option Int
  | 0,_=>none
  | n4+1,y2=>
    bif (decide (y2<(p0.length:Int))) then
     (getI p0 y2).bind fun x6=>
     (Qfc N x6).bind fun x11=>
     bif x11 then
      some y2
     else
      Qbp N p0 k1 n4 (w64 (y2+1))
    else
     k1 ()
def Qdi (N:Nat) (p0:(List Int)):Option Int:=
  Qby (fun _=>
    some (-1)) fun k1:Unit→Option Int=>
  Qbp N p0 k1 N 0
def Qv8 (p0:(List Int)):AV:=.dat 1 ((p0:List Int).map Qaj)
theorem Qh1 (N:Nat) (p0:(List Int)) (r:Int) (h:Qdi N p0=some r):Spec Tryz.prog 141 [(Qv8 p0),(.fn (.func 127) [] [])] [] (I (r)) []:=by
  refine Qah Tryz.func141 rfl 0 (nle rfl) (fun X φ0 w0 hφ0 hd0=>?_)
  unfold Qdi at h
  refine wxz ?_
  obtain ⟨k1,hk_k1,h⟩:=jko h
  refine wjn (τ:=Unit) (fun t=>k1 t=some r) (fun _=>⟨mk 19 [],[]⟩) (fun t h=>?_) ?_
  ·subst hk_k1
   refine wxz<|Qad ?_
   obtain rfl:=osi h
   exact fend ⟨[(I ((-1)))],⟨rot,tv⟩,rfl⟩ nll
  ·skip
   refine wx tbk [(1,rp [(.tmp 6,(Qv8 p0))] (I ((p0.length:Int))))] ⟨alm (c:=Qaj) (l:=p0) (aln rfl Tryz.underlying27 rfl),tv⟩<|Qal ?_
   refine wmr (mto (n:=19) (l':=[(0,(Qv8 p0)),(1,(.fn (.func 127) [] [])),(7,(I ((p0.length:Int)))),(8,I 0)]) (own':=[]) [(0,(Qv8 p0)),(1,(.fn (.func 127) [] [])),(7,(I ((p0.length:Int)))),(8,I 0)] [] [] hφ0 (pc (rnd Qaf) (pc (.rn (Qbd rn0 rn0)) (pw (pw pn)))) qn) ?_
   refine Qbu (τ:=Int) (fun n t=>Qbp N p0 k1 n t=some r) (fun y2=>⟨mk 19 [(0,(Qv8 p0)),(1,(.fn (.func 127) [] [])),(7,(I ((p0.length:Int)))),(8,I y2)],[]⟩) (fun t h=>by rw [Qbp] at h; cases h) (fun n4 ih y2 h=>?_) N (0) h
   rw [Qbp] at h
   skip
   refine wxz<|wsq ?_
   refine bfe h (fun hc5 h=>?_) fun hc5 h=>?_
   ·refine wft hc5<|Qam<|thn<|wsq<|Qal<|wxz ?_
    obtain ⟨x6,hg7,h⟩:=bno h
    obtain ⟨hi8,hj9⟩:=gsm hg7
    obtain ⟨x11,hf10,h⟩:=bno h
    refine wx tbk [(3,rp [(.tmp 12,(Qv8 p0)),(.tmp 13,I y2)] (.dptr (Qaj (x6)) 0)),(5,rp [(.tmp 11,(.fn (.func 127) [] [])),(.tmp 15,I x6)] (B x11))] ⟨aid rfl Tryz.underlying27 ti3 rfl rfl hi8 (mgt Qaj hj9) rfl,apv Q9o (Qj0 N x6 _ hf10) (nlc nll nl0) nll,tv⟩ ?_
    refine bfe h (fun hc12 h=>?_) fun hc12 h=>?_
    ·refine wft hc12<|wxz<|Qad<|Qak<|Qac<|Qac<|Qak<|Qac ?_
     obtain rfl:=osi h
     exact fend ⟨[I y2],⟨rot,tv⟩,rfl⟩ nll
    ·exact wfn hc12<|Qam<|bln<|thn<|wxz1<|thn<|arm (mto (n:=19) [(0,(Qv8 p0)),(1,(.fn (.func 127) [] [])),(7,(I ((p0.length:Int)))),(8,(I (w64 (y2+1))))] [] [] hφ0 (pc (rnd Qaf) (pc (.rn (Qbd rn0 rn0)) (pw (pw pn)))) qn) (ih (w64 (y2+1)) h)
   ·exact wfn hc5<|Qbf<|Qav<|Qav<|Qbe rfl<|thn<|⟨(),h,(mto (n:=19) [] [] [] hφ0 pn qn)⟩
def Qb0 (N:Nat) (p0:(List Int)):Option Bool:=
  (Qdi N p0).bind fun x2=>
  some (decide (x2≥0))
def Zdq (p0:(List Int)):AV:=.dat 1 ((p0:List Int).map Qaj)
theorem Qg9 (N:Nat) (p0:(List Int)) (r:Bool) (h:Qb0 N p0=some r):Spec Tryz.prog 126 [(Zdq p0),(.fn (.func 127) [] [])] [] (B (r)) []:=by
  refine Qah Tryz.func126 rfl 0 (nle rfl) (fun X φ0 w0 hφ0 hd0=>?_)
  unfold Qb0 at h
  refine wxz ?_
  obtain ⟨x2,hf1,h⟩:=bno h
  refine wx tbk [(2,rp [fu 141,(.tmp 5,(Zdq p0)),(.tmp 6,(.fn (.func 127) [] []))] (I x2))] ⟨Qat (first:=[]) (cap:=[]) (vs:=[(Zdq p0),(.fn (.func 127) [] [])]) (σr:=[]) (σr':=[]) (res':=(I x2)) [] rfl Qna (Qh1 N p0 _ hf1) rfl (Qbn (rnc (pld Qaf) (rnc (.plain _ (NLt.fn _ _ _ nl0 nl0)) rn0))) Qas Qas (.plain _ nll) rfl rfl rfl,tv⟩<|Qad ?_
  obtain rfl:=osi h
  exact fend ⟨[(B ((decide (x2≥0))))],⟨rot,tv⟩,rfl⟩ nll
def Qez (N:Nat) (p0:GElement):Option Bool:=
  Qby (fun ⟨y1,y2⟩=>
    Qby (fun _=>
      bif (p0.Kind != 5) then
       some ((p0.Weights.length:Int)==0)
      else
       (Qca N (p0.Weights.length:Int) 1 20).bind fun x7=>
       bif x7 then
        (Qfr N p0.Weights).bind fun x10=>
        bif x10 then
         (Qb0 N p0.Weights).bind fun x13=>
         some x13
        else
         some false
       else
        some false) fun k4:Unit→Option Bool=>
    bif ((p0.From.length:Int) != y1) then
     some false
    else
     (Qca N p0.Amount 0 y2).bind fun x16=>
     bif (!x16) then
      some false
     else
      (Qca N p0.Wide 0 1000000).bind fun x19=>
      bif (!x19) then
       some false
      else
       (Qca N p0.Narrow 1 1000000000).bind fun x22=>
       bif (!x22) then
        some false
       else
        k4 ()) fun k3:Int×Int→Option Bool=>
  bif (p0.Kind==1) then
   k3 (0,0)
  else
   bif (p0.Kind==2) then
    (some (if 6<(p0.From.length:Int) then 6 else (p0.From.length:Int))).bind fun x26=>
    (some (if x26>1 then x26 else 1)).bind fun x28=>
    k3 (x28,0)
   else
    bif (p0.Kind==3) then
     k3 (1,1000000000)
    else
     bif (p0.Kind==4) then
      k3 (1,1000)
     else
      bif (p0.Kind==5) then
       k3 (1,0)
      else
       bif (p0.Kind==6) then
        k3 (1,0)
       else
        some false
def Zd0 (p0:GElement):AV:=.dat 2 ((p0.From:List GPort).map Qar)
def Qwa (p0:GElement):AV:=.dat 1 ((p0.Weights:List Int).map Qaj)
def Qsm (p0:GElement):Slot:=.own 7 [[(K .u8 (p0.Kind)),(Zd0 p0),(I (p0.Level)),(I (p0.Amount)),(I (p0.Wide)),(I (p0.Narrow)),(Qwa p0)]]
def Zdz (p0:GElement) (x7:Bool):List (Nat×Rec):=[(2,rp [((.tmp 55),(Qwa p0))] (I ((p0.Weights.length:Int)))),(3,rp [fu 65,((.tmp 56),(I ((p0.Weights.length:Int)))),ci 1,ci 20] (B (x7)))]
def Zdy (p0) (x7) (x10:Bool):=hcat (Zdz p0 x7) [(4,rp [((.tmp 57),(B (x7)))] (B (true))),(7,rp [((.tmp 58),(B (true))),fu 108,((.tmp 60),(Qwa p0)),fu 125] (B (x10)))]
def Zdx (p0:GElement):List (Nat×Rec):=[(2,rp [((.tmp 24),(Zd0 p0))] (I ((p0.From.length:Int))))]
def Zdw (p0) (y1:Int) (y2:Int) (x16:Bool):=hcat (Zdx p0) [(5,rp [((.tmp 27),(B (((p0.From.length:Int) != y1))))] (B (false))),(9,rp [((.tmp 28),(B (false))),fu 65,((.tmp 30),(I (p0.Amount))),ci 0,((.tmp 31),(I (y2)))] (B (x16)))]
def Zdv (p0) (y1) (y2) (x16) (x19:Bool):=hcat (Zdw p0 y1 y2 x16) [(12,rp [((.tmp 34),(B ((!x16))))] (B (false))),(15,rp [((.tmp 35),(B (false))),fu 65,((.tmp 37),(I (p0.Wide))),ci 0,ci 1000000] (B (x19)))]
theorem Qkr (N:Nat) (p0:GElement) (r:Bool) (h:Qez N p0=some r):Spec Tryz.prog 102 [(.agg (Qab p0))] [] (B r) []:=by
  refine Qah Tryz.func102 rfl 0 (nle rfl) (fun X φ0 w0 hφ0 hd0=>?_)
  unfold Qez at h
  refine wxz<|wxz ?_
  obtain ⟨k3,hk_k3,h⟩:=jko h
  refine wjn (τ:=Int×Int) (fun t=>k3 t=some r) (fun ⟨y1,y2⟩=>⟨mk 68 [(1,.ref 0 7 0 0),(3,I y1),(4,I y2)],[(Qsm p0)]⟩) (fun t h=>?_) ?_
  ·subst hk_k3
   obtain ⟨y1,y2⟩:=t
   obtain ⟨k4,hk_k4,h⟩:=jko h
   refine wjn (τ:=Unit) (fun t=>k4 t=some r) (fun _=>⟨mk 68 [(1,.ref 0 7 0 0)],[(Qsm p0)]⟩) (fun t h=>?_) ?_
   ·subst hk_k4
    refine wsq<|wxz ?_
    refine bfe h (fun hc5 h=>?_) fun hc5 h=>?_
    ·refine wft hc5<|wx tbk [(2,rp [(.tmp 51,(Qwa p0))] (I ((p0.Weights.length:Int))))] ⟨alm (c:=Qaj) (l:=p0.Weights) (aln rfl Tryz.underlying27 rfl),tv⟩<|Qad<|Qac ?_
     obtain rfl:=osi h
     exact fend ⟨[(B (((p0.Weights.length:Int)==0)))],⟨rot,tv⟩,rfl⟩ nll
    ·refine wfn hc5<|Qam<|thn ?_
     obtain ⟨x7,hf6,h⟩:=bno h
     refine hpre (A:=(Zdz p0 x7)) ⟨alm (c:=Qaj) (l:=p0.Weights) (aln rfl Tryz.underlying27 rfl),apv Qjr (Qda N (p0.Weights.length:Int) 1 20 _ hf6) (nlcc (nlc nll nl0)) nll,tv⟩ fun q1_=>?_
     refine bfe h (fun hb8 h=>?_) fun hb8 h=>?_
     ·obtain ⟨x10,hf9,h⟩:=bno h
      refine hpre (A:=(Zdy p0 x7 x10)) (hap q1_ ⟨asb hb8 (amv rfl),ag_ (Qat (first:=[]) (cap:=[]) (vs:=[(Qwa p0),(.fn (.func 125) [] [])]) (σr:=[]) (σr':=[]) (res':=(B x10)) [] rfl Qzy (Qm1 N p0.Weights _ hf9) rfl (Qbn (rnc (pld Qaf) (rnc (.plain _ (NLt.fn _ _ _ nl0 nl0)) rn0))) Qas Qas (.plain _ nll) rfl rfl rfl),tv⟩) fun q2_=>?_
      refine bfe h (fun hb11 h=>?_) fun hb11 h=>?_
      ·obtain ⟨x13,hf12,h⟩:=bno h
       refine wx tbk (hcat (Zdy p0 x7 x10) [(9,rp [(.tmp 62,B x10)] (B true)),(12,rp [(.tmp 63,B true),fu 126,(.tmp 65,(Qwa p0)),fu 127] (B x13))]) (hap q2_ ⟨asb hb11 (amv rfl),ag_ (Qat (first:=[]) (cap:=[]) (vs:=[(Qwa p0),(.fn (.func 127) [] [])]) (σr:=[]) (σr':=[]) (res':=(B x13)) [] rfl Qnb (Qg9 N p0.Weights _ hf12) rfl (Qbn (rnc (pld Qaf) (rnc (.plain _ (NLt.fn _ _ _ nl0 nl0)) rn0))) Qas Qas (.plain _ nll) rfl rfl rfl),tv⟩)<|Qad ?_
       exact frb h
      ·exact wx tbk (hcat (Zdy p0 x7 x10) [(9,rp [(.tmp 62,B x10)] (B false))]) (hap q2_ ⟨asb hb11 (amv rfl),tv⟩)<|Qad<|frb h
     ·exact wx tbk (hcat (Zdz p0 x7) [(4,rp [(.tmp 57,B x7)] (B false))]) (hap q1_ ⟨asb hb8 (amv rfl),tv⟩)<|Qad<|frb h
   ·skip
    refine hpre (A:=(Zdx p0)) ⟨alm (c:=Qar) (l:=p0.From) (aln rfl Tryz.underlying116 rfl),tv⟩ fun q3_=>?_
    refine bfe h (fun hb14 h=>?_) fun hb14 h=>?_
    ·exact wx tbk (hcat (Zdx p0) [(5,rp [(.tmp 27,(B (((p0.From.length:Int) != y1))))] (B true))]) (hap q3_ ⟨asb hb14 (amv rfl),tv⟩)<|wtr<|wxz<|Qad<|Qac<|frb h
    ·obtain ⟨x16,hf15,h⟩:=bno h
     refine hpre (A:=(Zdw p0 y1 y2 x16)) (hap q3_ ⟨asb hb14 (amv rfl),ag_ (apv Qjr (Qda N p0.Amount 0 y2 _ hf15) (nlcc (nlc nll nl0)) nll),tv⟩) fun q4_=>?_
     refine bfe h (fun hb17 h=>?_) fun hb17 h=>?_
     ·exact wx tbk (hcat (Zdw p0 y1 y2 x16) [(12,rp [(.tmp 34,(B ((!x16))))] (B true))]) (hap q4_ ⟨asb hb17 (amv rfl),tv⟩)<|wtr<|wxz<|Qad<|Qac<|frb h
     ·obtain ⟨x19,hf18,h⟩:=bno h
      refine hpre (A:=(Zdv p0 y1 y2 x16 x19)) (hap q4_ ⟨asb hb17 (amv rfl),ag_ (apv Qjr (Qda N p0.Wide 0 1000000 _ hf18) (nlcc (nlc nll nl0)) nll),tv⟩) fun q5_=>?_
      refine bfe h (fun hb20 h=>?_) fun hb20 h=>?_
      ·exact wx tbk (hcat (Zdv p0 y1 y2 x16 x19) [(18,rp [(.tmp 40,(B ((!x19))))] (B true))]) (hap q5_ ⟨asb hb20 (amv rfl),tv⟩)<|wtr<|wxz<|Qad<|Qac<|frb h
      ·obtain ⟨x22,hf21,h⟩:=bno h
       refine wx tbk (hcat (Zdv p0 y1 y2 x16 x19) [(18,rp [(.tmp 40,(B ((!x19))))] (B false)),(21,rp [(.tmp 41,B false),fu 65,(.tmp 43,I p0.Narrow),ci 1,ci 1000000000] (B x22))]) (hap q5_ ⟨asb hb20 (amv rfl),ag_ (apv Qjr (Qda N p0.Narrow 1 1000000000 _ hf21) (nlcc (nlc nll nl0)) nll),tv⟩) ?_
       refine bfe h (fun hc23 h=>?_) fun hc23 h=>?_
       ·exact wft hc23<|wxz<|Qad<|Qac<|frb h
       ·exact wfn hc23<|Qam<|thn<|⟨(),h,(mto (n:=68) [(1,.ref 0 7 0 0)] [0] [(Qsm p0)] hφ0 (prr pn) (qb (lc rwl (lc (rnd Qaz) (lcc (lcc (lc (rnd Qaf) ln))))) qn))⟩
  ·skip
   refine wxz<|Qal<|wxz ?_
   refine bfe h (fun hc24 h=>?_) fun hc24 h=>?_
   ·exact wft hc24<|wxz1<|bln<|thn<|⟨(0,0),h,(mto (n:=68) [(1,.ref 0 7 0 0),(3,I 0),(4,I 0)] [0] [(Qsm p0)] hφ0 (prr (pw (pw pn))) (qb (lc rwl (lc (rnd Qaz) (lcc (lcc (lc (rnd Qaf) ln))))) qn))⟩
   ·refine wfn hc24<|wxz ?_
    refine bfe h (fun hc25 h=>?_) fun hc25 h=>?_
    ·refine wft hc25 ?_
     obtain ⟨x26,hl27,h⟩:=bno h
     obtain ⟨x28,hl29,h⟩:=bno h
     refine wx1 tbk [(2,rp [(.tmp 12,(Zd0 p0))] (I ((p0.From.length:Int)))),(3,rp [(.tmp 13,(I ((p0.From.length:Int)))),ci 6] (I x26)),(4,rp [ci 1,(.tmp 14,I x26)] (I ((if x26>1 then x26 else 1)))),(5,rp [(.tmp 15,(I ((if x26>1 then x26 else 1))))] (I x28))] ⟨alm (c:=Qar) (l:=p0.From) (aln rfl Tryz.underlying116 rfl),Qjb hl27 (Qqz rfl),Qni rfl,Qjb hl29 (aas rfl),tv⟩<|bln<|thn ?_
     exact ⟨(x28,0),h,(mto (n:=68) [(1,.ref 0 7 0 0),(3,I x28),(4,I 0)] [0] [(Qsm p0)] hφ0 (prr (pw (pw pn))) (qb (lc rwl (lc (rnd Qaz) (lcc (lcc (lc (rnd Qaf) ln))))) qn))⟩
    ·refine wfn hc25<|wxz ?_
     refine bfe h (fun hc30 h=>?_) fun hc30 h=>?_
     ·exact wft hc30<|wxz1<|bln<|thn<|⟨(1,1000000000),h,(mto (n:=68) [(1,.ref 0 7 0 0),(3,I 1),(4,I 1000000000)] [0] [(Qsm p0)] hφ0 (prr (pw (pw pn))) (qb (lc rwl (lc (rnd Qaz) (lcc (lcc (lc (rnd Qaf) ln))))) qn))⟩
     ·refine wfn hc30<|wxz ?_
      refine bfe h (fun hc31 h=>?_) fun hc31 h=>?_
      ·exact wft hc31<|wxz1<|bln<|thn<|⟨(1,1000),h,(mto (n:=68) [(1,.ref 0 7 0 0),(3,I 1),(4,I 1000)] [0] [(Qsm p0)] hφ0 (prr (pw (pw pn))) (qb (lc rwl (lc (rnd Qaz) (lcc (lcc (lc (rnd Qaf) ln))))) qn))⟩
      ·refine wfn hc31<|wsq<|wxz ?_
       refine bfe h (fun hc32 h=>?_) fun hc32 h=>?_
       ·exact wft hc32<|Qam<|thn<|wft hc32<|Qam<|bln<|thn<|⟨(1,0),h,(mto (n:=68) [(1,.ref 0 7 0 0),(3,I 1),(4,I 0)] [0] [(Qsm p0)] hφ0 (prr (pw (pw pn))) (qb (lc rwl (lc (rnd Qaz) (lcc (lcc (lc (rnd Qaf) ln))))) qn))⟩
       ·refine wfn hc32<|wxz1<|thn ?_
        refine bfe h (fun hc33 h=>?_) fun hc33 h=>?_
        ·exact wft hc33<|Qam<|bln<|thn<|⟨(1,0),h,(mto (n:=68) [(1,.ref 0 7 0 0),(3,I 1),(4,I 0)] [0] [(Qsm p0)] hφ0 (prr (pw (pw pn))) (qb (lc rwl (lc (rnd Qaz) (lcc (lcc (lc (rnd Qaf) ln))))) qn))⟩
        ·exact wfn hc33<|wxz<|Qad<|Qak<|Qac<|frb h
def Qdv (N:Nat) (p0:GElement):Option Bool:=
  (Qez N p0).bind fun x3=>
  some (!x3)
def Zgo (p0:GElement):AV:=.agg [(K .u8 (p0.Kind)),(.dat 2 ((p0.From:List GPort).map Qar)),(I (p0.Level)),(I (p0.Amount)),(I (p0.Wide)),(I (p0.Narrow)),(.dat 1 ((p0.Weights:List Int).map Qaj))]
def Q71:Slot:=.own 1 [[(.fn (.func 102) [] [])]]
theorem Qih (N:Nat) (p0:GElement) (r:Bool) (h:Qdv N p0=some r):Spec Tryz.prog 124 [(Zgo p0),(.ref 0 1 (0) 0)] [Q71] (B (r)) [Q71]:=by
  refine Qah Tryz.func124 rfl 1 (nle rfl) (fun X φ0 w0 hφ0 hd0=>?_)
  unfold Qdv at h
  refine Qbh<|wxz ?_
  obtain ⟨x3,hf2,h⟩:=bno h
  refine wx tbk [(2,rp [(.tmp 4,(.fn (.func 102) [] [])),(.tmp 5,(Zgo p0))] (B x3))] ⟨apv Q97 (Qkr N p0 _ hf2) (nlc (NLt.agg _ (nlc nll (nlc (nld Qaz _) (nlcc (nlcc (nlc (nld Qaf _) nl0)))))) nl0) nll,tv⟩ ?_
  refine wmr (mto (n:=8) (l':=[(3,(B ((!x3))))]) (own':=[Q71]) [(3,(B ((!x3))))] [0] [Q71] hφ0 (pw pn) (qb (lc (.rn (Qbd rn0 rn0)) ln) qn))<|Qad ?_
  obtain rfl:=osi h
  exact ⟨_,Mor.rfl,Qct (vs:=[(B ((!x3)))]) ⟨rot,tv⟩ rfl (NLt.of0 nll) (by kernel_rfl) (Qan (Qa7 (nlc (NLt.of0 (NLt.fn _ _ _ nl0 nl0)) nl0)) Qbi)⟩
def Qaw (N:Nat) (p0:(List GElement)) (k2:Unit→Option Int):Nat→Int→Option Int
  | 0,_=>none
  | n5+1,y3=>
    bif (decide (y3<(p0.length:Int))) then
     (getI p0 y3).bind fun x7=>
     (Qdv N x7).bind fun x12=>
     bif x12 then
      some y3
     else
      Qaw N p0 k2 n5 (w64 (y3+1))
    else
     k2 ()
def Qbo (N:Nat) (p0:(List GElement)):Option Int:=
  Qby (fun _=>
    some (-1)) fun k2:Unit→Option Int=>
  Qaw N p0 k2 N 0
def Qwj (p0:(List GElement)):AV:=.dat 7 ((p0:List GElement).map Qab)
def Q0y:AV:=.fn (.func 124) [] [(.ref 0 1 (0) 0)]
def Qlo:Slot:=.own 1 [[(.fn (.func 102) [] [])]]
def Zba (x7:GElement):AV:=.agg [(K .u8 (x7.Kind)),(.dat 2 ((x7.From:List GPort).map Qar)),(I (x7.Level)),(I (x7.Amount)),(I (x7.Wide)),(I (x7.Narrow)),(.dat 1 ((x7.Weights:List Int).map Qaj))]
theorem Qe9 (N:Nat) (p0:(List GElement)) (r:Int) (h:Qbo N p0=some r):Spec Tryz.prog 140 [(Qwj p0),Q0y] [Qlo] (I (r)) [Qlo]:=by
  refine Qah Tryz.func140 rfl 1 (nle rfl) (fun X φ0 w0 hφ0 hd0=>?_)
  unfold Qbo at h
  refine Qbh<|wxz ?_
  obtain ⟨k2,hk_k2,h⟩:=jko h
  refine wjn (τ:=Unit) (fun t=>k2 t=some r) (fun _=>⟨mk 19 [],[Qlo]⟩) (fun t h=>?_) ?_
  ·subst hk_k2
   refine wxz<|wmr (mto (n:=19) (l':=[(4,(I ((-1))))]) (own':=[Qlo]) [(4,(I ((-1))))] [0] [Qlo] hφ0 (pw pn) (qb (lc (.rn (Qbd rn0 rn0)) ln) qn))<|Qad ?_
   obtain rfl:=osi h
   exact ⟨_,Mor.rfl,Qct (vs:=[(I ((-1)))]) ⟨rot,tv⟩ rfl (NLt.of0 nll) (by kernel_rfl) (Qan (Qa7 (nlc (NLt.of0 (NLt.fn _ _ _ nl0 nl0)) nl0)) Qbi)⟩
  ·skip
   refine wx tbk [(1,rp [(.tmp 6,(Qwj p0))] (I ((p0.length:Int))))] ⟨alm (c:=Qab) (l:=p0) (aln rfl Tryz.underlying40 rfl),tv⟩<|Qal ?_
   refine wmr (mto (n:=19) (l':=[(0,(Qwj p0)),(1,Q0y),(7,(I ((p0.length:Int)))),(8,I 0)]) (own':=[Qlo]) [(0,(Qwj p0)),(1,Q0y),(7,(I ((p0.length:Int)))),(8,I 0)] [0] [Qlo] hφ0 (pc (rnd Qaa) (pc (.rn (Qbd rn0 (rnc (rqr rfl) rn0))) (pw (pw pn)))) (qb (lc (.rn (Qbd rn0 rn0)) ln) qn)) ?_
   refine Qbu (τ:=Int) (fun n t=>Qaw N p0 k2 n t=some r) (fun y3=>⟨mk 19 [(0,(Qwj p0)),(1,Q0y),(7,(I ((p0.length:Int)))),(8,I y3)],[Qlo]⟩) (fun t h=>by rw [Qaw] at h; cases h) (fun n5 ih y3 h=>?_) N (0) h
   rw [Qaw] at h
   skip
   refine wxz<|wsq ?_
   refine bfe h (fun hc6 h=>?_) fun hc6 h=>?_
   ·refine wft hc6<|Qam<|thn<|wsq<|Qal<|wxz ?_
    obtain ⟨x7,hg8,h⟩:=bno h
    obtain ⟨hi9,hj10⟩:=gsm hg8
    obtain ⟨x12,hf11,h⟩:=bno h
    refine wx tbk [(3,rp [(.tmp 12,(Qwj p0)),(.tmp 13,I y3)] (.dptr (Qab (x7)) 0)),(5,⟨[(.tmp 11,Q0y),(.tmp 15,(Zba x7))],[(0,Qlo)],B x12,[(0,Qlo)],false⟩)] ⟨aid rfl Tryz.underlying40 Qg2 rfl rfl hi9 (mgt Qab hj10) rfl,Qat (first:=[]) (cap:=[.ref 0 1 0 0]) (vs:=[(Zba x7)]) (σr:=[Qlo]) (σr':=[Qlo]) (res':=(B x12)) [0] rfl Q9q (Qih N x7 _ hf11) rfl (Qbn (rnc (.plain _ (NLt.agg _ (nlc nll (nlc (nld Qaz _) (nlcc (nlcc (nlc (nld Qaf _) nl0))))))) (rnc (Qbb rfl) rn0))) (slc (Qao (rnc (.plain _ (NLt.fn _ _ _ nl0 nl0)) rn0)) Qas) (slc (Qao (rnc (.plain _ (NLt.fn _ _ _ nl0 nl0)) rn0)) Qas) (.plain _ nll) rfl rfl rfl,tv⟩ ?_
    refine bfe h (fun hc13 h=>?_) fun hc13 h=>?_
    ·refine wft hc13<|wxz ?_
     refine wmr (mto (n:=19) (l':=[(4,I y3)]) (own':=[Qlo]) [(4,I y3)] [0] [Qlo] hφ0 (pw pn) (qb (lc (.rn (Qbd rn0 rn0)) ln) qn))<|Qad<|Qak<|Qac<|Qac<|Qak<|Qac ?_
     obtain rfl:=osi h
     exact ⟨_,Mor.rfl,Qct (vs:=[I y3]) ⟨rot,tv⟩ rfl (NLt.of0 nll) (by kernel_rfl) (Qan (Qa7 (nlc (NLt.of0 (NLt.fn _ _ _ nl0 nl0)) nl0)) Qbi)⟩
    ·exact wfn hc13<|Qam<|bln<|thn<|wxz1<|thn<|arm (mto (n:=19) [(0,(Qwj p0)),(1,Q0y),(7,(I ((p0.length:Int)))),(8,(I (w64 (y3+1))))] [0] [Qlo] hφ0 (pc (rnd Qaa) (pc (.rn (Qbd rn0 (rnc (rqr rfl) rn0))) (pw (pw pn)))) (qb (lc (.rn (Qbd rn0 rn0)) ln) qn)) (ih (w64 (y3+1)) h)
   ·exact wfn hc6<|Qbf<|Qav<|Qav<|Qbe rfl<|thn<|⟨(),h,(mto (n:=19) [] [0] [Qlo] hφ0 pn (qb (lc (.rn (Qbd rn0 rn0)) ln) qn))⟩
def Qba (N:Nat) (p0:(List GElement)):Option Bool:=
  (Qbo N p0).bind fun x3=>
  some (decide (x3≥0))
def Zd2 (p0:(List GElement)):AV:=.dat 7 ((p0:List GElement).map Qab)
def Zd1:AV:=.fn (.func 124) [] [(.ref 0 1 (0) 0)]
def Qub:Slot:=.own 1 [[(.fn (.func 102) [] [])]]
theorem Qew (N:Nat) (p0:(List GElement)) (r:Bool) (h:Qba N p0=some r):Spec Tryz.prog 123 [(Zd2 p0),Zd1] [Qub] (B (r)) [Qub]:=by
  refine Qah Tryz.func123 rfl 1 (nle rfl) (fun X φ0 w0 hφ0 hd0=>?_)
  unfold Qba at h
  refine Qbh<|wxz ?_
  obtain ⟨x3,hf2,h⟩:=bno h
  refine wx tbk [(2,⟨[fu 140,(.tmp 5,(Zd2 p0)),(.tmp 6,Zd1)],[(0,Qub)],I x3,[(0,Qub)],false⟩)] ⟨Qat (first:=[]) (cap:=[]) (vs:=[(Zd2 p0),Zd1]) (σr:=[Qub]) (σr':=[Qub]) (res':=(I x3)) [0] rfl Q9g (Qe9 N p0 _ hf2) rfl (Qbn (rnc (pld Qaa) (rnc (Qbd rn0 (rnc (Qbb rfl) rn0)) rn0))) (slc (Qao (rnc (.plain _ (NLt.fn _ _ _ nl0 nl0)) rn0)) Qas) (slc (Qao (rnc (.plain _ (NLt.fn _ _ _ nl0 nl0)) rn0)) Qas) (.plain _ nll) rfl rfl rfl,tv⟩ ?_
  refine wmr (mto (n:=9) (l':=[(4,(B ((decide (x3≥0)))))]) (own':=[Qub]) [(4,(B ((decide (x3≥0)))))] [0] [Qub] hφ0 (pw pn) (qb (lc (.rn (Qbd rn0 rn0)) ln) qn))<|Qad ?_
  obtain rfl:=osi h
  exact ⟨_,Mor.rfl,Qct (vs:=[(B ((decide (x3≥0))))]) ⟨rot,tv⟩ rfl (NLt.of0 nll) (by kernel_rfl) (Qan (Qa7 (nlc (NLt.of0 (NLt.fn _ _ _ nl0 nl0)) nl0)) Qbi)⟩
def Qdg (N:Nat) (p0:(List GElement)):Option Bool:=
  (Qba N p0).bind fun x2=>
  some (!x2)
def Zd4 (p0:(List GElement)):AV:=.dat 7 ((p0:List GElement).map Qab)
def Zd3:AV:=.fn (.func 124) [] [(.ref 0 1 (0) 0)]
def Q74:Slot:=.own 1 [[(.fn (.func 102) [] [])]]
theorem Qi3 (N:Nat) (p0:(List GElement)) (r:Bool) (h:Qdg N p0=some r):Spec Tryz.prog 101 [(Zd4 p0),(.fn (.func 102) [] [])] [] (B (r)) []:=by
  refine Qah Tryz.func101 rfl 0 (nle rfl) (fun X φ0 w0 hφ0 hd0=>?_)
  unfold Qdg at h
  refine wxz ?_
  obtain ⟨x2,hf1,h⟩:=bno h
  refine wx tbk [(1,rp [(.tmp 3,.ref 0 1 0 0)] Zd3),(2,⟨[fu 123,(.tmp 5,(Zd4 p0)),(.tmp 6,Zd3)],[(0,Q74)],B x2,[(0,Q74)],false⟩)] ⟨Qe5 (fs:=[]) (cs:=[.ref 0 1 0 0]) rfl rfl rfl rfl,Qat (first:=[]) (cap:=[]) (vs:=[(Zd4 p0),Zd3]) (σr:=[Q74]) (σr':=[Q74]) (res':=(B x2)) [0] rfl Q9r (Qew N p0 _ hf1) rfl (Qbn (rnc (pld Qaa) (rnc (Qbd rn0 (rnc (Qbb rfl) rn0)) rn0))) (slc (Qao (rnc (.plain _ (NLt.fn _ _ _ nl0 nl0)) rn0)) Qas) (slc (Qao (rnc (.plain _ (NLt.fn _ _ _ nl0 nl0)) rn0)) Qas) (.plain _ nll) rfl rfl rfl,tv⟩<|Qad ?_
  obtain rfl:=osi h
  exact fend ⟨[(B ((!x2)))],⟨rot,tv⟩,rfl⟩ nll
def Qdh (_N:Nat) (p0:GElement):Option Int:=
  bif (p0.Kind==4) then
   some 2
  else
   bif (p0.Kind==5) then
    (some (p0.Weights.length:Int)).bind fun x3=>
    some x3
   else
    some 1
def Zhz (p0:GElement):AV:=.dat 1 ((p0.Weights:List Int).map Qaj)
theorem Qgz (N:Nat) (p0:GElement) (r:Int) (h:Qdh N p0=some r):Spec Tryz.prog 103 [(.agg (Qab p0))] [] (I r) []:=by
  refine Qah Tryz.func103 rfl 0 (nle rfl) (fun X φ0 w0 hφ0 hd0=>?_)
  unfold Qdh at h
  refine wxz<|wsq<|wxz<|Qal<|wxz ?_
  refine bfe h (fun hc1 h=>?_) fun hc1 h=>?_
  ·refine wft hc1<|wxz<|Qad<|Qak<|Qac ?_
   obtain rfl:=osi h
   exact fend ⟨[I 2],⟨rot,tv⟩,rfl⟩ nll
  ·refine wfn hc1<|wxz ?_
   refine bfe h (fun hc2 h=>?_) fun hc2 h=>?_
   ·refine wft hc2 ?_
    obtain ⟨x3,hl4,h⟩:=bno h
    refine wx tbk [(2,rp [(.tmp 10,(Zhz p0))] (I ((p0.Weights.length:Int)))),(3,rp [(.tmp 11,(I ((p0.Weights.length:Int))))] (I x3))] ⟨alm (c:=Qaj) (l:=p0.Weights) (aln rfl Tryz.underlying27 rfl),Qjb hl4 (aas rfl),tv⟩<|Qad<|Qak<|Qac ?_
    obtain rfl:=osi h
    exact fend ⟨[I x3],⟨rot,tv⟩,rfl⟩ nll
   ·refine wfn hc2<|Qam<|bln<|thn<|wxz<|Qad ?_
    obtain rfl:=osi h
    exact fend ⟨[I 1],⟨rot,tv⟩,rfl⟩ nll
def Qcy (N:Nat) (p0:GNet) (y3:Int) (k10:(List (Int×Int))→Option Bool) (x11:GElement):Nat→Int→(List (Int×Int))→Option Bool
  | 0,_,_=>none
  | n22+1,y18,y19=>
    bif (decide (y18<(x11.From.length:Int))) then
     (getI x11.From y18).bind fun x24=>
     (Qca N x24.Element 0 (w64 (y3 - 1))).bind fun x29=>
     bif (!x29) then
      some false
     else
      (getI p0.Elements x24.Element).bind fun x31=>
      (Qdh N x31).bind fun x36=>
      (Qca N x24.Outlet 0 (w64 (x36 - 1))).bind fun x38=>
      bif (!x38) then
       some false
      else
       bif y19.contains (x24.Element,x24.Outlet) then
        some false
       else
        bif (decide (x11.Level>x31.Level)) then
         some false
        else
         Qcy N p0 y3 k10 x11 n22 (w64 (y18+1)) (addQ y19 (x24.Element,x24.Outlet))
    else
     k10 (y19)
def Qcg (N:Nat) (p0:GNet) (k2:Unit→Option Bool):Nat→Int→(List (Int×Int))→Option Bool
  | 0,_,_=>none
  | n7+1,y3,y4=>
    bif (decide (y3<(p0.Elements.length:Int))) then
     Qby (fun y9=>
       Qcg N p0 k2 n7 (w64 (y3+1)) y9) fun k10:(List (Int×Int))→Option Bool=>
     (getI p0.Elements y3).bind fun x11=>
     (Qca N x11.Level 0 (w64 ((p0.Table.length:Int) - 1))).bind fun x16=>
     bif (!x16) then
      some false
     else
      Qcy N p0 y3 k10 x11 N 0 y4
    else
     k2 ()
def Qd7 (N:Nat) (p0:GNet):Option Bool:=
  Qby (fun _=>
    Qby (fun _=>
      some true) fun k2:Unit→Option Bool=>
    Qcg N p0 k2 N 0 ([]:List (Int×Int))) fun k1:Unit→Option Bool=>
  (Qgc N p0.Table).bind fun x43=>
  bif (x43 != 0) then
   some false
  else
   (Qca N (p0.Elements.length:Int) 1 16).bind fun x46=>
   bif (!x46) then
    some false
   else
    (Qdg N p0.Elements).bind fun x49=>
    bif (!x49) then
     some false
    else
     k1 ()
def z9_0 (p0:GNet):AV:=.dat 5 ((p0.Table:List GRow).map Qau)
def z9_1 (p0:GNet):AV:=.dat 7 ((p0.Elements:List GElement).map Qab)
def z9_2 (p0:GNet):Slot:=.own 2 [[(z9_0 p0),(z9_1 p0)]]
def Qpf (x11:GElement):AV:=.dat 2 ((x11.From:List GPort).map Qar)
def Qxw (x11:GElement):Slot:=.own 7 [[(K .u8 (x11.Kind)),(Qpf x11),(I (x11.Level)),(I (x11.Amount)),(I (x11.Wide)),(I (x11.Narrow)),(.dat 1 ((x11.Weights:List Int).map Qaj))]]
def Q12 (x24:GPort) (y3:Int) (x29:Bool):List (Nat×Rec):=[(4,rp [fu 65,((.tmp 50),(I (x24.Element))),ci 0,((.tmp 52),(I (w64 (y3 - 1))))] (B (x29)))]
def Zfs (x31:GElement):AV:=.agg [(K .u8 (x31.Kind)),(.dat 2 ((x31.From:List GPort).map Qar)),(I (x31.Level)),(I (x31.Amount)),(I (x31.Wide)),(I (x31.Narrow)),(.dat 1 ((x31.Weights:List Int).map Qaj))]
def Q11 (x24) (y3) (x29) (p0:GNet) (x31:GElement) (x36:Int) (x38:Bool):=hcat (Q12 x24 y3 x29) [(6,rp [((.tmp 54),(B ((!x29))))] (B (false))),(13,rp [((.tmp 55),(B (false))),((.tmp 59),(z9_1 p0)),((.tmp 61),(I (x24.Element)))] (.dptr (Qab (x31)) 0)),(15,rp [((.tmp 55),(B (false))),fu 103,((.tmp 63),(Zfs x31))] (I (x36))),(17,rp [((.tmp 55),(B (false))),fu 65,((.tmp 57),(I (x24.Outlet))),ci 0,((.tmp 65),(I (w64 (x36 - 1))))] (B (x38)))]
def Q10 (x24) (y3) (x29) (p0) (x31) (x36) (x38) (y19:(List (Int×Int))):=hcat (Q11 x24 y3 x29 p0 x31 x36 x38) [(20,rp [((.tmp 68),(B ((!x38))))] (B (false))),(23,rb [((.tmp 69),(B (false))),((.tmp 70),(.mp 1)),((.tmp 71),(.agg [(I (x24.Element)),(I (x24.Outlet))]))] [(1,(Qc0 y19))] (B (y19.contains (x24.Element,x24.Outlet))))]
def Q1z (p0:GNet) (x43:Int):List (Nat×Rec):=[(2,rp [fu 100,((.tmp 9),(z9_0 p0))] (I (x43)))]
def Q1y (p0) (x43) (x46:Bool):=hcat (Q1z p0 x43) [(4,rp [((.tmp 11),(B ((x43 != 0))))] (B (false))),(7,rp [((.tmp 12),(B (false))),((.tmp 14),(z9_1 p0))] (I ((p0.Elements.length:Int)))),(8,rp [((.tmp 12),(B (false))),fu 65,((.tmp 15),(I ((p0.Elements.length:Int)))),ci 1,ci 16] (B (x46)))]
theorem Qf4 (N:Nat) (p0:GNet) (r:Bool) (h:Qd7 N p0=some r):Spec Tryz.prog 66 [(.agg (Qgn p0))] [] (B r) []:=by
  refine Qah Tryz.func66 rfl 0 (nle rfl) (fun X φ0 w0 hφ0 hd0=>?_)
  unfold Qd7 at h
  refine wxz ?_
  obtain ⟨k1,hk_k1,h⟩:=jko h
  refine wjn (τ:=Unit) (fun t=>k1 t=some r) (fun _=>⟨mk 90 [(1,.ref 0 2 0 0)],[(z9_2 p0)]⟩) (fun t h=>?_) ?_
  ·subst hk_k1
   refine wx tbk [(0,⟨[],[(1,.unused)],(.mp 1),[(1,(Qc0 ([]:List (Int×Int))))],false⟩)] ⟨Qoq rfl,tv⟩ ?_
   obtain ⟨k2,hk_k2,h⟩:=jko h
   refine wjn (τ:=Unit) (fun t=>k2 t=some r) (fun _=>⟨mk 90 [],[]⟩) (fun t h=>?_) ?_
   ·subst hk_k2
    exact wxz<|Qad<|frb h
   ·skip
    refine wx tbk [(2,rp [(.tmp 27,(z9_1 p0))] (I ((p0.Elements.length:Int))))] ⟨alm (c:=Qab) (l:=p0.Elements) (aln rfl Tryz.underlying40 rfl),tv⟩<|Qal ?_
    refine wmr (mto (n:=90) (l':=[(1,.ref 0 2 0 0),(3,(.mp 1)),(27,(z9_1 p0)),(28,(I ((p0.Elements.length:Int)))),(29,I 0)]) (own':=[(z9_2 p0),(Qc0 ([]:List (Int×Int)))]) [(1,.ref 0 2 0 0),(3,(.mp 1)),(27,(z9_1 p0)),(28,(I ((p0.Elements.length:Int)))),(29,I 0)] [0,1] [(z9_2 p0),(Qc0 ([]:List (Int×Int)))] hφ0 (prr (pc (.rn (Qhc rfl)) (pc (rnd Qaa) (pw (pw pn))))) (qb (lc (rnd Qae) (lc (rnd Qaa) ln)) (qc Qek qn))) ?_
    refine Qbu (τ:=Int×(List (Int×Int))) (fun n t=>Qcg N p0 k2 n t.1 t.2=some r) (fun ⟨y3,y4⟩=>⟨mk 90 [(1,.ref 0 2 0 0),(3,(.mp 1)),(27,(z9_1 p0)),(28,(I ((p0.Elements.length:Int)))),(29,I y3)],[(z9_2 p0),(Qc0 y4)]⟩) (fun t h=>by rw [Qcg] at h; cases h) (fun n7 ih t h=>?_) N (0,([]:List (Int×Int))) h
    obtain ⟨y3,y4⟩:=t
    rw [Qcg] at h
    skip
    refine wxz<|wsq ?_
    refine bfe h (fun hc8 h=>?_) fun hc8 h=>?_
    ·refine wft hc8<|Qam<|thn ?_
     obtain ⟨k10,hk_k10,h⟩:=jko h
     refine wjn (τ:=(List (Int×Int))) (fun t=>k10 t=some r) (fun y9=>⟨mk 90 [(1,.ref 0 2 0 0),(3,(.mp 1)),(27,(z9_1 p0)),(28,(I ((p0.Elements.length:Int)))),(29,I y3)],[(z9_2 p0),(Qc0 y9)]⟩) (fun y9 h=>?_) ?_
     ·subst hk_k10
      exact wxz1<|thn<|arm (mto (n:=90) [(1,.ref 0 2 0 0),(3,(.mp 1)),(27,(z9_1 p0)),(28,(I ((p0.Elements.length:Int)))),(29,(I (w64 (y3+1))))] [0,1] [(z9_2 p0),(Qc0 y9)] hφ0 (prr (pc (.rn (Qhc rfl)) (pc (rnd Qaa) (pw (pw pn))))) (qb (lc (rnd Qae) (lc (rnd Qaa) ln)) (qc Qek qn))) (ih (w64 (y3+1),y9) h)
     ·skip
      refine Qal ?_
      obtain ⟨x11,hg12,h⟩:=bno h
      obtain ⟨hi13,hj14⟩:=gsm hg12
      refine wx tbk [(1,rp [(.tmp 27,(z9_1 p0)),(.tmp 29,I y3)] (.dptr (Qab (x11)) 0))] ⟨aid rfl Tryz.underlying40 Qg2 rfl rfl hi13 (mgt Qab hj14) rfl,tv⟩<|wsq ?_
      obtain ⟨x16,hf15,h⟩:=bno h
      refine wx tbk [(4,rp [(.tmp 37,(z9_0 p0))] (I ((p0.Table.length:Int)))),(6,rp [fu 65,(.tmp 35,I x11.Level),ci 0,(.tmp 39,(I (w64 ((p0.Table.length:Int) - 1))))] (B x16))] ⟨alm (c:=Qau) (l:=p0.Table) (aln rfl Tryz.underlying39 rfl),apv Qjr (Qda N x11.Level 0 (w64 ((p0.Table.length:Int) - 1)) _ hf15) (nlcc (nlc nll nl0)) nll,tv⟩ ?_
      refine bfe h (fun hc17 h=>?_) fun hc17 h=>?_
      ·exact wft hc17<|wxz<|Qad<|Qac<|Qak<|Qac<|Qac<|Qak<|Qac<|frb h
      ·refine wfn hc17<|Qam<|thn ?_
       refine wx tbk [(2,rp [(.tmp 43,(Qpf x11))] (I ((x11.From.length:Int))))] ⟨alm (c:=Qar) (l:=x11.From) (aln rfl Tryz.underlying116 rfl),tv⟩<|Qal ?_
       refine wmr (mto (n:=90) (l':=[(1,.ref 0 2 0 0),(3,(.mp 1)),(4,I y3),(5,.ref 2 7 0 0),(27,(z9_1 p0)),(28,(I ((p0.Elements.length:Int)))),(29,I y3),(43,(Qpf x11)),(44,(I ((x11.From.length:Int)))),(45,I 0)]) (own':=[(z9_2 p0),(Qc0 y4),(Qxw x11)]) [(1,.ref 0 2 0 0),(3,(.mp 1)),(4,I y3),(5,.ref 2 7 0 0),(27,(z9_1 p0)),(28,(I ((p0.Elements.length:Int)))),(29,I y3),(43,(Qpf x11)),(44,(I ((x11.From.length:Int)))),(45,I 0)] [0,1,2] [(z9_2 p0),(Qc0 y4),(Qxw x11)] hφ0 (prr (pc (.rn (Qhc rfl)) (pw (prr (pc (rnd Qaa) (pw (pw (pc (rnd Qaz) (pw (pw pn)))))))))) (qb (lc (rnd Qae) (lc (rnd Qaa) ln)) (qc Qek (qb (lc rwl (lc (rnd Qaz) (lcc (lcc (lc (rnd Qaf) ln))))) qn)))) ?_
       refine Qbu (τ:=Int×(List (Int×Int))) (fun n t=>Qcy N p0 y3 k10 x11 n t.1 t.2=some r) (fun ⟨y18,y19⟩=>⟨mk 90 [(1,.ref 0 2 0 0),(3,(.mp 1)),(4,I y3),(5,.ref 2 7 0 0),(27,(z9_1 p0)),(28,(I ((p0.Elements.length:Int)))),(29,I y3),(43,(Qpf x11)),(44,(I ((x11.From.length:Int)))),(45,I y18)],[(z9_2 p0),(Qc0 y19),(Qxw x11)]⟩) (fun t h=>by rw [Qcy] at h; cases h) (fun n22 ih t h=>?_) N (0,y4) h
       obtain ⟨y18,y19⟩:=t
       rw [Qcy] at h
       skip
       refine wxz<|wsq ?_
       refine bfe h (fun hc23 h=>?_) fun hc23 h=>?_
       ·refine wft hc23<|Qam<|thn<|wsq<|Qal ?_
        obtain ⟨x24,hg25,h⟩:=bno h
        obtain ⟨hi26,hj27⟩:=gsm hg25
        refine wx tbk [(0,rp [(.tmp 43,(Qpf x11)),(.tmp 45,I y18)] (.dptr (Qar (x24)) 0))] ⟨aid rfl Tryz.underlying116 Qkv rfl rfl hi26 (mgt Qar hj27) rfl,tv⟩<|wsq ?_
        obtain ⟨x29,hf28,h⟩:=bno h
        refine hpre (A:=(Q12 x24 y3 x29)) ⟨apv Qjr (Qda N x24.Element 0 (w64 (y3 - 1)) _ hf28) (nlcc (nlc nll nl0)) nll,tv⟩ fun q1_=>?_
        refine bfe h (fun hb30 h=>?_) fun hb30 h=>?_
        ·refine wxd tbk (hcat (Q12 x24 y3 x29) [(6,rp [(.tmp 54,(B ((!x29))))] (B true))]) (hap q1_ ⟨asb hb30 (amv rfl),tv⟩)<|wtr<|wxz<|Qad<|Qac<|Qak<|Qac<|Qac<|Qak<|Qak ?_
         exact Qac<|Qac<|Qak<|Qac<|frb h
        ·obtain ⟨x31,hg32,h⟩:=bno h
         obtain ⟨hi33,hj34⟩:=gsm hg32
         obtain ⟨x36,hf35,h⟩:=bno h
         obtain ⟨x38,hf37,h⟩:=bno h
         refine hpre (A:=(Q11 x24 y3 x29 p0 x31 x36 x38)) (hap q1_ ⟨asb hb30 (amv rfl),ag_ (aid rfl Tryz.underlying40 Qg2 rfl rfl hi33 (mgt Qab hj34) rfl),ag_ (apv Qzz (Qgz N x31 _ hf35) (nlc (NLt.agg _ (nlc nll (nlc (nld Qaz _) (nlcc (nlcc (nlc (nld Qaf _) nl0)))))) nl0) nll),ag_ (apv Qjr (Qda N x24.Outlet 0 (w64 (x36 - 1)) _ hf37) (nlcc (nlc nll nl0)) nll),tv⟩) fun q2_=>?_
         refine bfe h (fun hb39 h=>?_) fun hb39 h=>?_
         ·refine wxd tbk (hcat (Q11 x24 y3 x29 p0 x31 x36 x38) [(20,rp [(.tmp 68,(B ((!x38))))] (B true))]) (hap q2_ ⟨asb hb39 (amv rfl),tv⟩)<|wtr<|wxz<|Qad<|Qac<|Qak<|Qac<|Qac<|Qak<|Qak ?_
          exact Qac<|Qac<|Qak<|Qac<|frb h
         ·refine hpre (A:=(Q10 x24 y3 x29 p0 x31 x36 x38 y19)) (hap q2_ ⟨asb hb39 (amv rfl),ag_ (Qkk rfl Tryz.underlying190 Tryz.underlying120 zb4 Qr3 Qqk),tv⟩) fun q3_=>?_
          refine bfe h (fun hb40 h=>?_) fun hb40 h=>?_
          ·refine wxd tbk (hcat (Q10 x24 y3 x29 p0 x31 x36 x38 y19) [(25,rp [(.tmp 73,(B (y19.contains (x24.Element,x24.Outlet))))] (B true))]) (hap q3_ ⟨asb hb40 (amv rfl),tv⟩)<|wtr<|wxz<|Qad<|Qac<|Qak<|Qac<|Qac<|Qak<|Qak ?_
           exact Qac<|Qac<|Qak<|Qac<|frb h
          ·refine wxd tbk (hcat (Q10 x24 y3 x29 p0 x31 x36 x38 y19) [(25,rp [(.tmp 73,(B (y19.contains (x24.Element,x24.Outlet))))] (B false)),(32,rp [(.tmp 74,B false),(.tmp 78,(z9_1 p0)),(.tmp 80,I x24.Element)] (.dptr (Qab (x31)) 0))]) (hap q3_ ⟨asb hb40 (amv rfl),ag_ (aid rfl Tryz.underlying40 Qg2 rfl rfl hi33 (mgt Qab hj34) rfl),tv⟩) ?_
           refine bfe h (fun hc41 h=>?_) fun hc41 h=>?_
           ·refine wft hc41<|wxz<|Qad<|Qac<|Qak<|Qac<|Qac<|Qak<|Qak<|Qac ?_
            exact Qac<|Qak<|Qac<|frb h
           ·refine wfn hc41<|Qam<|thn ?_
            exact wx1 tbk [(2,⟨[(.tmp 86,(.mp 1)),(.tmp 87,(.agg [I x24.Element,I x24.Outlet])),cb true],[(1,(Qc0 y19))],.any,[(1,(Qc0 (addQ y19 (x24.Element,x24.Outlet))))],false⟩)] ⟨Qqy rfl Tryz.underlying190 Tryz.underlying120 Qr3 Qqk,tv⟩<|bln<|thn<|wxz1<|thn<|arm (mto (n:=90) [(1,.ref 0 2 0 0),(3,(.mp 1)),(4,I y3),(5,.ref 2 7 0 0),(27,(z9_1 p0)),(28,(I ((p0.Elements.length:Int)))),(29,I y3),(43,(Qpf x11)),(44,(I ((x11.From.length:Int)))),(45,(I (w64 (y18+1))))] [0,1,2] [(z9_2 p0),(Qc0 (addQ y19 (x24.Element,x24.Outlet))),(Qxw x11)] hφ0 (prr (pc (.rn (Qhc rfl)) (pw (prr (pc (rnd Qaa) (pw (pw (pc (rnd Qaz) (pw (pw pn)))))))))) (qb (lc (rnd Qae) (lc (rnd Qaa) ln)) (qc Qek (qb (lc rwl (lc (rnd Qaz) (lcc (lcc (lc (rnd Qaf) ln))))) qn)))) (ih (w64 (y18+1),addQ y19 (x24.Element,x24.Outlet)) h)
       ·exact wfn hc23<|Qbf<|Qav<|Qav<|Qbe rfl<|bln<|thn<|⟨(y19),h,(mto (n:=90) [(1,.ref 0 2 0 0),(3,(.mp 1)),(27,(z9_1 p0)),(28,(I ((p0.Elements.length:Int)))),(29,I y3)] [0,1] [(z9_2 p0),(Qc0 y19)] hφ0 (prr (pc (.rn (Qhc rfl)) (pc (rnd Qaa) (pw (pw pn))))) (qb (lc (rnd Qae) (lc (rnd Qaa) ln)) (qc Qek qn)))⟩
    ·exact wfn hc8<|Qbf<|Qav<|Qav<|Qbe rfl<|thn<|⟨(),h,(mto (n:=90) [] [] [] hφ0 pn qn)⟩
  ·skip
   obtain ⟨x43,hf42,h⟩:=bno h
   refine hpre (A:=(Q1z p0 x43)) ⟨apv Q99 (Qlp N p0.Table _ hf42) (nlc (nld Qae _) nl0) nll,tv⟩ fun q4_=>?_
   refine bfe h (fun hb44 h=>?_) fun hb44 h=>?_
   ·exact wx tbk (hcat (Q1z p0 x43) [(4,rp [(.tmp 11,(B ((x43 != 0))))] (B true))]) (hap q4_ ⟨asb hb44 (amv rfl),tv⟩)<|wtr<|wxz<|Qad<|Qac<|frb h
   ·obtain ⟨x46,hf45,h⟩:=bno h
    refine hpre (A:=(Q1y p0 x43 x46)) (hap q4_ ⟨asb hb44 (amv rfl),ag_ (alm (c:=Qab) (l:=p0.Elements) (aln rfl Tryz.underlying40 rfl)),ag_ (apv Qjr (Qda N (p0.Elements.length:Int) 1 16 _ hf45) (nlcc (nlc nll nl0)) nll),tv⟩) fun q5_=>?_
    refine bfe h (fun hb47 h=>?_) fun hb47 h=>?_
    ·exact wx tbk (hcat (Q1y p0 x43 x46) [(11,rp [(.tmp 18,(B ((!x46))))] (B true))]) (hap q5_ ⟨asb hb47 (amv rfl),tv⟩)<|wtr<|wxz<|Qad<|Qac<|frb h
    ·obtain ⟨x49,hf48,h⟩:=bno h
     refine wx tbk (hcat (Q1y p0 x43 x46) [(11,rp [(.tmp 18,(B ((!x46))))] (B false)),(14,rp [(.tmp 19,B false),fu 101,(.tmp 21,(z9_1 p0)),fu 102] (B x49))]) (hap q5_ ⟨asb hb47 (amv rfl),ag_ (Qat (first:=[]) (cap:=[]) (vs:=[(z9_1 p0),(.fn (.func 102) [] [])]) (σr:=[]) (σr':=[]) (res':=(B x49)) [] rfl Q98 (Qi3 N p0.Elements _ hf48) rfl (Qbn (rnc (pld Qaa) (rnc (.plain _ (NLt.fn _ _ _ nl0 nl0)) rn0))) Qas Qas (.plain _ nll) rfl rfl rfl),tv⟩) ?_
     refine bfe h (fun hc50 h=>?_) fun hc50 h=>?_
     ·exact wft hc50<|wxz<|Qad<|Qac<|frb h
     ·exact wfn hc50<|Qam<|thn<|⟨(),h,(mto (n:=90) [(1,.ref 0 2 0 0)] [0] [(z9_2 p0)] hφ0 (prr pn) (qb (lc (rnd Qae) (lc (rnd Qaa) ln)) qn))⟩
end Go.Proofs.YtmbhnllcfmiajaaGreat
