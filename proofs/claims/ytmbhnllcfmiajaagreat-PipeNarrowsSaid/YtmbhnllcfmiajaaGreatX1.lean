/-
  Functions of the program: what they compute, as plain functions, and that they do. No conditions.
-/
import Derived.Test.YtmbhnllcfmiajaaGreatXt
namespace Go.Proofs.YtmbhnllcfmiajaaGreat
set_option maxRecDepth 100000
set_option maxHeartbeats 4000000
open Go.RowKit
def Qc2 (_N:Nat) (p0:Int) (p1:Int) (p2:Int):Option Bool:=
  bif (decide (p1≤p0)) then
   some (decide (p0≤p2))
  else
   some false
theorem Qav (N:Nat) (p0:Int) (p1:Int) (p2:Int) (r:Bool) (h:Qc2 N p0 p1 p2=some r):Spec Tryz.prog 137 [(I p0),(I p1),(I p2)] [] (B r) []:=by
  refine Qah Tryz.func137 rfl 0 (nle rfl) (fun X φ0 w0 hφ0 hd0=>?_)
  unfold Qc2 at h
  refine wxz ?_
  refine bfe h (fun hb1 h=>?_) fun hb1 h=>?_
  ·refine wx tbk [(3,rp [(.tmp 9,(B ((decide (p1≤p0)))))] (B true))] ⟨asb hb1 (amv rfl),trivial⟩<|Qaf ?_
   obtain rfl:=osi h
   exact fend ⟨[(B ((decide (p0≤p2))))],⟨rot,trivial⟩,rfl⟩ nll
  ·refine wx tbk [(3,rp [(.tmp 9,(B ((decide (p1≤p0)))))] (B false))] ⟨asb hb1 (amv rfl),trivial⟩<|Qaf ?_
   obtain rfl:=osi h
   exact fend ⟨[B false],⟨rot,trivial⟩,rfl⟩ nll
def Qgj (N:Nat) (p0:GRow):Option Bool:=
  (Qc2 N p0.T 0 400).bind fun x2=>
  bif x2 then
   (Qc2 N p0.P 1 10000).bind fun x5=>
   bif x5 then
    (Qc2 N p0.Liquid 0 4000).bind fun x8=>
    bif x8 then
     (Qc2 N p0.Silica 0 2000).bind fun x11=>
     bif x11 then
      bif (decide (p0.Liquid<p0.Vapour)) then
       some (decide (p0.Vapour≤4000))
      else
       some false
     else
      some false
    else
     some false
   else
    some false
  else
   some false
theorem Qnn (N:Nat) (p0:GRow) (r:Bool) (h:Qgj N p0=some r):Spec Tryz.prog 139 [(.agg (Qaw p0))] [] (B r) []:=by
  refine Qah Tryz.func139 rfl 0 (nle rfl) (fun X φ0 w0 hφ0 hd0=>?_)
  unfold Qgj at h
  refine wxz ?_
  obtain ⟨x2,hf1,h⟩:=bno h
  refine bfe h (fun hb3 h=>?_) fun hb3 h=>?_
  ·obtain ⟨x5,hf4,h⟩:=bno h
   refine bfe h (fun hb6 h=>?_) fun hb6 h=>?_
   ·obtain ⟨x8,hf7,h⟩:=bno h
    refine bfe h (fun hb9 h=>?_) fun hb9 h=>?_
    ·obtain ⟨x11,hf10,h⟩:=bno h
     refine bfe h (fun hb12 h=>?_) fun hb12 h=>?_
     ·refine bfe h (fun hb13 h=>?_) fun hb13 h=>?_
      ·refine wx tbk [(2,rp [fu 137,(.tmp 4,I p0.T),ci 0,ci 400] (B x2)),(3,rp [(.tmp 5,B x2)] (B true)),(6,rp [(.tmp 6,B true),fu 137,(.tmp 8,I p0.P),ci 1,ci 10000] (B x5)),(8,rp [(.tmp 10,B x5)] (B true)),(11,rp [(.tmp 11,B true),fu 137,(.tmp 13,I p0.Liquid),ci 0,ci 4000] (B x8)),(13,rp [(.tmp 15,B x8)] (B true)),(16,rp [(.tmp 16,B true),fu 137,(.tmp 18,I p0.Silica),ci 0,ci 2000] (B x11)),(18,rp [(.tmp 20,B x11)] (B true)),(25,rp [(.tmp 27,(B ((decide (p0.Liquid<p0.Vapour)))))] (B true))] ⟨apc (first:=[]) (cap:=[]) (vs:=[I p0.T,I 0,I 400]) rfl Qcw (Qav N p0.T 0 400 _ hf1) rfl rfl (nlcc (nlc nll nl0)) nll rfl,asb hb3 (amv rfl),ag_ (apc (first:=[]) (cap:=[]) (vs:=[I p0.P,I 1,I 10000]) rfl Qcw (Qav N p0.P 1 10000 _ hf4) rfl rfl (nlcc (nlc nll nl0)) nll rfl),asb hb6 (amv rfl),ag_ (apc (first:=[]) (cap:=[]) (vs:=[I p0.Liquid,I 0,I 4000]) rfl Qcw (Qav N p0.Liquid 0 4000 _ hf7) rfl rfl (nlcc (nlc nll nl0)) nll rfl),asb hb9 (amv rfl),ag_ (apc (first:=[]) (cap:=[]) (vs:=[I p0.Silica,I 0,I 2000]) rfl Qcw (Qav N p0.Silica 0 2000 _ hf10) rfl rfl (nlcc (nlc nll nl0)) nll rfl),asb hb12 (amv rfl),asb hb13 (amv rfl),trivial⟩<|Qaf ?_
       obtain rfl:=osi h
       exact fend ⟨[(B ((decide (p0.Vapour≤4000))))],⟨rot,trivial⟩,rfl⟩ nll
      ·refine wx tbk [(2,rp [fu 137,(.tmp 4,I p0.T),ci 0,ci 400] (B x2)),(3,rp [(.tmp 5,B x2)] (B true)),(6,rp [(.tmp 6,B true),fu 137,(.tmp 8,I p0.P),ci 1,ci 10000] (B x5)),(8,rp [(.tmp 10,B x5)] (B true)),(11,rp [(.tmp 11,B true),fu 137,(.tmp 13,I p0.Liquid),ci 0,ci 4000] (B x8)),(13,rp [(.tmp 15,B x8)] (B true)),(16,rp [(.tmp 16,B true),fu 137,(.tmp 18,I p0.Silica),ci 0,ci 2000] (B x11)),(18,rp [(.tmp 20,B x11)] (B true)),(25,rp [(.tmp 27,(B ((decide (p0.Liquid<p0.Vapour)))))] (B false))] ⟨apc (first:=[]) (cap:=[]) (vs:=[I p0.T,I 0,I 400]) rfl Qcw (Qav N p0.T 0 400 _ hf1) rfl rfl (nlcc (nlc nll nl0)) nll rfl,asb hb3 (amv rfl),ag_ (apc (first:=[]) (cap:=[]) (vs:=[I p0.P,I 1,I 10000]) rfl Qcw (Qav N p0.P 1 10000 _ hf4) rfl rfl (nlcc (nlc nll nl0)) nll rfl),asb hb6 (amv rfl),ag_ (apc (first:=[]) (cap:=[]) (vs:=[I p0.Liquid,I 0,I 4000]) rfl Qcw (Qav N p0.Liquid 0 4000 _ hf7) rfl rfl (nlcc (nlc nll nl0)) nll rfl),asb hb9 (amv rfl),ag_ (apc (first:=[]) (cap:=[]) (vs:=[I p0.Silica,I 0,I 2000]) rfl Qcw (Qav N p0.Silica 0 2000 _ hf10) rfl rfl (nlcc (nlc nll nl0)) nll rfl),asb hb12 (amv rfl),asb hb13 (amv rfl),trivial⟩<|Qaf ?_
       obtain rfl:=osi h
       exact fend ⟨[B false],⟨rot,trivial⟩,rfl⟩ nll
     ·refine wx tbk [(2,rp [fu 137,(.tmp 4,I p0.T),ci 0,ci 400] (B x2)),(3,rp [(.tmp 5,B x2)] (B true)),(6,rp [(.tmp 6,B true),fu 137,(.tmp 8,I p0.P),ci 1,ci 10000] (B x5)),(8,rp [(.tmp 10,B x5)] (B true)),(11,rp [(.tmp 11,B true),fu 137,(.tmp 13,I p0.Liquid),ci 0,ci 4000] (B x8)),(13,rp [(.tmp 15,B x8)] (B true)),(16,rp [(.tmp 16,B true),fu 137,(.tmp 18,I p0.Silica),ci 0,ci 2000] (B x11)),(18,rp [(.tmp 20,B x11)] (B false))] ⟨apc (first:=[]) (cap:=[]) (vs:=[I p0.T,I 0,I 400]) rfl Qcw (Qav N p0.T 0 400 _ hf1) rfl rfl (nlcc (nlc nll nl0)) nll rfl,asb hb3 (amv rfl),ag_ (apc (first:=[]) (cap:=[]) (vs:=[I p0.P,I 1,I 10000]) rfl Qcw (Qav N p0.P 1 10000 _ hf4) rfl rfl (nlcc (nlc nll nl0)) nll rfl),asb hb6 (amv rfl),ag_ (apc (first:=[]) (cap:=[]) (vs:=[I p0.Liquid,I 0,I 4000]) rfl Qcw (Qav N p0.Liquid 0 4000 _ hf7) rfl rfl (nlcc (nlc nll nl0)) nll rfl),asb hb9 (amv rfl),ag_ (apc (first:=[]) (cap:=[]) (vs:=[I p0.Silica,I 0,I 2000]) rfl Qcw (Qav N p0.Silica 0 2000 _ hf10) rfl rfl (nlcc (nlc nll nl0)) nll rfl),asb hb12 (amv rfl),trivial⟩<|Qaf ?_
      obtain rfl:=osi h
      exact fend ⟨[B false],⟨rot,trivial⟩,rfl⟩ nll
    ·refine wx tbk [(2,rp [fu 137,(.tmp 4,I p0.T),ci 0,ci 400] (B x2)),(3,rp [(.tmp 5,B x2)] (B true)),(6,rp [(.tmp 6,B true),fu 137,(.tmp 8,I p0.P),ci 1,ci 10000] (B x5)),(8,rp [(.tmp 10,B x5)] (B true)),(11,rp [(.tmp 11,B true),fu 137,(.tmp 13,I p0.Liquid),ci 0,ci 4000] (B x8)),(13,rp [(.tmp 15,B x8)] (B false))] ⟨apc (first:=[]) (cap:=[]) (vs:=[I p0.T,I 0,I 400]) rfl Qcw (Qav N p0.T 0 400 _ hf1) rfl rfl (nlcc (nlc nll nl0)) nll rfl,asb hb3 (amv rfl),ag_ (apc (first:=[]) (cap:=[]) (vs:=[I p0.P,I 1,I 10000]) rfl Qcw (Qav N p0.P 1 10000 _ hf4) rfl rfl (nlcc (nlc nll nl0)) nll rfl),asb hb6 (amv rfl),ag_ (apc (first:=[]) (cap:=[]) (vs:=[I p0.Liquid,I 0,I 4000]) rfl Qcw (Qav N p0.Liquid 0 4000 _ hf7) rfl rfl (nlcc (nlc nll nl0)) nll rfl),asb hb9 (amv rfl),trivial⟩<|Qaf ?_
     obtain rfl:=osi h
     exact fend ⟨[B false],⟨rot,trivial⟩,rfl⟩ nll
   ·refine wx tbk [(2,rp [fu 137,(.tmp 4,I p0.T),ci 0,ci 400] (B x2)),(3,rp [(.tmp 5,B x2)] (B true)),(6,rp [(.tmp 6,B true),fu 137,(.tmp 8,I p0.P),ci 1,ci 10000] (B x5)),(8,rp [(.tmp 10,B x5)] (B false))] ⟨apc (first:=[]) (cap:=[]) (vs:=[I p0.T,I 0,I 400]) rfl Qcw (Qav N p0.T 0 400 _ hf1) rfl rfl (nlcc (nlc nll nl0)) nll rfl,asb hb3 (amv rfl),ag_ (apc (first:=[]) (cap:=[]) (vs:=[I p0.P,I 1,I 10000]) rfl Qcw (Qav N p0.P 1 10000 _ hf4) rfl rfl (nlcc (nlc nll nl0)) nll rfl),asb hb6 (amv rfl),trivial⟩<|Qaf ?_
    obtain rfl:=osi h
    exact fend ⟨[B false],⟨rot,trivial⟩,rfl⟩ nll
  ·refine wx tbk [(2,rp [fu 137,(.tmp 4,I p0.T),ci 0,ci 400] (B x2)),(3,rp [(.tmp 5,B x2)] (B false))] ⟨apc (first:=[]) (cap:=[]) (vs:=[I p0.T,I 0,I 400]) rfl Qcw (Qav N p0.T 0 400 _ hf1) rfl rfl (nlcc (nlc nll nl0)) nll rfl,asb hb3 (amv rfl),trivial⟩<|Qaf ?_
   obtain rfl:=osi h
   exact fend ⟨[B false],⟨rot,trivial⟩,rfl⟩ nll
def Qep (N:Nat) (p0:GRow):Option Bool:=
  (Qgj N p0).bind fun x3=>
  some (!x3)
def z7_1 (p0:GRow):AV:=.agg [(I (p0.T)),(I (p0.P)),(I (p0.Liquid)),(I (p0.Vapour)),(I (p0.Silica))]
def z7_2:Slot:=.own 1 [[(.fn (.func 139) [] [])]]
theorem Qj2 (N:Nat) (p0:GRow) (r:Bool) (h:Qep N p0=some r):Spec Tryz.prog 148 [(z7_1 p0),(.ref 0 1 (0) 0)] [z7_2] (B (r)) [z7_2]:=by
  refine Qah Tryz.func148 rfl 1 (nle rfl) (fun X φ0 w0 hφ0 hd0=>?_)
  unfold Qep at h
  refine Qbx<|wxz ?_
  obtain ⟨x3,hf2,h⟩:=bno h
  refine wx tbk [(2,rp [(.tmp 4,(.fn (.func 139) [] [])),(.tmp 5,(z7_1 p0))] (B x3))] ⟨apc (first:=[]) (cap:=[]) (vs:=[(z7_1 p0)]) rfl Zcf (Qnn N p0 _ hf2) rfl rfl (nlc (NLt.agg _ (nlcc (nlcc (nlc nll nl0)))) nl0) nll rfl,trivial⟩ ?_
  refine wmr (mto (n:=8) (l':=[(3,(B ((!x3))))]) (own':=[z7_2]) [(3,(B ((!x3))))] [0] [z7_2] hφ0 (pc rwl pn) (qc (spb (lc (.rn (Qbn rn0 rn0)) ln)) qn))<|Qaf ?_
  obtain rfl:=osi h
  exact ⟨_,Mor.rfl,Qdc (vs:=[(B ((!x3)))]) ⟨rot,trivial⟩ rfl (NLt.of0 nll) (by kernel_rfl) (Qao (Qbd (nlc (NLt.of0 (NLt.fn _ _ _ nl0 nl0)) nl0)) Qbt)⟩
def Qa6 (N:Nat) (p0:(List GRow)) (k2:Unit→Option Int):Nat→Int→Option Int
  | 0,_=>none
  | n5+1,y3=>
    bif (decide (y3<(p0.length:Int))) then
     (getI p0 y3).bind fun x7=>
     (Qep N x7).bind fun x12=>
     bif x12 then
      some y3
     else
      Qa6 N p0 k2 n5 (w64 (y3+1))
    else
     k2 ()
def Qcm (N:Nat) (p0:(List GRow)):Option Int:=
  Qbp (fun _=>
    some (-1)) fun k2:Unit→Option Int=>
  Qa6 N p0 k2 N 0
def z6_0 (p0:(List GRow)):AV:=.dat 5 ((p0:List GRow).map Qaw)
def z6_1:AV:=.fn (.func 148) [] [(.ref 0 1 (0) 0)]
def z6_3:Slot:=.own 1 [[(.fn (.func 139) [] [])]]
def z6_8 (x7:GRow):AV:=.agg [(I (x7.T)),(I (x7.P)),(I (x7.Liquid)),(I (x7.Vapour)),(I (x7.Silica))]
theorem Qgk (N:Nat) (p0:(List GRow)) (r:Int) (h:Qcm N p0=some r):Spec Tryz.prog 156 [(z6_0 p0),z6_1] [z6_3] (I (r)) [z6_3]:=by
  refine Qah Tryz.func156 rfl 1 (nle rfl) (fun X φ0 w0 hφ0 hd0=>?_)
  unfold Qcm at h
  refine Qbx<|wxz ?_
  obtain ⟨k2,hk_k2,h⟩:=jko h
  refine wjn (τ:=Unit) (fun t=>k2 t=some r) (fun _=>⟨mk 19 [],[z6_3]⟩) (fun t h=>?_) ?_
  ·subst hk_k2
   refine wxz<|wmr (mto (n:=19) (l':=[(4,(I ((-1))))]) (own':=[z6_3]) [(4,(I ((-1))))] [0] [z6_3] hφ0 (pc rwl pn) (qc (spb (lc (.rn (Qbn rn0 rn0)) ln)) qn))<|Qaf ?_
   obtain rfl:=osi h
   exact ⟨_,Mor.rfl,Qdc (vs:=[(I ((-1)))]) ⟨rot,trivial⟩ rfl (NLt.of0 nll) (by kernel_rfl) (Qao (Qbd (nlc (NLt.of0 (NLt.fn _ _ _ nl0 nl0)) nl0)) Qbt)⟩
  ·skip
   refine wx tbk [(1,rp [(.tmp 6,(z6_0 p0))] (I ((p0.length:Int))))] ⟨alm (c:=Qaw) (l:=p0) (aln rfl Tryz.underlying38 rfl),trivial⟩<|Qal ?_
   refine wmr (mto (n:=19) (l':=[(0,(z6_0 p0)),(1,z6_1),(7,(I ((p0.length:Int)))),(8,I 0)]) (own':=[z6_3]) [(0,(z6_0 p0)),(1,z6_1),(7,(I ((p0.length:Int)))),(8,I 0)] [0] [z6_3] hφ0 (pc (rnd Qai) (pc (.rn (Qbn rn0 (rnc (rqr rfl) rn0))) (pc rwl (pc rwl pn)))) (qc (spb (lc (.rn (Qbn rn0 rn0)) ln)) qn)) ?_
   refine Qcb (τ:=Int) (fun n t=>Qa6 N p0 k2 n t=some r) (fun y3=>⟨mk 19 [(0,(z6_0 p0)),(1,z6_1),(7,(I ((p0.length:Int)))),(8,I y3)],[z6_3]⟩) (fun t h=>by rw [Qa6] at h; cases h) (fun n5 ih y3 h=>?_) N (0) h
   rw [Qa6] at h
   skip
   refine wxz<|wsq ?_
   refine bfe h (fun hc6 h=>?_) fun hc6 h=>?_
   ·refine wft hc6<|Qan<|thn<|wsq<|Qal<|wxz ?_
    obtain ⟨x7,hg8,h⟩:=bno h
    obtain ⟨hi9,hj10⟩:=gsm hg8
    obtain ⟨x12,hf11,h⟩:=bno h
    refine wx tbk [(3,rp [(.tmp 12,(z6_0 p0)),(.tmp 13,I y3)] (.dptr (Qaw (x7)) 0)),(5,⟨[(.tmp 11,z6_1),(.tmp 15,(z6_8 x7))],[(0,z6_3)],B x12,[(0,z6_3)],false⟩)] ⟨aid rfl Tryz.underlying38 Qs1 rfl rfl hi9 (mgt Qaw hj10) rfl,Qas (first:=[]) (cap:=[.ref 0 1 0 0]) (vs:=[(z6_8 x7)]) (σr:=[z6_3]) (σr':=[z6_3]) (res':=(B x12)) [0] rfl Zb7 (Qj2 N x7 _ hf11) rfl (Qbr (rnc (.plain _ (NLt.agg _ (nlcc (nlcc (nlc nll nl0))))) (rnc (Qbj rfl) rn0))) (slc (Qaq (rnc (.plain _ (NLt.fn _ _ _ nl0 nl0)) rn0)) Qar) (slc (Qaq (rnc (.plain _ (NLt.fn _ _ _ nl0 nl0)) rn0)) Qar) (.plain _ nll) rfl rfl rfl,trivial⟩ ?_
    refine bfe h (fun hc13 h=>?_) fun hc13 h=>?_
    ·refine wft hc13<|wxz ?_
     refine wmr (mto (n:=19) (l':=[(4,I y3)]) (own':=[z6_3]) [(4,I y3)] [0] [z6_3] hφ0 (pc rwl pn) (qc (spb (lc (.rn (Qbn rn0 rn0)) ln)) qn))<|Qaf<|Qam<|Qae<|Qae<|Qam<|Qae ?_
     obtain rfl:=osi h
     exact ⟨_,Mor.rfl,Qdc (vs:=[I y3]) ⟨rot,trivial⟩ rfl (NLt.of0 nll) (by kernel_rfl) (Qao (Qbd (nlc (NLt.of0 (NLt.fn _ _ _ nl0 nl0)) nl0)) Qbt)⟩
    ·exact wfn hc13<|Qan<|bln<|thn<|wxz1<|thn<|arm (mto (n:=19) [(0,(z6_0 p0)),(1,z6_1),(7,(I ((p0.length:Int)))),(8,(I (w64 (y3+1))))] [0] [z6_3] hφ0 (pc (rnd Qai) (pc (.rn (Qbn rn0 (rnc (rqr rfl) rn0))) (pc rwl (pc rwl pn)))) (qc (spb (lc (.rn (Qbn rn0 rn0)) ln)) qn)) (ih (w64 (y3+1)) h)
   ·exact wfn hc6<|Qbl<|Qay<|Qay<|Qbk rfl<|thn<|⟨(),h,(mto (n:=19) [] [0] [z6_3] hφ0 pn (qc (spb (lc (.rn (Qbn rn0 rn0)) ln)) qn))⟩
def Qce (N:Nat) (p0:(List GRow)):Option Bool:=
  (Qcm N p0).bind fun x3=>
  some (decide (x3≥0))
def z5_0 (p0:(List GRow)):AV:=.dat 5 ((p0:List GRow).map Qaw)
def z5_1:AV:=.fn (.func 148) [] [(.ref 0 1 (0) 0)]
def z5_2:Slot:=.own 1 [[(.fn (.func 139) [] [])]]
theorem Qf8 (N:Nat) (p0:(List GRow)) (r:Bool) (h:Qce N p0=some r):Spec Tryz.prog 147 [(z5_0 p0),z5_1] [z5_2] (B (r)) [z5_2]:=by
  refine Qah Tryz.func147 rfl 1 (nle rfl) (fun X φ0 w0 hφ0 hd0=>?_)
  unfold Qce at h
  refine Qbx<|wxz ?_
  obtain ⟨x3,hf2,h⟩:=bno h
  refine wx tbk [(2,⟨[fu 156,(.tmp 5,(z5_0 p0)),(.tmp 6,z5_1)],[(0,z5_2)],I x3,[(0,z5_2)],false⟩)] ⟨Qas (first:=[]) (cap:=[]) (vs:=[(z5_0 p0),z5_1]) (σr:=[z5_2]) (σr':=[z5_2]) (res':=(I x3)) [0] rfl Zb1 (Qgk N p0 _ hf2) rfl (Qbr (rnc (pld Qai) (rnc (Qbn rn0 (rnc (Qbj rfl) rn0)) rn0))) (slc (Qaq (rnc (.plain _ (NLt.fn _ _ _ nl0 nl0)) rn0)) Qar) (slc (Qaq (rnc (.plain _ (NLt.fn _ _ _ nl0 nl0)) rn0)) Qar) (.plain _ nll) rfl rfl rfl,trivial⟩ ?_
  refine wmr (mto (n:=9) (l':=[(4,(B ((decide (x3≥0)))))]) (own':=[z5_2]) [(4,(B ((decide (x3≥0)))))] [0] [z5_2] hφ0 (pc rwl pn) (qc (spb (lc (.rn (Qbn rn0 rn0)) ln)) qn))<|Qaf ?_
  obtain rfl:=osi h
  exact ⟨_,Mor.rfl,Qdc (vs:=[(B ((decide (x3≥0))))]) ⟨rot,trivial⟩ rfl (NLt.of0 nll) (by kernel_rfl) (Qao (Qbd (nlc (NLt.of0 (NLt.fn _ _ _ nl0 nl0)) nl0)) Qbt)⟩
def Qed (N:Nat) (p0:(List GRow)):Option Bool:=
  (Qce N p0).bind fun x2=>
  some (!x2)
def z4_1 (p0:(List GRow)):AV:=.dat 5 ((p0:List GRow).map Qaw)
def z4_2:AV:=.fn (.func 148) [] [(.ref 0 1 (0) 0)]
def z4_0:Slot:=.own 1 [[(.fn (.func 139) [] [])]]
theorem Qkr (N:Nat) (p0:(List GRow)) (r:Bool) (h:Qed N p0=some r):Spec Tryz.prog 138 [(z4_1 p0),(.fn (.func 139) [] [])] [] (B (r)) []:=by
  refine Qah Tryz.func138 rfl 0 (nle rfl) (fun X φ0 w0 hφ0 hd0=>?_)
  unfold Qed at h
  refine wxz ?_
  obtain ⟨x2,hf1,h⟩:=bno h
  refine wx tbk [(1,rp [(.tmp 3,.ref 0 1 0 0)] z4_2),(2,⟨[fu 147,(.tmp 5,(z4_1 p0)),(.tmp 6,z4_2)],[(0,z4_0)],B x2,[(0,z4_0)],false⟩)] ⟨Qfn (fs:=[]) (cs:=[.ref 0 1 0 0]) rfl rfl rfl rfl,Qas (first:=[]) (cap:=[]) (vs:=[(z4_1 p0),z4_2]) (σr:=[z4_0]) (σr':=[z4_0]) (res':=(B x2)) [0] rfl Zb8 (Qf8 N p0 _ hf1) rfl (Qbr (rnc (pld Qai) (rnc (Qbn rn0 (rnc (Qbj rfl) rn0)) rn0))) (slc (Qaq (rnc (.plain _ (NLt.fn _ _ _ nl0 nl0)) rn0)) Qar) (slc (Qaq (rnc (.plain _ (NLt.fn _ _ _ nl0 nl0)) rn0)) Qar) (.plain _ nll) rfl rfl rfl,trivial⟩<|Qaf ?_
  obtain rfl:=osi h
  exact fend ⟨[(B ((!x2)))],⟨rot,trivial⟩,rfl⟩ nll
def Qct (N:Nat) (p0:(List GRow)) (k2:Unit→Option Bool):Nat→Int→Option Bool
  | 0,_=>none
  | n6+1,y4=>
    bif (decide (y4<((p0.drop (1:Int).toNat).length:Int))) then
     (getI (p0.drop (1:Int).toNat) y4).bind fun x8=>
     (getI p0 y4).bind fun x12=>
     bif (decide (x8.T≤x12.T)) then
      some false
     else
      bif (decide (x8.P≤x12.P)) then
       some false
      else
       bif (decide (x8.Liquid≤x12.Liquid)) then
        some false
       else
        bif (decide (x8.Silica<x12.Silica)) then
         some false
        else
         Qct N p0 k2 n6 (w64 (y4+1))
    else
     k2 ()
def Qeq (N:Nat) (p0:(List GRow)):Option Bool:=
  Qbp (fun _=>
    Qbp (fun _=>
      some true) fun k2:Unit→Option Bool=>
    chk (decide (0≤1)&&decide (1≤(p0.length:Int))&&decide ((p0.length:Int)≤(p0.length:Int)))<|
    Qct N p0 k2 N 0) fun k1:Unit→Option Bool=>
  (Qc2 N (p0.length:Int) 2 20).bind fun x21=>
  bif (!x21) then
   some false
  else
   (Qed N p0).bind fun x24=>
   bif (!x24) then
    some false
   else
    k1 ()
def z2_0 (p0:(List GRow)):AV:=.dat 5 ((p0:List GRow).map Qaw)
def z2_1 (p0:(List GRow)):AV:=.dat 5 ((p0.drop (1:Int).toNat:List GRow).map Qaw)
theorem Qiq (N:Nat) (p0:(List GRow)) (r:Bool) (h:Qeq N p0=some r):Spec Tryz.prog 122 [(.dat 5 (p0.map Qaw))] [] (B r) []:=by
  refine Qah Tryz.func122 rfl 0 (nle rfl) (fun X φ0 w0 hφ0 hd0=>?_)
  unfold Qeq at h
  refine wxz ?_
  obtain ⟨k1,hk_k1,h⟩:=jko h
  refine wjn (τ:=Unit) (fun t=>k1 t=some r) (fun _=>⟨mk 54 [(0,(z2_0 p0))],[]⟩) (fun t h=>?_) ?_
  ·subst hk_k1
   obtain ⟨k2,hk_k2,h⟩:=jko h
   refine wjn (τ:=Unit) (fun t=>k2 t=some r) (fun _=>⟨mk 54 [],[]⟩) (fun t h=>?_) ?_
   ·subst hk_k2
    refine wxz<|Qaf ?_
    obtain rfl:=osi h
    exact fend ⟨[B true],⟨rot,trivial⟩,rfl⟩ nll
   ·skip
    obtain ⟨hs3,h⟩:=cko h
    refine wx tbk [(1,rp [(.tmp 15,(z2_0 p0)),ci 1] (z2_1 p0)),(2,rp [(.tmp 16,(z2_1 p0))] (I (((p0.drop (1:Int).toNat).length:Int))))] ⟨Qp9 (k:=.i64) (k':=.i64) (lo:=some (.const (.int .i64 1))) (hi:=none) (l:=1) (hh:=((p0.length:Nat):Int)) rfl Tryz.underlying39 Qs1 rfl (fun e=>nomatch e) (fun _=>by simp) (Q9s hs3) (Q9r hs3) (Zkf (Qaw) hs3) (Zk6 Qaw),alm (c:=Qaw) (l:=p0.drop (1:Int).toNat) (aln rfl Tryz.underlying39 rfl),trivial⟩<|Qal ?_
    refine wmr (mto (n:=54) (l':=[(0,(z2_0 p0)),(16,(z2_1 p0)),(17,(I (((p0.drop (1:Int).toNat).length:Int)))),(18,I 0)]) (own':=[]) [(0,(z2_0 p0)),(16,(z2_1 p0)),(17,(I (((p0.drop (1:Int).toNat).length:Int)))),(18,I 0)] [] [] hφ0 (pc (rnd Qai) (pc (rnd Qai) (pc rwl (pc rwl pn)))) qn) ?_
    refine Qcb (τ:=Int) (fun n t=>Qct N p0 k2 n t=some r) (fun y4=>⟨mk 54 [(0,(z2_0 p0)),(16,(z2_1 p0)),(17,(I (((p0.drop (1:Int).toNat).length:Int)))),(18,I y4)],[]⟩) (fun t h=>by rw [Qct] at h; cases h) (fun n6 ih y4 h=>?_) N (0) h
    rw [Qct] at h
    skip
    refine wxz<|wsq ?_
    refine bfe h (fun hc7 h=>?_) fun hc7 h=>?_
    ·refine wft hc7<|Qan<|thn<|wsq<|Qal ?_
     obtain ⟨x8,hg9,h⟩:=bno h
     obtain ⟨hi10,hj11⟩:=gsm hg9
     refine wx tbk [(1,rp [(.tmp 16,(z2_1 p0)),(.tmp 18,I y4)] (.dptr (Qaw (x8)) 0))] ⟨aid rfl Tryz.underlying39 Qs1 rfl rfl hi10 (mgt Qaw hj11) rfl,trivial⟩ ?_
     obtain ⟨x12,hg13,h⟩:=bno h
     obtain ⟨hi14,hj15⟩:=gsm hg13
     refine wx tbk [(2,rp [(.tmp 23,(z2_0 p0)),(.tmp 24,I y4)] (.dptr (Qaw (x12)) 0))] ⟨aid rfl Tryz.underlying39 Qs1 rfl rfl hi14 (mgt Qaw hj15) rfl,trivial⟩ ?_
     refine bfe h (fun hb16 h=>?_) fun hb16 h=>?_
     ·refine wx tbk [(5,rp [(.tmp 31,(B ((decide (x8.T≤x12.T)))))] (B true))] ⟨asb hb16 (amv rfl),trivial⟩<|wtr<|wxz<|Qaf<|Qam<|Qae<|Qae<|Qam<|Qae ?_
      obtain rfl:=osi h
      exact fend ⟨[B false],⟨rot,trivial⟩,rfl⟩ nll
     ·refine bfe h (fun hb17 h=>?_) fun hb17 h=>?_
      ·refine wx tbk [(5,rp [(.tmp 31,(B ((decide (x8.T≤x12.T)))))] (B false)),(12,rp [(.tmp 38,(B ((decide (x8.P≤x12.P)))))] (B true))] ⟨asb hb16 (amv rfl),asb hb17 (amv rfl),trivial⟩<|wtr<|wxz<|Qaf<|Qam<|Qae<|Qae<|Qam<|Qae ?_
       obtain rfl:=osi h
       exact fend ⟨[B false],⟨rot,trivial⟩,rfl⟩ nll
      ·refine bfe h (fun hb18 h=>?_) fun hb18 h=>?_
       ·refine wx tbk [(5,rp [(.tmp 31,(B ((decide (x8.T≤x12.T)))))] (B false)),(12,rp [(.tmp 38,(B ((decide (x8.P≤x12.P)))))] (B false)),(19,rp [(.tmp 45,(B ((decide (x8.Liquid≤x12.Liquid)))))] (B true))] ⟨asb hb16 (amv rfl),asb hb17 (amv rfl),asb hb18 (amv rfl),trivial⟩<|wtr<|wxz<|Qaf<|Qam<|Qae<|Qae<|Qam<|Qae ?_
        obtain rfl:=osi h
        exact fend ⟨[B false],⟨rot,trivial⟩,rfl⟩ nll
       ·refine wx tbk [(5,rp [(.tmp 31,(B ((decide (x8.T≤x12.T)))))] (B false)),(12,rp [(.tmp 38,(B ((decide (x8.P≤x12.P)))))] (B false)),(19,rp [(.tmp 45,(B ((decide (x8.Liquid≤x12.Liquid)))))] (B false))] ⟨asb hb16 (amv rfl),asb hb17 (amv rfl),asb hb18 (amv rfl),trivial⟩ ?_
        refine bfe h (fun hc19 h=>?_) fun hc19 h=>?_
        ·refine wft hc19<|wxz<|Qaf<|Qam<|Qae<|Qae<|Qam<|Qae ?_
         obtain rfl:=osi h
         exact fend ⟨[B false],⟨rot,trivial⟩,rfl⟩ nll
        ·exact wfn hc19<|Qan<|bln<|thn<|wxz1<|thn<|arm (mto (n:=54) [(0,(z2_0 p0)),(16,(z2_1 p0)),(17,(I (((p0.drop (1:Int).toNat).length:Int)))),(18,(I (w64 (y4+1))))] [] [] hφ0 (pc (rnd Qai) (pc (rnd Qai) (pc rwl (pc rwl pn)))) qn) (ih (w64 (y4+1)) h)
    ·exact wfn hc7<|Qbl<|Qay<|Qay<|Qbk rfl<|thn<|⟨(),h,(mto (n:=54) [] [] [] hφ0 pn qn)⟩
  ·skip
   obtain ⟨x21,hf20,h⟩:=bno h
   refine bfe h (fun hb22 h=>?_) fun hb22 h=>?_
   ·refine wx tbk [(1,rp [(.tmp 6,(z2_0 p0))] (I ((p0.length:Int)))),(2,rp [fu 137,(.tmp 7,(I ((p0.length:Int)))),ci 2,ci 20] (B x21)),(4,rp [(.tmp 9,(B ((!x21))))] (B true))] ⟨alm (c:=Qaw) (l:=p0) (aln rfl Tryz.underlying39 rfl),apc (first:=[]) (cap:=[]) (vs:=[(I ((p0.length:Int))),I 2,I 20]) rfl Qcw (Qav N (p0.length:Int) 2 20 _ hf20) rfl rfl (nlcc (nlc nll nl0)) nll rfl,asb hb22 (amv rfl),trivial⟩<|wtr<|wxz<|Qaf<|Qae ?_
    obtain rfl:=osi h
    exact fend ⟨[B false],⟨rot,trivial⟩,rfl⟩ nll
   ·obtain ⟨x24,hf23,h⟩:=bno h
    refine wx tbk [(1,rp [(.tmp 6,(z2_0 p0))] (I ((p0.length:Int)))),(2,rp [fu 137,(.tmp 7,(I ((p0.length:Int)))),ci 2,ci 20] (B x21)),(4,rp [(.tmp 9,(B ((!x21))))] (B false)),(6,rp [(.tmp 10,B false),fu 138,(.tmp 11,(z2_0 p0)),fu 139] (B x24))] ⟨alm (c:=Qaw) (l:=p0) (aln rfl Tryz.underlying39 rfl),apc (first:=[]) (cap:=[]) (vs:=[(I ((p0.length:Int))),I 2,I 20]) rfl Qcw (Qav N (p0.length:Int) 2 20 _ hf20) rfl rfl (nlcc (nlc nll nl0)) nll rfl,asb hb22 (amv rfl),ag_ (Qas (first:=[]) (cap:=[]) (vs:=[(z2_0 p0),(.fn (.func 139) [] [])]) (σr:=[]) (σr':=[]) (res':=(B x24)) [] rfl Zcg (Qkr N p0 _ hf23) rfl (Qbr (rnc (pld Qai) (rnc (.plain _ (NLt.fn _ _ _ nl0 nl0)) rn0))) Qar Qar (.plain _ nll) rfl rfl rfl),trivial⟩ ?_
    refine bfe h (fun hc25 h=>?_) fun hc25 h=>?_
    ·refine wft hc25<|wxz<|Qaf<|Qae ?_
     obtain rfl:=osi h
     exact fend ⟨[B false],⟨rot,trivial⟩,rfl⟩ nll
    ·exact wfn hc25<|Qan<|thn<|⟨(),h,(mto (n:=54) [(0,(z2_0 p0))] [] [] hφ0 (pc (rnd Qai) pn) qn)⟩
def Qg1 (N:Nat) (p0:(List GRow)):Option Int:=
  (Qeq N p0).bind fun x2=>
  bif (!x2) then
   some 1
  else
   some 0
theorem Qg4 (N:Nat) (p0:(List GRow)) (r:Int) (h:Qg1 N p0=some r):Spec Tryz.prog 100 [(.dat 5 (p0.map Qaw))] [] (I r) []:=by
  refine Qah Tryz.func100 rfl 0 (nle rfl) (fun X φ0 w0 hφ0 hd0=>?_)
  unfold Qg1 at h
  refine wxz<|wsq ?_
  obtain ⟨x2,hf1,h⟩:=bno h
  refine wx tbk [(1,rp [fu 122,(.tmp 3,(.dat 5 ((p0:List GRow).map Qaw)))] (B x2))] ⟨apc (first:=[]) (cap:=[]) (vs:=[(.dat 5 ((p0:List GRow).map Qaw))]) rfl Q21 (Qiq N p0 _ hf1) rfl rfl (nlc (nld Qai _) nl0) nll rfl,trivial⟩ ?_
  refine bfe h (fun hc3 h=>?_) fun hc3 h=>?_
  ·refine wft hc3<|wxz<|Qaf<|Qae ?_
   obtain rfl:=osi h
   exact fend ⟨[I 1],⟨rot,trivial⟩,rfl⟩ nll
  ·refine wfn hc3<|Qan<|thn<|wxz<|Qaf ?_
   obtain rfl:=osi h
   exact fend ⟨[I 0],⟨rot,trivial⟩,rfl⟩ nll
def Qcn (_N:Nat) (p0:Int) (p1:Int) (p2:Int):Option Bool:=
  bif (decide (p1≤p0)) then
   some (decide (p0≤p2))
  else
   some false
theorem Qbg (N:Nat) (p0:Int) (p1:Int) (p2:Int) (r:Bool) (h:Qcn N p0 p1 p2=some r):Spec Tryz.prog 65 [(I p0),(I p1),(I p2)] [] (B r) []:=by
  refine Qah Tryz.func65 rfl 0 (nle rfl) (fun X φ0 w0 hφ0 hd0=>?_)
  unfold Qcn at h
  refine wxz ?_
  refine bfe h (fun hb1 h=>?_) fun hb1 h=>?_
  ·refine wx tbk [(3,rp [(.tmp 9,(B ((decide (p1≤p0)))))] (B true))] ⟨asb hb1 (amv rfl),trivial⟩<|Qaf ?_
   obtain rfl:=osi h
   exact fend ⟨[(B ((decide (p0≤p2))))],⟨rot,trivial⟩,rfl⟩ nll
  ·refine wx tbk [(3,rp [(.tmp 9,(B ((decide (p1≤p0)))))] (B false))] ⟨asb hb1 (amv rfl),trivial⟩<|Qaf ?_
   obtain rfl:=osi h
   exact fend ⟨[B false],⟨rot,trivial⟩,rfl⟩ nll
def Qfx (N:Nat) (p0:Int):Option Bool:=
  (Qcn N p0 0 1000).bind fun x2=>
  some x2
theorem Qk8 (N:Nat) (p0:Int) (r:Bool) (h:Qfx N p0=some r):Spec Tryz.prog 125 [(I p0)] [] (B r) []:=by
  refine Qah Tryz.func125 rfl 0 (nle rfl) (fun X φ0 w0 hφ0 hd0=>?_)
  unfold Qfx at h
  refine wxz ?_
  obtain ⟨x2,hf1,h⟩:=bno h
  refine wx tbk [(1,rp [fu 65,(.tmp 3,I p0),ci 0,ci 1000] (B x2))] ⟨apc (first:=[]) (cap:=[]) (vs:=[I p0,I 0,I 1000]) rfl Qfm (Qbg N p0 0 1000 _ hf1) rfl rfl (nlcc (nlc nll nl0)) nll rfl,trivial⟩<|Qaf ?_
  obtain rfl:=osi h
  exact fend ⟨[B x2],⟨rot,trivial⟩,rfl⟩ nll
def Qgc (N:Nat) (p0:Int):Option Bool:=
  (Qfx N p0).bind fun x3=>
  some (!x3)
def Zas:Slot:=.own 1 [[(.fn (.func 125) [] [])]]
theorem Qna (N:Nat) (p0:Int) (r:Bool) (h:Qgc N p0=some r):Spec Tryz.prog 128 [(I (p0)),(.ref 0 1 (0) 0)] [Zas] (B (r)) [Zas]:=by
  refine Qah Tryz.func128 rfl 1 (nle rfl) (fun X φ0 w0 hφ0 hd0=>?_)
  unfold Qgc at h
  refine Qbx<|wxz ?_
  obtain ⟨x3,hf2,h⟩:=bno h
  refine wx tbk [(2,rp [(.tmp 4,(.fn (.func 125) [] [])),(.tmp 5,I p0)] (B x3))] ⟨apc (first:=[]) (cap:=[]) (vs:=[I p0]) rfl Zcn (Qk8 N p0 _ hf2) rfl rfl (nlc nll nl0) nll rfl,trivial⟩ ?_
  refine wmr (mto (n:=8) (l':=[(3,(B ((!x3))))]) (own':=[Zas]) [(3,(B ((!x3))))] [0] [Zas] hφ0 (pc rwl pn) (qc (spb (lc (.rn (Qbn rn0 rn0)) ln)) qn))<|Qaf ?_
  obtain rfl:=osi h
  exact ⟨_,Mor.rfl,Qdc (vs:=[(B ((!x3)))]) ⟨rot,trivial⟩ rfl (NLt.of0 nll) (by kernel_rfl) (Qao (Qbd (nlc (NLt.of0 (NLt.fn _ _ _ nl0 nl0)) nl0)) Qbt)⟩
def Qb5 (N:Nat) (p0:(List Int)) (k2:Unit→Option Int):Nat→Int→Option Int
  | 0,_=>none
  | n5+1,y3=>
    bif (decide (y3<(p0.length:Int))) then
     (getI p0 y3).bind fun x7=>
     (Qgc N x7).bind fun x12=>
     bif x12 then
      some y3
     else
      Qb5 N p0 k2 n5 (w64 (y3+1))
    else
     k2 ()
def Qd4 (N:Nat) (p0:(List Int)):Option Int:=
  Qbp (fun _=>
    some (-1)) fun k2:Unit→Option Int=>
  Qb5 N p0 k2 N 0
def Qy3 (p0:(List Int)):AV:=.dat 1 ((p0:List Int).map Qak)
def Q33:AV:=.fn (.func 128) [] [(.ref 0 1 (0) 0)]
def Qm4:Slot:=.own 1 [[(.fn (.func 125) [] [])]]
theorem Qiy (N:Nat) (p0:(List Int)) (r:Int) (h:Qd4 N p0=some r):Spec Tryz.prog 141 [(Qy3 p0),Q33] [Qm4] (I (r)) [Qm4]:=by
  refine Qah Tryz.func141 rfl 1 (nle rfl) (fun X φ0 w0 hφ0 hd0=>?_)
  unfold Qd4 at h
  refine Qbx<|wxz ?_
  obtain ⟨k2,hk_k2,h⟩:=jko h
  refine wjn (τ:=Unit) (fun t=>k2 t=some r) (fun _=>⟨mk 19 [],[Qm4]⟩) (fun t h=>?_) ?_
  ·subst hk_k2
   refine wxz<|wmr (mto (n:=19) (l':=[(4,(I ((-1))))]) (own':=[Qm4]) [(4,(I ((-1))))] [0] [Qm4] hφ0 (pc rwl pn) (qc (spb (lc (.rn (Qbn rn0 rn0)) ln)) qn))<|Qaf ?_
   obtain rfl:=osi h
   exact ⟨_,Mor.rfl,Qdc (vs:=[(I ((-1)))]) ⟨rot,trivial⟩ rfl (NLt.of0 nll) (by kernel_rfl) (Qao (Qbd (nlc (NLt.of0 (NLt.fn _ _ _ nl0 nl0)) nl0)) Qbt)⟩
  ·skip
   refine wx tbk [(1,rp [(.tmp 6,(Qy3 p0))] (I ((p0.length:Int))))] ⟨alm (c:=Qak) (l:=p0) (aln rfl Tryz.underlying27 rfl),trivial⟩<|Qal ?_
   refine wmr (mto (n:=19) (l':=[(0,(Qy3 p0)),(1,Q33),(7,(I ((p0.length:Int)))),(8,I 0)]) (own':=[Qm4]) [(0,(Qy3 p0)),(1,Q33),(7,(I ((p0.length:Int)))),(8,I 0)] [0] [Qm4] hφ0 (pc (rnd Qag) (pc (.rn (Qbn rn0 (rnc (rqr rfl) rn0))) (pc rwl (pc rwl pn)))) (qc (spb (lc (.rn (Qbn rn0 rn0)) ln)) qn)) ?_
   refine Qcb (τ:=Int) (fun n t=>Qb5 N p0 k2 n t=some r) (fun y3=>⟨mk 19 [(0,(Qy3 p0)),(1,Q33),(7,(I ((p0.length:Int)))),(8,I y3)],[Qm4]⟩) (fun t h=>by rw [Qb5] at h; cases h) (fun n5 ih y3 h=>?_) N (0) h
   rw [Qb5] at h
   skip
   refine wxz<|wsq ?_
   refine bfe h (fun hc6 h=>?_) fun hc6 h=>?_
   ·refine wft hc6<|Qan<|thn<|wsq<|Qal<|wxz ?_
    obtain ⟨x7,hg8,h⟩:=bno h
    obtain ⟨hi9,hj10⟩:=gsm hg8
    obtain ⟨x12,hf11,h⟩:=bno h
    refine wx tbk [(3,rp [(.tmp 12,(Qy3 p0)),(.tmp 13,I y3)] (.dptr (Qak (x7)) 0)),(5,⟨[(.tmp 11,Q33),(.tmp 15,I x7)],[(0,Qm4)],B x12,[(0,Qm4)],false⟩)] ⟨aid rfl Tryz.underlying27 ti3 rfl rfl hi9 (mgt Qak hj10) rfl,Qas (first:=[]) (cap:=[.ref 0 1 0 0]) (vs:=[I x7]) (σr:=[Qm4]) (σr':=[Qm4]) (res':=(B x12)) [0] rfl Q20 (Qna N x7 _ hf11) rfl (Qbr (rnc (.plain _ nll) (rnc (Qbj rfl) rn0))) (slc (Qaq (rnc (.plain _ (NLt.fn _ _ _ nl0 nl0)) rn0)) Qar) (slc (Qaq (rnc (.plain _ (NLt.fn _ _ _ nl0 nl0)) rn0)) Qar) (.plain _ nll) rfl rfl rfl,trivial⟩ ?_
    refine bfe h (fun hc13 h=>?_) fun hc13 h=>?_
    ·refine wft hc13<|wxz ?_
     refine wmr (mto (n:=19) (l':=[(4,I y3)]) (own':=[Qm4]) [(4,I y3)] [0] [Qm4] hφ0 (pc rwl pn) (qc (spb (lc (.rn (Qbn rn0 rn0)) ln)) qn))<|Qaf<|Qam<|Qae<|Qae<|Qam<|Qae ?_
     obtain rfl:=osi h
     exact ⟨_,Mor.rfl,Qdc (vs:=[I y3]) ⟨rot,trivial⟩ rfl (NLt.of0 nll) (by kernel_rfl) (Qao (Qbd (nlc (NLt.of0 (NLt.fn _ _ _ nl0 nl0)) nl0)) Qbt)⟩
    ·exact wfn hc13<|Qan<|bln<|thn<|wxz1<|thn<|arm (mto (n:=19) [(0,(Qy3 p0)),(1,Q33),(7,(I ((p0.length:Int)))),(8,(I (w64 (y3+1))))] [0] [Qm4] hφ0 (pc (rnd Qag) (pc (.rn (Qbn rn0 (rnc (rqr rfl) rn0))) (pc rwl (pc rwl pn)))) (qc (spb (lc (.rn (Qbn rn0 rn0)) ln)) qn)) (ih (w64 (y3+1)) h)
   ·exact wfn hc6<|Qbl<|Qay<|Qay<|Qbk rfl<|thn<|⟨(),h,(mto (n:=19) [] [0] [Qm4] hφ0 pn (qc (spb (lc (.rn (Qbn rn0 rn0)) ln)) qn))⟩
def Qc0 (N:Nat) (p0:(List Int)):Option Bool:=
  (Qd4 N p0).bind fun x3=>
  some (decide (x3≥0))
def Zgl (p0:(List Int)):AV:=.dat 1 ((p0:List Int).map Qak)
def Zgk:AV:=.fn (.func 128) [] [(.ref 0 1 (0) 0)]
def Qwk:Slot:=.own 1 [[(.fn (.func 125) [] [])]]
theorem Qhw (N:Nat) (p0:(List Int)) (r:Bool) (h:Qc0 N p0=some r):Spec Tryz.prog 126 [(Zgl p0),Zgk] [Qwk] (B (r)) [Qwk]:=by
  refine Qah Tryz.func126 rfl 1 (nle rfl) (fun X φ0 w0 hφ0 hd0=>?_)
  unfold Qc0 at h
  refine Qbx<|wxz ?_
  obtain ⟨x3,hf2,h⟩:=bno h
  refine wx tbk [(2,⟨[fu 141,(.tmp 5,(Zgl p0)),(.tmp 6,Zgk)],[(0,Qwk)],I x3,[(0,Qwk)],false⟩)] ⟨Qas (first:=[]) (cap:=[]) (vs:=[(Zgl p0),Zgk]) (σr:=[Qwk]) (σr':=[Qwk]) (res':=(I x3)) [0] rfl Qop (Qiy N p0 _ hf2) rfl (Qbr (rnc (pld Qag) (rnc (Qbn rn0 (rnc (Qbj rfl) rn0)) rn0))) (slc (Qaq (rnc (.plain _ (NLt.fn _ _ _ nl0 nl0)) rn0)) Qar) (slc (Qaq (rnc (.plain _ (NLt.fn _ _ _ nl0 nl0)) rn0)) Qar) (.plain _ nll) rfl rfl rfl,trivial⟩ ?_
  refine wmr (mto (n:=9) (l':=[(4,(B ((decide (x3≥0)))))]) (own':=[Qwk]) [(4,(B ((decide (x3≥0)))))] [0] [Qwk] hφ0 (pc rwl pn) (qc (spb (lc (.rn (Qbn rn0 rn0)) ln)) qn))<|Qaf ?_
  obtain rfl:=osi h
  exact ⟨_,Mor.rfl,Qdc (vs:=[(B ((decide (x3≥0))))]) ⟨rot,trivial⟩ rfl (NLt.of0 nll) (by kernel_rfl) (Qao (Qbd (nlc (NLt.of0 (NLt.fn _ _ _ nl0 nl0)) nl0)) Qbt)⟩
def Qgd (N:Nat) (p0:(List Int)):Option Bool:=
  (Qc0 N p0).bind fun x2=>
  some (!x2)
def Zgn (p0:(List Int)):AV:=.dat 1 ((p0:List Int).map Qak)
def Zgm:AV:=.fn (.func 128) [] [(.ref 0 1 (0) 0)]
def Zat:Slot:=.own 1 [[(.fn (.func 125) [] [])]]
theorem Qkj (N:Nat) (p0:(List Int)) (r:Bool) (h:Qgd N p0=some r):Spec Tryz.prog 108 [(Zgn p0),(.fn (.func 125) [] [])] [] (B (r)) []:=by
  refine Qah Tryz.func108 rfl 0 (nle rfl) (fun X φ0 w0 hφ0 hd0=>?_)
  unfold Qgd at h
  refine wxz ?_
  obtain ⟨x2,hf1,h⟩:=bno h
  refine wx tbk [(1,rp [(.tmp 3,.ref 0 1 0 0)] Zgm),(2,⟨[fu 126,(.tmp 5,(Zgn p0)),(.tmp 6,Zgm)],[(0,Zat)],B x2,[(0,Zat)],false⟩)] ⟨Qfn (fs:=[]) (cs:=[.ref 0 1 0 0]) rfl rfl rfl rfl,Qas (first:=[]) (cap:=[]) (vs:=[(Zgn p0),Zgm]) (σr:=[Zat]) (σr':=[Zat]) (res':=(B x2)) [0] rfl Qoq (Qhw N p0 _ hf1) rfl (Qbr (rnc (pld Qag) (rnc (Qbn rn0 (rnc (Qbj rfl) rn0)) rn0))) (slc (Qaq (rnc (.plain _ (NLt.fn _ _ _ nl0 nl0)) rn0)) Qar) (slc (Qaq (rnc (.plain _ (NLt.fn _ _ _ nl0 nl0)) rn0)) Qar) (.plain _ nll) rfl rfl rfl,trivial⟩<|Qaf ?_
  obtain rfl:=osi h
  exact fend ⟨[(B ((!x2)))],⟨rot,trivial⟩,rfl⟩ nll
def Qfw (_N:Nat) (p0:Int):Option Bool:=
  some (decide (p0>0))
theorem Qk7 (N:Nat) (p0:Int) (r:Bool) (h:Qfw N p0=some r):Spec Tryz.prog 127 [(I p0)] [] (B r) []:=by
  refine Qah Tryz.func127 rfl 0 (nle rfl) (fun X φ0 w0 hφ0 hd0=>?_)
  unfold Qfw at h
  refine wxz<|wxz<|Qaf ?_
  obtain rfl:=osi h
  exact fend ⟨[(B ((decide (p0>0))))],⟨rot,trivial⟩,rfl⟩ nll
def Qb4 (N:Nat) (p0:(List Int)) (k1:Unit→Option Int):Nat→Int→Option Int
  | 0,_=>none
  | n4+1,y2=>
    bif (decide (y2<(p0.length:Int))) then
     (getI p0 y2).bind fun x6=>
     (Qfw N x6).bind fun x11=>
     bif x11 then
      some y2
     else
      Qb4 N p0 k1 n4 (w64 (y2+1))
    else
     k1 ()
def Qd3 (N:Nat) (p0:(List Int)):Option Int:=
  Qbp (fun _=>
    some (-1)) fun k1:Unit→Option Int=>
  Qb4 N p0 k1 N 0
def Qy2 (p0:(List Int)):AV:=.dat 1 ((p0:List Int).map Qak)
theorem Qix (N:Nat) (p0:(List Int)) (r:Int) (h:Qd3 N p0=some r):Spec Tryz.prog 141 [(Qy2 p0),(.fn (.func 127) [] [])] [] (I (r)) []:=by
  refine Qah Tryz.func141 rfl 0 (nle rfl) (fun X φ0 w0 hφ0 hd0=>?_)
  unfold Qd3 at h
  refine wxz ?_
  obtain ⟨k1,hk_k1,h⟩:=jko h
  refine wjn (τ:=Unit) (fun t=>k1 t=some r) (fun _=>⟨mk 19 [],[]⟩) (fun t h=>?_) ?_
  ·subst hk_k1
   refine wxz<|Qaf ?_
   obtain rfl:=osi h
   exact fend ⟨[(I ((-1)))],⟨rot,trivial⟩,rfl⟩ nll
  ·skip
   refine wx tbk [(1,rp [(.tmp 6,(Qy2 p0))] (I ((p0.length:Int))))] ⟨alm (c:=Qak) (l:=p0) (aln rfl Tryz.underlying27 rfl),trivial⟩<|Qal ?_
   refine wmr (mto (n:=19) (l':=[(0,(Qy2 p0)),(1,(.fn (.func 127) [] [])),(7,(I ((p0.length:Int)))),(8,I 0)]) (own':=[]) [(0,(Qy2 p0)),(1,(.fn (.func 127) [] [])),(7,(I ((p0.length:Int)))),(8,I 0)] [] [] hφ0 (pc (rnd Qag) (pc (.rn (Qbn rn0 rn0)) (pc rwl (pc rwl pn)))) qn) ?_
   refine Qcb (τ:=Int) (fun n t=>Qb4 N p0 k1 n t=some r) (fun y2=>⟨mk 19 [(0,(Qy2 p0)),(1,(.fn (.func 127) [] [])),(7,(I ((p0.length:Int)))),(8,I y2)],[]⟩) (fun t h=>by rw [Qb4] at h; cases h) (fun n4 ih y2 h=>?_) N (0) h
   rw [Qb4] at h
   skip
   refine wxz<|wsq ?_
   refine bfe h (fun hc5 h=>?_) fun hc5 h=>?_
   ·refine wft hc5<|Qan<|thn<|wsq<|Qal<|wxz ?_
    obtain ⟨x6,hg7,h⟩:=bno h
    obtain ⟨hi8,hj9⟩:=gsm hg7
    obtain ⟨x11,hf10,h⟩:=bno h
    refine wx tbk [(3,rp [(.tmp 12,(Qy2 p0)),(.tmp 13,I y2)] (.dptr (Qak (x6)) 0)),(5,rp [(.tmp 11,(.fn (.func 127) [] [])),(.tmp 15,I x6)] (B x11))] ⟨aid rfl Tryz.underlying27 ti3 rfl rfl hi8 (mgt Qak hj9) rfl,apc (first:=[]) (cap:=[]) (vs:=[I x6]) rfl Zcm (Qk7 N x6 _ hf10) rfl rfl (nlc nll nl0) nll rfl,trivial⟩ ?_
    refine bfe h (fun hc12 h=>?_) fun hc12 h=>?_
    ·refine wft hc12<|wxz<|Qaf<|Qam<|Qae<|Qae<|Qam<|Qae ?_
     obtain rfl:=osi h
     exact fend ⟨[I y2],⟨rot,trivial⟩,rfl⟩ nll
    ·exact wfn hc12<|Qan<|bln<|thn<|wxz1<|thn<|arm (mto (n:=19) [(0,(Qy2 p0)),(1,(.fn (.func 127) [] [])),(7,(I ((p0.length:Int)))),(8,(I (w64 (y2+1))))] [] [] hφ0 (pc (rnd Qag) (pc (.rn (Qbn rn0 rn0)) (pc rwl (pc rwl pn)))) qn) (ih (w64 (y2+1)) h)
   ·exact wfn hc5<|Qbl<|Qay<|Qay<|Qbk rfl<|thn<|⟨(),h,(mto (n:=19) [] [] [] hφ0 pn qn)⟩
def Qch (N:Nat) (p0:(List Int)):Option Bool:=
  (Qd3 N p0).bind fun x2=>
  some (decide (x2≥0))
def Zgj (p0:(List Int)):AV:=.dat 1 ((p0:List Int).map Qak)
theorem Qhv (N:Nat) (p0:(List Int)) (r:Bool) (h:Qch N p0=some r):Spec Tryz.prog 126 [(Zgj p0),(.fn (.func 127) [] [])] [] (B (r)) []:=by
  refine Qah Tryz.func126 rfl 0 (nle rfl) (fun X φ0 w0 hφ0 hd0=>?_)
  unfold Qch at h
  refine wxz ?_
  obtain ⟨x2,hf1,h⟩:=bno h
  refine wx tbk [(2,rp [fu 141,(.tmp 5,(Zgj p0)),(.tmp 6,(.fn (.func 127) [] []))] (I x2))] ⟨Qas (first:=[]) (cap:=[]) (vs:=[(Zgj p0),(.fn (.func 127) [] [])]) (σr:=[]) (σr':=[]) (res':=(I x2)) [] rfl Qop (Qix N p0 _ hf1) rfl (Qbr (rnc (pld Qag) (rnc (.plain _ (NLt.fn _ _ _ nl0 nl0)) rn0))) Qar Qar (.plain _ nll) rfl rfl rfl,trivial⟩<|Qaf ?_
  obtain rfl:=osi h
  exact fend ⟨[(B ((decide (x2≥0))))],⟨rot,trivial⟩,rfl⟩ nll
def Qfg (N:Nat) (p0:GElement):Option Bool:=
  Qbp (fun ⟨y1,y2⟩=>
    Qbp (fun _=>
      bif (p0.Kind != 5) then
       some ((p0.Weights.length:Int)==0)
      else
       (Qcn N (p0.Weights.length:Int) 1 20).bind fun x7=>
       bif x7 then
        (Qgd N p0.Weights).bind fun x10=>
        bif x10 then
         (Qch N p0.Weights).bind fun x13=>
         some x13
        else
         some false
       else
        some false) fun k4:Unit→Option Bool=>
    bif ((p0.From.length:Int) != y1) then
     some false
    else
     (Qcn N p0.Amount 0 y2).bind fun x16=>
     bif (!x16) then
      some false
     else
      (Qcn N p0.Wide 0 1000000).bind fun x19=>
      bif (!x19) then
       some false
      else
       (Qcn N p0.Narrow 1 1000000000).bind fun x22=>
       bif (!x22) then
        some false
       else
        k4 ()) fun k3:Int×Int→Option Bool=>
  bif (p0.Kind==1) then
   k3 (0,0)
  else
   bif (p0.Kind==2) then
    (some (if 6<(p0.From.length:Int) then 6 else (p0.From.length:Int))).bind fun x26=>
    (some (if x26>1 then x26 else 1)).bind fun x28=>
    k3 (x28,0)
   else
    bif (p0.Kind==3) then
     k3 (1,1000000000)
    else
     bif (p0.Kind==4) then
      k3 (1,1000)
     else
      bif (p0.Kind==5) then
       k3 (1,0)
      else
       bif (p0.Kind==6) then
        k3 (1,0)
       else
        some false
def Q34 (p0:GElement):AV:=.dat 2 ((p0.From:List GPort).map Qat)
def Qq9 (p0:GElement):AV:=.dat 1 ((p0.Weights:List Int).map Qak)
def Quo (p0:GElement):Slot:=.own 7 [[(K .u8 (p0.Kind)),(Q34 p0),(I (p0.Level)),(I (p0.Amount)),(I (p0.Wide)),(I (p0.Narrow)),(Qq9 p0)]]
theorem Qlz (N:Nat) (p0:GElement) (r:Bool) (h:Qfg N p0=some r):Spec Tryz.prog 102 [(.agg (Qac p0))] [] (B r) []:=by
  refine Qah Tryz.func102 rfl 0 (nle rfl) (fun X φ0 w0 hφ0 hd0=>?_)
  unfold Qfg at h
  refine wxz<|wxz ?_
  obtain ⟨k3,hk_k3,h⟩:=jko h
  refine wjn (τ:=Int×Int) (fun t=>k3 t=some r) (fun ⟨y1,y2⟩=>⟨mk 68 [(1,.ref 0 7 0 0),(3,I y1),(4,I y2)],[(Quo p0)]⟩) (fun t h=>?_) ?_
  ·subst hk_k3
   obtain ⟨y1,y2⟩:=t
   obtain ⟨k4,hk_k4,h⟩:=jko h
   refine wjn (τ:=Unit) (fun t=>k4 t=some r) (fun _=>⟨mk 68 [(1,.ref 0 7 0 0)],[(Quo p0)]⟩) (fun t h=>?_) ?_
   ·subst hk_k4
    refine wsq<|wxz ?_
    refine bfe h (fun hc5 h=>?_) fun hc5 h=>?_
    ·refine wft hc5<|wx tbk [(2,rp [(.tmp 51,(Qq9 p0))] (I ((p0.Weights.length:Int))))] ⟨alm (c:=Qak) (l:=p0.Weights) (aln rfl Tryz.underlying27 rfl),trivial⟩<|Qaf<|Qae ?_
     obtain rfl:=osi h
     exact fend ⟨[(B (((p0.Weights.length:Int)==0)))],⟨rot,trivial⟩,rfl⟩ nll
    ·refine wfn hc5<|Qan<|thn ?_
     obtain ⟨x7,hf6,h⟩:=bno h
     refine bfe h (fun hb8 h=>?_) fun hb8 h=>?_
     ·obtain ⟨x10,hf9,h⟩:=bno h
      refine bfe h (fun hb11 h=>?_) fun hb11 h=>?_
      ·obtain ⟨x13,hf12,h⟩:=bno h
       refine wx tbk [(2,rp [(.tmp 55,(Qq9 p0))] (I ((p0.Weights.length:Int)))),(3,rp [fu 65,(.tmp 56,(I ((p0.Weights.length:Int)))),ci 1,ci 20] (B x7)),(4,rp [(.tmp 57,B x7)] (B true)),(7,rp [(.tmp 58,B true),fu 108,(.tmp 60,(Qq9 p0)),fu 125] (B x10)),(9,rp [(.tmp 62,B x10)] (B true)),(12,rp [(.tmp 63,B true),fu 126,(.tmp 65,(Qq9 p0)),fu 127] (B x13))] ⟨alm (c:=Qak) (l:=p0.Weights) (aln rfl Tryz.underlying27 rfl),apc (first:=[]) (cap:=[]) (vs:=[(I ((p0.Weights.length:Int))),I 1,I 20]) rfl Qfm (Qbg N (p0.Weights.length:Int) 1 20 _ hf6) rfl rfl (nlcc (nlc nll nl0)) nll rfl,asb hb8 (amv rfl),ag_ (Qas (first:=[]) (cap:=[]) (vs:=[(Qq9 p0),(.fn (.func 125) [] [])]) (σr:=[]) (σr':=[]) (res':=(B x10)) [] rfl Qvq (Qkj N p0.Weights _ hf9) rfl (Qbr (rnc (pld Qag) (rnc (.plain _ (NLt.fn _ _ _ nl0 nl0)) rn0))) Qar Qar (.plain _ nll) rfl rfl rfl),asb hb11 (amv rfl),ag_ (Qas (first:=[]) (cap:=[]) (vs:=[(Qq9 p0),(.fn (.func 127) [] [])]) (σr:=[]) (σr':=[]) (res':=(B x13)) [] rfl Qoq (Qhv N p0.Weights _ hf12) rfl (Qbr (rnc (pld Qag) (rnc (.plain _ (NLt.fn _ _ _ nl0 nl0)) rn0))) Qar Qar (.plain _ nll) rfl rfl rfl),trivial⟩<|Qaf ?_
       obtain rfl:=osi h
       exact fend ⟨[B x13],⟨rot,trivial⟩,rfl⟩ nll
      ·refine wx tbk [(2,rp [(.tmp 55,(Qq9 p0))] (I ((p0.Weights.length:Int)))),(3,rp [fu 65,(.tmp 56,(I ((p0.Weights.length:Int)))),ci 1,ci 20] (B x7)),(4,rp [(.tmp 57,B x7)] (B true)),(7,rp [(.tmp 58,B true),fu 108,(.tmp 60,(Qq9 p0)),fu 125] (B x10)),(9,rp [(.tmp 62,B x10)] (B false))] ⟨alm (c:=Qak) (l:=p0.Weights) (aln rfl Tryz.underlying27 rfl),apc (first:=[]) (cap:=[]) (vs:=[(I ((p0.Weights.length:Int))),I 1,I 20]) rfl Qfm (Qbg N (p0.Weights.length:Int) 1 20 _ hf6) rfl rfl (nlcc (nlc nll nl0)) nll rfl,asb hb8 (amv rfl),ag_ (Qas (first:=[]) (cap:=[]) (vs:=[(Qq9 p0),(.fn (.func 125) [] [])]) (σr:=[]) (σr':=[]) (res':=(B x10)) [] rfl Qvq (Qkj N p0.Weights _ hf9) rfl (Qbr (rnc (pld Qag) (rnc (.plain _ (NLt.fn _ _ _ nl0 nl0)) rn0))) Qar Qar (.plain _ nll) rfl rfl rfl),asb hb11 (amv rfl),trivial⟩<|Qaf ?_
       obtain rfl:=osi h
       exact fend ⟨[B false],⟨rot,trivial⟩,rfl⟩ nll
     ·refine wx tbk [(2,rp [(.tmp 55,(Qq9 p0))] (I ((p0.Weights.length:Int)))),(3,rp [fu 65,(.tmp 56,(I ((p0.Weights.length:Int)))),ci 1,ci 20] (B x7)),(4,rp [(.tmp 57,B x7)] (B false))] ⟨alm (c:=Qak) (l:=p0.Weights) (aln rfl Tryz.underlying27 rfl),apc (first:=[]) (cap:=[]) (vs:=[(I ((p0.Weights.length:Int))),I 1,I 20]) rfl Qfm (Qbg N (p0.Weights.length:Int) 1 20 _ hf6) rfl rfl (nlcc (nlc nll nl0)) nll rfl,asb hb8 (amv rfl),trivial⟩<|Qaf ?_
      obtain rfl:=osi h
      exact fend ⟨[B false],⟨rot,trivial⟩,rfl⟩ nll
   ·skip
    refine bfe h (fun hb14 h=>?_) fun hb14 h=>?_
    ·refine wx tbk [(2,rp [(.tmp 24,(Q34 p0))] (I ((p0.From.length:Int)))),(5,rp [(.tmp 27,(B (((p0.From.length:Int) != y1))))] (B true))] ⟨alm (c:=Qat) (l:=p0.From) (aln rfl Tryz.underlying116 rfl),asb hb14 (amv rfl),trivial⟩<|wtr<|wxz<|Qaf<|Qae ?_
     obtain rfl:=osi h
     exact fend ⟨[B false],⟨rot,trivial⟩,rfl⟩ nll
    ·obtain ⟨x16,hf15,h⟩:=bno h
     refine bfe h (fun hb17 h=>?_) fun hb17 h=>?_
     ·refine wx tbk [(2,rp [(.tmp 24,(Q34 p0))] (I ((p0.From.length:Int)))),(5,rp [(.tmp 27,(B (((p0.From.length:Int) != y1))))] (B false)),(9,rp [(.tmp 28,B false),fu 65,(.tmp 30,I p0.Amount),ci 0,(.tmp 31,I y2)] (B x16)),(12,rp [(.tmp 34,(B ((!x16))))] (B true))] ⟨alm (c:=Qat) (l:=p0.From) (aln rfl Tryz.underlying116 rfl),asb hb14 (amv rfl),ag_ (apc (first:=[]) (cap:=[]) (vs:=[I p0.Amount,I 0,I y2]) rfl Qfm (Qbg N p0.Amount 0 y2 _ hf15) rfl rfl (nlcc (nlc nll nl0)) nll rfl),asb hb17 (amv rfl),trivial⟩<|wtr<|wxz<|Qaf<|Qae ?_
      obtain rfl:=osi h
      exact fend ⟨[B false],⟨rot,trivial⟩,rfl⟩ nll
     ·obtain ⟨x19,hf18,h⟩:=bno h
      refine bfe h (fun hb20 h=>?_) fun hb20 h=>?_
      ·refine wx tbk [(2,rp [(.tmp 24,(Q34 p0))] (I ((p0.From.length:Int)))),(5,rp [(.tmp 27,(B (((p0.From.length:Int) != y1))))] (B false)),(9,rp [(.tmp 28,B false),fu 65,(.tmp 30,I p0.Amount),ci 0,(.tmp 31,I y2)] (B x16)),(12,rp [(.tmp 34,(B ((!x16))))] (B false)),(15,rp [(.tmp 35,B false),fu 65,(.tmp 37,I p0.Wide),ci 0,ci 1000000] (B x19)),(18,rp [(.tmp 40,(B ((!x19))))] (B true))] ⟨alm (c:=Qat) (l:=p0.From) (aln rfl Tryz.underlying116 rfl),asb hb14 (amv rfl),ag_ (apc (first:=[]) (cap:=[]) (vs:=[I p0.Amount,I 0,I y2]) rfl Qfm (Qbg N p0.Amount 0 y2 _ hf15) rfl rfl (nlcc (nlc nll nl0)) nll rfl),asb hb17 (amv rfl),ag_ (apc (first:=[]) (cap:=[]) (vs:=[I p0.Wide,I 0,I 1000000]) rfl Qfm (Qbg N p0.Wide 0 1000000 _ hf18) rfl rfl (nlcc (nlc nll nl0)) nll rfl),asb hb20 (amv rfl),trivial⟩<|wtr<|wxz<|Qaf<|Qae ?_
       obtain rfl:=osi h
       exact fend ⟨[B false],⟨rot,trivial⟩,rfl⟩ nll
      ·obtain ⟨x22,hf21,h⟩:=bno h
       refine wx tbk [(2,rp [(.tmp 24,(Q34 p0))] (I ((p0.From.length:Int)))),(5,rp [(.tmp 27,(B (((p0.From.length:Int) != y1))))] (B false)),(9,rp [(.tmp 28,B false),fu 65,(.tmp 30,I p0.Amount),ci 0,(.tmp 31,I y2)] (B x16)),(12,rp [(.tmp 34,(B ((!x16))))] (B false)),(15,rp [(.tmp 35,B false),fu 65,(.tmp 37,I p0.Wide),ci 0,ci 1000000] (B x19)),(18,rp [(.tmp 40,(B ((!x19))))] (B false)),(21,rp [(.tmp 41,B false),fu 65,(.tmp 43,I p0.Narrow),ci 1,ci 1000000000] (B x22))] ⟨alm (c:=Qat) (l:=p0.From) (aln rfl Tryz.underlying116 rfl),asb hb14 (amv rfl),ag_ (apc (first:=[]) (cap:=[]) (vs:=[I p0.Amount,I 0,I y2]) rfl Qfm (Qbg N p0.Amount 0 y2 _ hf15) rfl rfl (nlcc (nlc nll nl0)) nll rfl),asb hb17 (amv rfl),ag_ (apc (first:=[]) (cap:=[]) (vs:=[I p0.Wide,I 0,I 1000000]) rfl Qfm (Qbg N p0.Wide 0 1000000 _ hf18) rfl rfl (nlcc (nlc nll nl0)) nll rfl),asb hb20 (amv rfl),ag_ (apc (first:=[]) (cap:=[]) (vs:=[I p0.Narrow,I 1,I 1000000000]) rfl Qfm (Qbg N p0.Narrow 1 1000000000 _ hf21) rfl rfl (nlcc (nlc nll nl0)) nll rfl),trivial⟩ ?_
       refine bfe h (fun hc23 h=>?_) fun hc23 h=>?_
       ·refine wft hc23<|wxz<|Qaf<|Qae ?_
        obtain rfl:=osi h
        exact fend ⟨[B false],⟨rot,trivial⟩,rfl⟩ nll
       ·exact wfn hc23<|Qan<|thn<|⟨(),h,(mto (n:=68) [(1,.ref 0 7 0 0)] [0] [(Quo p0)] hφ0 (pc (.rn (rqr rfl)) pn) (qc (spb (lc rwl (lc (rnd Qa4) (lcc (lcc (lc (rnd Qag) ln)))))) qn))⟩
  ·skip
   refine wxz<|Qal<|wxz ?_
   refine bfe h (fun hc24 h=>?_) fun hc24 h=>?_
   ·exact wft hc24<|wxz1<|bln<|thn<|⟨(0,0),h,(mto (n:=68) [(1,.ref 0 7 0 0),(3,I 0),(4,I 0)] [0] [(Quo p0)] hφ0 (pc (.rn (rqr rfl)) (pc rwl (pc rwl pn))) (qc (spb (lc rwl (lc (rnd Qa4) (lcc (lcc (lc (rnd Qag) ln)))))) qn))⟩
   ·refine wfn hc24<|wxz ?_
    refine bfe h (fun hc25 h=>?_) fun hc25 h=>?_
    ·refine wft hc25 ?_
     obtain ⟨x26,hl27,h⟩:=bno h
     obtain ⟨x28,hl29,h⟩:=bno h
     refine wx1 tbk [(2,rp [(.tmp 12,(Q34 p0))] (I ((p0.From.length:Int)))),(3,rp [(.tmp 13,(I ((p0.From.length:Int)))),ci 6] (I x26)),(4,rp [ci 1,(.tmp 14,I x26)] (I ((if x26>1 then x26 else 1)))),(5,rp [(.tmp 15,(I ((if x26>1 then x26 else 1))))] (I x28))] ⟨alm (c:=Qat) (l:=p0.From) (aln rfl Tryz.underlying116 rfl),Qjh hl27 (Qsp rfl),Qoy rfl,Qjh hl29 (aas rfl),trivial⟩<|bln<|thn ?_
     exact ⟨(x28,0),h,(mto (n:=68) [(1,.ref 0 7 0 0),(3,I x28),(4,I 0)] [0] [(Quo p0)] hφ0 (pc (.rn (rqr rfl)) (pc rwl (pc rwl pn))) (qc (spb (lc rwl (lc (rnd Qa4) (lcc (lcc (lc (rnd Qag) ln)))))) qn))⟩
    ·refine wfn hc25<|wxz ?_
     refine bfe h (fun hc30 h=>?_) fun hc30 h=>?_
     ·exact wft hc30<|wxz1<|bln<|thn<|⟨(1,1000000000),h,(mto (n:=68) [(1,.ref 0 7 0 0),(3,I 1),(4,I 1000000000)] [0] [(Quo p0)] hφ0 (pc (.rn (rqr rfl)) (pc rwl (pc rwl pn))) (qc (spb (lc rwl (lc (rnd Qa4) (lcc (lcc (lc (rnd Qag) ln)))))) qn))⟩
     ·refine wfn hc30<|wxz ?_
      refine bfe h (fun hc31 h=>?_) fun hc31 h=>?_
      ·exact wft hc31<|wxz1<|bln<|thn<|⟨(1,1000),h,(mto (n:=68) [(1,.ref 0 7 0 0),(3,I 1),(4,I 1000)] [0] [(Quo p0)] hφ0 (pc (.rn (rqr rfl)) (pc rwl (pc rwl pn))) (qc (spb (lc rwl (lc (rnd Qa4) (lcc (lcc (lc (rnd Qag) ln)))))) qn))⟩
      ·refine wfn hc31<|wsq<|wxz ?_
       refine bfe h (fun hc32 h=>?_) fun hc32 h=>?_
       ·exact wft hc32<|Qan<|thn<|wft hc32<|Qan<|bln<|thn<|⟨(1,0),h,(mto (n:=68) [(1,.ref 0 7 0 0),(3,I 1),(4,I 0)] [0] [(Quo p0)] hφ0 (pc (.rn (rqr rfl)) (pc rwl (pc rwl pn))) (qc (spb (lc rwl (lc (rnd Qa4) (lcc (lcc (lc (rnd Qag) ln)))))) qn))⟩
       ·refine wfn hc32<|wxz1<|thn ?_
        refine bfe h (fun hc33 h=>?_) fun hc33 h=>?_
        ·exact wft hc33<|Qan<|bln<|thn<|⟨(1,0),h,(mto (n:=68) [(1,.ref 0 7 0 0),(3,I 1),(4,I 0)] [0] [(Quo p0)] hφ0 (pc (.rn (rqr rfl)) (pc rwl (pc rwl pn))) (qc (spb (lc rwl (lc (rnd Qa4) (lcc (lcc (lc (rnd Qag) ln)))))) qn))⟩
        ·refine wfn hc33<|wxz<|Qaf<|Qam<|Qae ?_
         obtain rfl:=osi h
         exact fend ⟨[B false],⟨rot,trivial⟩,rfl⟩ nll
def Qec (N:Nat) (p0:GElement):Option Bool:=
  (Qfg N p0).bind fun x3=>
  some (!x3)
def Zgo (p0:GElement):AV:=.agg [(K .u8 (p0.Kind)),(.dat 2 ((p0.From:List GPort).map Qat)),(I (p0.Level)),(I (p0.Amount)),(I (p0.Wide)),(I (p0.Narrow)),(.dat 1 ((p0.Weights:List Int).map Qak))]
def Zau:Slot:=.own 1 [[(.fn (.func 102) [] [])]]
theorem Qje (N:Nat) (p0:GElement) (r:Bool) (h:Qec N p0=some r):Spec Tryz.prog 124 [(Zgo p0),(.ref 0 1 (0) 0)] [Zau] (B (r)) [Zau]:=by
  refine Qah Tryz.func124 rfl 1 (nle rfl) (fun X φ0 w0 hφ0 hd0=>?_)
  unfold Qec at h
  refine Qbx<|wxz ?_
  obtain ⟨x3,hf2,h⟩:=bno h
  refine wx tbk [(2,rp [(.tmp 4,(.fn (.func 102) [] [])),(.tmp 5,(Zgo p0))] (B x3))] ⟨apc (first:=[]) (cap:=[]) (vs:=[(Zgo p0)]) rfl Zc3 (Qlz N p0 _ hf2) rfl rfl (nlc (NLt.agg _ (nlc nll (nlc (nld Qa4 _) (nlcc (nlcc (nlc (nld Qag _) nl0)))))) nl0) nll rfl,trivial⟩ ?_
  refine wmr (mto (n:=8) (l':=[(3,(B ((!x3))))]) (own':=[Zau]) [(3,(B ((!x3))))] [0] [Zau] hφ0 (pc rwl pn) (qc (spb (lc (.rn (Qbn rn0 rn0)) ln)) qn))<|Qaf ?_
  obtain rfl:=osi h
  exact ⟨_,Mor.rfl,Qdc (vs:=[(B ((!x3)))]) ⟨rot,trivial⟩ rfl (NLt.of0 nll) (by kernel_rfl) (Qao (Qbd (nlc (NLt.of0 (NLt.fn _ _ _ nl0 nl0)) nl0)) Qbt)⟩
def Qa0 (N:Nat) (p0:(List GElement)) (k2:Unit→Option Int):Nat→Int→Option Int
  | 0,_=>none
  | n5+1,y3=>
    bif (decide (y3<(p0.length:Int))) then
     (getI p0 y3).bind fun x7=>
     (Qec N x7).bind fun x12=>
     bif x12 then
      some y3
     else
      Qa0 N p0 k2 n5 (w64 (y3+1))
    else
     k2 ()
def Qb0 (N:Nat) (p0:(List GElement)):Option Int:=
  Qbp (fun _=>
    some (-1)) fun k2:Unit→Option Int=>
  Qa0 N p0 k2 N 0
def Qy4 (p0:(List GElement)):AV:=.dat 7 ((p0:List GElement).map Qac)
def Q35:AV:=.fn (.func 124) [] [(.ref 0 1 (0) 0)]
def Qm5:Slot:=.own 1 [[(.fn (.func 102) [] [])]]
def Zd6 (x7:GElement):AV:=.agg [(K .u8 (x7.Kind)),(.dat 2 ((x7.From:List GPort).map Qat)),(I (x7.Level)),(I (x7.Amount)),(I (x7.Wide)),(I (x7.Narrow)),(.dat 1 ((x7.Weights:List Int).map Qak))]
theorem Qft (N:Nat) (p0:(List GElement)) (r:Int) (h:Qb0 N p0=some r):Spec Tryz.prog 140 [(Qy4 p0),Q35] [Qm5] (I (r)) [Qm5]:=by
  refine Qah Tryz.func140 rfl 1 (nle rfl) (fun X φ0 w0 hφ0 hd0=>?_)
  unfold Qb0 at h
  refine Qbx<|wxz ?_
  obtain ⟨k2,hk_k2,h⟩:=jko h
  refine wjn (τ:=Unit) (fun t=>k2 t=some r) (fun _=>⟨mk 19 [],[Qm5]⟩) (fun t h=>?_) ?_
  ·subst hk_k2
   refine wxz<|wmr (mto (n:=19) (l':=[(4,(I ((-1))))]) (own':=[Qm5]) [(4,(I ((-1))))] [0] [Qm5] hφ0 (pc rwl pn) (qc (spb (lc (.rn (Qbn rn0 rn0)) ln)) qn))<|Qaf ?_
   obtain rfl:=osi h
   exact ⟨_,Mor.rfl,Qdc (vs:=[(I ((-1)))]) ⟨rot,trivial⟩ rfl (NLt.of0 nll) (by kernel_rfl) (Qao (Qbd (nlc (NLt.of0 (NLt.fn _ _ _ nl0 nl0)) nl0)) Qbt)⟩
  ·skip
   refine wx tbk [(1,rp [(.tmp 6,(Qy4 p0))] (I ((p0.length:Int))))] ⟨alm (c:=Qac) (l:=p0) (aln rfl Tryz.underlying40 rfl),trivial⟩<|Qal ?_
   refine wmr (mto (n:=19) (l':=[(0,(Qy4 p0)),(1,Q35),(7,(I ((p0.length:Int)))),(8,I 0)]) (own':=[Qm5]) [(0,(Qy4 p0)),(1,Q35),(7,(I ((p0.length:Int)))),(8,I 0)] [0] [Qm5] hφ0 (pc (rnd Qaa) (pc (.rn (Qbn rn0 (rnc (rqr rfl) rn0))) (pc rwl (pc rwl pn)))) (qc (spb (lc (.rn (Qbn rn0 rn0)) ln)) qn)) ?_
   refine Qcb (τ:=Int) (fun n t=>Qa0 N p0 k2 n t=some r) (fun y3=>⟨mk 19 [(0,(Qy4 p0)),(1,Q35),(7,(I ((p0.length:Int)))),(8,I y3)],[Qm5]⟩) (fun t h=>by rw [Qa0] at h; cases h) (fun n5 ih y3 h=>?_) N (0) h
   rw [Qa0] at h
   skip
   refine wxz<|wsq ?_
   refine bfe h (fun hc6 h=>?_) fun hc6 h=>?_
   ·refine wft hc6<|Qan<|thn<|wsq<|Qal<|wxz ?_
    obtain ⟨x7,hg8,h⟩:=bno h
    obtain ⟨hi9,hj10⟩:=gsm hg8
    obtain ⟨x12,hf11,h⟩:=bno h
    refine wx tbk [(3,rp [(.tmp 12,(Qy4 p0)),(.tmp 13,I y3)] (.dptr (Qac (x7)) 0)),(5,⟨[(.tmp 11,Q35),(.tmp 15,(Zd6 x7))],[(0,Qm5)],B x12,[(0,Qm5)],false⟩)] ⟨aid rfl Tryz.underlying40 Qip rfl rfl hi9 (mgt Qac hj10) rfl,Qas (first:=[]) (cap:=[.ref 0 1 0 0]) (vs:=[(Zd6 x7)]) (σr:=[Qm5]) (σr':=[Qm5]) (res':=(B x12)) [0] rfl Zco (Qje N x7 _ hf11) rfl (Qbr (rnc (.plain _ (NLt.agg _ (nlc nll (nlc (nld Qa4 _) (nlcc (nlcc (nlc (nld Qag _) nl0))))))) (rnc (Qbj rfl) rn0))) (slc (Qaq (rnc (.plain _ (NLt.fn _ _ _ nl0 nl0)) rn0)) Qar) (slc (Qaq (rnc (.plain _ (NLt.fn _ _ _ nl0 nl0)) rn0)) Qar) (.plain _ nll) rfl rfl rfl,trivial⟩ ?_
    refine bfe h (fun hc13 h=>?_) fun hc13 h=>?_
    ·refine wft hc13<|wxz ?_
     refine wmr (mto (n:=19) (l':=[(4,I y3)]) (own':=[Qm5]) [(4,I y3)] [0] [Qm5] hφ0 (pc rwl pn) (qc (spb (lc (.rn (Qbn rn0 rn0)) ln)) qn))<|Qaf<|Qam<|Qae<|Qae<|Qam<|Qae ?_
     obtain rfl:=osi h
     exact ⟨_,Mor.rfl,Qdc (vs:=[I y3]) ⟨rot,trivial⟩ rfl (NLt.of0 nll) (by kernel_rfl) (Qao (Qbd (nlc (NLt.of0 (NLt.fn _ _ _ nl0 nl0)) nl0)) Qbt)⟩
    ·exact wfn hc13<|Qan<|bln<|thn<|wxz1<|thn<|arm (mto (n:=19) [(0,(Qy4 p0)),(1,Q35),(7,(I ((p0.length:Int)))),(8,(I (w64 (y3+1))))] [0] [Qm5] hφ0 (pc (rnd Qaa) (pc (.rn (Qbn rn0 (rnc (rqr rfl) rn0))) (pc rwl (pc rwl pn)))) (qc (spb (lc (.rn (Qbn rn0 rn0)) ln)) qn)) (ih (w64 (y3+1)) h)
   ·exact wfn hc6<|Qbl<|Qay<|Qay<|Qbk rfl<|thn<|⟨(),h,(mto (n:=19) [] [0] [Qm5] hφ0 pn (qc (spb (lc (.rn (Qbn rn0 rn0)) ln)) qn))⟩
def Qbi (N:Nat) (p0:(List GElement)):Option Bool:=
  (Qb0 N p0).bind fun x3=>
  some (decide (x3≥0))
def Zgq (p0:(List GElement)):AV:=.dat 7 ((p0:List GElement).map Qac)
def Zgp:AV:=.fn (.func 124) [] [(.ref 0 1 (0) 0)]
def Qwl:Slot:=.own 1 [[(.fn (.func 102) [] [])]]
theorem Qfc (N:Nat) (p0:(List GElement)) (r:Bool) (h:Qbi N p0=some r):Spec Tryz.prog 123 [(Zgq p0),Zgp] [Qwl] (B (r)) [Qwl]:=by
  refine Qah Tryz.func123 rfl 1 (nle rfl) (fun X φ0 w0 hφ0 hd0=>?_)
  unfold Qbi at h
  refine Qbx<|wxz ?_
  obtain ⟨x3,hf2,h⟩:=bno h
  refine wx tbk [(2,⟨[fu 140,(.tmp 5,(Zgq p0)),(.tmp 6,Zgp)],[(0,Qwl)],I x3,[(0,Qwl)],false⟩)] ⟨Qas (first:=[]) (cap:=[]) (vs:=[(Zgq p0),Zgp]) (σr:=[Qwl]) (σr':=[Qwl]) (res':=(I x3)) [0] rfl Zce (Qft N p0 _ hf2) rfl (Qbr (rnc (pld Qaa) (rnc (Qbn rn0 (rnc (Qbj rfl) rn0)) rn0))) (slc (Qaq (rnc (.plain _ (NLt.fn _ _ _ nl0 nl0)) rn0)) Qar) (slc (Qaq (rnc (.plain _ (NLt.fn _ _ _ nl0 nl0)) rn0)) Qar) (.plain _ nll) rfl rfl rfl,trivial⟩ ?_
  refine wmr (mto (n:=9) (l':=[(4,(B ((decide (x3≥0)))))]) (own':=[Qwl]) [(4,(B ((decide (x3≥0)))))] [0] [Qwl] hφ0 (pc rwl pn) (qc (spb (lc (.rn (Qbn rn0 rn0)) ln)) qn))<|Qaf ?_
  obtain rfl:=osi h
  exact ⟨_,Mor.rfl,Qdc (vs:=[(B ((decide (x3≥0))))]) ⟨rot,trivial⟩ rfl (NLt.of0 nll) (by kernel_rfl) (Qao (Qbd (nlc (NLt.of0 (NLt.fn _ _ _ nl0 nl0)) nl0)) Qbt)⟩
def Qdv (N:Nat) (p0:(List GElement)):Option Bool:=
  (Qbi N p0).bind fun x2=>
  some (!x2)
def Zgs (p0:(List GElement)):AV:=.dat 7 ((p0:List GElement).map Qac)
def Zgr:AV:=.fn (.func 124) [] [(.ref 0 1 (0) 0)]
def Zav:Slot:=.own 1 [[(.fn (.func 102) [] [])]]
theorem Qj8 (N:Nat) (p0:(List GElement)) (r:Bool) (h:Qdv N p0=some r):Spec Tryz.prog 101 [(Zgs p0),(.fn (.func 102) [] [])] [] (B (r)) []:=by
  refine Qah Tryz.func101 rfl 0 (nle rfl) (fun X φ0 w0 hφ0 hd0=>?_)
  unfold Qdv at h
  refine wxz ?_
  obtain ⟨x2,hf1,h⟩:=bno h
  refine wx tbk [(1,rp [(.tmp 3,.ref 0 1 0 0)] Zgr),(2,⟨[fu 123,(.tmp 5,(Zgs p0)),(.tmp 6,Zgr)],[(0,Zav)],B x2,[(0,Zav)],false⟩)] ⟨Qfn (fs:=[]) (cs:=[.ref 0 1 0 0]) rfl rfl rfl rfl,Qas (first:=[]) (cap:=[]) (vs:=[(Zgs p0),Zgr]) (σr:=[Zav]) (σr':=[Zav]) (res':=(B x2)) [0] rfl Zcp (Qfc N p0 _ hf1) rfl (Qbr (rnc (pld Qaa) (rnc (Qbn rn0 (rnc (Qbj rfl) rn0)) rn0))) (slc (Qaq (rnc (.plain _ (NLt.fn _ _ _ nl0 nl0)) rn0)) Qar) (slc (Qaq (rnc (.plain _ (NLt.fn _ _ _ nl0 nl0)) rn0)) Qar) (.plain _ nll) rfl rfl rfl,trivial⟩<|Qaf ?_
  obtain rfl:=osi h
  exact fend ⟨[(B ((!x2)))],⟨rot,trivial⟩,rfl⟩ nll
def Qdw (_N:Nat) (p0:GElement):Option Int:=
  bif (p0.Kind==4) then
   some 2
  else
   bif (p0.Kind==5) then
    (some (p0.Weights.length:Int)).bind fun x3=>
    some x3
   else
    some 1
def Zkk (p0:GElement):AV:=.dat 1 ((p0.Weights:List Int).map Qak)
theorem Qet (N:Nat) (p0:GElement) (r:Int) (h:Qdw N p0=some r):Spec Tryz.prog 103 [(.agg (Qac p0))] [] (I r) []:=by
  refine Qah Tryz.func103 rfl 0 (nle rfl) (fun X φ0 w0 hφ0 hd0=>?_)
  unfold Qdw at h
  refine wxz<|wsq<|wxz<|Qal<|wxz ?_
  refine bfe h (fun hc1 h=>?_) fun hc1 h=>?_
  ·refine wft hc1<|wxz<|Qaf<|Qam<|Qae ?_
   obtain rfl:=osi h
   exact fend ⟨[I 2],⟨rot,trivial⟩,rfl⟩ nll
  ·refine wfn hc1<|wxz ?_
   refine bfe h (fun hc2 h=>?_) fun hc2 h=>?_
   ·refine wft hc2 ?_
    obtain ⟨x3,hl4,h⟩:=bno h
    refine wx tbk [(2,rp [(.tmp 10,(Zkk p0))] (I ((p0.Weights.length:Int)))),(3,rp [(.tmp 11,(I ((p0.Weights.length:Int))))] (I x3))] ⟨alm (c:=Qak) (l:=p0.Weights) (aln rfl Tryz.underlying27 rfl),Qjh hl4 (aas rfl),trivial⟩<|Qaf<|Qam<|Qae ?_
    obtain rfl:=osi h
    exact fend ⟨[I x3],⟨rot,trivial⟩,rfl⟩ nll
   ·refine wfn hc2<|Qan<|bln<|thn<|wxz<|Qaf ?_
    obtain rfl:=osi h
    exact fend ⟨[I 1],⟨rot,trivial⟩,rfl⟩ nll
def Qdb (N:Nat) (p0:GNet) (y3:Int) (k10:(List (Int×Int))→Option Bool) (x11:GElement):Nat→Int→(List (Int×Int))→Option Bool
  | 0,_,_=>none
  | n22+1,y18,y19=>
    bif (decide (y18<(x11.From.length:Int))) then
     (getI x11.From y18).bind fun x24=>
     (Qcn N x24.Element 0 (w64 (y3 - 1))).bind fun x29=>
     bif (!x29) then
      some false
     else
      (getI p0.Elements x24.Element).bind fun x31=>
      (Qdw N x31).bind fun x36=>
      (Qcn N x24.Outlet 0 (w64 (x36 - 1))).bind fun x38=>
      bif (!x38) then
       some false
      else
       bif y19.contains (x24.Element,x24.Outlet) then
        some false
       else
        bif (decide (x11.Level>x31.Level)) then
         some false
        else
         Qdb N p0 y3 k10 x11 n22 (w64 (y18+1)) (addQ y19 (x24.Element,x24.Outlet))
    else
     k10 (y19)
def Qc1 (N:Nat) (p0:GNet) (k2:Unit→Option Bool):Nat→Int→(List (Int×Int))→Option Bool
  | 0,_,_=>none
  | n7+1,y3,y4=>
    bif (decide (y3<(p0.Elements.length:Int))) then
     Qbp (fun y9=>
       Qc1 N p0 k2 n7 (w64 (y3+1)) y9) fun k10:(List (Int×Int))→Option Bool=>
     (getI p0.Elements y3).bind fun x11=>
     (Qcn N x11.Level 0 (w64 ((p0.Table.length:Int) - 1))).bind fun x16=>
     bif (!x16) then
      some false
     else
      Qdb N p0 y3 k10 x11 N 0 y4
    else
     k2 ()
def Qge (N:Nat) (p0:GNet):Option Bool:=
  Qbp (fun _=>
    Qbp (fun _=>
      some true) fun k2:Unit→Option Bool=>
    Qc1 N p0 k2 N 0 ([]:List (Int×Int))) fun k1:Unit→Option Bool=>
  (Qg1 N p0.Table).bind fun x43=>
  bif (x43 != 0) then
   some false
  else
   (Qcn N (p0.Elements.length:Int) 1 16).bind fun x46=>
   bif (!x46) then
    some false
   else
    (Qdv N p0.Elements).bind fun x49=>
    bif (!x49) then
     some false
    else
     k1 ()
def z9_0 (p0:GNet):AV:=.dat 5 ((p0.Table:List GRow).map Qaw)
def z9_1 (p0:GNet):AV:=.dat 7 ((p0.Elements:List GElement).map Qac)
def z9_2 (p0:GNet):Slot:=.own 2 [[(z9_0 p0),(z9_1 p0)]]
def Qqz (x11:GElement):AV:=.dat 2 ((x11.From:List GPort).map Qat)
def Q0z (x11:GElement):Slot:=.own 7 [[(K .u8 (x11.Kind)),(Qqz x11),(I (x11.Level)),(I (x11.Amount)),(I (x11.Wide)),(I (x11.Narrow)),(.dat 1 ((x11.Weights:List Int).map Qak))]]
def Qs8 (x31:GElement):AV:=.agg [(K .u8 (x31.Kind)),(.dat 2 ((x31.From:List GPort).map Qat)),(I (x31.Level)),(I (x31.Amount)),(I (x31.Wide)),(I (x31.Narrow)),(.dat 1 ((x31.Weights:List Int).map Qak))]
def Q5e (x24:GPort):AV:=.agg [(I (x24.Element)),(I (x24.Outlet))]
theorem Qgs (N:Nat) (p0:GNet) (r:Bool) (h:Qge N p0=some r):Spec Tryz.prog 66 [(.agg (Qhn p0))] [] (B r) []:=by
  refine Qah Tryz.func66 rfl 0 (nle rfl) (fun X φ0 w0 hφ0 hd0=>?_)
  unfold Qge at h
  refine wxz ?_
  obtain ⟨k1,hk_k1,h⟩:=jko h
  refine wjn (τ:=Unit) (fun t=>k1 t=some r) (fun _=>⟨mk 90 [(1,.ref 0 2 0 0)],[(z9_2 p0)]⟩) (fun t h=>?_) ?_
  ·subst hk_k1
   refine wx tbk [(0,⟨[],[(1,.unused)],(.mp 1),[(1,(Qdd ([]:List (Int×Int))))],false⟩)] ⟨Qqa rfl,trivial⟩ ?_
   obtain ⟨k2,hk_k2,h⟩:=jko h
   refine wjn (τ:=Unit) (fun t=>k2 t=some r) (fun _=>⟨mk 90 [],[]⟩) (fun t h=>?_) ?_
   ·subst hk_k2
    refine wxz<|Qaf ?_
    obtain rfl:=osi h
    exact fend ⟨[B true],⟨rot,trivial⟩,rfl⟩ nll
   ·skip
    refine wx tbk [(2,rp [(.tmp 27,(z9_1 p0))] (I ((p0.Elements.length:Int))))] ⟨alm (c:=Qac) (l:=p0.Elements) (aln rfl Tryz.underlying40 rfl),trivial⟩<|Qal ?_
    refine wmr (mto (n:=90) (l':=[(1,.ref 0 2 0 0),(3,(.mp 1)),(27,(z9_1 p0)),(28,(I ((p0.Elements.length:Int)))),(29,I 0)]) (own':=[(z9_2 p0),(Qdd ([]:List (Int×Int)))]) [(1,.ref 0 2 0 0),(3,(.mp 1)),(27,(z9_1 p0)),(28,(I ((p0.Elements.length:Int)))),(29,I 0)] [0,1] [(z9_2 p0),(Qdd ([]:List (Int×Int)))] hφ0 (pc (.rn (rqr rfl)) (pc (.rn (Qhy rfl)) (pc (rnd Qaa) (pc rwl (pc rwl pn))))) (qc (spb (lc (rnd Qai) (lc (rnd Qaa) ln))) (qc Qe2 qn))) ?_
    refine Qcb (τ:=Int×(List (Int×Int))) (fun n t=>Qc1 N p0 k2 n t.1 t.2=some r) (fun ⟨y3,y4⟩=>⟨mk 90 [(1,.ref 0 2 0 0),(3,(.mp 1)),(27,(z9_1 p0)),(28,(I ((p0.Elements.length:Int)))),(29,I y3)],[(z9_2 p0),(Qdd y4)]⟩) (fun t h=>by rw [Qc1] at h; cases h) (fun n7 ih t h=>?_) N (0,([]:List (Int×Int))) h
    obtain ⟨y3,y4⟩:=t
    rw [Qc1] at h
    skip
    refine wxz<|wsq ?_
    refine bfe h (fun hc8 h=>?_) fun hc8 h=>?_
    ·refine wft hc8<|Qan<|thn ?_
     obtain ⟨k10,hk_k10,h⟩:=jko h
     refine wjn (τ:=(List (Int×Int))) (fun t=>k10 t=some r) (fun y9=>⟨mk 90 [(1,.ref 0 2 0 0),(3,(.mp 1)),(27,(z9_1 p0)),(28,(I ((p0.Elements.length:Int)))),(29,I y3)],[(z9_2 p0),(Qdd y9)]⟩) (fun y9 h=>?_) ?_
     ·subst hk_k10
      exact wxz1<|thn<|arm (mto (n:=90) [(1,.ref 0 2 0 0),(3,(.mp 1)),(27,(z9_1 p0)),(28,(I ((p0.Elements.length:Int)))),(29,(I (w64 (y3+1))))] [0,1] [(z9_2 p0),(Qdd y9)] hφ0 (pc (.rn (rqr rfl)) (pc (.rn (Qhy rfl)) (pc (rnd Qaa) (pc rwl (pc rwl pn))))) (qc (spb (lc (rnd Qai) (lc (rnd Qaa) ln))) (qc Qe2 qn))) (ih (w64 (y3+1),y9) h)
     ·skip
      refine Qal ?_
      obtain ⟨x11,hg12,h⟩:=bno h
      obtain ⟨hi13,hj14⟩:=gsm hg12
      refine wx tbk [(1,rp [(.tmp 27,(z9_1 p0)),(.tmp 29,I y3)] (.dptr (Qac (x11)) 0))] ⟨aid rfl Tryz.underlying40 Qip rfl rfl hi13 (mgt Qac hj14) rfl,trivial⟩<|wsq ?_
      obtain ⟨x16,hf15,h⟩:=bno h
      refine wx tbk [(4,rp [(.tmp 37,(z9_0 p0))] (I ((p0.Table.length:Int)))),(6,rp [fu 65,(.tmp 35,I x11.Level),ci 0,(.tmp 39,(I (w64 ((p0.Table.length:Int) - 1))))] (B x16))] ⟨alm (c:=Qaw) (l:=p0.Table) (aln rfl Tryz.underlying39 rfl),apc (first:=[]) (cap:=[]) (vs:=[I x11.Level,I 0,(I (w64 ((p0.Table.length:Int) - 1)))]) rfl Qfm (Qbg N x11.Level 0 (w64 ((p0.Table.length:Int) - 1)) _ hf15) rfl rfl (nlcc (nlc nll nl0)) nll rfl,trivial⟩ ?_
      refine bfe h (fun hc17 h=>?_) fun hc17 h=>?_
      ·refine wft hc17<|wxz<|Qaf<|Qae<|Qam<|Qae<|Qae<|Qam<|Qae ?_
       obtain rfl:=osi h
       exact fend ⟨[B false],⟨rot,trivial⟩,rfl⟩ nll
      ·refine wfn hc17<|Qan<|thn ?_
       refine wx tbk [(2,rp [(.tmp 43,(Qqz x11))] (I ((x11.From.length:Int))))] ⟨alm (c:=Qat) (l:=x11.From) (aln rfl Tryz.underlying116 rfl),trivial⟩<|Qal ?_
       refine wmr (mto (n:=90) (l':=[(1,.ref 0 2 0 0),(3,(.mp 1)),(4,I y3),(5,.ref 2 7 0 0),(27,(z9_1 p0)),(28,(I ((p0.Elements.length:Int)))),(29,I y3),(43,(Qqz x11)),(44,(I ((x11.From.length:Int)))),(45,I 0)]) (own':=[(z9_2 p0),(Qdd y4),(Q0z x11)]) [(1,.ref 0 2 0 0),(3,(.mp 1)),(4,I y3),(5,.ref 2 7 0 0),(27,(z9_1 p0)),(28,(I ((p0.Elements.length:Int)))),(29,I y3),(43,(Qqz x11)),(44,(I ((x11.From.length:Int)))),(45,I 0)] [0,1,2] [(z9_2 p0),(Qdd y4),(Q0z x11)] hφ0 (pc (.rn (rqr rfl)) (pc (.rn (Qhy rfl)) (pc rwl (pc (.rn (rqr rfl)) (pc (rnd Qaa) (pc rwl (pc rwl (pc (rnd Qa4) (pc rwl (pc rwl pn)))))))))) (qc (spb (lc (rnd Qai) (lc (rnd Qaa) ln))) (qc Qe2 (qc (spb (lc rwl (lc (rnd Qa4) (lcc (lcc (lc (rnd Qag) ln)))))) qn)))) ?_
       refine Qcb (τ:=Int×(List (Int×Int))) (fun n t=>Qdb N p0 y3 k10 x11 n t.1 t.2=some r) (fun ⟨y18,y19⟩=>⟨mk 90 [(1,.ref 0 2 0 0),(3,(.mp 1)),(4,I y3),(5,.ref 2 7 0 0),(27,(z9_1 p0)),(28,(I ((p0.Elements.length:Int)))),(29,I y3),(43,(Qqz x11)),(44,(I ((x11.From.length:Int)))),(45,I y18)],[(z9_2 p0),(Qdd y19),(Q0z x11)]⟩) (fun t h=>by rw [Qdb] at h; cases h) (fun n22 ih t h=>?_) N (0,y4) h
       obtain ⟨y18,y19⟩:=t
       rw [Qdb] at h
       skip
       refine wxz<|wsq ?_
       refine bfe h (fun hc23 h=>?_) fun hc23 h=>?_
       ·refine wft hc23<|Qan<|thn<|wsq<|Qal ?_
        obtain ⟨x24,hg25,h⟩:=bno h
        obtain ⟨hi26,hj27⟩:=gsm hg25
        refine wx tbk [(0,rp [(.tmp 43,(Qqz x11)),(.tmp 45,I y18)] (.dptr (Qat (x24)) 0))] ⟨aid rfl Tryz.underlying116 Qkz rfl rfl hi26 (mgt Qat hj27) rfl,trivial⟩<|wsq ?_
        obtain ⟨x29,hf28,h⟩:=bno h
        refine bfe h (fun hb30 h=>?_) fun hb30 h=>?_
        ·refine wxd tbk [(4,rp [fu 65,(.tmp 50,I x24.Element),ci 0,(.tmp 52,(I (w64 (y3 - 1))))] (B x29)),(6,rp [(.tmp 54,(B ((!x29))))] (B true))] ⟨apc (first:=[]) (cap:=[]) (vs:=[I x24.Element,I 0,(I (w64 (y3 - 1)))]) rfl Qfm (Qbg N x24.Element 0 (w64 (y3 - 1)) _ hf28) rfl rfl (nlcc (nlc nll nl0)) nll rfl,asb hb30 (amv rfl),trivial⟩<|wtr<|wxz<|Qaf<|Qae<|Qam<|Qae<|Qae<|Qam<|Qam ?_
         refine Qae<|Qae<|Qam<|Qae ?_
         obtain rfl:=osi h
         exact fend ⟨[B false],⟨rot,trivial⟩,rfl⟩ nll
        ·obtain ⟨x31,hg32,h⟩:=bno h
         obtain ⟨hi33,hj34⟩:=gsm hg32
         obtain ⟨x36,hf35,h⟩:=bno h
         obtain ⟨x38,hf37,h⟩:=bno h
         refine bfe h (fun hb39 h=>?_) fun hb39 h=>?_
         ·refine wxd tbk [(4,rp [fu 65,(.tmp 50,I x24.Element),ci 0,(.tmp 52,(I (w64 (y3 - 1))))] (B x29)),(6,rp [(.tmp 54,(B ((!x29))))] (B false)),(13,rp [(.tmp 55,B false),(.tmp 59,(z9_1 p0)),(.tmp 61,I x24.Element)] (.dptr (Qac (x31)) 0)),(15,rp [(.tmp 55,B false),fu 103,(.tmp 63,(Qs8 x31))] (I x36)),(17,rp [(.tmp 55,B false),fu 65,(.tmp 57,I x24.Outlet),ci 0,(.tmp 65,(I (w64 (x36 - 1))))] (B x38)),(20,rp [(.tmp 68,(B ((!x38))))] (B true))] ⟨apc (first:=[]) (cap:=[]) (vs:=[I x24.Element,I 0,(I (w64 (y3 - 1)))]) rfl Qfm (Qbg N x24.Element 0 (w64 (y3 - 1)) _ hf28) rfl rfl (nlcc (nlc nll nl0)) nll rfl,asb hb30 (amv rfl),ag_ (aid rfl Tryz.underlying40 Qip rfl rfl hi33 (mgt Qac hj34) rfl),ag_ (apc (first:=[]) (cap:=[]) (vs:=[(Qs8 x31)]) rfl Qqy (Qet N x31 _ hf35) rfl rfl (nlc (NLt.agg _ (nlc nll (nlc (nld Qa4 _) (nlcc (nlcc (nlc (nld Qag _) nl0)))))) nl0) nll rfl),ag_ (apc (first:=[]) (cap:=[]) (vs:=[I x24.Outlet,I 0,(I (w64 (x36 - 1)))]) rfl Qfm (Qbg N x24.Outlet 0 (w64 (x36 - 1)) _ hf37) rfl rfl (nlcc (nlc nll nl0)) nll rfl),asb hb39 (amv rfl),trivial⟩<|wtr<|wxz<|Qaf<|Qae<|Qam<|Qae<|Qae<|Qam<|Qam ?_
          refine Qae<|Qae<|Qam<|Qae ?_
          obtain rfl:=osi h
          exact fend ⟨[B false],⟨rot,trivial⟩,rfl⟩ nll
         ·refine bfe h (fun hb40 h=>?_) fun hb40 h=>?_
          ·refine wxd tbk [(4,rp [fu 65,(.tmp 50,I x24.Element),ci 0,(.tmp 52,(I (w64 (y3 - 1))))] (B x29)),(6,rp [(.tmp 54,(B ((!x29))))] (B false)),(13,rp [(.tmp 55,B false),(.tmp 59,(z9_1 p0)),(.tmp 61,I x24.Element)] (.dptr (Qac (x31)) 0)),(15,rp [(.tmp 55,B false),fu 103,(.tmp 63,(Qs8 x31))] (I x36)),(17,rp [(.tmp 55,B false),fu 65,(.tmp 57,I x24.Outlet),ci 0,(.tmp 65,(I (w64 (x36 - 1))))] (B x38)),(20,rp [(.tmp 68,(B ((!x38))))] (B false)),(23,rb [(.tmp 69,B false),(.tmp 70,(.mp 1)),(.tmp 71,(Q5e x24))] [(1,(Qdd y19))] (B (y19.contains (x24.Element,x24.Outlet)))),(25,rp [(.tmp 73,(B (y19.contains (x24.Element,x24.Outlet))))] (B true))] ⟨apc (first:=[]) (cap:=[]) (vs:=[I x24.Element,I 0,(I (w64 (y3 - 1)))]) rfl Qfm (Qbg N x24.Element 0 (w64 (y3 - 1)) _ hf28) rfl rfl (nlcc (nlc nll nl0)) nll rfl,asb hb30 (amv rfl),ag_ (aid rfl Tryz.underlying40 Qip rfl rfl hi33 (mgt Qac hj34) rfl),ag_ (apc (first:=[]) (cap:=[]) (vs:=[(Qs8 x31)]) rfl Qqy (Qet N x31 _ hf35) rfl rfl (nlc (NLt.agg _ (nlc nll (nlc (nld Qa4 _) (nlcc (nlcc (nlc (nld Qag _) nl0)))))) nl0) nll rfl),ag_ (apc (first:=[]) (cap:=[]) (vs:=[I x24.Outlet,I 0,(I (w64 (x36 - 1)))]) rfl Qfm (Qbg N x24.Outlet 0 (w64 (x36 - 1)) _ hf37) rfl rfl (nlcc (nlc nll nl0)) nll rfl),asb hb39 (amv rfl),ag_ (Qkd rfl Tryz.underlying190 Tryz.underlying120 zb4 Qsf Qka),asb hb40 (amv rfl),trivial⟩<|wtr<|wxz<|Qaf<|Qae<|Qam<|Qae<|Qae<|Qam<|Qam ?_
           refine Qae<|Qae<|Qam<|Qae ?_
           obtain rfl:=osi h
           exact fend ⟨[B false],⟨rot,trivial⟩,rfl⟩ nll
          ·refine wxd tbk [(4,rp [fu 65,(.tmp 50,I x24.Element),ci 0,(.tmp 52,(I (w64 (y3 - 1))))] (B x29)),(6,rp [(.tmp 54,(B ((!x29))))] (B false)),(13,rp [(.tmp 55,B false),(.tmp 59,(z9_1 p0)),(.tmp 61,I x24.Element)] (.dptr (Qac (x31)) 0)),(15,rp [(.tmp 55,B false),fu 103,(.tmp 63,(Qs8 x31))] (I x36)),(17,rp [(.tmp 55,B false),fu 65,(.tmp 57,I x24.Outlet),ci 0,(.tmp 65,(I (w64 (x36 - 1))))] (B x38)),(20,rp [(.tmp 68,(B ((!x38))))] (B false)),(23,rb [(.tmp 69,B false),(.tmp 70,(.mp 1)),(.tmp 71,(Q5e x24))] [(1,(Qdd y19))] (B (y19.contains (x24.Element,x24.Outlet)))),(25,rp [(.tmp 73,(B (y19.contains (x24.Element,x24.Outlet))))] (B false)),(32,rp [(.tmp 74,B false),(.tmp 78,(z9_1 p0)),(.tmp 80,I x24.Element)] (.dptr (Qac (x31)) 0))] ⟨apc (first:=[]) (cap:=[]) (vs:=[I x24.Element,I 0,(I (w64 (y3 - 1)))]) rfl Qfm (Qbg N x24.Element 0 (w64 (y3 - 1)) _ hf28) rfl rfl (nlcc (nlc nll nl0)) nll rfl,asb hb30 (amv rfl),ag_ (aid rfl Tryz.underlying40 Qip rfl rfl hi33 (mgt Qac hj34) rfl),ag_ (apc (first:=[]) (cap:=[]) (vs:=[(Qs8 x31)]) rfl Qqy (Qet N x31 _ hf35) rfl rfl (nlc (NLt.agg _ (nlc nll (nlc (nld Qa4 _) (nlcc (nlcc (nlc (nld Qag _) nl0)))))) nl0) nll rfl),ag_ (apc (first:=[]) (cap:=[]) (vs:=[I x24.Outlet,I 0,(I (w64 (x36 - 1)))]) rfl Qfm (Qbg N x24.Outlet 0 (w64 (x36 - 1)) _ hf37) rfl rfl (nlcc (nlc nll nl0)) nll rfl),asb hb39 (amv rfl),ag_ (Qkd rfl Tryz.underlying190 Tryz.underlying120 zb4 Qsf Qka),asb hb40 (amv rfl),ag_ (aid rfl Tryz.underlying40 Qip rfl rfl hi33 (mgt Qac hj34) rfl),trivial⟩ ?_
           refine bfe h (fun hc41 h=>?_) fun hc41 h=>?_
           ·refine wft hc41<|wxz<|Qaf<|Qae<|Qam<|Qae<|Qae<|Qam<|Qam<|Qae ?_
            refine Qae<|Qam<|Qae ?_
            obtain rfl:=osi h
            exact fend ⟨[B false],⟨rot,trivial⟩,rfl⟩ nll
           ·refine wfn hc41<|Qan<|thn ?_
            exact wx1 tbk [(2,⟨[(.tmp 86,(.mp 1)),(.tmp 87,(Q5e x24)),cb true],[(1,(Qdd y19))],.any,[(1,(Qdd (addQ y19 (x24.Element,x24.Outlet))))],false⟩)] ⟨Qso rfl Tryz.underlying190 Tryz.underlying120 Qsf Qka,trivial⟩<|bln<|thn<|wxz1<|thn<|arm (mto (n:=90) [(1,.ref 0 2 0 0),(3,(.mp 1)),(4,I y3),(5,.ref 2 7 0 0),(27,(z9_1 p0)),(28,(I ((p0.Elements.length:Int)))),(29,I y3),(43,(Qqz x11)),(44,(I ((x11.From.length:Int)))),(45,(I (w64 (y18+1))))] [0,1,2] [(z9_2 p0),(Qdd (addQ y19 (x24.Element,x24.Outlet))),(Q0z x11)] hφ0 (pc (.rn (rqr rfl)) (pc (.rn (Qhy rfl)) (pc rwl (pc (.rn (rqr rfl)) (pc (rnd Qaa) (pc rwl (pc rwl (pc (rnd Qa4) (pc rwl (pc rwl pn)))))))))) (qc (spb (lc (rnd Qai) (lc (rnd Qaa) ln))) (qc Qe2 (qc (spb (lc rwl (lc (rnd Qa4) (lcc (lcc (lc (rnd Qag) ln)))))) qn)))) (ih (w64 (y18+1),addQ y19 (x24.Element,x24.Outlet)) h)
       ·exact wfn hc23<|Qbl<|Qay<|Qay<|Qbk rfl<|bln<|thn<|⟨(y19),h,(mto (n:=90) [(1,.ref 0 2 0 0),(3,(.mp 1)),(27,(z9_1 p0)),(28,(I ((p0.Elements.length:Int)))),(29,I y3)] [0,1] [(z9_2 p0),(Qdd y19)] hφ0 (pc (.rn (rqr rfl)) (pc (.rn (Qhy rfl)) (pc (rnd Qaa) (pc rwl (pc rwl pn))))) (qc (spb (lc (rnd Qai) (lc (rnd Qaa) ln))) (qc Qe2 qn)))⟩
    ·exact wfn hc8<|Qbl<|Qay<|Qay<|Qbk rfl<|thn<|⟨(),h,(mto (n:=90) [] [] [] hφ0 pn qn)⟩
  ·skip
   obtain ⟨x43,hf42,h⟩:=bno h
   refine bfe h (fun hb44 h=>?_) fun hb44 h=>?_
   ·refine wx tbk [(2,rp [fu 100,(.tmp 9,(z9_0 p0))] (I x43)),(4,rp [(.tmp 11,(B ((x43 != 0))))] (B true))] ⟨apc (first:=[]) (cap:=[]) (vs:=[(z9_0 p0)]) rfl Qvr (Qg4 N p0.Table _ hf42) rfl rfl (nlc (nld Qai _) nl0) nll rfl,asb hb44 (amv rfl),trivial⟩<|wtr<|wxz<|Qaf<|Qae ?_
    obtain rfl:=osi h
    exact fend ⟨[B false],⟨rot,trivial⟩,rfl⟩ nll
   ·obtain ⟨x46,hf45,h⟩:=bno h
    refine bfe h (fun hb47 h=>?_) fun hb47 h=>?_
    ·refine wx tbk [(2,rp [fu 100,(.tmp 9,(z9_0 p0))] (I x43)),(4,rp [(.tmp 11,(B ((x43 != 0))))] (B false)),(7,rp [(.tmp 12,B false),(.tmp 14,(z9_1 p0))] (I ((p0.Elements.length:Int)))),(8,rp [(.tmp 12,B false),fu 65,(.tmp 15,(I ((p0.Elements.length:Int)))),ci 1,ci 16] (B x46)),(11,rp [(.tmp 18,(B ((!x46))))] (B true))] ⟨apc (first:=[]) (cap:=[]) (vs:=[(z9_0 p0)]) rfl Qvr (Qg4 N p0.Table _ hf42) rfl rfl (nlc (nld Qai _) nl0) nll rfl,asb hb44 (amv rfl),ag_ (alm (c:=Qac) (l:=p0.Elements) (aln rfl Tryz.underlying40 rfl)),ag_ (apc (first:=[]) (cap:=[]) (vs:=[(I ((p0.Elements.length:Int))),I 1,I 16]) rfl Qfm (Qbg N (p0.Elements.length:Int) 1 16 _ hf45) rfl rfl (nlcc (nlc nll nl0)) nll rfl),asb hb47 (amv rfl),trivial⟩<|wtr<|wxz<|Qaf<|Qae ?_
     obtain rfl:=osi h
     exact fend ⟨[B false],⟨rot,trivial⟩,rfl⟩ nll
    ·obtain ⟨x49,hf48,h⟩:=bno h
     refine wx tbk [(2,rp [fu 100,(.tmp 9,(z9_0 p0))] (I x43)),(4,rp [(.tmp 11,(B ((x43 != 0))))] (B false)),(7,rp [(.tmp 12,B false),(.tmp 14,(z9_1 p0))] (I ((p0.Elements.length:Int)))),(8,rp [(.tmp 12,B false),fu 65,(.tmp 15,(I ((p0.Elements.length:Int)))),ci 1,ci 16] (B x46)),(11,rp [(.tmp 18,(B ((!x46))))] (B false)),(14,rp [(.tmp 19,B false),fu 101,(.tmp 21,(z9_1 p0)),fu 102] (B x49))] ⟨apc (first:=[]) (cap:=[]) (vs:=[(z9_0 p0)]) rfl Qvr (Qg4 N p0.Table _ hf42) rfl rfl (nlc (nld Qai _) nl0) nll rfl,asb hb44 (amv rfl),ag_ (alm (c:=Qac) (l:=p0.Elements) (aln rfl Tryz.underlying40 rfl)),ag_ (apc (first:=[]) (cap:=[]) (vs:=[(I ((p0.Elements.length:Int))),I 1,I 16]) rfl Qfm (Qbg N (p0.Elements.length:Int) 1 16 _ hf45) rfl rfl (nlcc (nlc nll nl0)) nll rfl),asb hb47 (amv rfl),ag_ (Qas (first:=[]) (cap:=[]) (vs:=[(z9_1 p0),(.fn (.func 102) [] [])]) (σr:=[]) (σr':=[]) (res':=(B x49)) [] rfl Zc4 (Qj8 N p0.Elements _ hf48) rfl (Qbr (rnc (pld Qaa) (rnc (.plain _ (NLt.fn _ _ _ nl0 nl0)) rn0))) Qar Qar (.plain _ nll) rfl rfl rfl),trivial⟩ ?_
     refine bfe h (fun hc50 h=>?_) fun hc50 h=>?_
     ·refine wft hc50<|wxz<|Qaf<|Qae ?_
      obtain rfl:=osi h
      exact fend ⟨[B false],⟨rot,trivial⟩,rfl⟩ nll
     ·exact wfn hc50<|Qan<|thn<|⟨(),h,(mto (n:=90) [(1,.ref 0 2 0 0)] [0] [(z9_2 p0)] hφ0 (pc (.rn (rqr rfl)) pn) (qc (spb (lc (rnd Qai) (lc (rnd Qaa) ln))) qn))⟩
end Go.Proofs.YtmbhnllcfmiajaaGreat
