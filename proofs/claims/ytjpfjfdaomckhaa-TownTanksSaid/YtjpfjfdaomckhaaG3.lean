/-
  The texts X1, X2 of the proof, one behind the other. No conditions.
-/
import Derived.Test.YtjpfjfdaomckhaaG2
namespace Go.Proofs.Ytjpfjfdaomckhaa
open _root_.Go.Proofs.Try
open Go.RowKit
set_option maxRecDepth 100000
set_option maxHeartbeats 4000000
set_option synthInstance.maxSize 4000
set_option synthInstance.maxHeartbeats 400000
section
def Qct (_N:Nat) (p0 p1 p2:Int):Option Bool:=
  bif (decide (p1≤p0)) then
   some (decide (p0≤p2))
  else
   some false
theorem Qcs (N:Nat) (p0 p1 p2:Int) (r:Bool) (h:Qct N p0 p1 p2=some r):Spec prog 68 [(I p0),(I p1),(I p2)] [] (B r) []:=by
  refine sA func68 0 fun _ _ _ hq hd0=>?_
  unfold Qct at h
  refine wxz ?_
  refine bfe h (fun hb1 h=>?_) fun hb1 h=>?_
  ·refine wx tbk [(3,rp [(.tmp 9,(B ((decide (p1≤p0)))))] (B true))] ⟨asb hb1 (amv rfl),tv⟩<|Qal ?_
   obtain rfl:=osi h
   exact fend ⟨[(B ((decide (p0≤p2))))],⟨rot,tv⟩,rfl⟩ nll
  ·exact wx tbk [(3,rp [(.tmp 9,(B ((decide (p1≤p0)))))] (B false))] ⟨asb hb1 (amv rfl),tv⟩<|Qal<|frb h
def Qej (N:Nat) (p0:Int):Option Bool:=
  (Qct N p0 0 1000000000).bind fun x2=>
  some x2
theorem Qed (N:Nat) (p0:Int) (r:Bool) (h:Qej N p0=some r):Spec prog 93 [(I p0)] [] (B r) []:=by
  refine sA func93 0 fun _ _ _ hq hd0=>?_
  unfold Qej at h
  refine wxz ?_
  obtain⟨x2,hf1,h⟩:=bno h
  exact wx tbk [(1,rp _ _)] ⟨apw Qgj (Qcs N p0 0 1000000000 _ hf1),tv⟩<|Qal<|frb h
def Qb2 (N:Nat) (p0:Qah) (k1:Unit→Option Bool):Nat→Int→Option Bool
  |0,_=>none
  |n7+1,y5=>
    bif (decide (y5<(p0.Stairs.length:Int))) then
     (getI p0.Stairs y5).bind fun x9=>
     (Qct N x9.Amount 1 1000000000).bind fun x14=>
     bif (!x14) then
      some false
     else
      (Qct N x9.Price 0 1000).bind fun x17=>
      bif (!x17) then
       some false
      else
       bif (decide (y5>0)) then
        (getI p0.Stairs (w64 (y5-1))).bind fun x20=>
        bif (decide (x9.Price≤x20.Price)) then
         some false
        else
         Qb2 N p0 k1 n7 (w64 (y5+1))
       else
        Qb2 N p0 k1 n7 (w64 (y5+1))
    else
     k1 ()
def Qel (N:Nat) (p0:Qah):Option Bool:=
  Qco (fun _=>
    (Qej N p0.Use).bind fun x3=>
    bif x3 then
     some (decide ((p0.Stairs.length:Int)≤6))
    else
     some false) fun k1:Unit→Option Bool=>
  Qb2 N p0 k1 N 0
def z9_0 (p0:Qah):AV:=.dat 2 (p0.Stairs.map Qae)
def z9_1 (p0:Qah):Slot:=.own 2 [[(I p0.Use),(z9_0 p0)]]
def Qzk (p0:Qah) (x3:Bool):List (Nat×Rec):=[(2,rp [fu 93,((.tmp 41),(I p0.Use))] (B x3))]
def Qzj (x9:Qaf) (x14:Bool):List (Nat×Rec):=[(2,rp [fu 68,((.tmp 14),(I x9.Amount)),ci 1,ci 1000000000] (B x14))]
def Qwo x9 x14 (x17:Bool):=hcat (Qzj x9 x14) [(4,rp [((.tmp 16),(B ((!x14))))] (B false)),(7,rp [((.tmp 17),(B false)),fu 68,((.tmp 19),(I x9.Price)),ci 0,ci 1000] (B x17))]
theorem Qit (N:Nat) (p0:Qah) (r:Bool) (h:Qel N p0=some r):Spec prog 95 [(.agg (Qaj p0))] [] (B r) []:=by
  refine sA func95 0 fun _ _ _ hq hd0=>?_
  unfold Qel at h
  refine wxz ?_
  obtain⟨k1,hk_k1,h⟩:=jko h
  refine wjn (τ:=Unit) (fun t=>k1 t=some r) (fun _=>⟨mk 49 [(1,.ref 0 2 0 0)],[(z9_1 p0)]⟩) (fun t h=>?_) ?_
  ·subst hk_k1
   obtain⟨x3,hf2,h⟩:=bno h
   refine hpre (A:=(Qzk p0 x3)) ⟨apv Qhz (Qed N p0.Use _ hf2) (nlc nll nl0) nll,tv⟩ fun q1_=>?_
   refine bfe h (fun hb4 h=>?_) fun hb4 h=>?_
   ·refine wx tbk (hcat (Qzk p0 x3) [(3,rp [(.tmp 42,B x3)] (B true)),(6,rp [(.tmp 43,B true),(.tmp 45,(z9_0 p0))] (I ((p0.Stairs.length:Int))))]) (hap q1_ ⟨asb hb4 (amv rfl),ag_ (alq 2 Qae p0.Stairs underlying60),tv⟩)<|Qal ?_
    obtain rfl:=osi h
    exact fend ⟨[(B ((decide ((p0.Stairs.length:Int)≤6))))],⟨rot,tv⟩,rfl⟩ nll
   ·exact wx tbk (hcat (Qzk p0 x3) [(3,rp [(.tmp 42,B x3)] (B false))]) (hap q1_ ⟨asb hb4 (amv rfl),tv⟩)<|Qal<|frb h
  ·skip
   refine wx tbk [(2,rp _ _)] ⟨alq 2 Qae p0.Stairs underlying60,tv⟩<|Qai ?_
   refine wmr (mto (n:=49) (l':=[(1,.ref 0 2 0 0),(6,(z9_0 p0)),(7,(I ((p0.Stairs.length:Int)))),(8,I 0)]) (own':=[(z9_1 p0)]) [(1,.ref 0 2 0 0),(6,(z9_0 p0)),(7,(I ((p0.Stairs.length:Int)))),(8,I 0)] [0] [(z9_1 p0)] hq (prr (pc (rnd Qa0) (pw (pw pn)))) (qb (lc rwl (lc (rnd Qa0) ln)) qn)) ?_
   refine Qb1 (τ:=Int) (fun n t=>Qb2 N p0 k1 n t=some r) (fun y5=>⟨mk 49 [(1,.ref 0 2 0 0),(6,(z9_0 p0)),(7,(I ((p0.Stairs.length:Int)))),(8,I y5)],[(z9_1 p0)]⟩) (fun t h=>by rw[Qb2] at h;cases h) (fun n7 ih y5 h=>?_) N (0) h
   rw[Qb2] at h
   skip
   refine wxz<|wsq ?_
   refine bfe h (fun hc8 h=>?_) fun hc8 h=>?_
   ·refine wft hc8<|Qak<|thn<|wsq<|Qai ?_
    obtain⟨x9,hg10,h⟩:=bno h
    obtain⟨hi11,hj12⟩:=gsm hg10
    refine wx tbk [(1,rp _ _)] ⟨aiq underlying60 ti64 Qae hi11 hj12,tv⟩ ?_
    obtain⟨x14,hf13,h⟩:=bno h
    refine hpre (A:=(Qzj x9 x14)) ⟨apv Qgj (Qcs N x9.Amount 1 1000000000 _ hf13) (nlcc (nlc nll nl0)) nll,tv⟩ fun q2_=>?_
    refine bfe h (fun hb15 h=>?_) fun hb15 h=>?_
    ·exact wxd tbk (hcat (Qzj x9 x14) [(4,rp [(.tmp 16,(B ((!x14))))] (B true))]) (hap q2_ ⟨asb hb15 (amv rfl),tv⟩)<|wtr<|wxz<|Qal<|Qav<|Qam<|Qam<|Qav<|Qam<|frb h
    ·obtain⟨x17,hf16,h⟩:=bno h
     refine hpre (A:=(Qwo x9 x14 x17)) (hap q2_ ⟨asb hb15 (amv rfl),ag_ (apv Qgj (Qcs N x9.Price 0 1000 _ hf16) (nlcc (nlc nll nl0)) nll),tv⟩) fun q3_=>?_
     refine bfe h (fun hb18 h=>?_) fun hb18 h=>?_
     ·exact wxd tbk (hcat (Qwo x9 x14 x17) [(10,rp [(.tmp 22,(B ((!x17))))] (B true))]) (hap q3_ ⟨asb hb18 (amv rfl),tv⟩)<|wtr<|wxz<|Qal<|Qav<|Qam<|Qam<|Qav<|Qam<|frb h
     ·refine bfe h (fun hb19 h=>?_) fun hb19 h=>?_
      ·obtain⟨x20,hg21,h⟩:=bno h
       obtain⟨hi22,hj23⟩:=gsm hg21
       refine wxd tbk (hcat (Qwo x9 x14 x17) [(10,rp [(.tmp 22,(B ((!x17))))] (B false)),(13,rp [(.tmp 23,B false),(.tmp 25,(B ((decide (y5>0)))))] (B true)),(20,rp [(.tmp 26,B true),(.tmp 30,(z9_0 p0)),(.tmp 32,(I (w64 (y5-1))))] (.dptr (Qae x20) 0))]) (hap q3_ ⟨asb hb18 (amv rfl),asb hb19 (ag_ (amv rfl)),ag_ (aiq underlying60 ti64 Qae hi22 hj23),tv⟩) ?_
       refine bfe h (fun hc24 h=>?_) fun hc24 h=>?_
       ·exact wft hc24<|wxz<|Qal<|Qav<|Qam<|Qam<|Qav<|Qam<|frb h
       ·exact wfn hc24<|Qak<|bln<|thn<|wxz1<|thn<|arm (mto (n:=49) [(1,.ref 0 2 0 0),(6,(z9_0 p0)),(7,(I ((p0.Stairs.length:Int)))),(8,(I (w64 (y5+1))))] [0] [(z9_1 p0)] hq (prr (pc (rnd Qa0) (pw (pw pn)))) (qb (lc rwl (lc (rnd Qa0) ln)) qn)) (ih (w64 (y5+1)) h)
      ·exact wxd tbk (hcat (Qwo x9 x14 x17) [(10,rp [(.tmp 22,(B ((!x17))))] (B false)),(13,rp [(.tmp 23,B false),(.tmp 25,(B ((decide (y5>0)))))] (B false))]) (hap q3_ ⟨asb hb18 (amv rfl),asb hb19 (ag_ (amv rfl)),tv⟩)<|wfa<|Qak<|bln<|thn<|wxz1<|thn<|arm (mto (n:=49) [(1,.ref 0 2 0 0),(6,(z9_0 p0)),(7,(I ((p0.Stairs.length:Int)))),(8,(I (w64 (y5+1))))] [0] [(z9_1 p0)] hq (prr (pc (rnd Qa0) (pw (pw pn)))) (qb (lc rwl (lc (rnd Qa0) ln)) qn)) (ih (w64 (y5+1)) h)
   ·exact wfn hc8<|Qaz<|Qao<|Qao<|Qay rfl<|thn<|⟨(),h,(mto (n:=49) [(1,.ref 0 2 0 0)] [0] [(z9_1 p0)] hq (prr pn) (qb (lc rwl (lc (rnd Qa0) ln)) qn))⟩
def Qdp (N:Nat) (p0:Qah):Option Bool:=
  (Qel N p0).bind fun x3=>
  some (!x3)
abbrev z8_2 (p0:Qah):AV:=.agg [(I p0.Use),(.dat 2 (p0.Stairs.map Qae))]
abbrev z8_3:Slot:=.own 1 [[(.fn (.func 95) [] [])]]
theorem Qgl (N:Nat) (p0:Qah) (r:Bool) (h:Qdp N p0=some r):Spec prog 113 [(z8_2 p0),(.ref 0 1 (0) 0)] [z8_3] (B r) [z8_3]:=by
  refine sF func113 1 fun _ _ _ hq hd0=>?_
  unfold Qdp at h
  refine wxz ?_
  obtain⟨x3,hf2,h⟩:=bno h
  refine wx tbk [(2,rp _ _)] ⟨apw Q0r (Qit N p0 _ hf2),tv⟩ ?_
  refine wmr (mto (n:=8) (l':=[(3,(B ((!x3))))]) (own':=[z8_3]) [(3,(B ((!x3))))] [0] [z8_3] hq (pw pn) (qb (lc (.rn (Qau rn0 rn0)) ln) qn))<|Qal ?_
  obtain rfl:=osi h
  exact⟨_,Mor.rfl,fio [(B ((!x3)))] ⟨rot,tv⟩⟩
def Qar (N:Nat) (p0:List Qah) (k2:Unit→Option Int):Nat→Int→Option Int
  |0,_=>none
  |n5+1,y3=>
    bif (decide (y3<(p0.length:Int))) then
     (getI p0 y3).bind fun x7=>
     (Qdp N x7).bind fun x12=>
     bif x12 then
      some y3
     else
      Qar N p0 k2 n5 (w64 (y3+1))
    else
     k2 ()
def Qbv (N:Nat) (p0:List Qah):Option Int:=
  Qco (fun _=>
    some (-1)) fun k2:Unit→Option Int=>
  Qar N p0 k2 N 0
abbrev z7_0 (p0:List Qah):AV:=.dat 2 (p0.map Qaj)
abbrev z7_1:AV:=.fn (.func 113) [] [(.ref 0 1 (0) 0)]
abbrev z7_4:Slot:=.own 1 [[(.fn (.func 95) [] [])]]
theorem Qem (N:Nat) (p0:List Qah) (r:Int) (h:Qbv N p0=some r):Spec prog 118 [(z7_0 p0),z7_1] [z7_4] (I r) [z7_4]:=by
  refine sF func118 1 fun _ _ _ hq hd0=>?_
  unfold Qbv at h
  refine wxz ?_
  obtain⟨k2,hk_k2,h⟩:=jko h
  refine wjn (τ:=Unit) (fun t=>k2 t=some r) (fun _=>⟨mk 19 [],[z7_4]⟩) (fun t h=>?_) ?_
  ·subst hk_k2
   refine wxz<|wmr (mto (n:=19) (l':=[(4,(I ((-1))))]) (own':=[z7_4]) [(4,(I ((-1))))] [0] [z7_4] hq (pw pn) (qb (lc (.rn (Qau rn0 rn0)) ln) qn))<|Qal ?_
   obtain rfl:=osi h
   exact⟨_,Mor.rfl,fio [(I ((-1)))] ⟨rot,tv⟩⟩
  ·skip
   refine wx tbk [(1,rp _ _)] ⟨alq 2 Qaj p0 underlying55,tv⟩<|Qai ?_
   refine wmr (mto (n:=19) (l':=[(0,(z7_0 p0)),(1,z7_1),(7,(I ((p0.length:Int)))),(8,I 0)]) (own':=[z7_4]) [(0,(z7_0 p0)),(1,z7_1),(7,(I ((p0.length:Int)))),(8,I 0)] [0] [z7_4] hq (pc (rnd Qac) (pc (.rn (Qau rn0 (rnc (rqr rfl) rn0))) (pw (pw pn)))) (qb (lc (.rn (Qau rn0 rn0)) ln) qn)) ?_
   refine Qb1 (τ:=Int) (fun n t=>Qar N p0 k2 n t=some r) (fun y3=>⟨mk 19 [(0,(z7_0 p0)),(1,z7_1),(7,(I ((p0.length:Int)))),(8,I y3)],[z7_4]⟩) (fun t h=>by rw[Qar] at h;cases h) (fun n5 ih y3 h=>?_) N (0) h
   rw[Qar] at h
   skip
   refine wxz<|wsq ?_
   refine bfe h (fun hc6 h=>?_) fun hc6 h=>?_
   ·refine wft hc6<|Qak<|thn<|wsq<|Qai<|wxz ?_
    obtain⟨x7,hg8,h⟩:=bno h
    obtain⟨hi9,hj10⟩:=gsm hg8
    obtain⟨x12,hf11,h⟩:=bno h
    refine wx tbk [(3,rp _ _),(5,⟨_,_,_,_,false⟩)] ⟨aiq underlying55 ti62 Qaj hi9 hj10,Qeh (first:=[]) (cap:=[.ref 0 1 0 0]) (vs:=[(.agg [I x7.Use,(.dat 2 (x7.Stairs.map Qae))])]) (σr:=[z7_4]) (σr':=[z7_4]) (res':=(B x12)) [0] rfl Qyb (Qgl N x7 _ hf11) rfl (Qcv (rnc (.plain _ (NLt.agg _ (nlc nll (nlc (nld Qa0 _) nl0)))) (rnc (Qbr rfl) rn0))) (slc (Qan (rnc (.plain _ (NLt.fn _ _ _ nl0 nl0)) rn0)) Qaq) (slc (Qan (rnc (.plain _ (NLt.fn _ _ _ nl0 nl0)) rn0)) Qaq) (.plain _ nll) rfl rfl rfl,tv⟩ ?_
    refine bfe h (fun hc13 h=>?_) fun hc13 h=>?_
    ·refine wft hc13<|wxz ?_
     refine wmr (mto (n:=19) (l':=[(4,I y3)]) (own':=[z7_4]) [(4,I y3)] [0] [z7_4] hq (pw pn) (qb (lc (.rn (Qau rn0 rn0)) ln) qn))<|Qal<|Qav<|Qam<|Qam<|Qav<|Qam ?_
     obtain rfl:=osi h
     exact⟨_,Mor.rfl,fio [I y3] ⟨rot,tv⟩⟩
    ·exact wfn hc13<|Qak<|bln<|thn<|wxz1<|thn<|arm (mto (n:=19) [(0,(z7_0 p0)),(1,z7_1),(7,(I ((p0.length:Int)))),(8,(I (w64 (y3+1))))] [0] [z7_4] hq (pc (rnd Qac) (pc (.rn (Qau rn0 (rnc (rqr rfl) rn0))) (pw (pw pn)))) (qb (lc (.rn (Qau rn0 rn0)) ln) qn)) (ih (w64 (y3+1)) h)
   ·exact wfn hc6<|Qaz<|Qao<|Qao<|Qay rfl<|thn<|⟨(),h,(mto (n:=19) [] [0] [z7_4] hq pn (qb (lc (.rn (Qau rn0 rn0)) ln) qn))⟩
def Qbk (N:Nat) (p0:List Qah):Option Bool:=
  (Qbv N p0).bind fun x3=>
  some (decide (x3≥0))
abbrev z6_1:AV:=.fn (.func 113) [] [(.ref 0 1 (0) 0)]
abbrev z6_2:Slot:=.own 1 [[(.fn (.func 95) [] [])]]
theorem Qd6 (N:Nat) (p0:List Qah) (r:Bool) (h:Qbk N p0=some r):Spec prog 112 [(.dat 2 (p0.map Qaj)),z6_1] [z6_2] (B r) [z6_2]:=by
  refine sF func112 1 fun _ _ _ hq hd0=>?_
  unfold Qbk at h
  refine wxz ?_
  obtain⟨x3,hf2,h⟩:=bno h
  refine wx tbk [(2,⟨_,_,_,_,false⟩)] ⟨acq [(.dat 2 (p0.map Qaj)),z6_1] [z6_2] [z6_2] (I x3) [0] Qx9 (Qem N p0 _ hf2) (Qcv (rnc (pld Qac) (rnc (Qau rn0 (rnc (Qbr rfl) rn0)) rn0))) (slc (Qan (rnc (.plain _ (NLt.fn _ _ _ nl0 nl0)) rn0)) Qaq) (slc (Qan (rnc (.plain _ (NLt.fn _ _ _ nl0 nl0)) rn0)) Qaq) (.plain _ nll),tv⟩ ?_
  refine wmr (mto (n:=9) (l':=[(4,(B ((decide (x3≥0)))))]) (own':=[z6_2]) [(4,(B ((decide (x3≥0)))))] [0] [z6_2] hq (pw pn) (qb (lc (.rn (Qau rn0 rn0)) ln) qn))<|Qal ?_
  obtain rfl:=osi h
  exact⟨_,Mor.rfl,fio [(B ((decide (x3≥0))))] ⟨rot,tv⟩⟩
def Qdh (N:Nat) (p0:List Qah):Option Bool:=
  (Qbk N p0).bind fun x2=>
  some (!x2)
def z5_2:AV:=.fn (.func 113) [] [(.ref 0 1 (0) 0)]
def z5_0:Slot:=.own 1 [[(.fn (.func 95) [] [])]]
theorem Qgw (N:Nat) (p0:List Qah) (r:Bool) (h:Qdh N p0=some r):Spec prog 94 [(.dat 2 (p0.map Qaj)),(.fn (.func 95) [] [])] [] (B r) []:=by
  refine sA func94 0 fun _ _ _ hq hd0=>?_
  unfold Qdh at h
  refine wxz ?_
  obtain⟨x2,hf1,h⟩:=bno h
  refine wx tbk [(1,rp [(.tmp 3,.ref 0 1 0 0)] z5_2),(2,⟨_,_,_,_,false⟩)] ⟨Qfs (fs:=[]) (cs:=[.ref 0 1 0 0]) rfl rfl rfl rfl,acq [(.dat 2 (p0.map Qaj)),z5_2] [z5_0] [z5_0] (B x2) [0] Qyc (Qd6 N p0 _ hf1) (Qcv (rnc (pld Qac) (rnc (Qau rn0 (rnc (Qbr rfl) rn0)) rn0))) (slc (Qan (rnc (.plain _ (NLt.fn _ _ _ nl0 nl0)) rn0)) Qaq) (slc (Qan (rnc (.plain _ (NLt.fn _ _ _ nl0 nl0)) rn0)) Qaq) (.plain _ nll),tv⟩<|Qal ?_
  obtain rfl:=osi h
  exact fend ⟨[(B ((!x2)))],⟨rot,tv⟩,rfl⟩ nll
def Qeu (N:Nat) (p0:GDay):Option Bool:=
  (Qej N p0.Tank).bind fun x2=>
  bif x2 then
   (Qct N p0.Start 0 p0.Tank).bind fun x5=>
   bif x5 then
    (Qct N (p0.Hours.length:Int) 1 24).bind fun x8=>
    bif x8 then
     (Qdh N p0.Hours).bind fun x11=>
     some x11
    else
     some false
   else
    some false
  else
   some false
def z2_3 (p0:GDay) (x2:Bool):List (Nat×Rec):=[(2,rp [fu 93,((.tmp 4),(I p0.Tank))] (B x2))]
def z2_4 p0 x2 (x5:Bool):=hcat (z2_3 p0 x2) [(3,rp [((.tmp 5),(B x2))] (B true)),(8,rp [((.tmp 6),(B true)),fu 68,((.tmp 8),(I p0.Start)),ci 0,((.tmp 10),(I p0.Tank))] (B x5))]
def z2_0 (p0:GDay):AV:=.dat 2 (p0.Hours.map Qaj)
def z2_5 p0 x2 x5 (x8:Bool):=hcat (z2_4 p0 x2 x5) [(10,rp [((.tmp 12),(B x5))] (B true)),(13,rp [((.tmp 13),(B true)),((.tmp 15),(z2_0 p0))] (I ((p0.Hours.length:Int)))),(14,rp [((.tmp 13),(B true)),fu 68,((.tmp 16),(I ((p0.Hours.length:Int)))),ci 1,ci 24] (B x8))]
theorem Qjb (N:Nat) (p0:GDay) (r:Bool) (h:Qeu N p0=some r):Spec prog 55 [(.agg (Qhm p0))] [] (B r) []:=by
  refine sA func55 0 fun _ _ _ hq hd0=>?_
  unfold Qeu at h
  refine wxz ?_
  obtain⟨x2,hf1,h⟩:=bno h
  refine hpre (A:=(z2_3 p0 x2)) ⟨apv Qhz (Qed N p0.Tank _ hf1) (nlc nll nl0) nll,tv⟩ fun q1_=>?_
  refine bfe h (fun hb3 h=>?_) fun hb3 h=>?_
  ·obtain⟨x5,hf4,h⟩:=bno h
   refine hpre (A:=(z2_4 p0 x2 x5)) (hap q1_ ⟨asb hb3 (amv rfl),ag_ (apv Qgj (Qcs N p0.Start 0 p0.Tank _ hf4) (nlcc (nlc nll nl0)) nll),tv⟩) fun q2_=>?_
   refine bfe h (fun hb6 h=>?_) fun hb6 h=>?_
   ·obtain⟨x8,hf7,h⟩:=bno h
    refine hpre (A:=(z2_5 p0 x2 x5 x8)) (hap q2_ ⟨asb hb6 (amv rfl),ag_ (alq 2 Qaj p0.Hours underlying55),ag_ (apv Qgj (Qcs N (p0.Hours.length:Int) 1 24 _ hf7) (nlcc (nlc nll nl0)) nll),tv⟩) fun q3_=>?_
    refine bfe h (fun hb9 h=>?_) fun hb9 h=>?_
    ·obtain⟨x11,hf10,h⟩:=bno h
     refine wx tbk (hcat (z2_5 p0 x2 x5 x8) [(16,rp [(.tmp 18,B x8)] (B true)),(19,rp [(.tmp 19,B true),fu 94,(.tmp 21,(z2_0 p0)),fu 95] (B x11))]) (hap q3_ ⟨asb hb9 (amv rfl),ag_ (acq [(z2_0 p0),(.fn (.func 95) [] [])] [] [] (B x11) [] Q0s (Qgw N p0.Hours _ hf10) (Qcv (rnc (pld Qac) (rnc (.plain _ (NLt.fn _ _ _ nl0 nl0)) rn0))) Qaq Qaq (.plain _ nll)),tv⟩)<|Qal ?_
     exact frb h
    ·exact wx tbk (hcat (z2_5 p0 x2 x5 x8) [(16,rp [(.tmp 18,B x8)] (B false))]) (hap q3_ ⟨asb hb9 (amv rfl),tv⟩)<|Qal<|frb h
   ·exact wx tbk (hcat (z2_4 p0 x2 x5) [(10,rp [(.tmp 12,B x5)] (B false))]) (hap q2_ ⟨asb hb6 (amv rfl),tv⟩)<|Qal<|frb h
  ·exact wx tbk (hcat (z2_3 p0 x2) [(3,rp [(.tmp 5,B x2)] (B false))]) (hap q1_ ⟨asb hb3 (amv rfl),tv⟩)<|Qal<|frb h
def Qcm (N:Nat) (p0:Qah) (k2:Int→Option Int):Nat→Int→Int→Option Int
  |0,_,_=>none
  |n7+1,y3,y4=>
    bif (decide (y4<(p0.Stairs.length:Int))) then
     (getI p0.Stairs y4).bind fun x9=>
     Qcm N p0 k2 n7 (w64 (y3+x9.Amount)) (w64 (y4+1))
    else
     k2 (y3)
def Qek (N:Nat) (p0:Qah):Option Int:=
  Qco (fun y1=>
    some y1) fun k2:Int→Option Int=>
  Qcm N p0 k2 N 0 0
def Qw7 (p0:Qah):AV:=.dat 2 (p0.Stairs.map Qae)
theorem Qis (N:Nat) (p0:Qah) (r:Int) (h:Qek N p0=some r):Spec prog 96 [(.agg (Qaj p0))] [] (I r) []:=by
  refine sA func96 0 fun _ _ _ hq hd0=>?_
  unfold Qek at h
  refine wxz ?_
  obtain⟨k2,hk_k2,h⟩:=jko h
  refine wjn (τ:=Int) (fun t=>k2 t=some r) (fun y1=>⟨mk 18 [(2,I y1)],[]⟩) (fun y1 h=>?_) ?_
  ·subst hk_k2
   refine wxz<|Qal ?_
   obtain rfl:=osi h
   exact fend ⟨[I y1],⟨rot,tv⟩,rfl⟩ nll
  ·skip
   refine wx tbk [(2,rp _ _)] ⟨alq 2 Qae p0.Stairs underlying60,tv⟩<|Qai ?_
   refine wmr (mto (n:=18) (l':=[(2,I 0),(6,(Qw7 p0)),(7,(I ((p0.Stairs.length:Int)))),(8,I 0)]) (own':=[]) [(2,I 0),(6,(Qw7 p0)),(7,(I ((p0.Stairs.length:Int)))),(8,I 0)] [] [] hq (pw (pc (rnd Qa0) (pw (pw pn)))) qn) ?_
   refine Qb1 (τ:=Int×Int) (fun n t=>Qcm N p0 k2 n t.1 t.2=some r) (fun ⟨y3,y4⟩=>⟨mk 18 [(2,I y3),(6,(Qw7 p0)),(7,(I ((p0.Stairs.length:Int)))),(8,I y4)],[]⟩) (fun t h=>by rw[Qcm] at h;cases h) (fun n7 ih t h=>?_) N (0,0) h
   obtain⟨y3,y4⟩:=t
   rw[Qcm] at h
   skip
   refine wxz<|wsq ?_
   refine bfe h (fun hc8 h=>?_) fun hc8 h=>?_
   ·refine wft hc8<|Qak<|thn<|wsq<|Qai ?_
    obtain⟨x9,hg10,h⟩:=bno h
    obtain⟨hi11,hj12⟩:=gsm hg10
    exact wx tbk [(0,rp _ _)] ⟨aiq underlying60 ti64 Qae hi11 hj12,tv⟩<|wxz1<|bln<|thn<|wxz1<|thn<|arm (mto (n:=18) [(2,(I (w64 (y3+x9.Amount)))),(6,(Qw7 p0)),(7,(I ((p0.Stairs.length:Int)))),(8,(I (w64 (y4+1))))] [] [] hq (pw (pc (rnd Qa0) (pw (pw pn)))) qn) (ih (w64 (y3+x9.Amount),w64 (y4+1)) h)
   ·exact wfn hc8<|Qaz<|Qao<|Qao<|Qay rfl<|thn<|⟨(y3),h,(mto (n:=18) [(2,I y3)] [] [] hq (pw pn) qn)⟩
def Qca (N:Nat) (p0:GDay) (k1:Unit→Option (Int×Int)):Nat→Int→Int→Option (Int×Int)
  |0,_,_=>none
  |n6+1,y2,y3=>
    bif (decide (y3<(p0.Hours.length:Int))) then
     (getI p0.Hours y3).bind fun x8=>
     (Qek N x8).bind fun x13=>
     (some (w64 (y2+(w64 (x13-x8.Use))))).bind fun x14=>
     bif (decide (x14<0)) then
      some (y3,w64 (0-x14))
     else
      (some (if p0.Tank<x14 then p0.Tank else x14)).bind fun x17=>
      Qca N p0 k1 n6 x17 (w64 (y3+1))
    else
     k1 ()
def Qev (N:Nat) (p0:GDay):Option (Int×Int):=
  Qco (fun _=>
    some ((-1),0)) fun k1:Unit→Option (Int×Int)=>
  Qca N p0 k1 N p0.Start 0
def Qt9 (p0:GDay):AV:=.dat 2 (p0.Hours.map Qaj)
def Qw8 (p0:GDay):Slot:=.own 3 [[(I p0.Tank),(I p0.Start),(Qt9 p0)]]
theorem Qjc (N:Nat) (p0:GDay) (r:(Int×Int)) (h:Qev N p0=some r):Spec prog 56 [(.agg (Qhm p0))] [] (.tup [(I r.1),(I r.2)]) []:=by
  refine sA func56 0 fun _ _ _ hq hd0=>?_
  unfold Qev at h
  refine wxz<|wxz ?_
  obtain⟨k1,hk_k1,h⟩:=jko h
  refine wjn (τ:=Unit) (fun t=>k1 t=some r) (fun _=>⟨mk 34 [],[]⟩) (fun t h=>?_) ?_
  ·subst hk_k1
   refine wxz<|Qal ?_
   obtain rfl:=osi h
   exact fie [(I ((-1))),I 0] ⟨rot,rot,tv⟩
  ·skip
   refine wx tbk [(2,rp _ _)] ⟨alq 2 Qaj p0.Hours underlying55,tv⟩<|Qai ?_
   refine wmr (mto (n:=34) (l':=[(1,.ref 0 3 0 0),(4,I p0.Start),(10,(Qt9 p0)),(11,(I ((p0.Hours.length:Int)))),(12,I 0)]) (own':=[(Qw8 p0)]) [(1,.ref 0 3 0 0),(4,I p0.Start),(10,(Qt9 p0)),(11,(I ((p0.Hours.length:Int)))),(12,I 0)] [0] [(Qw8 p0)] hq (prr (pw (pc (rnd Qac) (pw (pw pn))))) (qb (lcc (lc (rnd Qac) ln)) qn)) ?_
   refine Qb1 (τ:=Int×Int) (fun n t=>Qca N p0 k1 n t.1 t.2=some r) (fun ⟨y2,y3⟩=>⟨mk 34 [(1,.ref 0 3 0 0),(4,I y2),(10,(Qt9 p0)),(11,(I ((p0.Hours.length:Int)))),(12,I y3)],[(Qw8 p0)]⟩) (fun t h=>by rw[Qca] at h;cases h) (fun n6 ih t h=>?_) N (p0.Start,0) h
   obtain⟨y2,y3⟩:=t
   rw[Qca] at h
   skip
   refine wxz<|wsq ?_
   refine bfe h (fun hc7 h=>?_) fun hc7 h=>?_
   ·refine wft hc7<|Qak<|thn<|wsq<|Qai ?_
    obtain⟨x8,hg9,h⟩:=bno h
    obtain⟨hi10,hj11⟩:=gsm hg9
    refine wx tbk [(1,rp _ _)] ⟨aiq underlying55 ti62 Qaj hi10 hj11,tv⟩ ?_
    obtain⟨x13,hf12,h⟩:=bno h
    obtain⟨x14,hl15,h⟩:=bno h
    refine wxd tbk [(2,rp _ _),(7,rp [(.tmp 23,(I (w64 (y2+(w64 (x13-x8.Use))))))] (I x14))] ⟨apw Q0q (Qis N x8 _ hf12),Qeb hl15 (aas rfl),tv⟩<|wsq<|wxz ?_
    refine bfe h (fun hc16 h=>?_) fun hc16 h=>?_
    ·refine wft hc16<|wxz<|Qal<|Qam<|Qav<|Qam<|Qam<|Qav<|Qam ?_
     obtain rfl:=osi h
     exact fie [I y3,(I (w64 (0-x14)))] ⟨rot,rot,tv⟩
    ·refine wfn hc16<|Qak<|thn ?_
     obtain⟨x17,hl18,h⟩:=bno h
     exact wx1 tbk [(3,rp [(.tmp 29,I x14),(.tmp 31,I p0.Tank)] (I ((if p0.Tank<x14 then p0.Tank else x14)))),(4,rp [(.tmp 32,(I ((if p0.Tank<x14 then p0.Tank else x14))))] (I x17))] ⟨Qg2 rfl,Qeb hl18 (aas rfl),tv⟩<|bln<|thn<|wxz1<|thn<|arm (mto (n:=34) [(1,.ref 0 3 0 0),(4,I x17),(10,(Qt9 p0)),(11,(I ((p0.Hours.length:Int)))),(12,(I (w64 (y3+1))))] [0] [(Qw8 p0)] hq (prr (pw (pc (rnd Qac) (pw (pw pn))))) (qb (lcc (lc (rnd Qac) ln)) qn)) (ih (x17,w64 (y3+1)) h)
   ·exact wfn hc7<|Qaz<|Qao<|Qao<|Qay rfl<|thn<|⟨(),h,(mto (n:=34) [] [] [] hq pn qn)⟩
def Qdf (_N:Nat) (p0 _p1 _p2:Int) (p3:List Qah) (_p4 _p5:Nat) (p6 p7:(Nat→Int)) (_p8 _p9:List Int):Option (Qaf×Bool):=
  chk (decide (0≤p0)&&decide (p0.toNat<24))<|
  (getI p3 p0).bind fun x6=>
  bif ((p6 p0.toNat)==(x6.Stairs.length:Int)) then
   some ((⟨0,0⟩:Qaf),false)
  else
   chk (decide (0≤p0)&&decide (p0.toNat<24))<|
   chk (decide (0≤p0)&&decide (p0.toNat<24))<|
   (getI x6.Stairs (p6 p0.toNat)).bind fun x13=>
   some ((⟨p7 p0.toNat,x13.Price⟩:Qaf),true)
abbrev Qw5 (p3:List Qah):AV:=.dat 2 (p3.map Qaj)
abbrev Qht (p1 p2:Int) (p3:List Qah) (p4 p5:Nat) (p6 p7:(Nat→Int)):Slot:=.own 53 [((I p1)::(I p2)::(Qw5 p3)::(.own 1 1 (0) p4)::(.own 2 1 (0) p5)::(arrF 24 p6++arrF 24 p7))]
theorem Qia (N:Nat) (p0 p1 p2:Int) (p3:List Qah) (p4 p5:Nat) (p6 p7:(Nat→Int)) (p8 p9:List Int) (r:(Qaf×Bool)) (h:Qdf N p0 p1 p2 p3 p4 p5 p6 p7 p8 p9=some r):Spec prog 97 [(.ref 0 53 (0) 0),(I p0)] [(Qht p1 p2 p3 p4 p5 p6 p7),(.own 1 (p8.map Qaa)),(.own 1 (p9.map Qaa))] (.tup [(.agg [(I r.1.Amount),(I r.1.Price)]),(B r.2)]) [(Qht p1 p2 p3 p4 p5 p6 p7),(.own 1 (p8.map Qaa)),(.own 1 (p9.map Qaa)),(.own 2 [[(I r.1.Amount),(I r.1.Price)]])]:=by
  refine sF func97 4 fun _ _ _ hq hd0=>?_
  unfold Qdf at h
  refine wxz<|wsq ?_
  obtain⟨hi5,h⟩:=cko h
  obtain⟨hi5a,hi5b⟩:=Qaw hi5
  obtain⟨x6,hg7,h⟩:=bno h
  obtain⟨hi8,hj9⟩:=gsm hg7
  refine wxd tbk [(2,rb [(.tmp 6,.ref 0 53 0 0)] [(0,(Qht p1 p2 p3 p4 p5 p6 p7))] (.ref 0 53 0 0)),(4,rb [(.tmp 9,.ref 0 53 0 5),(.tmp 7,I p0)] [(0,(Qht p1 p2 p3 p4 p5 p6 p7))] (.ref 0 53 0 (5+p0.toNat*1))),(5,rb [(.tmp 10,(.ref 0 53 0 (5+p0.toNat*1)))] [(0,(Qht p1 p2 p3 p4 p5 p6 p7))] (I (p6 p0.toNat))),(7,rb [(.tmp 12,.ref 0 53 0 0)] [(0,(Qht p1 p2 p3 p4 p5 p6 p7))] (.ref 0 53 0 0)),(12,rp _ _),(15,rp _ _)] ⟨Qbb rfl,Qdz rfl underlying132 ti3 (odt hi5a) (odt hi5b) rfl,ald rfl ti3 (by decide) rfl (Qhk (n:=24) (odt hi5b) (nle rfl)) (Qkg (pre:=[I p1,I p2,(Qw5 p3),(.own 1 1 (0) p4),(.own 2 1 (0) p5)]) (post:=arrF 24 p7) (n:=24) (f:=p6) (by kernel_rfl) rfl (odt hi5b)),Qbb rfl,aiq underlying55 ti62 Qaj hi8 hj9,alq 2 Qae x6.Stairs underlying60,tv⟩ ?_
  refine bfe h (fun hc10 h=>?_) fun hc10 h=>?_
  ·refine wft hc10<|wx tbk [(0,rp _ _)] ⟨Qa2 (vs:=[]) rfl ts64 tz64 rfl (by rfl) rfl,tv⟩ ?_
   refine wmr (mto (n:=49) (l':=[(4,.ref 3 2 0 0),(5,B false)]) (own':=[(Qht p1 p2 p3 p4 p5 p6 p7),(.own 1 (p8.map Qaa)),(.own 1 (p9.map Qaa)),(.own 2 [[(I (((⟨0,0⟩:Qaf).Amount))),(I (((⟨0,0⟩:Qaf).Price)))]])]) [(4,.ref 3 2 0 0),(5,B false)] [0,1,2,3] [(Qht p1 p2 p3 p4 p5 p6 p7),(.own 1 (p8.map Qaa)),(.own 1 (p9.map Qaa)),(.own 2 [[I 0,I 0]])] hq (prr (pw pn)) (qb (lcc (lc (rnd Qac) (lc (.rn (Qag rfl)) (lc (.rn (Qag rfl)) (Qcg (Qat fun _=>rwl) (Qat fun _=>rwl)))))) (qc (spr Qab) (qc (spr Qab) (qb (lcc ln) qn)))))<|Qal<|Qam ?_
   obtain rfl:=osi h
   exact⟨_,Mor.rfl,fio [(.agg [(I ((⟨0,0⟩:Qaf).Amount)),(I ((⟨0,0⟩:Qaf).Price))]),B false] ⟨Qeo (n:=3) (m:=2) (j:=0) (i:=0) (xs:=[[(I ((⟨0,0⟩:Qaf).Amount)),(I ((⟨0,0⟩:Qaf).Price))]]) (by kernel_rfl) (by kernel_rfl) ti64 (by decide) rfl (nle rfl) rfl,rot,tv⟩⟩
  ·refine wfn hc10<|Qak<|thn ?_
   obtain⟨hi11,h⟩:=cko h
   obtain⟨hi11a,hi11b⟩:=Qaw hi11
   obtain⟨hi12,h⟩:=cko h
   obtain⟨hi12a,hi12b⟩:=Qaw hi12
   obtain⟨x13,hg14,h⟩:=bno h
   obtain⟨hi15,hj16⟩:=gsm hg14
   refine wxd tbk [(2,rb [(.tmp 24,.ref 0 53 0 0)] [(0,(Qht p1 p2 p3 p4 p5 p6 p7))] (.ref 0 53 0 0)),(4,rb [(.tmp 27,.ref 0 53 0 29),(.tmp 25,I p0)] [(0,(Qht p1 p2 p3 p4 p5 p6 p7))] (.ref 0 53 0 (29+p0.toNat*1))),(5,rb [(.tmp 28,(.ref 0 53 0 (29+p0.toNat*1)))] [(0,(Qht p1 p2 p3 p4 p5 p6 p7))] (I (p7 p0.toNat))),(7,rb [(.tmp 30,.ref 0 53 0 0)] [(0,(Qht p1 p2 p3 p4 p5 p6 p7))] (.ref 0 53 0 0)),(12,rp _ _),(17,rb [(.tmp 39,.ref 0 53 0 0)] [(0,(Qht p1 p2 p3 p4 p5 p6 p7))] (.ref 0 53 0 0)),(19,rb [(.tmp 42,.ref 0 53 0 5),(.tmp 40,I p0)] [(0,(Qht p1 p2 p3 p4 p5 p6 p7))] (.ref 0 53 0 (5+p0.toNat*1))),(20,rb [(.tmp 43,(.ref 0 53 0 (5+p0.toNat*1)))] [(0,(Qht p1 p2 p3 p4 p5 p6 p7))] (I (p6 p0.toNat))),(21,rp _ _),(24,rp _ _)] ⟨Qbb rfl,Qdz rfl underlying132 ti3 (odt hi11a) (odt hi11b) rfl,ald rfl ti3 (by decide) rfl (Qhk (n:=24) (odt hi11b) (nle rfl)) (Qkg (pre:=((I p1)::(I p2)::(Qw5 p3)::(.own 1 1 (0) p4)::(.own 2 1 (0) p5)::arrF 24 p6)) (post:=[]) (n:=24) (f:=p7) (by kernel_rfl) rfl (odt hi11b)),Qbb rfl,aiq underlying55 ti62 Qaj hi8 hj9,Qbb rfl,Qdz rfl underlying132 ti3 (odt hi12a) (odt hi12b) rfl,ald rfl ti3 (by decide) rfl (Qhk (n:=24) (odt hi12b) (nle rfl)) (Qkg (pre:=[I p1,I p2,(Qw5 p3),(.own 1 1 (0) p4),(.own 2 1 (0) p5)]) (post:=arrF 24 p7) (n:=24) (f:=p6) (by kernel_rfl) rfl (odt hi12b)),aiq underlying60 ti64 Qae hi15 hj16,Qa2 (vs:=[I (p7 p0.toNat),I x13.Price]) rfl ts64 tz64 rfl (by rfl) rfl,tv⟩ ?_
   refine wmr (mto (n:=49) (l':=[(4,.ref 3 2 0 0),(5,B true)]) (own':=[(Qht p1 p2 p3 p4 p5 p6 p7),(.own 1 (p8.map Qaa)),(.own 1 (p9.map Qaa)),(.own 2 [[(I (((⟨p7 p0.toNat,x13.Price⟩:Qaf).Amount))),(I (((⟨p7 p0.toNat,x13.Price⟩:Qaf).Price)))]])]) [(4,.ref 3 2 0 0),(5,B true)] [0,1,2,3] [(Qht p1 p2 p3 p4 p5 p6 p7),(.own 1 (p8.map Qaa)),(.own 1 (p9.map Qaa)),(.own 2 [[I (p7 p0.toNat),I x13.Price]])] hq (prr (pw pn)) (qb (lcc (lc (rnd Qac) (lc (.rn (Qag rfl)) (lc (.rn (Qag rfl)) (Qcg (Qat fun _=>rwl) (Qat fun _=>rwl)))))) (qc (spr Qab) (qc (spr Qab) (qb (lcc ln) qn)))))<|Qal ?_
   obtain rfl:=osi h
   exact⟨_,Mor.rfl,fio [(.agg [(I ((⟨p7 p0.toNat,x13.Price⟩:Qaf).Amount)),(I ((⟨p7 p0.toNat,x13.Price⟩:Qaf).Price))]),B true] ⟨Qeo (n:=3) (m:=2) (j:=0) (i:=0) (xs:=[[(I ((⟨p7 p0.toNat,x13.Price⟩:Qaf).Amount)),(I ((⟨p7 p0.toNat,x13.Price⟩:Qaf).Price))]]) (by kernel_rfl) (by kernel_rfl) ti64 (by decide) rfl (nle rfl) rfl,rot,tv⟩⟩
def Qbs (N:Nat) (p0 p1:Int) (p2 x6:Int) (p7:Nat) (p10:List Int) (y13 y14:(Nat→Int)):Nat→Int→(List Int)→Option ((Nat→Int)×(Nat→Int)×(List Int)×(List Int))
  |0,_,_=>none
  |n20+1,y16,y17=>
    bif (decide (y16<p1)) then
     chk (decide (0≤y16)&&decide (y16.toNat<p7))<|
     (y17[y16.toNat]?).bind fun x23=>
     chk (decide (0≤y16)&&decide (y16.toNat<p7))<|
     (y17[y16.toNat]?).bind fun _=>
     Qbs N p0 p1 p2 x6 p7 p10 y13 y14 n20 (w64 (y16+1)) (y17.set y16.toNat (w64 (x23+p2)))
    else
     some (y13,y14,p10.set p0.toNat (w64 (x6+p2)),y17)
def Qdr (N:Nat) (p0 p1:Int) (p2 _p3 _p4:Int) (p5:List Qah) (p6 p7:Nat) (p8 p9:(Nat→Int)) (p10 p11:List Int):Option ((Nat→Int)×(Nat→Int)×(List Int)×(List Int)):=
  chk (decide (0≤p0)&&decide (p0.toNat<p6))<|
  (p10[p0.toNat]?).bind fun x6=>
  chk (decide (0≤p0)&&decide (p0.toNat<p6))<|
  (p10[p0.toNat]?).bind fun _=>
  chk (decide (0≤p0)&&decide (p0.toNat<24))<|
  chk (decide (0≤p0)&&decide (p0.toNat<24))<|
  Qco (fun ⟨y13,y14⟩=>
    Qbs N p0 p1 p2 x6 p7 p10 y13 y14 N p0 p11) fun k15:(Nat→Int)×(Nat→Int)→Option ((Nat→Int)×(Nat→Int)×(List Int)×(List Int))=>
  chk (decide (0≤p0)&&decide (p0.toNat<24))<|
  bif (((setF p9 p0.toNat (w64 ((p9 p0.toNat)-p2))) p0.toNat)==0) then
   chk (decide (0≤p0)&&decide (p0.toNat<24))<|
   chk (decide (0≤p0)&&decide (p0.toNat<24))<|
   (getI p5 p0).bind fun x32=>
   chk (decide (0≤p0)&&decide (p0.toNat<24))<|
   bif (decide (((setF p8 p0.toNat (w64 ((p8 p0.toNat)+1))) p0.toNat)<(x32.Stairs.length:Int))) then
    chk (decide (0≤p0)&&decide (p0.toNat<24))<|
    (getI x32.Stairs ((setF p8 p0.toNat (w64 ((p8 p0.toNat)+1))) p0.toNat)).bind fun x39=>
    chk (decide (0≤p0)&&decide (p0.toNat<24))<|
    k15 (setF p8 p0.toNat (w64 ((p8 p0.toNat)+1)),setF (setF p9 p0.toNat (w64 ((p9 p0.toNat)-p2))) p0.toNat x39.Amount)
   else
    k15 (setF p8 p0.toNat (w64 ((p8 p0.toNat)+1)),setF p9 p0.toNat (w64 ((p9 p0.toNat)-p2)))
  else
   k15 (p8,setF p9 p0.toNat (w64 ((p9 p0.toNat)-p2)))
abbrev Qim (p5:List Qah):AV:=.dat 2 (p5.map Qaj)
abbrev Qoq (p3 p4:Int) (p5:List Qah) (p6 p7:Nat) (p8 p9:(Nat→Int)):Slot:=.own 53 [((I p3)::(I p4)::(Qim p5)::(.own 1 1 (0) p6)::(.own 2 1 (0) p7)::(arrF 24 p8++arrF 24 p9))]
def Qif (p10:List Int) (p0 x6 p2:Int):Slot:=.own 1 ((p10.set p0.toNat (w64 (x6+p2)):List Int).map Qaa)
def Qk9 (p3 p4:Int) (p5:List Qah) (p6 p7:Nat) (p8 p9:(Nat→Int)) (p0 p2:Int):Slot:=.own 53 [((I p3)::(I p4)::(Qim p5)::(.own 1 1 (0) p6)::(.own 2 1 (0) p7)::(arrF 24 p8++arrF 24 (setF p9 p0.toNat (w64 ((p9 p0.toNat)-p2)))))]
def Qkf (p3 p4:Int) (p5:List Qah) (p6 p7:Nat) (y13 y14:(Nat→Int)):Slot:=.own 53 [((I p3)::(I p4)::(Qim p5)::(.own 1 1 (0) p6)::(.own 2 1 (0) p7)::(arrF 24 y13++arrF 24 y14))]
def Qkr (p3 p4:Int) (p5:List Qah) (p6 p7:Nat) (p8:(Nat→Int)) (p0:Int) (p9:(Nat→Int)) (p2:Int):Slot:=.own 53 [((I p3)::(I p4)::(Qim p5)::(.own 1 1 (0) p6)::(.own 2 1 (0) p7)::(arrF 24 (setF p8 p0.toNat (w64 ((p8 p0.toNat)+1)))++arrF 24 (setF p9 p0.toNat (w64 ((p9 p0.toNat)-p2)))))]
theorem Qh9 (N:Nat) (p0 p1:Int) (p2 p3 p4:Int) (p5:List Qah) (p6 p7:Nat) (p8 p9:(Nat→Int)) (p10 p11:List Int) (r:((Nat→Int)×(Nat→Int)×(List Int)×(List Int))) (h:Qdr N p0 p1 p2 p3 p4 p5 p6 p7 p8 p9 p10 p11=some r):Spec prog 98 [(.ref 0 53 (0) 0),(I p0),(I p1),(I p2)] [(Qoq p3 p4 p5 p6 p7 p8 p9),(.own 1 (p10.map Qaa)),(.own 1 (p11.map Qaa))] (.tup []) [(.own 53 [((I p3)::(I p4)::(Qim p5)::(.own 1 1 (0) p6)::(.own 2 1 (0) p7)::(arrF 24 r.1++arrF 24 r.2.1))]),(.own 1 (r.2.2.1.map Qaa)),(.own 1 (r.2.2.2.map Qaa))]:=by
  refine sF func98 3 fun _ _ _ hq hd0=>?_
  unfold Qdr at h
  obtain⟨hi5,h⟩:=cko h
  obtain⟨hi5a,hi5b⟩:=Qaw hi5
  obtain⟨x6,hg7,h⟩:=bno h
  obtain⟨hi8,h⟩:=cko h
  obtain⟨hi8a,hi8b⟩:=Qaw hi8
  obtain⟨x9,hg10,h⟩:=bno h
  refine wx tbk [(1,rb [(.tmp 10,.ref 0 53 0 0)] [(0,(Qoq p3 p4 p5 p6 p7 p8 p9))] (.ref 0 53 0 0)),(5,rb [(.tmp 13,(.own 1 1 (0) p6)),(.tmp 14,I p0)] [(1,(.own 1 (p10.map Qaa)))] (.ref 1 1 p0.toNat 0)),(6,rb [(.tmp 15,(.ref 1 1 p0.toNat 0))] [(1,(.own 1 (p10.map Qaa)))] (I x6)),(9,rb [(.tmp 13,(.own 1 1 (0) p6)),(.tmp 14,I p0)] [(1,(.own 1 (p10.map Qaa)))] (.ref 1 1 p0.toNat 0)),(10,⟨[(.tmp 19,(.ref 1 1 p0.toNat 0)),(.tmp 18,(I (w64 (x6+p2))))],[(1,(.own 1 (p10.map Qaa)))],.any,[(1,(Qif p10 p0 x6 p2))],false⟩)] ⟨Qbb rfl,aio rfl underlying25 ti3 (odt hi5a) (odt hi5b) (Nat.zero_add _),ald rfl ti3 (by decide) (mgt Qaa hg7) (nle rfl) rfl,aio rfl underlying25 ti3 (odt hi8a) (odt hi8b) (Nat.zero_add _),ast rfl ti3 (by rfl) (mgt Qaa hg10) (nle rfl) (Qd7 Qaa rfl),tv⟩ ?_
  obtain⟨hi11,h⟩:=cko h
  obtain⟨hi11a,hi11b⟩:=Qaw hi11
  obtain⟨hi12,h⟩:=cko h
  obtain⟨hi12a,hi12b⟩:=Qaw hi12
  refine wxd tbk [(2,rb [(.tmp 20,.ref 0 53 0 0)] [(0,(Qoq p3 p4 p5 p6 p7 p8 p9))] (.ref 0 53 0 0)),(4,rb [(.tmp 23,.ref 0 53 0 29),(.tmp 21,I p0)] [(0,(Qoq p3 p4 p5 p6 p7 p8 p9))] (.ref 0 53 0 (29+p0.toNat*1))),(5,rb [(.tmp 24,(.ref 0 53 0 (29+p0.toNat*1)))] [(0,(Qoq p3 p4 p5 p6 p7 p8 p9))] (I (p9 p0.toNat))),(8,rb [(.tmp 20,.ref 0 53 0 0)] [(0,(Qoq p3 p4 p5 p6 p7 p8 p9))] (.ref 0 53 0 0)),(10,rb [(.tmp 29,.ref 0 53 0 29),(.tmp 21,I p0)] [(0,(Qoq p3 p4 p5 p6 p7 p8 p9))] (.ref 0 53 0 (29+p0.toNat*1))),(11,⟨[(.tmp 30,(.ref 0 53 0 (29+p0.toNat*1))),(.tmp 27,(I (w64 ((p9 p0.toNat)-p2))))],[(0,(Qoq p3 p4 p5 p6 p7 p8 p9))],.any,[(0,(Qk9 p3 p4 p5 p6 p7 p8 p9 p0 p2))],false⟩)] ⟨Qbb rfl,Qdz rfl underlying132 ti3 (odt hi11a) (odt hi11b) rfl,ald rfl ti3 (by decide) rfl (Qhk (n:=24) (odt hi11b) (nle rfl)) (Qkg (pre:=((I p3)::(I p4)::(Qim p5)::(.own 1 1 (0) p6)::(.own 2 1 (0) p7)::arrF 24 p8)) (post:=[]) (n:=24) (f:=p9) (by kernel_rfl) rfl (odt hi11b)),Qbb rfl,Qdz rfl underlying132 ti3 (odt hi12a) (odt hi12b) rfl,ast rfl ti3 (by rfl) rfl (Qhk (n:=24) (odt hi12b) (nle rfl)) (Qq6 (pre:=((I p3)::(I p4)::(Qim p5)::(.own 1 1 (0) p6)::(.own 2 1 (0) p7)::arrF 24 p8)) (post:=[]) (n:=24) (f:=p9) (by kernel_rfl) rfl (by kernel_rfl) (odt hi12b)),tv⟩ ?_
  obtain⟨k15,hk_k15,h⟩:=jko h
  refine wjn (τ:=(Nat→Int)×(Nat→Int)) (fun t=>k15 t=some r) (fun ⟨y13,y14⟩=>⟨mk 97 [(0,.ref 0 53 0 0),(1,I p0),(2,I p1),(3,I p2)],[(Qkf p3 p4 p5 p6 p7 y13 y14),(Qif p10 p0 x6 p2),(.own 1 (p11.map Qaa))]⟩) (fun t h=>?_) ?_
  ·subst hk_k15
   obtain⟨y13,y14⟩:=t
   refine wxz<|Qai ?_
   refine wmr (mto (n:=97) (l':=[(0,.ref 0 53 0 0),(2,I p1),(3,I p2),(9,I p0)]) (own':=[(Qkf p3 p4 p5 p6 p7 y13 y14),(Qif p10 p0 x6 p2),(.own 1 (p11.map Qaa))]) [(0,.ref 0 53 0 0),(2,I p1),(3,I p2),(9,I p0)] [0,1,2] [(Qkf p3 p4 p5 p6 p7 y13 y14),(Qif p10 p0 x6 p2),(.own 1 (p11.map Qaa))] hq (prr (pw (pw (pw pn)))) (qb (lcc (lc (rnd Qac) (lc (.rn (Qag rfl)) (lc (.rn (Qag rfl)) (Qcg (Qat fun _=>rwl) (Qat fun _=>rwl)))))) (qc (spr Qab) (qc (spr Qab) qn)))) ?_
   refine Qb1 (τ:=Int×(List Int)) (fun n t=>Qbs N p0 p1 p2 x6 p7 p10 y13 y14 n t.1 t.2=some r) (fun ⟨y16,y17⟩=>⟨mk 97 [(0,.ref 0 53 0 0),(2,I p1),(3,I p2),(9,I y16)],[(Qkf p3 p4 p5 p6 p7 y13 y14),(Qif p10 p0 x6 p2),(.own 1 (y17.map Qaa))]⟩) (fun t h=>by rw[Qbs] at h;cases h) (fun n20 ih t h=>?_) N (p0,p11) h
   obtain⟨y16,y17⟩:=t
   rw[Qbs] at h
   skip
   refine wsq<|wxz ?_
   refine bfe h (fun hc21 h=>?_) fun hc21 h=>?_
   ·refine wft hc21<|Qak<|thn<|wsq<|Qai ?_
    obtain⟨hi22,h⟩:=cko h
    obtain⟨hi22a,hi22b⟩:=Qaw hi22
    obtain⟨x23,hg24,h⟩:=bno h
    obtain⟨hi25,h⟩:=cko h
    obtain⟨hi25a,hi25b⟩:=Qaw hi25
    obtain⟨x26,hg27,h⟩:=bno h
    refine wx1 tbk [(1,rb [(.tmp 87,.ref 0 53 0 0)] [(0,(Qkf p3 p4 p5 p6 p7 y13 y14))] (.ref 0 53 0 0)),(5,rb [(.tmp 90,(.own 2 1 (0) p7)),(.tmp 91,I y16)] [(2,(.own 1 (y17.map Qaa)))] (.ref 2 1 y16.toNat 0)),(6,rb [(.tmp 92,(.ref 2 1 y16.toNat 0))] [(2,(.own 1 (y17.map Qaa)))] (I x23)),(9,rb [(.tmp 90,(.own 2 1 (0) p7)),(.tmp 91,I y16)] [(2,(.own 1 (y17.map Qaa)))] (.ref 2 1 y16.toNat 0)),(10,⟨[(.tmp 96,(.ref 2 1 y16.toNat 0)),(.tmp 95,(I (w64 (x23+p2))))],[(2,(.own 1 (y17.map Qaa)))],.any,[(2,(.own 1 ((y17.set y16.toNat (w64 (x23+p2)):List Int).map Qaa)))],false⟩)] ⟨Qbb rfl,aio rfl underlying25 ti3 (odt hi22a) (odt hi22b) (Nat.zero_add _),ald rfl ti3 (by decide) (mgt Qaa hg24) (nle rfl) rfl,aio rfl underlying25 ti3 (odt hi25a) (odt hi25b) (Nat.zero_add _),ast rfl ti3 (by rfl) (mgt Qaa hg27) (nle rfl) (Qd7 Qaa rfl),tv⟩<|bln<|thn<|wxz1<|thn ?_
    exact arm (mto (n:=97) [(0,.ref 0 53 0 0),(2,I p1),(3,I p2),(9,(I (w64 (y16+1))))] [0,1,2] [(Qkf p3 p4 p5 p6 p7 y13 y14),(Qif p10 p0 x6 p2),(.own 1 ((y17.set y16.toNat (w64 (x23+p2)):List Int).map Qaa))] hq (prr (pw (pw (pw pn)))) (qb (lcc (lc (rnd Qac) (lc (.rn (Qag rfl)) (lc (.rn (Qag rfl)) (Qcg (Qat fun _=>rwl) (Qat fun _=>rwl)))))) (qc (spr Qab) (qc (spr Qab) qn)))) (ih (w64 (y16+1),y17.set y16.toNat (w64 (x23+p2))) h)
   ·refine wfn hc21<|Qaz<|Qao<|Qao<|Qay rfl ?_
    obtain rfl:=osi h
    exact⟨_,(mto (n:=97) (l':=[]) (own':=[(Qkf p3 p4 p5 p6 p7 y13 y14),(.own 1 (((p10.set p0.toNat (w64 (x6+p2))):List Int).map Qaa)),(.own 1 (y17.map Qaa))]) [] [0,1,2] [(Qkf p3 p4 p5 p6 p7 y13 y14),(Qif p10 p0 x6 p2),(.own 1 (y17.map Qaa))] hq pn (qb (lcc (lc (rnd Qac) (lc (.rn (Qag rfl)) (lc (.rn (Qag rfl)) (Qcg (Qat fun _=>rwl) (Qat fun _=>rwl)))))) (qc (spr Qab) (qc (spr Qab) qn)))),fio [] tv⟩
  ·skip
   obtain⟨hi28,h⟩:=cko h
   obtain⟨hi28a,hi28b⟩:=Qaw hi28
   refine wx tbk [(2,rb [(.tmp 31,.ref 0 53 0 0)] [(0,(Qk9 p3 p4 p5 p6 p7 p8 p9 p0 p2))] (.ref 0 53 0 0)),(4,rb [(.tmp 34,.ref 0 53 0 29),(.tmp 32,I p0)] [(0,(Qk9 p3 p4 p5 p6 p7 p8 p9 p0 p2))] (.ref 0 53 0 (29+p0.toNat*1))),(5,rb [(.tmp 35,(.ref 0 53 0 (29+p0.toNat*1)))] [(0,(Qk9 p3 p4 p5 p6 p7 p8 p9 p0 p2))] (I ((setF p9 p0.toNat (w64 ((p9 p0.toNat)-p2))) p0.toNat)))] ⟨Qbb rfl,Qdz rfl underlying132 ti3 (odt hi28a) (odt hi28b) rfl,ald rfl ti3 (by decide) rfl (Qhk (n:=24) (odt hi28b) (nle rfl)) (Qkg (pre:=((I p3)::(I p4)::(Qim p5)::(.own 1 1 (0) p6)::(.own 2 1 (0) p7)::arrF 24 p8)) (post:=[]) (n:=24) (f:=setF p9 p0.toNat (w64 ((p9 p0.toNat)-p2))) (by kernel_rfl) rfl (odt hi28b)),tv⟩ ?_
   refine bfe h (fun hc29 h=>?_) fun hc29 h=>?_
   ·refine wft hc29 ?_
    obtain⟨hi30,h⟩:=cko h
    obtain⟨hi30a,hi30b⟩:=Qaw hi30
    obtain⟨hi31,h⟩:=cko h
    obtain⟨hi31a,hi31b⟩:=Qaw hi31
    refine wxd tbk [(2,rb [(.tmp 38,.ref 0 53 0 0)] [(0,(Qk9 p3 p4 p5 p6 p7 p8 p9 p0 p2))] (.ref 0 53 0 0)),(4,rb [(.tmp 41,.ref 0 53 0 5),(.tmp 39,I p0)] [(0,(Qk9 p3 p4 p5 p6 p7 p8 p9 p0 p2))] (.ref 0 53 0 (5+p0.toNat*1))),(5,rb [(.tmp 42,(.ref 0 53 0 (5+p0.toNat*1)))] [(0,(Qk9 p3 p4 p5 p6 p7 p8 p9 p0 p2))] (I (p8 p0.toNat))),(7,rb [(.tmp 38,.ref 0 53 0 0)] [(0,(Qk9 p3 p4 p5 p6 p7 p8 p9 p0 p2))] (.ref 0 53 0 0)),(9,rb [(.tmp 46,.ref 0 53 0 5),(.tmp 39,I p0)] [(0,(Qk9 p3 p4 p5 p6 p7 p8 p9 p0 p2))] (.ref 0 53 0 (5+p0.toNat*1))),(10,⟨[(.tmp 47,(.ref 0 53 0 (5+p0.toNat*1))),(.tmp 44,(I (w64 ((p8 p0.toNat)+1))))],[(0,(Qk9 p3 p4 p5 p6 p7 p8 p9 p0 p2))],.any,[(0,(Qkr p3 p4 p5 p6 p7 p8 p0 p9 p2))],false⟩)] ⟨Qbb rfl,Qdz rfl underlying132 ti3 (odt hi30a) (odt hi30b) rfl,ald rfl ti3 (by decide) rfl (Qhk (n:=24) (odt hi30b) (nle rfl)) (Qkg (pre:=[I p3,I p4,(Qim p5),(.own 1 1 (0) p6),(.own 2 1 (0) p7)]) (post:=arrF 24 (setF p9 p0.toNat (w64 ((p9 p0.toNat)-p2)))) (n:=24) (f:=p8) (by kernel_rfl) rfl (odt hi30b)),Qbb rfl,Qdz rfl underlying132 ti3 (odt hi31a) (odt hi31b) rfl,ast rfl ti3 (by rfl) rfl (Qhk (n:=24) (odt hi31b) (nle rfl)) (Qq6 (pre:=[I p3,I p4,(Qim p5),(.own 1 1 (0) p6),(.own 2 1 (0) p7)]) (post:=arrF 24 (setF p9 p0.toNat (w64 ((p9 p0.toNat)-p2)))) (n:=24) (f:=p8) (by kernel_rfl) rfl (by kernel_rfl) (odt hi31b)),tv⟩ ?_
    obtain⟨x32,hg33,h⟩:=bno h
    obtain⟨hi34,hj35⟩:=gsm hg33
    refine wx tbk [(1,rb [(.tmp 48,.ref 0 53 0 0)] [(0,(Qkr p3 p4 p5 p6 p7 p8 p0 p9 p2))] (.ref 0 53 0 0)),(6,rp _ _)] ⟨Qbb rfl,aiq underlying55 ti62 Qaj hi34 hj35,tv⟩ ?_
    obtain⟨hi36,h⟩:=cko h
    obtain⟨hi36a,hi36b⟩:=Qaw hi36
    refine wx tbk [(2,rb [(.tmp 57,.ref 0 53 0 0)] [(0,(Qkr p3 p4 p5 p6 p7 p8 p0 p9 p2))] (.ref 0 53 0 0)),(4,rb [(.tmp 60,.ref 0 53 0 5),(.tmp 58,I p0)] [(0,(Qkr p3 p4 p5 p6 p7 p8 p0 p9 p2))] (.ref 0 53 0 (5+p0.toNat*1))),(5,rb [(.tmp 61,(.ref 0 53 0 (5+p0.toNat*1)))] [(0,(Qkr p3 p4 p5 p6 p7 p8 p0 p9 p2))] (I ((setF p8 p0.toNat (w64 ((p8 p0.toNat)+1))) p0.toNat))),(7,rp _ _)] ⟨Qbb rfl,Qdz rfl underlying132 ti3 (odt hi36a) (odt hi36b) rfl,ald rfl ti3 (by decide) rfl (Qhk (n:=24) (odt hi36b) (nle rfl)) (Qkg (pre:=[I p3,I p4,(Qim p5),(.own 1 1 (0) p6),(.own 2 1 (0) p7)]) (post:=arrF 24 (setF p9 p0.toNat (w64 ((p9 p0.toNat)-p2)))) (n:=24) (f:=setF p8 p0.toNat (w64 ((p8 p0.toNat)+1))) (by kernel_rfl) rfl (odt hi36b)),alq 2 Qae x32.Stairs underlying60,tv⟩ ?_
    refine bfe h (fun hc37 h=>?_) fun hc37 h=>?_
    ·refine wft hc37 ?_
     obtain⟨hi38,h⟩:=cko h
     obtain⟨hi38a,hi38b⟩:=Qaw hi38
     obtain⟨x39,hg40,h⟩:=bno h
     obtain⟨hi41,hj42⟩:=gsm hg40
     obtain⟨hi43,h⟩:=cko h
     obtain⟨hi43a,hi43b⟩:=Qaw hi43
     refine wy1 tbk [(5,rb [(.tmp 69,.ref 0 53 0 0)] [(0,(Qkr p3 p4 p5 p6 p7 p8 p0 p9 p2))] (.ref 0 53 0 0)),(7,rb [(.tmp 72,.ref 0 53 0 5),(.tmp 70,I p0)] [(0,(Qkr p3 p4 p5 p6 p7 p8 p0 p9 p2))] (.ref 0 53 0 (5+p0.toNat*1))),(8,rb [(.tmp 73,(.ref 0 53 0 (5+p0.toNat*1)))] [(0,(Qkr p3 p4 p5 p6 p7 p8 p0 p9 p2))] (I ((setF p8 p0.toNat (w64 ((p8 p0.toNat)+1))) p0.toNat))),(9,rp _ _),(12,rb [(.tmp 66,.ref 0 53 0 0)] [(0,(Qkr p3 p4 p5 p6 p7 p8 p0 p9 p2))] (.ref 0 53 0 0)),(14,rb [(.tmp 79,.ref 0 53 0 29),(.tmp 67,I p0)] [(0,(Qkr p3 p4 p5 p6 p7 p8 p0 p9 p2))] (.ref 0 53 0 (29+p0.toNat*1))),(15,⟨[(.tmp 80,(.ref 0 53 0 (29+p0.toNat*1))),(.tmp 77,I x39.Amount)],[(0,(Qkr p3 p4 p5 p6 p7 p8 p0 p9 p2))],.any,[(0,(.own 53 [((I p3)::(I p4)::(Qim p5)::(.own 1 1 (0) p6)::(.own 2 1 (0) p7)::(arrF 24 (setF p8 p0.toNat (w64 ((p8 p0.toNat)+1)))++arrF 24 (setF (setF p9 p0.toNat (w64 ((p9 p0.toNat)-p2))) p0.toNat x39.Amount)))]))],false⟩)] ⟨Qbb rfl,Qdz rfl underlying132 ti3 (odt hi38a) (odt hi38b) rfl,ald rfl ti3 (by decide) rfl (Qhk (n:=24) (odt hi38b) (nle rfl)) (Qkg (pre:=[I p3,I p4,(Qim p5),(.own 1 1 (0) p6),(.own 2 1 (0) p7)]) (post:=arrF 24 (setF p9 p0.toNat (w64 ((p9 p0.toNat)-p2)))) (n:=24) (f:=setF p8 p0.toNat (w64 ((p8 p0.toNat)+1))) (by kernel_rfl) rfl (odt hi38b)),aiq underlying60 ti64 Qae hi41 hj42,Qbb rfl,Qdz rfl underlying132 ti3 (odt hi43a) (odt hi43b) rfl,ast rfl ti3 (by rfl) rfl (Qhk (n:=24) (odt hi43b) (nle rfl)) (Qq6 (pre:=((I p3)::(I p4)::(Qim p5)::(.own 1 1 (0) p6)::(.own 2 1 (0) p7)::arrF 24 (setF p8 p0.toNat (w64 ((p8 p0.toNat)+1))))) (post:=[]) (n:=24) (f:=setF p9 p0.toNat (w64 ((p9 p0.toNat)-p2))) (by kernel_rfl) rfl (by kernel_rfl) (odt hi43b)),tv⟩<|thn ?_
     exact⟨(setF p8 p0.toNat (w64 ((p8 p0.toNat)+1)),setF (setF p9 p0.toNat (w64 ((p9 p0.toNat)-p2))) p0.toNat x39.Amount),h,(mto (n:=97) [(0,.ref 0 53 0 0),(1,I p0),(2,I p1),(3,I p2)] [0,1,2] [(.own 53 [((I p3)::(I p4)::(Qim p5)::(.own 1 1 (0) p6)::(.own 2 1 (0) p7)::(arrF 24 (setF p8 p0.toNat (w64 ((p8 p0.toNat)+1)))++arrF 24 (setF (setF p9 p0.toNat (w64 ((p9 p0.toNat)-p2))) p0.toNat x39.Amount)))]),(Qif p10 p0 x6 p2),(.own 1 (p11.map Qaa))] hq (prr (pw (pw (pw pn)))) (qb (lcc (lc (rnd Qac) (lc (.rn (Qag rfl)) (lc (.rn (Qag rfl)) (Qcg (Qat fun _=>rwl) (Qat fun _=>rwl)))))) (qc (spr Qab) (qc (spr Qab) qn))))⟩
    ·exact wfn hc37<|Qak<|thn<|⟨(setF p8 p0.toNat (w64 ((p8 p0.toNat)+1)),setF p9 p0.toNat (w64 ((p9 p0.toNat)-p2))),h,(mto (n:=97) [(0,.ref 0 53 0 0),(1,I p0),(2,I p1),(3,I p2)] [0,1,2] [(Qkr p3 p4 p5 p6 p7 p8 p0 p9 p2),(Qif p10 p0 x6 p2),(.own 1 (p11.map Qaa))] hq (prr (pw (pw (pw pn)))) (qb (lcc (lc (rnd Qac) (lc (.rn (Qag rfl)) (lc (.rn (Qag rfl)) (Qcg (Qat fun _=>rwl) (Qat fun _=>rwl)))))) (qc (spr Qab) (qc (spr Qab) qn))))⟩
   ·exact wfn hc29<|Qak<|thn<|⟨(p8,setF p9 p0.toNat (w64 ((p9 p0.toNat)-p2))),h,(mto (n:=97) [(0,.ref 0 53 0 0),(1,I p0),(2,I p1),(3,I p2)] [0,1,2] [(Qk9 p3 p4 p5 p6 p7 p8 p9 p0 p2),(Qif p10 p0 x6 p2),(.own 1 (p11.map Qaa))] hq (prr (pw (pw (pw pn)))) (qb (lcc (lc (rnd Qac) (lc (.rn (Qag rfl)) (lc (.rn (Qag rfl)) (Qcg (Qat fun _=>rwl) (Qat fun _=>rwl)))))) (qc (spr Qab) (qc (spr Qab) qn))))⟩
def Qas (N:Nat) (p0 p2 p3:Int) (p4:List Qah) (p5 p6:Nat) (y6 y7:(Nat→Int)) (y8 y9:List Int) (k19:Int×Int→Option ((Nat→Int)×(Nat→Int)×(List Int)×(List Int))):Nat→Int→Int→Int→Int→Int→Option ((Nat→Int)×(Nat→Int)×(List Int)×(List Int))
  |0,_,_,_,_,_=>none
  |n33+1,y23,y24,y25,y26,y27=>
    bif (decide (y27≥0)) then
     Qco (fun y35=>
       bif (y35==0) then
        k19 (y23,y25)
       else
        (Qdf N y27 p2 p3 p4 p5 p6 y6 y7 y8 y9).bind fun x39=>
        bif x39.2 then
         bif (decide (y23<0)) then
          (some (if x39.1.Amount<y35 then x39.1.Amount else y35)).bind fun x42=>
          Qas N p0 p2 p3 p4 p5 p6 y6 y7 y8 y9 k19 n33 y27 x39.1.Price x42 y35 (w64 (y27-1))
         else
          bif (decide (x39.1.Price<y24)) then
           (some (if x39.1.Amount<y35 then x39.1.Amount else y35)).bind fun x45=>
           Qas N p0 p2 p3 p4 p5 p6 y6 y7 y8 y9 k19 n33 y27 x39.1.Price x45 y35 (w64 (y27-1))
          else
           Qas N p0 p2 p3 p4 p5 p6 y6 y7 y8 y9 k19 n33 y23 y24 y25 y35 (w64 (y27-1))
        else
         Qas N p0 p2 p3 p4 p5 p6 y6 y7 y8 y9 k19 n33 y23 y24 y25 y35 (w64 (y27-1))) fun k36:Int→Option ((Nat→Int)×(Nat→Int)×(List Int)×(List Int))=>
     bif (decide (y27<p0)) then
      chk (decide (0≤y27)&&decide (y27.toNat<p6))<|
      (y9[y27.toNat]?).bind fun x49=>
      (some (if (w64 (p2-x49))<y26 then w64 (p2-x49) else y26)).bind fun x51=>
      k36 (x51)
     else
      k36 (y26)
    else
     k19 (y23,y25)
def Qbe (N:Nat) (p0 p2 p3:Int) (p4:List Qah) (p5 p6:Nat):Nat→Int→(Nat→Int)→(Nat→Int)→(List Int)→(List Int)→Option ((Nat→Int)×(Nat→Int)×(List Int)×(List Int))
  |0,_,_,_,_,_=>none
  |n15+1,y5,y6,y7,y8,y9=>
    bif (decide (y5>0)) then
     Qco (fun ⟨y17,y18⟩=>
       bif (decide (y17<0)) then
        some (y6,y7,y8,y9)
       else
        (Qdr N y17 p0 y18 p2 p3 p4 p5 p6 y6 y7 y8 y9).bind fun x22=>
        Qbe N p0 p2 p3 p4 p5 p6 n15 (w64 (y5-y18)) x22.1 x22.2.1 x22.2.2.1 x22.2.2.2) fun k19:Int×Int→Option ((Nat→Int)×(Nat→Int)×(List Int)×(List Int))=>
     Qas N p0 p2 p3 p4 p5 p6 y6 y7 y8 y9 k19 N (-1) 0 0 y5 p0
    else
     some (y6,y7,y8,y9)
def Qd3 (N:Nat) (p0 p1:Int) (p2 p3:Int) (p4:List Qah) (p5 p6:Nat) (p7 p8:(Nat→Int)) (p9 p10:List Int):Option ((Nat→Int)×(Nat→Int)×(List Int)×(List Int)):=
  Qbe N p0 p2 p3 p4 p5 p6 N p1 p7 p8 p9 p10
abbrev Qw6 (p4:List Qah):AV:=.dat 2 (p4.map Qaj)
abbrev Qzt (p2 p3:Int) (p4:List Qah) (p5 p6:Nat) (p7 p8:(Nat→Int)):Slot:=.own 53 [((I p2)::(I p3)::(Qw6 p4)::(.own 1 1 (0) p5)::(.own 2 1 (0) p6)::(arrF 24 p7++arrF 24 p8))]
def Qes (p2 p3:Int) (p4:List Qah) (p5 p6:Nat) (y6 y7:(Nat→Int)):Slot:=.own 53 [((I p2)::(I p3)::(Qw6 p4)::(.own 1 1 (0) p5)::(.own 2 1 (0) p6)::(arrF 24 y6++arrF 24 y7))]
def Qy9 (p2 p3:Int) (p4:List Qah) (p5 p6:Nat) (x22:((Nat→Int)×(Nat→Int)×(List Int)×(List Int))):Slot:=.own 53 [((I p2)::(I p3)::(Qw6 p4)::(.own 1 1 (0) p5)::(.own 2 1 (0) p6)::(arrF 24 x22.1++arrF 24 x22.2.1))]
theorem Qib (N:Nat) (p0 p1:Int) (p2 p3:Int) (p4:List Qah) (p5 p6:Nat) (p7 p8:(Nat→Int)) (p9 p10:List Int) (r:((Nat→Int)×(Nat→Int)×(List Int)×(List Int))) (h:Qd3 N p0 p1 p2 p3 p4 p5 p6 p7 p8 p9 p10=some r):Spec prog 57 [(.ref 0 53 (0) 0),(I p0),(I p1)] [(Qzt p2 p3 p4 p5 p6 p7 p8),(.own 1 (p9.map Qaa)),(.own 1 (p10.map Qaa))] (.tup []) [(.own 53 [((I p2)::(I p3)::(Qw6 p4)::(.own 1 1 (0) p5)::(.own 2 1 (0) p6)::(arrF 24 r.1++arrF 24 r.2.1))]),(.own 1 (r.2.2.1.map Qaa)),(.own 1 (r.2.2.2.map Qaa))]:=by
  refine sF func57 3 fun _ _ _ hq hd0=>?_
  unfold Qd3 at h
  refine Qv6<|wsq<|Qv9<|thn<|Qai ?_
  refine wmr (mto (n:=75) (l':=[(0,.ref 0 53 0 0),(1,I p0),(2,I p1)]) (own':=[(Qzt p2 p3 p4 p5 p6 p7 p8),(.own 1 (p9.map Qaa)),(.own 1 (p10.map Qaa))]) [(0,.ref 0 53 0 0),(1,I p0),(2,I p1)] [0,1,2] [(Qzt p2 p3 p4 p5 p6 p7 p8),(.own 1 (p9.map Qaa)),(.own 1 (p10.map Qaa))] hq (prr (pw (pw pn))) (qb (lcc (lc (rnd Qac) (lc (.rn (Qag rfl)) (lc (.rn (Qag rfl)) (Qcg (Qat fun _=>rwl) (Qat fun _=>rwl)))))) (qc (spr Qab) (qc (spr Qab) qn)))) ?_
  refine Qb1 (τ:=Int×(Nat→Int)×(Nat→Int)×(List Int)×(List Int)) (fun n t=>Qbe N p0 p2 p3 p4 p5 p6 n t.1 t.2.1 t.2.2.1 t.2.2.2.1 t.2.2.2.2=some r) (fun ⟨y5,y6,y7,y8,y9⟩=>⟨mk 75 [(0,.ref 0 53 0 0),(1,I p0),(2,I y5)],[(Qes p2 p3 p4 p5 p6 y6 y7),(.own 1 (y8.map Qaa)),(.own 1 (y9.map Qaa))]⟩) (fun t h=>by rw[Qbe] at h;cases h) (fun n15 ih t h=>?_) N (p1,p7,p8,p9,p10) h
  obtain⟨y5,y6,y7,y8,y9⟩:=t
  rw[Qbe] at h
  skip
  refine wsq<|wxz ?_
  refine bfe h (fun hc16 h=>?_) fun hc16 h=>?_
  ·refine wft hc16<|Qak<|thn<|Qai<|wxz<|wxz ?_
   obtain⟨k19,hk_k19,h⟩:=jko h
   refine wjn (τ:=Int×Int) (fun t=>k19 t=some r) (fun ⟨y17,y18⟩=>⟨mk 75 [(0,.ref 0 53 0 0),(1,I p0),(2,I y5),(6,I y17),(8,I y18)],[(Qes p2 p3 p4 p5 p6 y6 y7),(.own 1 (y8.map Qaa)),(.own 1 (y9.map Qaa))]⟩) (fun t h=>?_) ?_
   ·subst hk_k19
    obtain⟨y17,y18⟩:=t
    refine wsq<|wxz ?_
    refine bfe h (fun hc20 h=>?_) fun hc20 h=>?_
    ·refine wft hc20<|Qaz<|Qao<|Qrr (by decide)<|Qao<|Qay rfl<|Qq9 ?_
     obtain rfl:=osi h
     exact⟨_,(mto (n:=75) (l':=[]) (own':=[(Qes p2 p3 p4 p5 p6 y6 y7),(.own 1 (y8.map Qaa)),(.own 1 (y9.map Qaa))]) [] [0,1,2] [(Qes p2 p3 p4 p5 p6 y6 y7),(.own 1 (y8.map Qaa)),(.own 1 (y9.map Qaa))] hq pn (qb (lcc (lc (rnd Qac) (lc (.rn (Qag rfl)) (lc (.rn (Qag rfl)) (Qcg (Qat fun _=>rwl) (Qat fun _=>rwl)))))) (qc (spr Qab) (qc (spr Qab) qn)))),fio [] tv⟩
    ·refine wfn hc20<|Qak<|thn ?_
     obtain⟨x22,hf21,h⟩:=bno h
     refine wx tbk [(4,⟨_,_,_,_,false⟩)] ⟨acq [.ref 0 53 0 0,I y17,I p0,I y18] [(Qes p2 p3 p4 p5 p6 y6 y7),(.own 1 (y8.map Qaa)),(.own 1 (y9.map Qaa))] [(Qy9 p2 p3 p4 p5 p6 x22),(.own 1 (x22.2.2.1.map Qaa)),(.own 1 (x22.2.2.2.map Qaa))] (.tup []) [0,1,2] Q0o (Qh9 N y17 p0 y18 p2 p3 p4 p5 p6 y6 y7 y8 y9 _ hf21) (Qcv (rnc (Qbr rfl) (rncc (rnc (.plain _ nll) rn0)))) (slc (Qan (rncc (rnc (pld Qac) (rnc (Qd0 rfl) (rnc (Qd0 rfl) (Qcg (Qat fun _=>(.plain _ nll)) (Qat fun _=>(.plain _ nll)))))))) (slc (Qbq Qab) (slc (Qbq Qab) Qaq))) (slc (Qan (rncc (rnc (pld Qac) (rnc (Qge rfl) (rnc (Qge rfl) (Qcg (Qat fun _=>(.plain _ nll)) (Qat fun _=>(.plain _ nll)))))))) (slc (Qbq Qab) (slc (Qbq Qab) Qaq))) (.plain _ (NLt.tup _ nl0)),tv⟩<|wxz1<|bln<|thn ?_
     exact arm (mto (n:=75) [(0,.ref 0 53 0 0),(1,I p0),(2,(I (w64 (y5-y18))))] [0,1,2] [(Qy9 p2 p3 p4 p5 p6 x22),(.own 1 (x22.2.2.1.map Qaa)),(.own 1 (x22.2.2.2.map Qaa))] hq (prr (pw (pw pn))) (qb (lcc (lc (rnd Qac) (lc (.rn (Qag rfl)) (lc (.rn (Qag rfl)) (Qcg (Qat fun _=>rwl) (Qat fun _=>rwl)))))) (qc (spr Qab) (qc (spr Qab) qn)))) (ih (w64 (y5-y18),x22.1,x22.2.1,x22.2.2.1,x22.2.2.2) h)
   ·skip
    refine wxz<|Qai ?_
    refine wmr (mto (n:=75) (l':=[(0,.ref 0 53 0 0),(1,I p0),(2,I y5),(6,(I ((-1)))),(7,I 0),(8,I 0),(9,I y5),(10,I p0)]) (own':=[(Qes p2 p3 p4 p5 p6 y6 y7),(.own 1 (y8.map Qaa)),(.own 1 (y9.map Qaa))]) [(0,.ref 0 53 0 0),(1,I p0),(2,I y5),(6,(I ((-1)))),(7,I 0),(8,I 0),(9,I y5),(10,I p0)] [0,1,2] [(Qes p2 p3 p4 p5 p6 y6 y7),(.own 1 (y8.map Qaa)),(.own 1 (y9.map Qaa))] hq (prr (pw (pw (pw (pw (pw (pw (pw pn)))))))) (qb (lcc (lc (rnd Qac) (lc (.rn (Qag rfl)) (lc (.rn (Qag rfl)) (Qcg (Qat fun _=>rwl) (Qat fun _=>rwl)))))) (qc (spr Qab) (qc (spr Qab) qn)))) ?_
    refine Qb1 (τ:=Int×Int×Int×Int×Int) (fun n t=>Qas N p0 p2 p3 p4 p5 p6 y6 y7 y8 y9 k19 n t.1 t.2.1 t.2.2.1 t.2.2.2.1 t.2.2.2.2=some r) (fun ⟨y23,y24,y25,y26,y27⟩=>⟨mk 75 [(0,.ref 0 53 0 0),(1,I p0),(2,I y5),(6,I y23),(7,I y24),(8,I y25),(9,I y26),(10,I y27)],[(Qes p2 p3 p4 p5 p6 y6 y7),(.own 1 (y8.map Qaa)),(.own 1 (y9.map Qaa))]⟩) (fun t h=>by rw[Qas] at h;cases h) (fun n33 ih t h=>?_) N ((-1),0,0,y5,p0) h
    obtain⟨y23,y24,y25,y26,y27⟩:=t
    rw[Qas] at h
    skip
    refine wsq<|wxz ?_
    refine bfe h (fun hc34 h=>?_) fun hc34 h=>?_
    ·refine wft hc34<|Qak<|thn<|wsq<|Qai ?_
     obtain⟨k36,hk_k36,h⟩:=jko h
     refine wjn (τ:=Int) (fun t=>k36 t=some r) (fun y35=>⟨mk 75 [(0,.ref 0 53 0 0),(1,I p0),(2,I y5),(6,I y23),(7,I y24),(8,I y25),(9,I y35),(10,I y27)],[(Qes p2 p3 p4 p5 p6 y6 y7),(.own 1 (y8.map Qaa)),(.own 1 (y9.map Qaa))]⟩) (fun y35 h=>?_) ?_
     ·subst hk_k36
      refine wsq<|wxz ?_
      refine bfe h (fun hc37 h=>?_) fun hc37 h=>?_
      ·exact wft hc37<|Qaz<|Qao<|Qrr (by decide)<|Qao<|Qao<|Qay rfl<|thn<|⟨(y23,y25),h,(mto (n:=75) [(0,.ref 0 53 0 0),(1,I p0),(2,I y5),(6,I y23),(8,I y25)] [0,1,2] [(Qes p2 p3 p4 p5 p6 y6 y7),(.own 1 (y8.map Qaa)),(.own 1 (y9.map Qaa))] hq (prr (pw (pw (pw (pw pn))))) (qb (lcc (lc (rnd Qac) (lc (.rn (Qag rfl)) (lc (.rn (Qag rfl)) (Qcg (Qat fun _=>rwl) (Qat fun _=>rwl)))))) (qc (spr Qab) (qc (spr Qab) qn))))⟩
      ·refine wfn hc37<|Qak<|thn ?_
       obtain⟨x39,hf38,h⟩:=bno h
       refine wx tbk [(2,⟨_,_,_,_,false⟩)] ⟨acq [.ref 0 53 0 0,I y27] [(Qes p2 p3 p4 p5 p6 y6 y7),(.own 1 (y8.map Qaa)),(.own 1 (y9.map Qaa))] [(Qes p2 p3 p4 p5 p6 y6 y7),(.own 1 (y8.map Qaa)),(.own 1 (y9.map Qaa)),(.own 2 [[I x39.1.Amount,I x39.1.Price]])] (.tup [(.agg [I x39.1.Amount,I x39.1.Price]),B x39.2]) [0,1,2,3] Q0p (Qia N y27 p2 p3 p4 p5 p6 y6 y7 y8 y9 _ hf38) (Qcv (rnc (Qbr rfl) (rnc (.plain _ nll) rn0))) (slc (Qan (rncc (rnc (pld Qac) (rnc (Qd0 rfl) (rnc (Qd0 rfl) (Qcg (Qat fun _=>(.plain _ nll)) (Qat fun _=>(.plain _ nll)))))))) (slc (Qbq Qab) (slc (Qbq Qab) Qaq))) (slc (Qan (rncc (rnc (pld Qac) (rnc (Qge rfl) (rnc (Qge rfl) (Qcg (Qat fun _=>(.plain _ nll)) (Qat fun _=>(.plain _ nll)))))))) (slc (Qbq Qab) (slc (Qbq Qab) (slc (Qan (rncc rn0)) Qaq)))) (.plain _ (NLt.tup _ (nlc (NLt.agg _ (nlcc nl0)) (nlc nll nl0)))),tv⟩ ?_
       refine bfe h (fun hb40 h=>?_) fun hb40 h=>?_
       ·refine bfe h (fun hb41 h=>?_) fun hb41 h=>?_
        ·refine wx tbk [(1,rp [(.tmp 47,B x39.2)] (B true)),(4,rp [(.tmp 48,B true),(.tmp 50,(B ((decide (y23<0)))))] (B true))] ⟨asb hb40 (amv rfl),asb hb41 (ag_ (amv rfl)),tv⟩<|wtr ?_
         obtain⟨x42,hl43,h⟩:=bno h
         exact wy1 tbk [(6,rp [(.tmp 61,I y35),(.tmp 63,I x39.1.Amount)] (I ((if x39.1.Amount<y35 then x39.1.Amount else y35)))),(9,rp [(.tmp 64,(I ((if x39.1.Amount<y35 then x39.1.Amount else y35))))] (I x42))] ⟨Qg2 rfl,Qeb hl43 (aas rfl),tv⟩<|bln<|thn<|wxz1<|thn<|arm (mto (n:=75) [(0,.ref 0 53 0 0),(1,I p0),(2,I y5),(6,I y27),(7,I x39.1.Price),(8,I x42),(9,I y35),(10,(I (w64 (y27-1))))] [0,1,2] [(Qes p2 p3 p4 p5 p6 y6 y7),(.own 1 (y8.map Qaa)),(.own 1 (y9.map Qaa))] hq (prr (pw (pw (pw (pw (pw (pw (pw pn)))))))) (qb (lcc (lc (rnd Qac) (lc (.rn (Qag rfl)) (lc (.rn (Qag rfl)) (Qcg (Qat fun _=>rwl) (Qat fun _=>rwl)))))) (qc (spr Qab) (qc (spr Qab) qn)))) (ih (y27,x39.1.Price,x42,y35,w64 (y27-1)) h)
        ·refine wx tbk [(1,rp [(.tmp 47,B x39.2)] (B true)),(4,rp [(.tmp 48,B true),(.tmp 50,(B ((decide (y23<0)))))] (B false))] ⟨asb hb40 (amv rfl),asb hb41 (ag_ (amv rfl)),tv⟩ ?_
         refine bfe h (fun hc44 h=>?_) fun hc44 h=>?_
         ·refine wft hc44 ?_
          obtain⟨x45,hl46,h⟩:=bno h
          exact wy1 tbk [(6,rp [(.tmp 61,I y35),(.tmp 63,I x39.1.Amount)] (I ((if x39.1.Amount<y35 then x39.1.Amount else y35)))),(9,rp [(.tmp 64,(I ((if x39.1.Amount<y35 then x39.1.Amount else y35))))] (I x45))] ⟨Qg2 rfl,Qeb hl46 (aas rfl),tv⟩<|bln<|thn<|wxz1<|thn<|arm (mto (n:=75) [(0,.ref 0 53 0 0),(1,I p0),(2,I y5),(6,I y27),(7,I x39.1.Price),(8,I x45),(9,I y35),(10,(I (w64 (y27-1))))] [0,1,2] [(Qes p2 p3 p4 p5 p6 y6 y7),(.own 1 (y8.map Qaa)),(.own 1 (y9.map Qaa))] hq (prr (pw (pw (pw (pw (pw (pw (pw pn)))))))) (qb (lcc (lc (rnd Qac) (lc (.rn (Qag rfl)) (lc (.rn (Qag rfl)) (Qcg (Qat fun _=>rwl) (Qat fun _=>rwl)))))) (qc (spr Qab) (qc (spr Qab) qn)))) (ih (y27,x39.1.Price,x45,y35,w64 (y27-1)) h)
         ·exact wfn hc44<|Qak<|bln<|thn<|wxz1<|thn<|arm (mto (n:=75) [(0,.ref 0 53 0 0),(1,I p0),(2,I y5),(6,I y23),(7,I y24),(8,I y25),(9,I y35),(10,(I (w64 (y27-1))))] [0,1,2] [(Qes p2 p3 p4 p5 p6 y6 y7),(.own 1 (y8.map Qaa)),(.own 1 (y9.map Qaa))] hq (prr (pw (pw (pw (pw (pw (pw (pw pn)))))))) (qb (lcc (lc (rnd Qac) (lc (.rn (Qag rfl)) (lc (.rn (Qag rfl)) (Qcg (Qat fun _=>rwl) (Qat fun _=>rwl)))))) (qc (spr Qab) (qc (spr Qab) qn)))) (ih (y23,y24,y25,y35,w64 (y27-1)) h)
       ·exact wx tbk [(1,rp [(.tmp 47,B x39.2)] (B false))] ⟨asb hb40 (amv rfl),tv⟩<|wfa<|Qak<|bln<|thn<|wxz1<|thn<|arm (mto (n:=75) [(0,.ref 0 53 0 0),(1,I p0),(2,I y5),(6,I y23),(7,I y24),(8,I y25),(9,I y35),(10,(I (w64 (y27-1))))] [0,1,2] [(Qes p2 p3 p4 p5 p6 y6 y7),(.own 1 (y8.map Qaa)),(.own 1 (y9.map Qaa))] hq (prr (pw (pw (pw (pw (pw (pw (pw pn)))))))) (qb (lcc (lc (rnd Qac) (lc (.rn (Qag rfl)) (lc (.rn (Qag rfl)) (Qcg (Qat fun _=>rwl) (Qat fun _=>rwl)))))) (qc (spr Qab) (qc (spr Qab) qn)))) (ih (y23,y24,y25,y35,w64 (y27-1)) h)
     ·skip
      refine wxz ?_
      refine bfe h (fun hc47 h=>?_) fun hc47 h=>?_
      ·refine wft hc47 ?_
       obtain⟨hi48,h⟩:=cko h
       obtain⟨hi48a,hi48b⟩:=Qaw hi48
       obtain⟨x49,hg50,h⟩:=bno h
       obtain⟨x51,hl52,h⟩:=bno h
       refine wy1 tbk [(2,rb [(.tmp 25,.ref 0 53 0 0)] [(0,(Qes p2 p3 p4 p5 p6 y6 y7))] (.ref 0 53 0 0)),(7,rb [(.tmp 30,.ref 0 53 0 0)] [(0,(Qes p2 p3 p4 p5 p6 y6 y7))] (.ref 0 53 0 0)),(11,rb [(.tmp 33,(.own 2 1 (0) p6)),(.tmp 34,I y27)] [(2,(.own 1 (y9.map Qaa)))] (.ref 2 1 y27.toNat 0)),(12,rb [(.tmp 35,(.ref 2 1 y27.toNat 0))] [(2,(.own 1 (y9.map Qaa)))] (I x49)),(14,rp [(.tmp 24,I y26),(.tmp 37,(I (w64 (p2-x49))))] (I ((if (w64 (p2-x49))<y26 then w64 (p2-x49) else y26)))),(15,rp [(.tmp 38,(I ((if (w64 (p2-x49))<y26 then w64 (p2-x49) else y26))))] (I x51))] ⟨Qbb rfl,Qbb rfl,aio rfl underlying25 ti3 (odt hi48a) (odt hi48b) (Nat.zero_add _),ald rfl ti3 (by decide) (mgt Qaa hg50) (nle rfl) rfl,Qg2 rfl,Qeb hl52 (aas rfl),tv⟩<|thn ?_
       exact⟨(x51),h,(mto (n:=75) [(0,.ref 0 53 0 0),(1,I p0),(2,I y5),(6,I y23),(7,I y24),(8,I y25),(9,I x51),(10,I y27)] [0,1,2] [(Qes p2 p3 p4 p5 p6 y6 y7),(.own 1 (y8.map Qaa)),(.own 1 (y9.map Qaa))] hq (prr (pw (pw (pw (pw (pw (pw (pw pn)))))))) (qb (lcc (lc (rnd Qac) (lc (.rn (Qag rfl)) (lc (.rn (Qag rfl)) (Qcg (Qat fun _=>rwl) (Qat fun _=>rwl)))))) (qc (spr Qab) (qc (spr Qab) qn))))⟩
      ·exact wfn hc47<|Qak<|thn<|⟨(y26),h,(mto (n:=75) [(0,.ref 0 53 0 0),(1,I p0),(2,I y5),(6,I y23),(7,I y24),(8,I y25),(9,I y26),(10,I y27)] [0,1,2] [(Qes p2 p3 p4 p5 p6 y6 y7),(.own 1 (y8.map Qaa)),(.own 1 (y9.map Qaa))] hq (prr (pw (pw (pw (pw (pw (pw (pw pn)))))))) (qb (lcc (lc (rnd Qac) (lc (.rn (Qag rfl)) (lc (.rn (Qag rfl)) (Qcg (Qat fun _=>rwl) (Qat fun _=>rwl)))))) (qc (spr Qab) (qc (spr Qab) qn))))⟩
    ·exact wfn hc34<|Qaz<|Qao<|Qao<|Qay rfl<|thn<|⟨(y23,y25),h,(mto (n:=75) [(0,.ref 0 53 0 0),(1,I p0),(2,I y5),(6,I y23),(8,I y25)] [0,1,2] [(Qes p2 p3 p4 p5 p6 y6 y7),(.own 1 (y8.map Qaa)),(.own 1 (y9.map Qaa))] hq (prr (pw (pw (pw (pw pn))))) (qb (lcc (lc (rnd Qac) (lc (.rn (Qag rfl)) (lc (.rn (Qag rfl)) (Qcg (Qat fun _=>rwl) (Qat fun _=>rwl)))))) (qc (spr Qab) (qc (spr Qab) qn))))⟩
  ·refine wfn hc16<|Qaz<|Qao<|Qao<|Qay rfl<|Qq9 ?_
   obtain rfl:=osi h
   exact⟨_,(mto (n:=75) (l':=[]) (own':=[(Qes p2 p3 p4 p5 p6 y6 y7),(.own 1 (y8.map Qaa)),(.own 1 (y9.map Qaa))]) [] [0,1,2] [(Qes p2 p3 p4 p5 p6 y6 y7),(.own 1 (y8.map Qaa)),(.own 1 (y9.map Qaa))] hq pn (qb (lcc (lc (rnd Qac) (lc (.rn (Qag rfl)) (lc (.rn (Qag rfl)) (Qcg (Qat fun _=>rwl) (Qat fun _=>rwl)))))) (qc (spr Qab) (qc (spr Qab) qn)))),fio [] tv⟩
def Qdk (_N:Nat) (_p0:Qah) (_p1:Int):Option Unit:=
  some ()
abbrev Qt6:AV:=.fn (.func 103) [] [(.ref 0 2 (0) 0),(.ref 1 1 (0) 0)]
abbrev Qzs (p0:Qah):Slot:=.own 2 [[(I p0.Use),(.dat 2 (p0.Stairs.map Qae))]]
theorem Qfv (N:Nat) (p0:Qah) (p1:Int) (r:Unit) (h:Qdk N p0 p1=some r):Spec prog 75 [(.agg [(I p0.Use),(.dat 2 (p0.Stairs.map Qae))]),(I p1)] [] Qt6 [(Qzs p0),(.own 1 [[(I p1)]])]:=by
  refine sF func75 2 fun _ _ _ hq hd0=>?_
  unfold Qdk at h
  refine wxz<|wx tbk [(0,rp [(.tmp 2,.ref 0 2 0 0),(.tmp 3,.ref 1 1 0 0)] Qt6)] ⟨Qfs (fs:=[]) (cs:=[.ref 0 2 0 0,.ref 1 1 0 0]) rfl rfl rfl rfl,tv⟩ ?_
  refine wmr (mto (n:=6) (l':=[(4,Qt6)]) (own':=[(Qzs p0),(.own 1 [[I p1]])]) [(4,Qt6)] [0,1] [(Qzs p0),(.own 1 [[I p1]])] hq (pc (.rn (Qau rn0 (rnc (rqr rfl) (rnc (rqr rfl) rn0)))) pn) (qb (lc rwl (lc (rnd Qa0) ln)) (qb (lc rwl ln) qn)))<|Qal ?_
  obtain rfl:=osi h
  exact⟨_,Mor.rfl,fio [Qt6] ⟨rot,tv⟩⟩
def Qb6 (N:Nat) (p1:List Qaf):Nat→Int→Int→Option (List (Qaf×Int))
  |0,_,_=>none
  |n7+1,y1,y2=>
    bif (decide (y1<(p1.length:Int))) then
     (getI p1 y1).bind fun x9=>
     (some (if x9.Amount<y2 then x9.Amount else y2)).bind fun x13=>
     yld (x9,x13)<|
     Qb6 N p1 n7 (w64 (y1+1)) (w64 (y2-x13))
    else
     some ([])
def Qdj (N:Nat) (_p0:Int) (p1:List Qaf) (p2:Int):Option (List (Qaf×Int)):=
  Qb6 N p1 N 0 p2
abbrev Qt5 (p1:List Qaf):AV:=.dat 2 (p1.map Qae)
abbrev Qt4 (p0:Int) (p1:List Qaf):Slot:=.own 2 [[(I p0),(Qt5 p1)]]
def Qw3 (x9:Qaf):AV:=.agg [(I x9.Amount),(I x9.Price)]
theorem Qfu (N:Nat) (p0:Int) (p1:List Qaf) (p2:Int) (r:(List (Qaf×Int))) (h:Qdj N p0 p1 p2=some r):Qmh prog 103 [(.ref 0 2 (0) 0),(.ref 1 1 (0) 0)] [(Qt4 p0 p1),(.own 1 [[(I p2)]])] (fun x=>[(.agg #[(.int .i64 x.1.Amount),(.int .i64 x.1.Price)]),(.int .i64 x.2)]) r:=by
  refine Qmp func103 rfl rfl (fun X φ0 w0 l J hq hy=>?_)
  unfold Qdj at h
  refine wx tbk [(2,rp _ _)] ⟨alq 2 Qae p1 underlying60,tv⟩<|Qai ?_
  refine wmr (mto (n:=27) (l':=[(0,(.lit (.func (.yield l) #[] #[]))),(2,.ref 1 1 0 0),(8,(Qt5 p1)),(9,(I ((p1.length:Int)))),(10,I 0)]) (own':=[(Qt4 p0 p1),(.own 1 [[I p2]]),(.far (J (some r)))]) [(0,(.lit (.func (.yield l) #[] #[]))),(2,.ref 1 1 0 0),(8,(Qt5 p1)),(9,(I ((p1.length:Int)))),(10,I 0)] [0,1,2] [(Qt4 p0 p1),(.own 1 [[I p2]]),(.far (J (some r)))] hq (pw (prr (pc (rnd Qa0) (pw (pw pn))))) (qb (lc rwl (lc (rnd Qa0) ln)) (qb (lc rwl ln) (qc (.far _) qn)))) ?_
  refine Qb1 (τ:=(Int×Int)×List (Qaf×Int)) (fun n t=>Qb6 N p1 n t.1.1 t.1.2=some t.2) (fun ⟨⟨y1,y2⟩,q3⟩=>⟨mk 27 [(0,(.lit (.func (.yield l) #[] #[]))),(2,.ref 1 1 0 0),(8,(Qt5 p1)),(9,(I ((p1.length:Int)))),(10,I y1)],[(Qt4 p0 p1),(.own 1 [[I y2]]),(.far (J (some q3)))]⟩) (fun t h=>by rw[Qb6] at h;cases h) (fun n7 ih t h=>?_) N ((0,p2),r) h
  obtain⟨⟨y1,y2⟩,q3⟩:=t
  rw[Qb6] at h
  try dsimp only at h
  refine wxz<|wsq ?_
  refine bfe h (fun hc8 h=>?_) fun hc8 h=>?_
  ·refine wft hc8<|Qak<|thn<|wsq<|Qai ?_
   obtain⟨x9,hg10,h⟩:=bno h
   obtain⟨hi11,hj12⟩:=gsm hg10
   refine wx tbk [(0,rp _ _)] ⟨aiq underlying60 ti64 Qae hi11 hj12,tv⟩ ?_
   obtain⟨x13,hl14,h⟩:=bno h
   refine wx tbk [(3,rp [(.tmp 14,I y2),(.tmp 16,I x9.Amount)] (I ((if x9.Amount<y2 then x9.Amount else y2)))),(4,rp [(.tmp 17,(I ((if x9.Amount<y2 then x9.Amount else y2))))] (I x13))] ⟨Qg2 rfl,Qeb hl14 (aas rfl),tv⟩<|wsq ?_
   obtain⟨q15,hy_,hq_⟩:=Qua h
   clear h
   subst hq_
   have h:=hy_
   clear hy_
   refine Qrt 3 [mv 0 (.lit (.func (.yield l) #[] #[])),rb [(.tmp 5,.ref 3 2 0 0)] [(3,.own 2 [[I x9.Amount,I x9.Price]])] (Qw3 x9),mv 6 (I x13),⟨[(.tmp 18,(.lit (.func (.yield l) #[] #[]))),(.tmp 19,(Qw3 x9)),(.tmp 20,I x13)],[(2,(.far (J (some ((x9,x13)::q15)))))],B true,[(2,(.far (J (some q15))))],false⟩,rp [(.tmp 21,B true)] (B false)] [mv 0 (.lit (.func (.yield l) #[] #[])),rb [(.tmp 5,.ref 3 2 0 0)] [(3,.own 2 [[I x9.Amount,I x9.Price]])] (Qw3 x9),mv 6 (I x13),⟨[(.tmp 18,(.lit (.func (.yield l) #[] #[]))),(.tmp 19,(Qw3 x9)),(.tmp 20,I x13)],[(2,(.far (J (some ((x9,x13)::q15)))))],B false,[(2,(.far (J none)))],false⟩,rp [(.tmp 21,B false)] (B true)] (by exact⟨by kernel_rfl,by kernel_rfl⟩) (by exact⟨by kernel_rfl,by kernel_rfl⟩) rfl rfl rfl rfl (Qmd (rd':=(.tmp 18,.lit (.func (.yield l) #[] #[]))::[(.tmp 19,.lit (.agg #[(.int .i64 x9.Amount),(.int .i64 x9.Price)])),(.tmp 20,.lit (.int .i64 x13))]) ⟨rfl,lrf,rfl,(Less.lits [(.int .i64 x9.Amount),(.int .i64 x9.Price)]),rfl,lrf,tv⟩ (Qkj (x:=(x9,x13)) (rest:=q15) rfl rfl hy rfl)) (⟨fun _ _=>amv rfl,fun _ _=>ald rfl ti64 (by decide) rfl (nle rfl) rfl,fun _ _=>amv rfl,fun _ h=>absurd rfl h,fun _ _=>Qh1 rfl,tv⟩) (⟨fun _ _=>amv rfl,fun _ _=>ald rfl ti64 (by decide) rfl (nle rfl) rfl,fun _ _=>amv rfl,fun _ h=>absurd rfl h,fun _ _=>Qh1 rfl,tv⟩) ?_ ?_
   ·skip
    exact wfa<|Qak<|thn<|wxz1<|bln<|thn<|wxz1<|thn<|arm (mto (n:=27) [(0,(.lit (.func (.yield l) #[] #[]))),(2,.ref 1 1 0 0),(8,(Qt5 p1)),(9,(I ((p1.length:Int)))),(10,(I (w64 (y1+1))))] [0,1,2] [(Qt4 p0 p1),(.own 1 [[(I (w64 (y2-x13)))]]),(.far (J (some q15)))] hq (pw (prr (pc (rnd Qa0) (pw (pw pn))))) (qb (lc rwl (lc (rnd Qa0) ln)) (qb (lc rwl ln) (qc (.far _) qn)))) (ih ((w64 (y1+1),w64 (y2-x13)),q15) h)
   ·clear h
    exact wtr<|Qal<|Qam<|Qav<|Qam<|Qam<|Qav<|Or.inr (by kernel_rfl)
  ·refine wfn hc8<|Qaz<|Qao<|Qao<|Qay rfl ?_
   obtain rfl:=osi h
   exact Or.inl rfl
def Qb3 (N:Nat) (k2:Int→Option Int):(List (Qaf×Int))→Int→Option Int
  |[],y7=>
    k2 (y7)
  |x10::q11,y7=>
    Qb3 N k2 q11 (w64 (y7+(w64 (x10.1.Price*x10.2))))
def Qet (N:Nat) (p0:Qah) (p1:Int):Option Int:=
  Qco (fun y1=>
    some y1) fun k2:Int→Option Int=>
  (Qdk N p0 p1).bind fun _=>
  (Qdj N p0.Use p0.Stairs p1).bind fun q5=>
  Qb3 N k2 q5 0
def Q2c (p0:Qah):AV:=.dat 2 (p0.Stairs.map Qae)
def Q2b:AV:=.fn (.func 103) [] [(.ref 2 2 (0) 0),(.ref 3 1 (0) 0)]
def Qw4 (p0:Qah):Slot:=.own 2 [[(I p0.Use),(Q2c p0)]]
theorem Qja (N:Nat) (p0:Qah) (p1 r:Int) (h:Qet N p0 p1=some r):Spec prog 58 [(.agg (Qaj p0)),(I p1)] [] (I r) []:=by
  refine sA func58 0 fun _ _ _ hq hd0=>?_
  unfold Qet at h
  refine wxz ?_
  obtain⟨k2,hk_k2,h⟩:=jko h
  refine wjn (τ:=Int) (fun t=>k2 t=some r) (fun y1=>⟨mk 19 [(4,.ref 0 1 0 0)],[(.own 1 [[I y1]])]⟩) (fun y1 h=>?_) ?_
  ·subst hk_k2
   refine wxz<|Qal ?_
   obtain rfl:=osi h
   exact fend ⟨[I y1],⟨Qeo (n:=0) (m:=1) (j:=0) (i:=0) (xs:=[[I y1]]) (by kernel_rfl) (by kernel_rfl) ti3 (by decide) rfl (nle rfl) rfl,tv⟩,rfl⟩ nll
  ·skip
   obtain⟨x4,hf3,h⟩:=bno h
   refine wx tbk [(2,⟨_,_,_,_,false⟩)] ⟨acq [(.agg [I p0.Use,(Q2c p0)]),I p1] [] [(Qw4 p0),(.own 1 [[I p1]])] Q2b [2,3] Qvp (Qfv N p0 p1 _ hf3) (Qcv (rnc (.plain _ (NLt.agg _ (nlc nll (nlc (nld Qa0 _) nl0)))) (rnc (.plain _ nll) rn0))) Qaq (slc (Qan (rnc (.plain _ nll) (rnc (pld Qa0) rn0))) (slc (Qan (rnc (.plain _ nll) rn0)) Qaq)) (Qau rn0 (rnc (Qf7 rfl) (rnc (Qf7 rfl) rn0))),tv⟩<|Qai ?_
   obtain⟨q5,hL6,h⟩:=bno h
   refine wmr (mto (n:=19) (l':=[(4,.ref 0 1 0 0),(9,(.fn (.func 103) [] [.ref 1 2 0 0,.ref 2 1 0 0]))]) (own':=[(.own 1 [[I 0]]),(Qw4 p0),(.own 1 [[I p1]])]) [(4,.ref 1 1 0 0),(9,Q2b)] [1,2,3] [(.own 1 [[I 0]]),(Qw4 p0),(.own 1 [[I p1]])] hq (prr (pc (.rn (Qau rn0 (rnc (rqr rfl) (rnc (rqr rfl) rn0)))) pn)) (qb (lc rwl ln) (qb (lc rwl (lc (rnd Qa0) ln)) (qb (lc rwl ln) qn)))) ?_
   refine Qh7 (τ:=(Int)) (kb:=3) (caps:=[.ref 1 2 0 0,.ref 2 1 0 0]) (σr:=[(Qw4 p0),(.own 1 [[I p1]])]) (encs:=fun x=>[(.agg #[(.int .i64 x.1.Amount),(.int .i64 x.1.Price)]),(.int .i64 x.2)]) (fun x=>[(.agg [I x.1.Amount,I x.1.Price]),I x.2]) [1,2] (fun n hn=>hq n (Nat.le_trans (nle rfl) hn)) hd0 (Qfu N p0.Use p0.Stairs p1 _ hL6) Qrl (by kernel_rfl) (by kernel_rfl) (Qcv (rnc (Qf7 rfl) (rnc (Qf7 rfl) rn0))) (slc (Qan (rnc (.plain _ nll) (rnc (pld Qa0) rn0))) (slc (Qan (rnc (.plain _ nll) rn0)) Qaq)) (by kernel_rfl) (fun _=>rfl) (fun x=>⟨(Less.unlits [(.int .i64 x.1.Amount),(.int .i64 x.1.Price)]),lrf,tv⟩) (Qre (Qeg (NLt.ref _ _ _ _ (by decide)) (Qeg (NLt.fn _ _ _ nl0 (nlc (NLt.ref _ _ _ _ (by decide)) (nlc (NLt.ref _ _ _ _ (by decide)) nl0))) Qny))) (fun y7=>[(.own 1 [[I y7]]),.dead,.dead]) (fun _=>rfl) (fun _=>rfl) (fun l t=>Qb3 N k2 l t=some r) (0) h (by kernel_rfl) ?_ ?_
   ·intro l12 o13 X16 φ17 w18 hφ15 x10 q11 y7 h
    rw[Qb3] at h
    refine wxz<|wxz1 ?_
    refine⟨by kernel_rfl,fun o14=>?_⟩
    exact Qai<|wxz1<|bln<|⟨(w64 (y7+(w64 (x10.1.Price*x10.2)))),h,Qo0 (own':=[(.own 1 [[(I ((w64 (y7+(w64 (x10.1.Price*x10.2))))))]]),.dead,.dead,(.far (farL l12 o14))]) [0,1,2,3] [(.own 1 [[(I (w64 (y7+(w64 (x10.1.Price*x10.2)))))]]),.dead,.dead,(.far (farL l12 o14))] (by kernel_rfl) (by kernel_rfl) ⟨(spb (lc rwl ln)),.dead,.dead,.far _,tv⟩⟩
   ·intro y7 h
    rw[Qb3] at h
    exact bln<|thn<|⟨(y7),h,(mto (n:=19) [(4,.ref 0 1 0 0)] [0] [(.own 1 [[I y7]])] hq (prr pn) (qb (lc rwl ln) qn))⟩
def Qbh (N:Nat) (p0:Int) (p2:List Qah) (p4:List Int) (k14:(List Int)→Option (List Int)):Nat→Int→(List Int)→Option (List Int)
  |0,_,_=>none
  |n19+1,y15,y16=>
    bif (decide (y15<(w64 ((((p2.length:Int).toNat:Nat):Int)-1)))) then
     Qco (fun y21=>
       (getI p4 y15).bind fun x23=>
       bif (decide (x23<p0)) then
        chk (decide (0≤y15)&&decide (y15.toNat<(p2.length:Int).toNat))<|
        (y21[y15.toNat]?).bind fun x29=>
        chk (decide (0≤w64 (y15+1))&&decide ((w64 (y15+1)).toNat<(p2.length:Int).toNat))<|
        (y21[(w64 (y15+1)).toNat]?).bind fun x32=>
        chk (decide (0≤y15)&&decide (y15.toNat<(p2.length:Int).toNat))<|
        (y21[y15.toNat]?).bind fun _=>
        Qbh N p0 p2 p4 k14 n19 (w64 (y15+1)) (y21.set y15.toNat (if x32>x29 then x32 else x29))
       else
        Qbh N p0 p2 p4 k14 n19 (w64 (y15+1)) y21) fun k22:(List Int)→Option (List Int)=>
     (getI p4 y15).bind fun x37=>
     bif (decide (x37>0)) then
      chk (decide (0≤w64 (y15+1))&&decide ((w64 (y15+1)).toNat<(p2.length:Int).toNat))<|
      (y16[(w64 (y15+1)).toNat]?).bind fun x43=>
      chk (decide (0≤y15)&&decide (y15.toNat<(p2.length:Int).toNat))<|
      (y16[y15.toNat]?).bind fun x46=>
      chk (decide (0≤w64 (y15+1))&&decide ((w64 (y15+1)).toNat<(p2.length:Int).toNat))<|
      (y16[(w64 (y15+1)).toNat]?).bind fun _=>
      k22 (y16.set ((w64 (y15+1)).toNat) (if x46>x43 then x46 else x43))
     else
      k22 (y16)
    else
     k14 (y16)
def Qba (N:Nat) (p0:Int) (p2:List Qah) (p4:List Int) (k6:(List Int)→Option (List Int)):Nat→Int→(List Int)→Option (List Int)
  |0,_,_=>none
  |n11+1,y7,y8=>
    bif (decide (y7<(p2.length:Int))) then
     Qco (fun y13=>
       Qba N p0 p2 p4 k6 n11 (w64 (y7+1)) y13) fun k14:(List Int)→Option (List Int)=>
     Qbh N p0 p2 p4 k14 N 0 y8
    else
     k6 (y8)
def Qa4 (N:Nat) (p2:List Qah) (y51:Int) (k58:(List Int)→Option (List Int)):(List (Qaf×Int))→(List Int)→Option (List Int)
  |[],y71=>
    k58 (y71)
  |x74::q75,y71=>
    bif (decide (x74.2>0)) then
     chk (decide (0≤y51)&&decide (y51.toNat<(p2.length:Int).toNat))<|
     (y71[y51.toNat]?).bind fun _=>
     Qa4 N p2 y51 k58 q75 (y71.set y51.toNat x74.1.Price)
    else
     Qa4 N p2 y51 k58 q75 y71
def Qbg (N:Nat) (p2:List Qah) (p3:List Int) (k4:(List Int)→Option (List Int)):Nat→Int→(List Int)→Option (List Int)
  |0,_,_=>none
  |n55+1,y51,y52=>
    bif (decide (y51<(p2.length:Int))) then
     Qco (fun y57=>
       Qbg N p2 p3 k4 n55 (w64 (y51+1)) y57) fun k58:(List Int)→Option (List Int)=>
     (getI p2 y51).bind fun x59=>
     (getI p3 y51).bind fun x63=>
     (Qdk N x59 x63).bind fun _=>
     (Qdj N x59.Use x59.Stairs x63).bind fun q69=>
     Qa4 N p2 y51 k58 q69 y52
    else
     k4 (y52)
def Qcr (N:Nat) (p0 _p1:Int) (p2:List Qah) (p3 p4:List Int) (_p5 _p6:(Nat→Int)):Option (List Int):=
  chk (decide (0≤(p2.length:Int))&&decide (8*(p2.length:Int)≤281474976710656)&&decide ((p2.length:Int)≤9223372036854775807))<|
  Qco (fun y3=>
    Qco (fun y5=>
      some y5) fun k6:(List Int)→Option (List Int)=>
    Qba N p0 p2 p4 k6 N 0 y3) fun k4:(List Int)→Option (List Int)=>
  Qbg N p2 p3 k4 N 0 (List.replicate (p2.length:Int).toNat 0)
abbrev Qe2 (p2:List Qah):AV:=.dat 2 (p2.map Qaj)
def Q2a (p2:List Qah):Slot:=.own 1 ((List.replicate (p2.length:Int).toNat 0:List Int).map Qaa)
def Qgb (p2:List Qah):Slot:=.own 1 [[(.own 1 1 (0) ((p2.length:Int).toNat))]]
def Q19:AV:=.fn (.func 103) [] [(.ref 4 2 (0) 0),(.ref 5 1 (0) 0)]
def Qnk (x59:Qah):Slot:=.own 2 [[(I x59.Use),(.dat 2 (x59.Stairs.map Qae))]]
def Qk8 (p2:List Qah):Slot:=.own 1 [[(.own 4 1 (0) ((p2.length:Int).toNat))]]
theorem Qho (N:Nat) (p0 p1:Int) (p2:List Qah) (p3 p4:List Int) (p5 p6:(Nat→Int)) (r:List Int) (h:Qcr N p0 p1 p2 p3 p4 p5 p6=some r):Spec prog 59 [(.dptr ((I p0)::(I p1)::(Qe2 p2)::(.dat 1 (p3.map Qaa))::(.dat 1 (p4.map Qaa))::(arrF 24 p5++arrF 24 p6)) 0)] [] (.own 0 1 (0) ((p2.length:Int).toNat)) [(.own 1 (r.map Qaa))]:=by
  refine sF func59 1 fun _ _ _ hq hd0=>?_
  unfold Qcr at h
  refine wxz ?_
  obtain⟨hm2,h⟩:=cko h
  refine wx tbk [(5,rp _ _),(6,⟨[(.tmp 14,(I ((p2.length:Int)))),(.tmp 14,(I ((p2.length:Int))))],[(0,.unused)],(.own 0 1 (0) ((p2.length:Int).toNat)),[(0,(Q2a p2))],false⟩)] ⟨alq 2 Qaj p2 underlying55,Qg3 rfl underlying25 te3 tz3 rfl (Qwk hm2) rfl (Qwj hm2) (Qp0 hm2) (Qll Qaa rfl),tv⟩ ?_
  obtain⟨k4,hk_k4,h⟩:=jko h
  refine wjn (τ:=(List Int)) (fun t=>k4 t=some r) (fun y3=>⟨mk 111 [(0,(.dptr ((I p0)::(I p1)::(Qe2 p2)::(.dat 1 (p3.map Qaa))::(.dat 1 (p4.map Qaa))::(arrF 24 p5++arrF 24 p6)) 0)),(3,.ref 0 1 0 0)],[(Qgb p2),(.own 1 (y3.map Qaa))]⟩) (fun y3 h=>?_) ?_
  ·subst hk_k4
   obtain⟨k6,hk_k6,h⟩:=jko h
   refine wjn (τ:=(List Int)) (fun t=>k6 t=some r) (fun y5=>⟨mk 111 [(3,.ref 0 1 0 0)],[(Qgb p2),(.own 1 (y5.map Qaa))]⟩) (fun y5 h=>?_) ?_
   ·subst hk_k6
    refine wxz<|wmr (mto (n:=111) (l':=[(2,(.own 0 1 (0) ((p2.length:Int).toNat)))]) (own':=[(.own 1 (y5.map Qaa))]) [(2,(.own 1 1 (0) ((p2.length:Int).toNat)))] [1] [(.own 1 (y5.map Qaa))] hq (pc (.rn (Qag rfl)) pn) (qc (spr Qab) qn))<|Qal ?_
    obtain rfl:=osi h
    exact⟨_,Mor.rfl,fio [(.own 0 1 (0) ((p2.length:Int).toNat))] ⟨rot,tv⟩⟩
   ·skip
    refine wx tbk [(5,rp _ _)] ⟨alq 2 Qaj p2 underlying55,tv⟩<|Qai ?_
    refine wmr (mto (n:=111) (l':=[(0,(.dptr ((I p0)::(I p1)::(Qe2 p2)::(.dat 1 (p3.map Qaa))::(.dat 1 (p4.map Qaa))::(arrF 24 p5++arrF 24 p6)) 0)),(3,.ref 0 1 0 0),(51,(I ((p2.length:Int)))),(52,I 0)]) (own':=[(Qgb p2),(.own 1 (y3.map Qaa))]) [(0,(.dptr ((I p0)::(I p1)::(Qe2 p2)::(.dat 1 (p3.map Qaa))::(.dat 1 (p4.map Qaa))::(arrF 24 p5++arrF 24 p6)) 0)),(3,.ref 0 1 0 0),(51,(I ((p2.length:Int)))),(52,I 0)] [0,1] [(Qgb p2),(.own 1 (y3.map Qaa))] hq (pc (.rn (.plain _ (NLt.dptr _ _ (nlcc (nlc (nld Qac _) (nlc (nld Qab _) (nlc (nld Qab _) (Qen Qdw Qdw)))))))) (prr (pw (pw pn)))) (qb (lc (.rn (Qag rfl)) ln) (qc (spr Qab) qn))) ?_
    refine Qb1 (τ:=Int×(List Int)) (fun n t=>Qba N p0 p2 p4 k6 n t.1 t.2=some r) (fun ⟨y7,y8⟩=>⟨mk 111 [(0,(.dptr ((I p0)::(I p1)::(Qe2 p2)::(.dat 1 (p3.map Qaa))::(.dat 1 (p4.map Qaa))::(arrF 24 p5++arrF 24 p6)) 0)),(3,.ref 0 1 0 0),(51,(I ((p2.length:Int)))),(52,I y7)],[(Qgb p2),(.own 1 (y8.map Qaa))]⟩) (fun t h=>by rw[Qba] at h;cases h) (fun n11 ih t h=>?_) N (0,y3) h
    obtain⟨y7,y8⟩:=t
    rw[Qba] at h
    skip
    refine wxz<|wsq ?_
    refine bfe h (fun hc12 h=>?_) fun hc12 h=>?_
    ·refine wft hc12<|Qak<|thn ?_
     obtain⟨k14,hk_k14,h⟩:=jko h
     refine wjn (τ:=(List Int)) (fun t=>k14 t=some r) (fun y13=>⟨mk 111 [(0,(.dptr ((I p0)::(I p1)::(Qe2 p2)::(.dat 1 (p3.map Qaa))::(.dat 1 (p4.map Qaa))::(arrF 24 p5++arrF 24 p6)) 0)),(3,.ref 0 1 0 0),(51,(I ((p2.length:Int)))),(52,I y7)],[(Qgb p2),(.own 1 (y13.map Qaa))]⟩) (fun y13 h=>?_) ?_
     ·subst hk_k14
      exact wxz1<|thn<|arm (mto (n:=111) [(0,(.dptr ((I p0)::(I p1)::(Qe2 p2)::(.dat 1 (p3.map Qaa))::(.dat 1 (p4.map Qaa))::(arrF 24 p5++arrF 24 p6)) 0)),(3,.ref 0 1 0 0),(51,(I ((p2.length:Int)))),(52,(I (w64 (y7+1))))] [0,1] [(Qgb p2),(.own 1 (y13.map Qaa))] hq (pc (.rn (.plain _ (NLt.dptr _ _ (nlcc (nlc (nld Qac _) (nlc (nld Qab _) (nlc (nld Qab _) (Qen Qdw Qdw)))))))) (prr (pw (pw pn)))) (qb (lc (.rn (Qag rfl)) ln) (qc (spr Qab) qn))) (ih (w64 (y7+1),y13) h)
     ·skip
      refine Qai<|wx tbk [(1,rp [(.tmp 54,(.own 1 1 (0) ((p2.length:Int).toNat)))] (I ((((p2.length:Int).toNat:Nat):Int))))] ⟨aln rfl underlying25 rfl,tv⟩<|Qai ?_
      refine wmr (mto (n:=111) (l':=[(0,(.dptr ((I p0)::(I p1)::(Qe2 p2)::(.dat 1 (p3.map Qaa))::(.dat 1 (p4.map Qaa))::(arrF 24 p5++arrF 24 p6)) 0)),(3,.ref 0 1 0 0),(51,(I ((p2.length:Int)))),(52,I y7),(56,(I (w64 ((((p2.length:Int).toNat:Nat):Int)-1)))),(57,I 0)]) (own':=[(Qgb p2),(.own 1 (y8.map Qaa))]) [(0,(.dptr ((I p0)::(I p1)::(Qe2 p2)::(.dat 1 (p3.map Qaa))::(.dat 1 (p4.map Qaa))::(arrF 24 p5++arrF 24 p6)) 0)),(3,.ref 0 1 0 0),(51,(I ((p2.length:Int)))),(52,I y7),(56,(I (w64 ((((p2.length:Int).toNat:Nat):Int)-1)))),(57,I 0)] [0,1] [(Qgb p2),(.own 1 (y8.map Qaa))] hq (pc (.rn (.plain _ (NLt.dptr _ _ (nlcc (nlc (nld Qac _) (nlc (nld Qab _) (nlc (nld Qab _) (Qen Qdw Qdw)))))))) (prr (pw (pw (pw (pw pn)))))) (qb (lc (.rn (Qag rfl)) ln) (qc (spr Qab) qn))) ?_
      refine Qb1 (τ:=Int×(List Int)) (fun n t=>Qbh N p0 p2 p4 k14 n t.1 t.2=some r) (fun ⟨y15,y16⟩=>⟨mk 111 [(0,(.dptr ((I p0)::(I p1)::(Qe2 p2)::(.dat 1 (p3.map Qaa))::(.dat 1 (p4.map Qaa))::(arrF 24 p5++arrF 24 p6)) 0)),(3,.ref 0 1 0 0),(51,(I ((p2.length:Int)))),(52,I y7),(56,(I (w64 ((((p2.length:Int).toNat:Nat):Int)-1)))),(57,I y15)],[(Qgb p2),(.own 1 (y16.map Qaa))]⟩) (fun t h=>by rw[Qbh] at h;cases h) (fun n19 ih t h=>?_) N (0,y8) h
      obtain⟨y15,y16⟩:=t
      rw[Qbh] at h
      skip
      refine wxz<|wsq ?_
      refine bfe h (fun hc20 h=>?_) fun hc20 h=>?_
      ·refine wft hc20<|Qak<|thn<|wsq<|Qai<|wxz ?_
       obtain⟨k22,hk_k22,h⟩:=jko h
       refine wjn (τ:=(List Int)) (fun t=>k22 t=some r) (fun y21=>⟨mk 111 [(0,(.dptr ((I p0)::(I p1)::(Qe2 p2)::(.dat 1 (p3.map Qaa))::(.dat 1 (p4.map Qaa))::(arrF 24 p5++arrF 24 p6)) 0)),(3,.ref 0 1 0 0),(8,I y15),(51,(I ((p2.length:Int)))),(52,I y7),(56,(I (w64 ((((p2.length:Int).toNat:Nat):Int)-1)))),(57,I y15)],[(Qgb p2),(.own 1 (y21.map Qaa))]⟩) (fun y21 h=>?_) ?_
       ·subst hk_k22
        obtain⟨x23,hg24,h⟩:=bno h
        obtain⟨hi25,hj26⟩:=gsm hg24
        refine wxd tbk [(5,rp _ _)] ⟨aiq underlying25 ti3 Qaa hi25 hj26,tv⟩ ?_
        refine bfe h (fun hc27 h=>?_) fun hc27 h=>?_
        ·refine wft hc27 ?_
         obtain⟨hi28,h⟩:=cko h
         obtain⟨hi28a,hi28b⟩:=Qaw hi28
         obtain⟨x29,hg30,h⟩:=bno h
         obtain⟨hi31,h⟩:=cko h
         obtain⟨hi31a,hi31b⟩:=Qaw hi31
         obtain⟨x32,hg33,h⟩:=bno h
         obtain⟨hi34,h⟩:=cko h
         obtain⟨hi34a,hi34b⟩:=Qaw hi34
         obtain⟨x35,hg36,h⟩:=bno h
         refine wy1 tbk [(4,rb [(.tmp 97,(.own 1 1 (0) ((p2.length:Int).toNat))),(.tmp 98,I y15)] [(1,(.own 1 (y21.map Qaa)))] (.ref 1 1 y15.toNat 0)),(5,rb [(.tmp 99,(.ref 1 1 y15.toNat 0))] [(1,(.own 1 (y21.map Qaa)))] (I x29)),(9,rb [(.tmp 101,(.own 1 1 (0) ((p2.length:Int).toNat))),(.tmp 103,(I (w64 (y15+1))))] [(1,(.own 1 (y21.map Qaa)))] (.ref 1 1 ((w64 (y15+1)).toNat) 0)),(10,rb [(.tmp 104,(.ref 1 1 ((w64 (y15+1)).toNat) 0))] [(1,(.own 1 (y21.map Qaa)))] (I x32)),(11,rp [(.tmp 100,I x29),(.tmp 105,I x32)] (I ((if x32>x29 then x32 else x29)))),(12,rb [(.tmp 95,(.own 1 1 (0) ((p2.length:Int).toNat))),(.tmp 96,I y15)] [(1,(.own 1 (y21.map Qaa)))] (.ref 1 1 y15.toNat 0)),(13,⟨[(.tmp 107,(.ref 1 1 y15.toNat 0)),(.tmp 106,(I ((if x32>x29 then x32 else x29))))],[(1,(.own 1 (y21.map Qaa)))],.any,[(1,(.own 1 ((y21.set y15.toNat (if x32>x29 then x32 else x29):List Int).map Qaa)))],false⟩)] ⟨aio rfl underlying25 ti3 (odt hi28a) (odt hi28b) (Nat.zero_add _),ald rfl ti3 (by decide) (mgt Qaa hg30) (nle rfl) rfl,aio rfl underlying25 ti3 (odt hi31a) (odt hi31b) (Nat.zero_add _),ald rfl ti3 (by decide) (mgt Qaa hg33) (nle rfl) rfl,Qjp rfl,aio rfl underlying25 ti3 (odt hi34a) (odt hi34b) (Nat.zero_add _),ast rfl ti3 (by rfl) (mgt Qaa hg36) (nle rfl) (Qd7 Qaa rfl),tv⟩<|bln<|thn<|wxz1<|thn ?_
         exact arm (mto (n:=111) [(0,(.dptr ((I p0)::(I p1)::(Qe2 p2)::(.dat 1 (p3.map Qaa))::(.dat 1 (p4.map Qaa))::(arrF 24 p5++arrF 24 p6)) 0)),(3,.ref 0 1 0 0),(51,(I ((p2.length:Int)))),(52,I y7),(56,(I (w64 ((((p2.length:Int).toNat:Nat):Int)-1)))),(57,(I (w64 (y15+1))))] [0,1] [(Qgb p2),(.own 1 ((y21.set y15.toNat (if x32>x29 then x32 else x29):List Int).map Qaa))] hq (pc (.rn (.plain _ (NLt.dptr _ _ (nlcc (nlc (nld Qac _) (nlc (nld Qab _) (nlc (nld Qab _) (Qen Qdw Qdw)))))))) (prr (pw (pw (pw (pw pn)))))) (qb (lc (.rn (Qag rfl)) ln) (qc (spr Qab) qn))) (ih (w64 (y15+1),y21.set y15.toNat (if x32>x29 then x32 else x29)) h)
        ·exact wfn hc27<|Qak<|bln<|thn<|wxz1<|thn<|arm (mto (n:=111) [(0,(.dptr ((I p0)::(I p1)::(Qe2 p2)::(.dat 1 (p3.map Qaa))::(.dat 1 (p4.map Qaa))::(arrF 24 p5++arrF 24 p6)) 0)),(3,.ref 0 1 0 0),(51,(I ((p2.length:Int)))),(52,I y7),(56,(I (w64 ((((p2.length:Int).toNat:Nat):Int)-1)))),(57,(I (w64 (y15+1))))] [0,1] [(Qgb p2),(.own 1 (y21.map Qaa))] hq (pc (.rn (.plain _ (NLt.dptr _ _ (nlcc (nlc (nld Qac _) (nlc (nld Qab _) (nlc (nld Qab _) (Qen Qdw Qdw)))))))) (prr (pw (pw (pw (pw pn)))))) (qb (lc (.rn (Qag rfl)) ln) (qc (spr Qab) qn))) (ih (w64 (y15+1),y21) h)
       ·skip
        obtain⟨x37,hg38,h⟩:=bno h
        obtain⟨hi39,hj40⟩:=gsm hg38
        refine wx tbk [(5,rp _ _)] ⟨aiq underlying25 ti3 Qaa hi39 hj40,tv⟩ ?_
        refine bfe h (fun hc41 h=>?_) fun hc41 h=>?_
        ·refine wft hc41 ?_
         obtain⟨hi42,h⟩:=cko h
         obtain⟨hi42a,hi42b⟩:=Qaw hi42
         obtain⟨x43,hg44,h⟩:=bno h
         obtain⟨hi45,h⟩:=cko h
         obtain⟨hi45a,hi45b⟩:=Qaw hi45
         obtain⟨x46,hg47,h⟩:=bno h
         obtain⟨hi48,h⟩:=cko h
         obtain⟨hi48a,hi48b⟩:=Qaw hi48
         obtain⟨x49,hg50,h⟩:=bno h
         refine wy1 tbk [(6,rb [(.tmp 71,(.own 1 1 (0) ((p2.length:Int).toNat))),(.tmp 73,(I (w64 (y15+1))))] [(1,(.own 1 (y16.map Qaa)))] (.ref 1 1 ((w64 (y15+1)).toNat) 0)),(7,rb [(.tmp 74,(.ref 1 1 ((w64 (y15+1)).toNat) 0))] [(1,(.own 1 (y16.map Qaa)))] (I x43)),(10,rb [(.tmp 76,(.own 1 1 (0) ((p2.length:Int).toNat))),(.tmp 77,I y15)] [(1,(.own 1 (y16.map Qaa)))] (.ref 1 1 y15.toNat 0)),(11,rb [(.tmp 78,(.ref 1 1 y15.toNat 0))] [(1,(.own 1 (y16.map Qaa)))] (I x46)),(12,rp [(.tmp 75,I x43),(.tmp 79,I x46)] (I ((if x46>x43 then x46 else x43)))),(13,rb [(.tmp 68,(.own 1 1 (0) ((p2.length:Int).toNat))),(.tmp 70,(I (w64 (y15+1))))] [(1,(.own 1 (y16.map Qaa)))] (.ref 1 1 ((w64 (y15+1)).toNat) 0)),(14,⟨[(.tmp 81,(.ref 1 1 ((w64 (y15+1)).toNat) 0)),(.tmp 80,(I ((if x46>x43 then x46 else x43))))],[(1,(.own 1 (y16.map Qaa)))],.any,[(1,(.own 1 ((y16.set ((w64 (y15+1)).toNat) (if x46>x43 then x46 else x43):List Int).map Qaa)))],false⟩)] ⟨aio rfl underlying25 ti3 (odt hi42a) (odt hi42b) (Nat.zero_add _),ald rfl ti3 (by decide) (mgt Qaa hg44) (nle rfl) rfl,aio rfl underlying25 ti3 (odt hi45a) (odt hi45b) (Nat.zero_add _),ald rfl ti3 (by decide) (mgt Qaa hg47) (nle rfl) rfl,Qjp rfl,aio rfl underlying25 ti3 (odt hi48a) (odt hi48b) (Nat.zero_add _),ast rfl ti3 (by rfl) (mgt Qaa hg50) (nle rfl) (Qd7 Qaa rfl),tv⟩<|thn ?_
         exact⟨(y16.set ((w64 (y15+1)).toNat) (if x46>x43 then x46 else x43)),h,(mto (n:=111) [(0,(.dptr ((I p0)::(I p1)::(Qe2 p2)::(.dat 1 (p3.map Qaa))::(.dat 1 (p4.map Qaa))::(arrF 24 p5++arrF 24 p6)) 0)),(3,.ref 0 1 0 0),(8,I y15),(51,(I ((p2.length:Int)))),(52,I y7),(56,(I (w64 ((((p2.length:Int).toNat:Nat):Int)-1)))),(57,I y15)] [0,1] [(Qgb p2),(.own 1 ((y16.set ((w64 (y15+1)).toNat) (if x46>x43 then x46 else x43):List Int).map Qaa))] hq (pc (.rn (.plain _ (NLt.dptr _ _ (nlcc (nlc (nld Qac _) (nlc (nld Qab _) (nlc (nld Qab _) (Qen Qdw Qdw)))))))) (prr (pw (pw (pw (pw (pw pn))))))) (qb (lc (.rn (Qag rfl)) ln) (qc (spr Qab) qn)))⟩
        ·exact wfn hc41<|Qak<|thn<|⟨(y16),h,(mto (n:=111) [(0,(.dptr ((I p0)::(I p1)::(Qe2 p2)::(.dat 1 (p3.map Qaa))::(.dat 1 (p4.map Qaa))::(arrF 24 p5++arrF 24 p6)) 0)),(3,.ref 0 1 0 0),(8,I y15),(51,(I ((p2.length:Int)))),(52,I y7),(56,(I (w64 ((((p2.length:Int).toNat:Nat):Int)-1)))),(57,I y15)] [0,1] [(Qgb p2),(.own 1 (y16.map Qaa))] hq (pc (.rn (.plain _ (NLt.dptr _ _ (nlcc (nlc (nld Qac _) (nlc (nld Qab _) (nlc (nld Qab _) (Qen Qdw Qdw)))))))) (prr (pw (pw (pw (pw (pw pn))))))) (qb (lc (.rn (Qag rfl)) ln) (qc (spr Qab) qn)))⟩
      ·exact wfn hc20<|Qaz<|Qao<|Qao<|Qay rfl<|bln<|thn<|⟨(y16),h,(mto (n:=111) [(0,(.dptr ((I p0)::(I p1)::(Qe2 p2)::(.dat 1 (p3.map Qaa))::(.dat 1 (p4.map Qaa))::(arrF 24 p5++arrF 24 p6)) 0)),(3,.ref 0 1 0 0),(51,(I ((p2.length:Int)))),(52,I y7)] [0,1] [(Qgb p2),(.own 1 (y16.map Qaa))] hq (pc (.rn (.plain _ (NLt.dptr _ _ (nlcc (nlc (nld Qac _) (nlc (nld Qab _) (nlc (nld Qab _) (Qen Qdw Qdw)))))))) (prr (pw (pw pn)))) (qb (lc (.rn (Qag rfl)) ln) (qc (spr Qab) qn)))⟩
    ·exact wfn hc12<|Qaz<|Qao<|Qao<|Qay rfl<|thn<|⟨(y8),h,(mto (n:=111) [(3,.ref 0 1 0 0)] [0,1] [(Qgb p2),(.own 1 (y8.map Qaa))] hq (prr pn) (qb (lc (.rn (Qag rfl)) ln) (qc (spr Qab) qn)))⟩
  ·skip
   refine wx tbk [(5,rp _ _)] ⟨alq 2 Qaj p2 underlying55,tv⟩<|Qai ?_
   refine wmr (mto (n:=111) (l':=[(0,(.dptr ((I p0)::(I p1)::(Qe2 p2)::(.dat 1 (p3.map Qaa))::(.dat 1 (p4.map Qaa))::(arrF 24 p5++arrF 24 p6)) 0)),(3,.ref 0 1 0 0),(20,(Qe2 p2)),(21,(I ((p2.length:Int)))),(22,I 0)]) (own':=[(Qgb p2),(.own 1 (((List.replicate (p2.length:Int).toNat 0):List Int).map Qaa))]) [(0,(.dptr ((I p0)::(I p1)::(Qe2 p2)::(.dat 1 (p3.map Qaa))::(.dat 1 (p4.map Qaa))::(arrF 24 p5++arrF 24 p6)) 0)),(3,.ref 1 1 0 0),(20,(Qe2 p2)),(21,(I ((p2.length:Int)))),(22,I 0)] [1,0] [(.own 1 [[(.own 0 1 (0) ((p2.length:Int).toNat))]]),(Q2a p2)] hq (pc (.rn (.plain _ (NLt.dptr _ _ (nlcc (nlc (nld Qac _) (nlc (nld Qab _) (nlc (nld Qab _) (Qen Qdw Qdw)))))))) (prr (pc (rnd Qac) (pw (pw pn))))) (qb (lc (.rn (Qag rfl)) ln) (qc (spr Qab) qn))) ?_
   refine Qb1 (τ:=Int×(List Int)) (fun n t=>Qbg N p2 p3 k4 n t.1 t.2=some r) (fun ⟨y51,y52⟩=>⟨mk 111 [(0,(.dptr ((I p0)::(I p1)::(Qe2 p2)::(.dat 1 (p3.map Qaa))::(.dat 1 (p4.map Qaa))::(arrF 24 p5++arrF 24 p6)) 0)),(3,.ref 0 1 0 0),(20,(Qe2 p2)),(21,(I ((p2.length:Int)))),(22,I y51)],[(Qgb p2),(.own 1 (y52.map Qaa))]⟩) (fun t h=>by rw[Qbg] at h;cases h) (fun n55 ih t h=>?_) N (0,List.replicate (p2.length:Int).toNat 0) h
   obtain⟨y51,y52⟩:=t
   rw[Qbg] at h
   skip
   refine wxz<|wsq ?_
   refine bfe h (fun hc56 h=>?_) fun hc56 h=>?_
   ·refine wft hc56<|Qak<|thn ?_
    obtain⟨k58,hk_k58,h⟩:=jko h
    refine wjn (τ:=(List Int)) (fun t=>k58 t=some r) (fun y57=>⟨mk 111 [(0,(.dptr ((I p0)::(I p1)::(Qe2 p2)::(.dat 1 (p3.map Qaa))::(.dat 1 (p4.map Qaa))::(arrF 24 p5++arrF 24 p6)) 0)),(3,.ref 0 1 0 0),(20,(Qe2 p2)),(21,(I ((p2.length:Int)))),(22,I y51)],[(Qgb p2),(.own 1 (y57.map Qaa))]⟩) (fun y57 h=>?_) ?_
    ·subst hk_k58
     exact wxz1<|thn<|arm (mto (n:=111) [(0,(.dptr ((I p0)::(I p1)::(Qe2 p2)::(.dat 1 (p3.map Qaa))::(.dat 1 (p4.map Qaa))::(arrF 24 p5++arrF 24 p6)) 0)),(3,.ref 0 1 0 0),(20,(Qe2 p2)),(21,(I ((p2.length:Int)))),(22,(I (w64 (y51+1))))] [0,1] [(Qgb p2),(.own 1 (y57.map Qaa))] hq (pc (.rn (.plain _ (NLt.dptr _ _ (nlcc (nlc (nld Qac _) (nlc (nld Qab _) (nlc (nld Qab _) (Qen Qdw Qdw)))))))) (prr (pc (rnd Qac) (pw (pw pn))))) (qb (lc (.rn (Qag rfl)) ln) (qc (spr Qab) qn))) (ih (w64 (y51+1),y57) h)
    ·skip
     refine Qai ?_
     obtain⟨x59,hg60,h⟩:=bno h
     obtain⟨hi61,hj62⟩:=gsm hg60
     refine wx tbk [(1,rp _ _)] ⟨aiq underlying55 ti62 Qaj hi61 hj62,tv⟩ ?_
     obtain⟨x63,hg64,h⟩:=bno h
     obtain⟨hi65,hj66⟩:=gsm hg64
     obtain⟨x68,hf67,h⟩:=bno h
     refine wxd tbk [(6,rp _ _),(8,⟨_,_,_,_,false⟩)] ⟨aiq underlying25 ti3 Qaa hi65 hj66,acq [(.agg [I x59.Use,(.dat 2 (x59.Stairs.map Qae))]),I x63] [] [(Qnk x59),(.own 1 [[I x63]])] Q19 [4,5] Qvp (Qfv N x59 x63 _ hf67) (Qcv (rnc (.plain _ (NLt.agg _ (nlc nll (nlc (nld Qa0 _) nl0)))) (rnc (.plain _ nll) rn0))) Qaq (slc (Qan (rnc (.plain _ nll) (rnc (pld Qa0) rn0))) (slc (Qan (rnc (.plain _ nll) rn0)) Qaq)) (Qau rn0 (rnc (Qf7 rfl) (rnc (Qf7 rfl) rn0))),tv⟩<|Qai ?_
     obtain⟨q69,hL70,h⟩:=bno h
     refine wmr (mto (n:=111) (l':=[(0,(.dptr ((I p0)::(I p1)::(Qe2 p2)::(.dat 1 (p3.map Qaa))::(.dat 1 (p4.map Qaa))::(arrF 24 p5++arrF 24 p6)) 0)),(3,.ref 0 1 0 0),(4,.ref 1 1 0 0),(20,(Qe2 p2)),(21,(I ((p2.length:Int)))),(22,I y51),(35,(.fn (.func 103) [] [.ref 2 2 0 0,.ref 3 1 0 0]))]) (own':=[(Qk8 p2),(.own 1 [[I y51]]),(Qnk x59),(.own 1 [[I x63]]),(.own 1 (y52.map Qaa))]) [(0,(.dptr ((I p0)::(I p1)::(Qe2 p2)::(.dat 1 (p3.map Qaa))::(.dat 1 (p4.map Qaa))::(arrF 24 p5++arrF 24 p6)) 0)),(3,.ref 0 1 0 0),(4,.ref 2 1 0 0),(20,(Qe2 p2)),(21,(I ((p2.length:Int)))),(22,I y51),(35,Q19)] [0,2,4,5,1] [(Qgb p2),(.own 1 [[I y51]]),(Qnk x59),(.own 1 [[I x63]]),(.own 1 (y52.map Qaa))] hq (pc (.rn (.plain _ (NLt.dptr _ _ (nlcc (nlc (nld Qac _) (nlc (nld Qab _) (nlc (nld Qab _) (Qen Qdw Qdw)))))))) (prr (prr (pc (rnd Qac) (pw (pw (pc (.rn (Qau rn0 (rnc (rqr rfl) (rnc (rqr rfl) rn0)))) pn))))))) (qb (lc (.rn (Qag rfl)) ln) (qb (lc rwl ln) (qb (lc rwl (lc (rnd Qa0) ln)) (qb (lc rwl ln) (qc (spr Qab) qn)))))) ?_
     refine Qh7 (τ:=((List Int))) (kb:=5) (caps:=[.ref 2 2 0 0,.ref 3 1 0 0]) (σr:=[(Qnk x59),(.own 1 [[I x63]])]) (encs:=fun x=>[(.agg #[(.int .i64 x.1.Amount),(.int .i64 x.1.Price)]),(.int .i64 x.2)]) (fun x=>[(.agg [I x.1.Amount,I x.1.Price]),I x.2]) [2,3] (fun n hn=>hq n (Nat.le_trans (nle rfl) hn)) hd0 (Qfu N x59.Use x59.Stairs x63 _ hL70) Qrl (by kernel_rfl) (by kernel_rfl) (Qcv (rnc (Qf7 rfl) (rnc (Qf7 rfl) rn0))) (slc (Qan (rnc (.plain _ nll) (rnc (pld Qa0) rn0))) (slc (Qan (rnc (.plain _ nll) rn0)) Qaq)) (by kernel_rfl) (fun _=>rfl) (fun x=>⟨(Less.unlits [(.int .i64 x.1.Amount),(.int .i64 x.1.Price)]),lrf,tv⟩) (Qre (Qeg (NLt.of0 (NLt.dptr _ _ (nlcc (nlc (nld Qac _) (nlc (nld Qab _) (nlc (nld Qab _) (Qen Qdw Qdw))))))) (Qeg (NLt.ref _ _ _ _ (by decide)) (Qeg (NLt.ref _ _ _ _ (by decide)) (Qeg (NLt.of0 (nld Qac _)) (Qeg (NLt.of0 nll) (Qeg (NLt.of0 nll) (Qeg (NLt.fn _ _ _ nl0 (nlc (NLt.ref _ _ _ _ (by decide)) (nlc (NLt.ref _ _ _ _ (by decide)) nl0))) Qny)))))))) (fun y71=>[(Qk8 p2),(.own 1 [[I y51]]),.dead,.dead,(.own 1 (y71.map Qaa))]) (fun _=>rfl) (fun _=>rfl) (fun l t=>Qa4 N p2 y51 k58 l t=some r) y52 h (by kernel_rfl) ?_ ?_
     ·intro l76 o77 X80 φ81 w82 hφ79 x74 q75 y71 h
      rw[Qa4] at h
      refine wxz<|wxz1 ?_
      refine⟨by kernel_rfl,fun o78=>?_⟩
      refine Qai<|wxz ?_
      refine bfe h (fun hc83 h=>?_) fun hc83 h=>?_
      ·refine wft hc83 ?_
       obtain⟨hi84,h⟩:=cko h
       obtain⟨hi84a,hi84b⟩:=Qaw hi84
       obtain⟨x85,hg86,h⟩:=bno h
       refine wx1 tbk [(4,rb [(.tmp 40,(.own 4 1 (0) ((p2.length:Int).toNat))),(.tmp 41,I y51)] [(4,(.own 1 (y71.map Qaa)))] (.ref 4 1 y51.toNat 0)),(5,⟨[(.tmp 44,(.ref 4 1 y51.toNat 0)),(.tmp 43,I x74.1.Price)],[(4,(.own 1 (y71.map Qaa)))],.any,[(4,(.own 1 ((y71.set y51.toNat x74.1.Price:List Int).map Qaa)))],false⟩)] ⟨aio rfl underlying25 ti3 (odt hi84a) (odt hi84b) (Nat.zero_add _),ast rfl ti3 (by rfl) (mgt Qaa hg86) (nle rfl) (Qd7 Qaa rfl),tv⟩<|bln ?_
       exact⟨(y71.set y51.toNat x74.1.Price),h,Qo0 (own':=[(Qk8 p2),(.own 1 [[I y51]]),.dead,.dead,(.own 1 (((y71.set y51.toNat x74.1.Price):List Int).map Qaa)),(.far (farL l76 o78))]) [0,1,2,3,4,5] [(Qk8 p2),(.own 1 [[I y51]]),.dead,.dead,(.own 1 ((y71.set y51.toNat x74.1.Price:List Int).map Qaa)),(.far (farL l76 o78))] (by kernel_rfl) (by kernel_rfl) ⟨(spb (lc (.rn (Qag rfl)) ln)),(spb (lc rwl ln)),.dead,.dead,(spr Qab),.far _,tv⟩⟩
      ·exact wfn hc83<|Qak<|bln<|⟨(y71),h,Qo0 (own':=[(Qk8 p2),(.own 1 [[I y51]]),.dead,.dead,(.own 1 (y71.map Qaa)),(.far (farL l76 o78))]) [0,1,2,3,4,5] [(Qk8 p2),(.own 1 [[I y51]]),.dead,.dead,(.own 1 (y71.map Qaa)),(.far (farL l76 o78))] (by kernel_rfl) (by kernel_rfl) ⟨(spb (lc (.rn (Qag rfl)) ln)),(spb (lc rwl ln)),.dead,.dead,(spr Qab),.far _,tv⟩⟩
     ·intro y71 h
      rw[Qa4] at h
      exact bln<|bln<|thn<|⟨(y71),h,(mto (n:=111) [(0,(.dptr ((I p0)::(I p1)::(Qe2 p2)::(.dat 1 (p3.map Qaa))::(.dat 1 (p4.map Qaa))::(arrF 24 p5++arrF 24 p6)) 0)),(3,.ref 0 1 0 0),(20,(Qe2 p2)),(21,(I ((p2.length:Int)))),(22,I y51)] [0,4] [(Qk8 p2),(.own 1 (y71.map Qaa))] hq (pc (.rn (.plain _ (NLt.dptr _ _ (nlcc (nlc (nld Qac _) (nlc (nld Qab _) (nlc (nld Qab _) (Qen Qdw Qdw)))))))) (prr (pc (rnd Qac) (pw (pw pn))))) (qb (lc (.rn (Qag rfl)) ln) (qc (spr Qab) qn)))⟩
   ·exact wfn hc56<|Qaz<|Qao<|Qao<|Qay rfl<|thn<|⟨(y52),h,(mto (n:=111) [(0,(.dptr ((I p0)::(I p1)::(Qe2 p2)::(.dat 1 (p3.map Qaa))::(.dat 1 (p4.map Qaa))::(arrF 24 p5++arrF 24 p6)) 0)),(3,.ref 0 1 0 0)] [0,1] [(Qgb p2),(.own 1 (y52.map Qaa))] hq (pc (.rn (.plain _ (NLt.dptr _ _ (nlcc (nlc (nld Qac _) (nlc (nld Qab _) (nlc (nld Qab _) (Qen Qdw Qdw)))))))) (prr pn)) (qb (lc (.rn (Qag rfl)) ln) (qc (spr Qab) qn)))⟩
def Qb5 (N:Nat) (p0:GDay) (y19:List Int) (k23:Int→Option ((List Int)×(List Int)×Int×Int)):Nat→Int→Int→Option ((List Int)×(List Int)×Int×Int)
  |0,_,_=>none
  |n34+1,y30,y31=>
    bif (decide (y31<(p0.Hours.length:Int))) then
     (getI p0.Hours y31).bind fun x36=>
     chk (decide (0≤y31)&&decide (y31.toNat<(p0.Hours.length:Int).toNat))<|
     (y19[y31.toNat]?).bind fun x41=>
     (Qet N x36 x41).bind fun x44=>
     Qb5 N p0 y19 k23 n34 (w64 (y30+x44)) (w64 (y31+1))
    else
     k23 (y30)
def Qcl (N:Nat) (p0:GDay) (k21:(Nat→Int)×(Nat→Int)×(List Int)×(List Int)→Option ((List Int)×(List Int)×Int×Int)):Nat→Int→Int→(Nat→Int)→(Nat→Int)→(List Int)→(List Int)→Option ((List Int)×(List Int)×Int×Int)
  |0,_,_,_,_,_,_=>none
  |n57+1,y45,y46,y47,y48,y49,y50=>
    bif (decide (y46<(p0.Hours.length:Int))) then
     (getI p0.Hours y46).bind fun x59=>
     (some (if (w64 (x59.Use-y45))>0 then w64 (x59.Use-y45) else 0)).bind fun x63=>
     (Qd3 N y46 x63 p0.Tank p0.Start p0.Hours ((p0.Hours.length:Int).toNat) ((p0.Hours.length:Int).toNat) y47 y48 y49 y50).bind fun x66=>
     (some (if (w64 (y45-x59.Use))>0 then w64 (y45-x59.Use) else 0)).bind fun x67=>
     chk (decide (0≤y46)&&decide (y46.toNat<((p0.Hours.length:Int).toNat)))<|
     (x66.2.2.2[y46.toNat]?).bind fun x70=>
     chk (decide (0≤y46)&&decide (y46.toNat<((p0.Hours.length:Int).toNat)))<|
     (x66.2.2.2[y46.toNat]?).bind fun _=>
     Qcl N p0 k21 n57 x67 (w64 (y46+1)) x66.1 x66.2.1 x66.2.2.1 (x66.2.2.2.set y46.toNat (w64 (x70+x67)))
    else
     k21 (y47,y48,y49,y50)
def Qck (N:Nat) (p0:GDay) (k16:(Nat→Int)→Option ((List Int)×(List Int)×Int×Int)):Nat→Int→(Nat→Int)→Option ((List Int)×(List Int)×Int×Int)
  |0,_,_=>none
  |n79+1,y75,y76=>
    bif (decide (y75<(p0.Hours.length:Int))) then
     (getI p0.Hours y75).bind fun x81=>
     bif (decide ((x81.Stairs.length:Int)>0)) then
      (getI x81.Stairs 0).bind fun x86=>
      chk (decide (0≤y75)&&decide (y75.toNat<24))<|
      Qck N p0 k16 n79 (w64 (y75+1)) (setF y76 y75.toNat x86.Amount)
     else
      Qck N p0 k16 n79 (w64 (y75+1)) y76
    else
     k16 (y76)
def Qbi (N:Nat) (p0:GDay):Option ((List Int)×(List Int)×Int×Int):=
  (Qeu N p0).bind fun x8=>
  bif (!x8) then
   some ([],[],0,1)
  else
   (Qev N p0).bind fun x11=>
   bif (decide (x11.1≥0)) then
    some ([],[],0,7)
   else
    chk (decide (0≤(p0.Hours.length:Int))&&decide (8*(p0.Hours.length:Int)≤281474976710656)&&decide ((p0.Hours.length:Int)≤9223372036854775807))<|
    chk (decide (0≤(p0.Hours.length:Int))&&decide (8*(p0.Hours.length:Int)≤281474976710656)&&decide ((p0.Hours.length:Int)≤9223372036854775807))<|
    Qco (fun y15=>
      Qco (fun ⟨y17,y18,y19,y20⟩=>
        Qco (fun y22=>
          chk (decide ((p0.Hours.length:Int).toNat≤y19.length))<|
          chk (decide ((p0.Hours.length:Int).toNat≤y20.length))<|
          (Qcr N p0.Tank p0.Start p0.Hours (y19.take ((p0.Hours.length:Int).toNat)) (y20.take ((p0.Hours.length:Int).toNat)) y17 y18).bind fun x27=>
          chk (decide ((p0.Hours.length:Int).toNat≤y19.length))<|
          chk (decide ((p0.Hours.length:Int).toNat≤x27.length))<|
          some (y19.take ((p0.Hours.length:Int).toNat),x27.take ((p0.Hours.length:Int).toNat),y22,0)) fun k23:Int→Option ((List Int)×(List Int)×Int×Int)=>
        Qb5 N p0 y19 k23 N 0 0) fun k21:(Nat→Int)×(Nat→Int)×(List Int)×(List Int)→Option ((List Int)×(List Int)×Int×Int)=>
      Qcl N p0 k21 N p0.Start 0 (fun _=>0) y15 (List.replicate (p0.Hours.length:Int).toNat 0) (List.replicate (p0.Hours.length:Int).toNat 0)) fun k16:(Nat→Int)→Option ((List Int)×(List Int)×Int×Int)=>
    Qck N p0 k16 N 0 (fun _=>0)
def Qfm (p0:GDay):AV:=.dat 2 (p0.Hours.map Qaj)
def Q3a (p0:GDay):AV:=.agg [(I p0.Tank),(I p0.Start),(Qfm p0)]
def Qhv:AV:=.dat 1 (([]:List Int).map Qaa)
def Qhn (p0:GDay):Slot:=.own 1 ((List.replicate (p0.Hours.length:Int).toNat 0:List Int).map Qaa)
def Qjv (p0:GDay):Slot:=.own 3 [[(I p0.Tank),(I p0.Start),(Qfm p0)]]
def Qp8 (p0:GDay) (y15:(Nat→Int)):Slot:=.own 53 [((I p0.Tank)::(I p0.Start)::(Qfm p0)::(.own 2 1 (0) ((p0.Hours.length:Int).toNat))::(.own 3 1 (0) ((p0.Hours.length:Int).toNat))::(arrF 24 (fun _=>0)++arrF 24 y15))]
def Qt8 (p0:GDay) (y17 y18:(Nat→Int)):Slot:=.own 53 [((I p0.Tank)::(I p0.Start)::(Qfm p0)::(.own 2 1 (0) ((p0.Hours.length:Int).toNat))::(.own 3 1 (0) ((p0.Hours.length:Int).toNat))::(arrF 24 y17++arrF 24 y18))]
def Qhu (p0:GDay) (y17 y18:(Nat→Int)):Slot:=.own 53 [((I p0.Tank)::(I p0.Start)::(Qfm p0)::(.own 1 1 (0) ((p0.Hours.length:Int).toNat))::(.own 2 1 (0) ((p0.Hours.length:Int).toNat))::(arrF 24 y17++arrF 24 y18))]
def Qin (y19:List Int) (p0:GDay):AV:=.dat 1 ((y19.take ((p0.Hours.length:Int).toNat):List Int).map Qaa)
def Qnl (x27:List Int) (p0:GDay):AV:=.dat 1 ((x27.take ((p0.Hours.length:Int).toNat):List Int).map Qaa)
def Qza (p0:GDay):Slot:=.own 1 (((List.replicate (p0.Hours.length:Int).toNat 0):List Int).map Qaa)
def Qp7 (p0:GDay) (y47 y48:(Nat→Int)):Slot:=.own 53 [((I p0.Tank)::(I p0.Start)::(Qfm p0)::(.own 2 1 (0) ((p0.Hours.length:Int).toNat))::(.own 3 1 (0) ((p0.Hours.length:Int).toNat))::(arrF 24 y47++arrF 24 y48))]
def Qp6 (p0:GDay) (x66:((Nat→Int)×(Nat→Int)×(List Int)×(List Int))):Slot:=.own 53 [((I p0.Tank)::(I p0.Start)::(Qfm p0)::(.own 2 1 (0) (((p0.Hours.length:Int).toNat)))::(.own 3 1 (0) (((p0.Hours.length:Int).toNat)))::(arrF 24 x66.1++arrF 24 x66.2.1))]
def Qju (p0:GDay) (y76:(Nat→Int)):Slot:=.own 53 [((I p0.Tank)::(I p0.Start)::(Qfm p0)::(.own 2 1 (0) ((p0.Hours.length:Int).toNat))::(.own 3 1 (0) ((p0.Hours.length:Int).toNat))::(arrF 24 (fun _=>0)++arrF 24 y76))]
def Qt7 (p0:GDay) (y76:(Nat→Int)) (y75:Int) (x86:Qaf):Slot:=.own 53 [((I p0.Tank)::(I p0.Start)::(Qfm p0)::(.own 2 1 (0) ((p0.Hours.length:Int).toNat))::(.own 3 1 (0) ((p0.Hours.length:Int).toNat))::(arrF 24 (fun _=>0)++arrF 24 (setF y76 y75.toNat x86.Amount)))]
theorem Qd5 (N:Nat) (p0:GDay) (r:((List Int)×(List Int)×Int×Int)) (h:Qbi N p0=some r):Spec prog 20 [(.agg (Qhm p0))] [] (.tup [(.dat 1 (r.1.map Qaa)),(.dat 1 (r.2.1.map Qaa)),(I r.2.2.1),(I r.2.2.2)]) []:=by
  refine sF func20 0 fun _ _ _ hq hd0=>?_
  unfold Qbi at h
  refine wxz<|wsq ?_
  obtain⟨x8,hf7,h⟩:=bno h
  refine wx tbk [(1,rp _ _)] ⟨apw Q03 (Qjb N p0 _ hf7),tv⟩ ?_
  refine bfe h (fun hc9 h=>?_) fun hc9 h=>?_
  ·refine wft hc9<|wxz ?_
   refine wmr (mto (n:=121) (l':=[(2,Qhv),(3,Qhv),(4,I 0),(5,I 1)]) (own':=[]) [(2,nilS),(3,nilS),(4,I 0),(5,I 1)] [] [] hq (pc (.nil _) (pc (.nil _) (pw (pw pn)))) qn)<|Qal<|Qam ?_
   obtain rfl:=osi h
   exact⟨_,Mor.rfl,fio [Qhv,Qhv,I 0,I 1] ⟨rot,rot,rot,rot,tv⟩⟩
  ·refine wfn hc9<|Qak<|thn<|wsq ?_
   obtain⟨x11,hf10,h⟩:=bno h
   refine wx tbk [(1,rp _ _)] ⟨apw Q02 (Qjc N p0 _ hf10),tv⟩<|wxz ?_
   refine bfe h (fun hc12 h=>?_) fun hc12 h=>?_
   ·refine wft hc12<|wxz ?_
    refine wmr (mto (n:=121) (l':=[(2,Qhv),(3,Qhv),(4,I 0),(5,I 7)]) (own':=[]) [(2,nilS),(3,nilS),(4,I 0),(5,I 7)] [] [] hq (pc (.nil _) (pc (.nil _) (pw (pw pn)))) qn)<|Qal<|Qam ?_
    obtain rfl:=osi h
    exact⟨_,Mor.rfl,fio [Qhv,Qhv,I 0,I 7] ⟨rot,rot,rot,rot,tv⟩⟩
   ·refine wfn hc12<|Qak<|thn ?_
    obtain⟨hm13,h⟩:=cko h
    obtain⟨hm14,h⟩:=cko h
    refine wxd tbk [(3,rp _ _),(4,⟨[(.tmp 29,(I ((p0.Hours.length:Int)))),(.tmp 29,(I ((p0.Hours.length:Int))))],[(1,.unused)],(.own 1 1 (0) ((p0.Hours.length:Int).toNat)),[(1,(Qhn p0))],false⟩),(7,rp _ _),(8,⟨[(.tmp 33,(I ((p0.Hours.length:Int)))),(.tmp 33,(I ((p0.Hours.length:Int))))],[(2,.unused)],(.own 2 1 (0) ((p0.Hours.length:Int).toNat)),[(2,(Qhn p0))],false⟩),(9,rp _ _)] ⟨alq 2 Qaj p0.Hours underlying55,Qg3 rfl underlying25 te3 tz3 rfl (Qwk hm13) rfl (Qwj hm13) (Qp0 hm13) (Qll Qaa rfl),alq 2 Qaj p0.Hours underlying55,Qg3 rfl underlying25 te3 tz3 rfl (Qwk hm14) rfl (Qwj hm14) (Qp0 hm14) (Qll Qaa rfl),Qa2 (vs:=[(Q3a p0),(.own 1 1 (0) ((p0.Hours.length:Int).toNat)),(.own 2 1 (0) ((p0.Hours.length:Int).toNat))]) rfl Q3e Q2d rfl (by rfl) rfl,tv⟩ ?_
    obtain⟨k16,hk_k16,h⟩:=jko h
    refine wjn (τ:=(Nat→Int)) (fun t=>k16 t=some r) (fun y15=>⟨mk 121 [(1,.ref 0 3 0 0),(4,I 0),(8,.ref 1 53 0 0)],[(Qjv p0),(Qp8 p0 y15),(Qhn p0),(Qhn p0)]⟩) (fun y15 h=>?_) ?_
    ·subst hk_k16
     refine wxz ?_
     obtain⟨k21,hk_k21,h⟩:=jko h
     refine wjn (τ:=(Nat→Int)×(Nat→Int)×(List Int)×(List Int)) (fun t=>k21 t=some r) (fun ⟨y17,y18,y19,y20⟩=>⟨mk 121 [(1,.ref 0 3 0 0),(4,I 0),(8,.ref 1 53 0 0)],[(Qjv p0),(Qt8 p0 y17 y18),(.own 1 (y19.map Qaa)),(.own 1 (y20.map Qaa))]⟩) (fun t h=>?_) ?_
     ·subst hk_k21
      obtain⟨y17,y18,y19,y20⟩:=t
      obtain⟨k23,hk_k23,h⟩:=jko h
      refine wjn (τ:=Int) (fun t=>k23 t=some r) (fun y22=>⟨mk 121 [(4,I y22),(8,.ref 0 53 0 0)],[(Qhu p0 y17 y18),(.own 1 (y19.map Qaa)),(.own 1 (y20.map Qaa))]⟩) (fun y22 h=>?_) ?_
      ·subst hk_k23
       obtain⟨hz24,h⟩:=cko h
       obtain⟨hz25,h⟩:=cko h
       obtain⟨x27,hf26,h⟩:=bno h
       refine wxd tbk [(1,rb [(.tmp 114,.ref 0 53 0 0)] [(0,(Qhu p0 y17 y18))] (.ref 0 53 0 0)),(5,⟨[fu 59,(.tmp 118,.ref 0 53 0 0)],[(0,(Qhu p0 y17 y18)),(1,(.own 1 (y19.map Qaa))),(2,(.own 1 (y20.map Qaa))),(3,.unused)],(.own 3 1 (0) ((p0.Hours.length:Int).toNat)),[(3,(.own 1 (x27.map Qaa)))],false⟩)] ⟨Qbb rfl,Qfl (rd':=[fu 59,(.tmp 118,(.dptr ((I p0.Tank)::(I p0.Start)::(Qfm p0)::(Qin y19 p0)::(.dat 1 ((y20.take ((p0.Hours.length:Int).toNat):List Int).map Qaa))::(arrF 24 y17++arrF 24 y18)) 0))]) [(0,53,[((I p0.Tank)::(I p0.Start)::(Qfm p0)::(.own 1 1 (0) ((p0.Hours.length:Int).toNat))::(.own 2 1 (0) ((p0.Hours.length:Int).toNat))::(arrF 24 y17++arrF 24 y18))]),(1,1,y19.map Qaa),(2,1,y20.map Qaa)] ⟨rfl,.same _,rfl,(Q2u 0 rfl (lc (.same _) (lc (.same _) (lc (.same _) (lc (Qj7 1 rfl hz24) (lc (Qj7 2 rfl hz25) (Qcg (Qat fun _=>(.same _)) (Qat fun _=>(.same _))))))))),tv⟩ (by rfl) (.own _ _ _ _ (nin rfl)) (Qq8 (.own _ _ (Qm1 Qvb _)) Qlh) (acq [(.dptr ((I p0.Tank)::(I p0.Start)::(Qfm p0)::(.dat 1 (((y19.take ((p0.Hours.length:Int).toNat)):List Int).map Qaa))::(.dat 1 (((y20.take ((p0.Hours.length:Int).toNat)):List Int).map Qaa))::(arrF 24 y17++arrF 24 y18)) 0)] [] [(.own 1 (x27.map Qaa))] (.own 3 1 (0) ((p0.Hours.length:Int).toNat)) [3] Q0z (Qho N p0.Tank p0.Start p0.Hours (y19.take ((p0.Hours.length:Int).toNat)) (y20.take ((p0.Hours.length:Int).toNat)) y17 y18 _ hf26) (Qcv (rnc (.plain _ (NLt.dptr _ _ (nlcc (nlc (nld Qac _) (nlc (nld Qab _) (nlc (nld Qab _) (Qen Qdw Qdw))))))) rn0)) Qaq (slc (Qbq Qab) Qaq) (Qge rfl)),tv⟩ ?_
       obtain⟨hz28,h⟩:=cko h
       refine wmr (Qmw (n:=121) (l':=[(2,(Qin y19 p0)),(3,(.own 3 1 (0) ((p0.Hours.length:Int).toNat))),(4,I y22),(5,I 0)]) 1 [(2,(.own 1 1 (0) ((p0.Hours.length:Int).toNat))),(3,(.own 3 1 (0) ((p0.Hours.length:Int).toNat))),(4,I y22),(5,I 0)] (by kernel_rfl) (by kernel_rfl) (by kernel_rfl) ⟨rfl,(Qj6 hz28),rfl,(.same _),rfl,(.same _),rfl,(.same _),tv⟩ rfl) ?_
       obtain⟨hz29,h⟩:=cko h
       refine wmr (Qmw (n:=121) (l':=[(2,(Qin y19 p0)),(3,(Qnl x27 p0)),(4,I y22),(5,I 0)]) 3 [(2,(Qin y19 p0)),(3,(.own 3 1 (0) ((p0.Hours.length:Int).toNat))),(4,I y22),(5,I 0)] (by kernel_rfl) (by kernel_rfl) (by kernel_rfl) ⟨rfl,(.same _),rfl,(Qj6 hz29),rfl,(.same _),rfl,(.same _),tv⟩ rfl) ?_
       refine wmr (mto (n:=121) (l':=[(2,(Qin y19 p0)),(3,(Qnl x27 p0)),(4,I y22),(5,I 0)]) (own':=[]) [(2,(Qin y19 p0)),(3,(Qnl x27 p0)),(4,I y22),(5,I 0)] [] [] hq (pc (rnd Qab) (pc (rnd Qab) (pw (pw pn)))) qn)<|Qal ?_
       obtain rfl:=osi h
       exact⟨_,Mor.rfl,fio [(Qin y19 p0),(Qnl x27 p0),I y22,I 0] ⟨rot,rot,rot,rot,tv⟩⟩
      ·skip
       refine wx tbk [(2,rp _ _)] ⟨alq 2 Qaj p0.Hours underlying55,tv⟩<|Qai ?_
       refine wmr (mto (n:=121) (l':=[(4,I 0),(8,.ref 0 53 0 0),(95,(Qfm p0)),(96,(I ((p0.Hours.length:Int)))),(97,I 0)]) (own':=[(Qhu p0 y17 y18),(.own 1 (y19.map Qaa)),(.own 1 (y20.map Qaa))]) [(4,I 0),(8,.ref 1 53 0 0),(95,(Qfm p0)),(96,(I ((p0.Hours.length:Int)))),(97,I 0)] [1,2,3] [(Qt8 p0 y17 y18),(.own 1 (y19.map Qaa)),(.own 1 (y20.map Qaa))] hq (pw (prr (pc (rnd Qac) (pw (pw pn))))) (qb (lcc (lc (rnd Qac) (lc (.rn (Qag rfl)) (lc (.rn (Qag rfl)) (Qcg (Qat fun _=>rwl) (Qat fun _=>rwl)))))) (qc (spr Qab) (qc (spr Qab) qn)))) ?_
       refine Qb1 (τ:=Int×Int) (fun n t=>Qb5 N p0 y19 k23 n t.1 t.2=some r) (fun ⟨y30,y31⟩=>⟨mk 121 [(4,I y30),(8,.ref 0 53 0 0),(95,(Qfm p0)),(96,(I ((p0.Hours.length:Int)))),(97,I y31)],[(Qhu p0 y17 y18),(.own 1 (y19.map Qaa)),(.own 1 (y20.map Qaa))]⟩) (fun t h=>by rw[Qb5] at h;cases h) (fun n34 ih t h=>?_) N (0,0) h
       obtain⟨y30,y31⟩:=t
       rw[Qb5] at h
       skip
       refine wxz<|wsq ?_
       refine bfe h (fun hc35 h=>?_) fun hc35 h=>?_
       ·refine wft hc35<|Qak<|thn<|wsq<|Qai ?_
        obtain⟨x36,hg37,h⟩:=bno h
        obtain⟨hi38,hj39⟩:=gsm hg37
        refine wx tbk [(1,rp _ _)] ⟨aiq underlying55 ti62 Qaj hi38 hj39,tv⟩ ?_
        obtain⟨hi40,h⟩:=cko h
        obtain⟨hi40a,hi40b⟩:=Qaw hi40
        obtain⟨x41,hg42,h⟩:=bno h
        obtain⟨x44,hf43,h⟩:=bno h
        refine wy1 tbk [(3,rb [(.tmp 104,.ref 0 53 0 0)] [(0,(Qhu p0 y17 y18))] (.ref 0 53 0 0)),(7,rb [(.tmp 107,(.own 1 1 (0) ((p0.Hours.length:Int).toNat))),(.tmp 108,I y31)] [(1,(.own 1 (y19.map Qaa)))] (.ref 1 1 y31.toNat 0)),(8,rb [(.tmp 109,(.ref 1 1 y31.toNat 0))] [(1,(.own 1 (y19.map Qaa)))] (I x41)),(9,rp _ _)] ⟨Qbb rfl,aio rfl underlying25 ti3 (odt hi40a) (odt hi40b) (Nat.zero_add _),ald rfl ti3 (by decide) (mgt Qaa hg42) (nle rfl) rfl,apw Q00 (Qja N x36 x41 _ hf43),tv⟩<|bln<|thn<|wxz1<|thn ?_
        exact arm (mto (n:=121) [(4,(I (w64 (y30+x44)))),(8,.ref 0 53 0 0),(95,(Qfm p0)),(96,(I ((p0.Hours.length:Int)))),(97,(I (w64 (y31+1))))] [0,1,2] [(Qhu p0 y17 y18),(.own 1 (y19.map Qaa)),(.own 1 (y20.map Qaa))] hq (pw (prr (pc (rnd Qac) (pw (pw pn))))) (qb (lcc (lc (rnd Qac) (lc (.rn (Qag rfl)) (lc (.rn (Qag rfl)) (Qcg (Qat fun _=>rwl) (Qat fun _=>rwl)))))) (qc (spr Qab) (qc (spr Qab) qn)))) (ih (w64 (y30+x44),w64 (y31+1)) h)
       ·exact wfn hc35<|Qaz<|Qao<|Qao<|Qay rfl<|thn<|⟨(y30),h,(mto (n:=121) [(4,I y30),(8,.ref 0 53 0 0)] [0,1,2] [(Qhu p0 y17 y18),(.own 1 (y19.map Qaa)),(.own 1 (y20.map Qaa))] hq (pw (prr pn)) (qb (lcc (lc (rnd Qac) (lc (.rn (Qag rfl)) (lc (.rn (Qag rfl)) (Qcg (Qat fun _=>rwl) (Qat fun _=>rwl)))))) (qc (spr Qab) (qc (spr Qab) qn))))⟩
     ·skip
      refine wx tbk [(2,rp _ _)] ⟨alq 2 Qaj p0.Hours underlying55,tv⟩<|Qai ?_
      refine wmr (mto (n:=121) (l':=[(1,.ref 0 3 0 0),(4,I 0),(8,.ref 1 53 0 0),(11,I p0.Start),(63,(Qfm p0)),(64,(I ((p0.Hours.length:Int)))),(65,I 0)]) (own':=[(Qjv p0),(Qp8 p0 y15),(Qza p0),(Qza p0)]) [(1,.ref 0 3 0 0),(4,I 0),(8,.ref 1 53 0 0),(11,I p0.Start),(63,(Qfm p0)),(64,(I ((p0.Hours.length:Int)))),(65,I 0)] [0,1,2,3] [(Qjv p0),(Qp8 p0 y15),(Qhn p0),(Qhn p0)] hq (prr (pw (prr (pw (pc (rnd Qac) (pw (pw pn))))))) (qb (lcc (lc (rnd Qac) ln)) (qb (lcc (lc (rnd Qac) (lc (.rn (Qag rfl)) (lc (.rn (Qag rfl)) (Qcg (Qat fun _=>rwl) (Qat fun _=>rwl)))))) (qc (spr Qab) (qc (spr Qab) qn))))) ?_
      refine Qb1 (τ:=Int×Int×(Nat→Int)×(Nat→Int)×(List Int)×(List Int)) (fun n t=>Qcl N p0 k21 n t.1 t.2.1 t.2.2.1 t.2.2.2.1 t.2.2.2.2.1 t.2.2.2.2.2=some r) (fun ⟨y45,y46,y47,y48,y49,y50⟩=>⟨mk 121 [(1,.ref 0 3 0 0),(4,I 0),(8,.ref 1 53 0 0),(11,I y45),(63,(Qfm p0)),(64,(I ((p0.Hours.length:Int)))),(65,I y46)],[(Qjv p0),(Qp7 p0 y47 y48),(.own 1 (y49.map Qaa)),(.own 1 (y50.map Qaa))]⟩) (fun t h=>by rw[Qcl] at h;cases h) (fun n57 ih t h=>?_) N (p0.Start,0,fun _=>0,y15,List.replicate (p0.Hours.length:Int).toNat 0,List.replicate (p0.Hours.length:Int).toNat 0) h
      obtain⟨y45,y46,y47,y48,y49,y50⟩:=t
      rw[Qcl] at h
      skip
      refine wxz<|wsq ?_
      refine bfe h (fun hc58 h=>?_) fun hc58 h=>?_
      ·refine wft hc58<|Qak<|thn<|wsq<|Qai ?_
       obtain⟨x59,hg60,h⟩:=bno h
       obtain⟨hi61,hj62⟩:=gsm hg60
       refine wx tbk [(1,rp _ _)] ⟨aiq underlying55 ti62 Qaj hi61 hj62,tv⟩ ?_
       obtain⟨x63,hl64,h⟩:=bno h
       obtain⟨x66,hf65,h⟩:=bno h
       refine wx tbk [(6,rp [ci 0,(.tmp 75,(I (w64 (x59.Use-y45))))] (I x63)),(7,⟨_,_,_,_,false⟩)] ⟨Qeb hl64 (Qjp rfl),acq [.ref 1 53 0 0,I y46,I x63] [(Qp7 p0 y47 y48),(.own 1 (y49.map Qaa)),(.own 1 (y50.map Qaa))] [(Qp6 p0 x66),(.own 1 (x66.2.2.1.map Qaa)),(.own 1 (x66.2.2.2.map Qaa))] (.tup []) [1,2,3] Q01 (Qib N y46 x63 p0.Tank p0.Start p0.Hours ((p0.Hours.length:Int).toNat) ((p0.Hours.length:Int).toNat) y47 y48 y49 y50 _ hf65) (Qcv (rnc (Qbr rfl) (rncc rn0))) (slc (Qan (rncc (rnc (pld Qac) (rnc (Qd0 rfl) (rnc (Qd0 rfl) (Qcg (Qat fun _=>(.plain _ nll)) (Qat fun _=>(.plain _ nll)))))))) (slc (Qbq Qab) (slc (Qbq Qab) Qaq))) (slc (Qan (rncc (rnc (pld Qac) (rnc (Qge rfl) (rnc (Qge rfl) (Qcg (Qat fun _=>(.plain _ nll)) (Qat fun _=>(.plain _ nll)))))))) (slc (Qbq Qab) (slc (Qbq Qab) Qaq))) (.plain _ (NLt.tup _ nl0)),tv⟩ ?_
       obtain⟨x67,hl68,h⟩:=bno h
       refine wx tbk [(4,rp [ci 0,(.tmp 81,(I (w64 (y45-x59.Use))))] (I x67))] ⟨Qeb hl68 (Qjp rfl),tv⟩ ?_
       obtain⟨hi69,h⟩:=cko h
       obtain⟨hi69a,hi69b⟩:=Qaw hi69
       obtain⟨x70,hg71,h⟩:=bno h
       obtain⟨hi72,h⟩:=cko h
       obtain⟨hi72a,hi72b⟩:=Qaw hi72
       obtain⟨x73,hg74,h⟩:=bno h
       refine wx1 tbk [(1,rb [(.tmp 83,.ref 1 53 0 0)] [(1,(Qp6 p0 x66))] (.ref 1 53 0 0)),(5,rb [(.tmp 86,(.own 3 1 (0) (((p0.Hours.length:Int).toNat)))),(.tmp 87,I y46)] [(3,(.own 1 (x66.2.2.2.map Qaa)))] (.ref 3 1 y46.toNat 0)),(6,rb [(.tmp 88,(.ref 3 1 y46.toNat 0))] [(3,(.own 1 (x66.2.2.2.map Qaa)))] (I x70)),(9,rb [(.tmp 86,(.own 3 1 (0) (((p0.Hours.length:Int).toNat)))),(.tmp 87,I y46)] [(3,(.own 1 (x66.2.2.2.map Qaa)))] (.ref 3 1 y46.toNat 0)),(10,⟨[(.tmp 92,(.ref 3 1 y46.toNat 0)),(.tmp 91,(I (w64 (x70+x67))))],[(3,(.own 1 (x66.2.2.2.map Qaa)))],.any,[(3,(.own 1 ((x66.2.2.2.set y46.toNat (w64 (x70+x67)):List Int).map Qaa)))],false⟩)] ⟨Qbb rfl,aio rfl underlying25 ti3 (odt hi69a) (odt hi69b) (Nat.zero_add _),ald rfl ti3 (by decide) (mgt Qaa hg71) (nle rfl) rfl,aio rfl underlying25 ti3 (odt hi72a) (odt hi72b) (Nat.zero_add _),ast rfl ti3 (by rfl) (mgt Qaa hg74) (nle rfl) (Qd7 Qaa rfl),tv⟩<|bln<|thn<|wxz1<|thn ?_
       exact arm (mto (n:=121) [(1,.ref 0 3 0 0),(4,I 0),(8,.ref 1 53 0 0),(11,I x67),(63,(Qfm p0)),(64,(I ((p0.Hours.length:Int)))),(65,(I (w64 (y46+1))))] [0,1,2,3] [(Qjv p0),(Qp6 p0 x66),(.own 1 (x66.2.2.1.map Qaa)),(.own 1 ((x66.2.2.2.set y46.toNat (w64 (x70+x67)):List Int).map Qaa))] hq (prr (pw (prr (pw (pc (rnd Qac) (pw (pw pn))))))) (qb (lcc (lc (rnd Qac) ln)) (qb (lcc (lc (rnd Qac) (lc (.rn (Qag rfl)) (lc (.rn (Qag rfl)) (Qcg (Qat fun _=>rwl) (Qat fun _=>rwl)))))) (qc (spr Qab) (qc (spr Qab) qn))))) (ih (x67,w64 (y46+1),x66.1,x66.2.1,x66.2.2.1,x66.2.2.2.set y46.toNat (w64 (x70+x67))) h)
      ·exact wfn hc58<|Qaz<|Qao<|Qao<|Qay rfl<|thn<|⟨(y47,y48,y49,y50),h,(mto (n:=121) [(1,.ref 0 3 0 0),(4,I 0),(8,.ref 1 53 0 0)] [0,1,2,3] [(Qjv p0),(Qp7 p0 y47 y48),(.own 1 (y49.map Qaa)),(.own 1 (y50.map Qaa))] hq (prr (pw (prr pn))) (qb (lcc (lc (rnd Qac) ln)) (qb (lcc (lc (rnd Qac) (lc (.rn (Qag rfl)) (lc (.rn (Qag rfl)) (Qcg (Qat fun _=>rwl) (Qat fun _=>rwl)))))) (qc (spr Qab) (qc (spr Qab) qn)))))⟩
    ·skip
     refine wx tbk [(2,rp _ _)] ⟨alq 2 Qaj p0.Hours underlying55,tv⟩<|Qai ?_
     refine wmr (mto (n:=121) (l':=[(1,.ref 0 3 0 0),(4,I 0),(8,.ref 1 53 0 0),(38,(Qfm p0)),(39,(I ((p0.Hours.length:Int)))),(40,I 0)]) (own':=[(Qjv p0),(.own 53 [((I p0.Tank)::(I p0.Start)::(Qfm p0)::(.own 2 1 (0) ((p0.Hours.length:Int).toNat))::(.own 3 1 (0) ((p0.Hours.length:Int).toNat))::(arrF 24 (fun _=>0)++arrF 24 (fun _=>0)))]),(Qhn p0),(Qhn p0)]) [(1,.ref 0 3 0 0),(4,I 0),(8,.ref 3 53 0 0),(38,(Qfm p0)),(39,(I ((p0.Hours.length:Int)))),(40,I 0)] [0,3,1,2] [(Qjv p0),(.own 53 [((I p0.Tank)::(I p0.Start)::(Qfm p0)::(.own 1 1 (0) ((p0.Hours.length:Int).toNat))::(.own 2 1 (0) ((p0.Hours.length:Int).toNat))::(arrF 24 (fun _=>0)++arrF 24 (fun _=>0)))]),(Qhn p0),(Qhn p0)] hq (prr (pw (prr (pc (rnd Qac) (pw (pw pn)))))) (qb (lcc (lc (rnd Qac) ln)) (qb (lcc (lc (rnd Qac) (lc (.rn (Qag rfl)) (lc (.rn (Qag rfl)) (Qcg (Qat fun _=>rwl) (Qat fun _=>rwl)))))) (qc (spr Qab) (qc (spr Qab) qn))))) ?_
     refine Qb1 (τ:=Int×(Nat→Int)) (fun n t=>Qck N p0 k16 n t.1 t.2=some r) (fun ⟨y75,y76⟩=>⟨mk 121 [(1,.ref 0 3 0 0),(4,I 0),(8,.ref 1 53 0 0),(38,(Qfm p0)),(39,(I ((p0.Hours.length:Int)))),(40,I y75)],[(Qjv p0),(Qju p0 y76),(Qhn p0),(Qhn p0)]⟩) (fun t h=>by rw[Qck] at h;cases h) (fun n79 ih t h=>?_) N (0,fun _=>0) h
     obtain⟨y75,y76⟩:=t
     rw[Qck] at h
     skip
     refine wxz<|wsq ?_
     refine bfe h (fun hc80 h=>?_) fun hc80 h=>?_
     ·refine wft hc80<|Qak<|thn<|wsq<|Qai ?_
      obtain⟨x81,hg82,h⟩:=bno h
      obtain⟨hi83,hj84⟩:=gsm hg82
      refine wx tbk [(1,rp _ _)] ⟨aiq underlying55 ti62 Qaj hi83 hj84,tv⟩ ?_
      refine wx tbk [(2,rp _ _)] ⟨alq 2 Qae x81.Stairs underlying60,tv⟩ ?_
      refine bfe h (fun hc85 h=>?_) fun hc85 h=>?_
      ·refine wft hc85 ?_
       obtain⟨x86,hg87,h⟩:=bno h
       obtain⟨hi88,hj89⟩:=gsm hg87
       obtain⟨hi90,h⟩:=cko h
       obtain⟨hi90a,hi90b⟩:=Qaw hi90
       refine wy1 tbk [(4,rp _ _),(7,rb [(.tmp 49,.ref 1 53 0 0)] [(1,(Qju p0 y76))] (.ref 1 53 0 0)),(9,rb [(.tmp 57,.ref 1 53 0 29),(.tmp 50,I y75)] [(1,(Qju p0 y76))] (.ref 1 53 0 (29+y75.toNat*1))),(10,⟨[(.tmp 58,(.ref 1 53 0 (29+y75.toNat*1))),(.tmp 55,I x86.Amount)],[(1,(Qju p0 y76))],.any,[(1,(Qt7 p0 y76 y75 x86))],false⟩)] ⟨aiq underlying60 ti64 Qae hi88 hj89,Qbb rfl,Qdz rfl underlying132 ti3 (odt hi90a) (odt hi90b) rfl,ast rfl ti3 (by rfl) rfl (Qhk (n:=24) (odt hi90b) (nle rfl)) (Qq6 (pre:=((I p0.Tank)::(I p0.Start)::(Qfm p0)::(.own 2 1 (0) ((p0.Hours.length:Int).toNat))::(.own 3 1 (0) ((p0.Hours.length:Int).toNat))::arrF 24 (fun _=>0))) (post:=[]) (n:=24) (f:=y76) (by kernel_rfl) rfl (by kernel_rfl) (odt hi90b)),tv⟩<|bln<|thn<|wxz1<|thn ?_
       exact arm (mto (n:=121) [(1,.ref 0 3 0 0),(4,I 0),(8,.ref 1 53 0 0),(38,(Qfm p0)),(39,(I ((p0.Hours.length:Int)))),(40,(I (w64 (y75+1))))] [0,1,2,3] [(Qjv p0),(Qt7 p0 y76 y75 x86),(Qhn p0),(Qhn p0)] hq (prr (pw (prr (pc (rnd Qac) (pw (pw pn)))))) (qb (lcc (lc (rnd Qac) ln)) (qb (lcc (lc (rnd Qac) (lc (.rn (Qag rfl)) (lc (.rn (Qag rfl)) (Qcg (Qat fun _=>rwl) (Qat fun _=>rwl)))))) (qc (spr Qab) (qc (spr Qab) qn))))) (ih (w64 (y75+1),setF y76 y75.toNat x86.Amount) h)
      ·exact wfn hc85<|Qak<|bln<|thn<|wxz1<|thn<|arm (mto (n:=121) [(1,.ref 0 3 0 0),(4,I 0),(8,.ref 1 53 0 0),(38,(Qfm p0)),(39,(I ((p0.Hours.length:Int)))),(40,(I (w64 (y75+1))))] [0,1,2,3] [(Qjv p0),(Qju p0 y76),(Qhn p0),(Qhn p0)] hq (prr (pw (prr (pc (rnd Qac) (pw (pw pn)))))) (qb (lcc (lc (rnd Qac) ln)) (qb (lcc (lc (rnd Qac) (lc (.rn (Qag rfl)) (lc (.rn (Qag rfl)) (Qcg (Qat fun _=>rwl) (Qat fun _=>rwl)))))) (qc (spr Qab) (qc (spr Qab) qn))))) (ih (w64 (y75+1),y76) h)
     ·exact wfn hc80<|Qaz<|Qao<|Qao<|Qay rfl<|thn<|⟨(y76),h,(mto (n:=121) [(1,.ref 0 3 0 0),(4,I 0),(8,.ref 1 53 0 0)] [0,1,2,3] [(Qjv p0),(Qju p0 y76),(Qhn p0),(Qhn p0)] hq (prr (pw (prr pn))) (qb (lcc (lc (rnd Qac) ln)) (qb (lcc (lc (rnd Qac) (lc (.rn (Qag rfl)) (lc (.rn (Qag rfl)) (Qcg (Qat fun _=>rwl) (Qat fun _=>rwl)))))) (qc (spr Qab) (qc (spr Qab) qn)))))⟩
end
section
def Qcw (N:Nat) (p0:List Qbf) (k2:Unit→Option Bool):Nat→Int→Option Bool
  |0,_=>none
  |n5+1,y3=>
    bif (decide (y3<(p0.length:Int))) then
     (getI p0 y3).bind fun x7=>
     bif (decide (y3>0)) then
      (Qct N x7.Parent 0 (w64 (y3-1))).bind fun x13=>
      bif (!x13) then
       some false
      else
       (Qej N x7.Loss).bind fun x16=>
       bif (!x16) then
        some false
       else
        (Qej N x7.Limit).bind fun x19=>
        bif (!x19) then
         some false
        else
         (Qct N x7.Rank 0 100).bind fun x22=>
         bif (!x22) then
          some false
         else
          Qcw N p0 k2 n5 (w64 (y3+1))
     else
      (Qej N x7.Loss).bind fun x25=>
      bif (!x25) then
       some false
      else
       (Qej N x7.Limit).bind fun x28=>
       bif (!x28) then
        some false
       else
        (Qct N x7.Rank 0 100).bind fun x31=>
        bif (!x31) then
         some false
        else
         Qcw N p0 k2 n5 (w64 (y3+1))
    else
     k2 ()
def Qf5 (N:Nat) (p0:List Qbf):Option Bool:=
  Qco (fun _=>
    Qco (fun _=>
      some true) fun k2:Unit→Option Bool=>
    Qcw N p0 k2 N 0) fun k1:Unit→Option Bool=>
  (Qct N (p0.length:Int) 1 30).bind fun x34=>
  bif (!x34) then
   some false
  else
   (getI p0 0).bind fun x36=>
   bif (x36.Parent != (-1)) then
    some false
   else
    bif (x36.Loss != 0) then
     some false
    else
     bif (x36.Limit != 0) then
      some false
     else
      k1 ()
def Qk7 (p0:List Qbf):AV:=.dat 4 (p0.map Qa3)
def Qt3 (y3:Int) (x7:Qbf) (x13:Bool):List (Nat×Rec):=[(2,rp [((.tmp 38),(B ((decide (y3>0)))))] (B true)),(7,rp [((.tmp 39),(B true)),fu 68,((.tmp 41),(I x7.Parent)),ci 0,((.tmp 43),(I (w64 (y3-1))))] (B x13))]
def Qt2 y3 x7 x13 (x16:Bool):=hcat (Qt3 y3 x7 x13) [(10,rp [((.tmp 46),(B ((!x13))))] (B false)),(13,rp [((.tmp 47),(B false)),fu 93,((.tmp 49),(I x7.Loss))] (B x16))]
def Qt1 y3 x7 x13 x16 (x19:Bool):=hcat (Qt2 y3 x7 x13 x16) [(16,rp [((.tmp 52),(B ((!x16))))] (B false)),(19,rp [((.tmp 53),(B false)),fu 93,((.tmp 55),(I x7.Limit))] (B x19))]
def Qt0 (y3:Int) (x7:Qbf) (x25:Bool):List (Nat×Rec):=[(2,rp [((.tmp 38),(B ((decide (y3>0)))))] (B false)),(13,rp [((.tmp 47),(B false)),fu 93,((.tmp 49),(I x7.Loss))] (B x25))]
def Qtz y3 x7 x25 (x28:Bool):=hcat (Qt0 y3 x7 x25) [(16,rp [((.tmp 52),(B ((!x25))))] (B false)),(19,rp [((.tmp 53),(B false)),fu 93,((.tmp 55),(I x7.Limit))] (B x28))]
def Qty (p0:List Qbf) (x34:Bool):List (Nat×Rec):=[(1,rp [((.tmp 5),(Qk7 p0))] (I ((p0.length:Int)))),(2,rp [fu 68,((.tmp 6),(I ((p0.length:Int)))),ci 1,ci 30] (B x34))]
def Qtx p0 x34 (x36:Qbf):=hcat (Qty p0 x34) [(4,rp [((.tmp 8),(B ((!x34))))] (B false)),(6,rp [((.tmp 9),(B false)),((.tmp 10),(Qk7 p0)),ci 0] (.dptr (Qa3 x36) 0))]
def Qtw p0 x34 x36:=hcat (Qtx p0 x34 x36) [(11,rp [((.tmp 15),(B ((x36.Parent != (-1)))))] (B false)),(13,rp [((.tmp 16),(B false)),((.tmp 17),(Qk7 p0)),ci 0] (.dptr (Qa3 x36) 0))]
theorem Qip (N:Nat) (p0:List Qbf) (r:Bool) (h:Qf5 N p0=some r):Spec prog 63 [(.dat 4 (p0.map Qa3))] [] (B r) []:=by
  refine sA func63 0 fun _ _ _ hq hd0=>?_
  unfold Qf5 at h
  refine wxz ?_
  obtain⟨k1,hk_k1,h⟩:=jko h
  refine wjn (τ:=Unit) (fun t=>k1 t=some r) (fun _=>⟨mk 66 [(0,(Qk7 p0))],[]⟩) (fun t h=>?_) ?_
  ·subst hk_k1
   obtain⟨k2,hk_k2,h⟩:=jko h
   refine wjn (τ:=Unit) (fun t=>k2 t=some r) (fun _=>⟨mk 66 [],[]⟩) (fun t h=>?_) ?_
   ·subst hk_k2
    exact wxz<|Qal<|frb h
   ·skip
    refine wx tbk [(1,rp _ _)] ⟨alq 4 Qa3 p0 underlying69,tv⟩<|Qai ?_
    refine wmr (mto (n:=66) (l':=[(30,(Qk7 p0)),(31,(I ((p0.length:Int)))),(32,I 0)]) (own':=[]) [(30,(Qk7 p0)),(31,(I ((p0.length:Int)))),(32,I 0)] [] [] hq (pc (rnd Qad) (pw (pw pn))) qn) ?_
    refine Qb1 (τ:=Int) (fun n t=>Qcw N p0 k2 n t=some r) (fun y3=>⟨mk 66 [(30,(Qk7 p0)),(31,(I ((p0.length:Int)))),(32,I y3)],[]⟩) (fun t h=>by rw[Qcw] at h;cases h) (fun n5 ih y3 h=>?_) N (0) h
    rw[Qcw] at h
    skip
    refine wxz<|wsq ?_
    refine bfe h (fun hc6 h=>?_) fun hc6 h=>?_
    ·refine wft hc6<|Qak<|thn<|wsq<|Qai ?_
     obtain⟨x7,hg8,h⟩:=bno h
     obtain⟨hi9,hj10⟩:=gsm hg8
     refine wx tbk [(1,rp _ _)] ⟨aiq underlying69 Qiv Qa3 hi9 hj10,tv⟩ ?_
     refine bfe h (fun hb11 h=>?_) fun hb11 h=>?_
     ·obtain⟨x13,hf12,h⟩:=bno h
      refine hpre (A:=(Qt3 y3 x7 x13)) ⟨asb hb11 (amv rfl),ag_ (apv Qgj (Qcs N x7.Parent 0 (w64 (y3-1)) _ hf12) (nlcc (nlc nll nl0)) nll),tv⟩ fun q1_=>?_
      refine bfe h (fun hb14 h=>?_) fun hb14 h=>?_
      ·exact wx tbk (hcat (Qt3 y3 x7 x13) [(10,rp [(.tmp 46,(B ((!x13))))] (B true))]) (hap q1_ ⟨asb hb14 (amv rfl),tv⟩)<|wtr<|wxz<|Qal<|Qav<|Qam<|Qam<|Qav<|Qam<|frb h
      ·obtain⟨x16,hf15,h⟩:=bno h
       refine hpre (A:=(Qt2 y3 x7 x13 x16)) (hap q1_ ⟨asb hb14 (amv rfl),ag_ (apv Qhz (Qed N x7.Loss _ hf15) (nlc nll nl0) nll),tv⟩) fun q2_=>?_
       refine bfe h (fun hb17 h=>?_) fun hb17 h=>?_
       ·exact wx tbk (hcat (Qt2 y3 x7 x13 x16) [(16,rp [(.tmp 52,(B ((!x16))))] (B true))]) (hap q2_ ⟨asb hb17 (amv rfl),tv⟩)<|wtr<|wxz<|Qal<|Qav<|Qam<|Qam<|Qav<|Qam<|frb h
       ·obtain⟨x19,hf18,h⟩:=bno h
        refine hpre (A:=(Qt1 y3 x7 x13 x16 x19)) (hap q2_ ⟨asb hb17 (amv rfl),ag_ (apv Qhz (Qed N x7.Limit _ hf18) (nlc nll nl0) nll),tv⟩) fun q3_=>?_
        refine bfe h (fun hb20 h=>?_) fun hb20 h=>?_
        ·exact wx tbk (hcat (Qt1 y3 x7 x13 x16 x19) [(22,rp [(.tmp 58,(B ((!x19))))] (B true))]) (hap q3_ ⟨asb hb20 (amv rfl),tv⟩)<|wtr<|wxz<|Qal<|Qav<|Qam<|Qam<|Qav<|Qam<|frb h
        ·obtain⟨x22,hf21,h⟩:=bno h
         refine wx tbk (hcat (Qt1 y3 x7 x13 x16 x19) [(22,rp [(.tmp 58,(B ((!x19))))] (B false)),(25,rp [(.tmp 59,B false),fu 68,(.tmp 61,I x7.Rank),ci 0,ci 100] (B x22))]) (hap q3_ ⟨asb hb20 (amv rfl),ag_ (apv Qgj (Qcs N x7.Rank 0 100 _ hf21) (nlcc (nlc nll nl0)) nll),tv⟩) ?_
         refine bfe h (fun hc23 h=>?_) fun hc23 h=>?_
         ·exact wft hc23<|wxz<|Qal<|Qav<|Qam<|Qam<|Qav<|Qam<|frb h
         ·exact wfn hc23<|Qak<|bln<|thn<|wxz1<|thn<|arm (mto (n:=66) [(30,(Qk7 p0)),(31,(I ((p0.length:Int)))),(32,(I (w64 (y3+1))))] [] [] hq (pc (rnd Qad) (pw (pw pn))) qn) (ih (w64 (y3+1)) h)
     ·obtain⟨x25,hf24,h⟩:=bno h
      refine hpre (A:=(Qt0 y3 x7 x25)) ⟨asb hb11 (amv rfl),ag_ (apv Qhz (Qed N x7.Loss _ hf24) (nlc nll nl0) nll),tv⟩ fun q4_=>?_
      refine bfe h (fun hb26 h=>?_) fun hb26 h=>?_
      ·exact wx tbk (hcat (Qt0 y3 x7 x25) [(16,rp [(.tmp 52,(B ((!x25))))] (B true))]) (hap q4_ ⟨asb hb26 (amv rfl),tv⟩)<|wtr<|wxz<|Qal<|Qav<|Qam<|Qam<|Qav<|Qam<|frb h
      ·obtain⟨x28,hf27,h⟩:=bno h
       refine hpre (A:=(Qtz y3 x7 x25 x28)) (hap q4_ ⟨asb hb26 (amv rfl),ag_ (apv Qhz (Qed N x7.Limit _ hf27) (nlc nll nl0) nll),tv⟩) fun q5_=>?_
       refine bfe h (fun hb29 h=>?_) fun hb29 h=>?_
       ·exact wx tbk (hcat (Qtz y3 x7 x25 x28) [(22,rp [(.tmp 58,(B ((!x28))))] (B true))]) (hap q5_ ⟨asb hb29 (amv rfl),tv⟩)<|wtr<|wxz<|Qal<|Qav<|Qam<|Qam<|Qav<|Qam<|frb h
       ·obtain⟨x31,hf30,h⟩:=bno h
        refine wx tbk (hcat (Qtz y3 x7 x25 x28) [(22,rp [(.tmp 58,(B ((!x28))))] (B false)),(25,rp [(.tmp 59,B false),fu 68,(.tmp 61,I x7.Rank),ci 0,ci 100] (B x31))]) (hap q5_ ⟨asb hb29 (amv rfl),ag_ (apv Qgj (Qcs N x7.Rank 0 100 _ hf30) (nlcc (nlc nll nl0)) nll),tv⟩) ?_
        refine bfe h (fun hc32 h=>?_) fun hc32 h=>?_
        ·exact wft hc32<|wxz<|Qal<|Qav<|Qam<|Qam<|Qav<|Qam<|frb h
        ·exact wfn hc32<|Qak<|bln<|thn<|wxz1<|thn<|arm (mto (n:=66) [(30,(Qk7 p0)),(31,(I ((p0.length:Int)))),(32,(I (w64 (y3+1))))] [] [] hq (pc (rnd Qad) (pw (pw pn))) qn) (ih (w64 (y3+1)) h)
    ·exact wfn hc6<|Qaz<|Qao<|Qao<|Qay rfl<|thn<|⟨(),h,(mto (n:=66) [] [] [] hq pn qn)⟩
  ·skip
   obtain⟨x34,hf33,h⟩:=bno h
   refine hpre (A:=(Qty p0 x34)) ⟨alq 4 Qa3 p0 underlying69,apv Qgj (Qcs N (p0.length:Int) 1 30 _ hf33) (nlcc (nlc nll nl0)) nll,tv⟩ fun q6_=>?_
   refine bfe h (fun hb35 h=>?_) fun hb35 h=>?_
   ·exact wx tbk (hcat (Qty p0 x34) [(4,rp [(.tmp 8,(B ((!x34))))] (B true))]) (hap q6_ ⟨asb hb35 (amv rfl),tv⟩)<|wtr<|wxz<|Qal<|Qam<|frb h
   ·obtain⟨x36,hg37,h⟩:=bno h
    obtain⟨hi38,hj39⟩:=gsm hg37
    refine hpre (A:=(Qtx p0 x34 x36)) (hap q6_ ⟨asb hb35 (amv rfl),ag_ (aiq underlying69 Qiv Qa3 hi38 hj39),tv⟩) fun q7_=>?_
    refine bfe h (fun hb40 h=>?_) fun hb40 h=>?_
    ·exact wx tbk (hcat (Qtx p0 x34 x36) [(11,rp [(.tmp 15,(B ((x36.Parent != (-1)))))] (B true))]) (hap q7_ ⟨asb hb40 (amv rfl),tv⟩)<|wtr<|wxz<|Qal<|Qam<|frb h
    ·refine hpre (A:=(Qtw p0 x34 x36)) (hap q7_ ⟨asb hb40 (amv rfl),ag_ (aiq underlying69 Qiv Qa3 hi38 hj39),tv⟩) fun q8_=>?_
     refine bfe h (fun hb41 h=>?_) fun hb41 h=>?_
     ·exact wx tbk (hcat (Qtw p0 x34 x36) [(18,rp [(.tmp 22,(B ((x36.Loss != 0))))] (B true))]) (hap q8_ ⟨asb hb41 (amv rfl),tv⟩)<|wtr<|wxz<|Qal<|Qam<|frb h
     ·refine wx tbk (hcat (Qtw p0 x34 x36) [(18,rp [(.tmp 22,(B ((x36.Loss != 0))))] (B false)),(20,rp [(.tmp 23,B false),(.tmp 24,(Qk7 p0)),ci 0] (.dptr (Qa3 x36) 0))]) (hap q8_ ⟨asb hb41 (amv rfl),ag_ (aiq underlying69 Qiv Qa3 hi38 hj39),tv⟩) ?_
      refine bfe h (fun hc42 h=>?_) fun hc42 h=>?_
      ·exact wft hc42<|wxz<|Qal<|Qam<|frb h
      ·exact wfn hc42<|Qak<|thn<|⟨(),h,(mto (n:=66) [(0,(Qk7 p0))] [] [] hq (pc (rnd Qad) pn) qn)⟩
def Qfn (N:Nat) (p0:Int):Option Bool:=
  (Qej N p0).bind fun x3=>
  some (!x3)
abbrev Qw2:Slot:=.own 1 [[(.fn (.func 93) [] [])]]
theorem Qic (N:Nat) (p0:Int) (r:Bool) (h:Qfn N p0=some r):Spec prog 102 [(I p0),(.ref 0 1 (0) 0)] [Qw2] (B r) [Qw2]:=by
  refine sF func102 1 fun _ _ _ hq hd0=>?_
  unfold Qfn at h
  refine wxz ?_
  obtain⟨x3,hf2,h⟩:=bno h
  refine wx tbk [(2,rp _ _)] ⟨apw Qhz (Qed N p0 _ hf2),tv⟩ ?_
  refine wmr (mto (n:=8) (l':=[(3,(B ((!x3))))]) (own':=[Qw2]) [(3,(B ((!x3))))] [0] [Qw2] hq (pw pn) (qb (lc (.rn (Qau rn0 rn0)) ln) qn))<|Qal ?_
  obtain rfl:=osi h
  exact⟨_,Mor.rfl,fio [(B ((!x3)))] ⟨rot,tv⟩⟩
def Qbw (N:Nat) (p0:List Int) (k2:Unit→Option Int):Nat→Int→Option Int
  |0,_=>none
  |n5+1,y3=>
    bif (decide (y3<(p0.length:Int))) then
     (getI p0 y3).bind fun x7=>
     (Qfn N x7).bind fun x12=>
     bif x12 then
      some y3
     else
      Qbw N p0 k2 n5 (w64 (y3+1))
    else
     k2 ()
def Qdu (N:Nat) (p0:List Int):Option Int:=
  Qco (fun _=>
    some (-1)) fun k2:Unit→Option Int=>
  Qbw N p0 k2 N 0
abbrev Qtv:AV:=.fn (.func 102) [] [(.ref 0 1 (0) 0)]
abbrev Qi5:Slot:=.own 1 [[(.fn (.func 93) [] [])]]
theorem Qfy (N:Nat) (p0:List Int) (r:Int) (h:Qdu N p0=some r):Spec prog 88 [(.dat 1 (p0.map Qaa)),Qtv] [Qi5] (I r) [Qi5]:=by
  refine sF func88 1 fun _ _ _ hq hd0=>?_
  unfold Qdu at h
  refine wxz ?_
  obtain⟨k2,hk_k2,h⟩:=jko h
  refine wjn (τ:=Unit) (fun t=>k2 t=some r) (fun _=>⟨mk 19 [],[Qi5]⟩) (fun t h=>?_) ?_
  ·subst hk_k2
   refine wxz<|wmr (mto (n:=19) (l':=[(4,(I ((-1))))]) (own':=[Qi5]) [(4,(I ((-1))))] [0] [Qi5] hq (pw pn) (qb (lc (.rn (Qau rn0 rn0)) ln) qn))<|Qal ?_
   obtain rfl:=osi h
   exact⟨_,Mor.rfl,fio [(I ((-1)))] ⟨rot,tv⟩⟩
  ·skip
   refine wx tbk [(1,rp _ _)] ⟨alq 1 Qaa p0 underlying25,tv⟩<|Qai ?_
   refine wmr (mto (n:=19) (l':=[(0,(.dat 1 (p0.map Qaa))),(1,Qtv),(7,(I ((p0.length:Int)))),(8,I 0)]) (own':=[Qi5]) [(0,(.dat 1 (p0.map Qaa))),(1,Qtv),(7,(I ((p0.length:Int)))),(8,I 0)] [0] [Qi5] hq (pc (rnd Qab) (pc (.rn (Qau rn0 (rnc (rqr rfl) rn0))) (pw (pw pn)))) (qb (lc (.rn (Qau rn0 rn0)) ln) qn)) ?_
   refine Qb1 (τ:=Int) (fun n t=>Qbw N p0 k2 n t=some r) (fun y3=>⟨mk 19 [(0,(.dat 1 (p0.map Qaa))),(1,Qtv),(7,(I ((p0.length:Int)))),(8,I y3)],[Qi5]⟩) (fun t h=>by rw[Qbw] at h;cases h) (fun n5 ih y3 h=>?_) N (0) h
   rw[Qbw] at h
   skip
   refine wxz<|wsq ?_
   refine bfe h (fun hc6 h=>?_) fun hc6 h=>?_
   ·refine wft hc6<|Qak<|thn<|wsq<|Qai<|wxz ?_
    obtain⟨x7,hg8,h⟩:=bno h
    obtain⟨hi9,hj10⟩:=gsm hg8
    obtain⟨x12,hf11,h⟩:=bno h
    refine wx tbk [(3,rp _ _),(5,⟨_,_,_,_,false⟩)] ⟨aiq underlying25 ti3 Qaa hi9 hj10,Qeh (first:=[]) (cap:=[.ref 0 1 0 0]) (vs:=[I x7]) (σr:=[Qi5]) (σr':=[Qi5]) (res':=(B x12)) [0] rfl Qye (Qic N x7 _ hf11) rfl (Qcv (rnc (.plain _ nll) (rnc (Qbr rfl) rn0))) (slc (Qan (rnc (.plain _ (NLt.fn _ _ _ nl0 nl0)) rn0)) Qaq) (slc (Qan (rnc (.plain _ (NLt.fn _ _ _ nl0 nl0)) rn0)) Qaq) (.plain _ nll) rfl rfl rfl,tv⟩ ?_
    refine bfe h (fun hc13 h=>?_) fun hc13 h=>?_
    ·refine wft hc13<|wxz ?_
     refine wmr (mto (n:=19) (l':=[(4,I y3)]) (own':=[Qi5]) [(4,I y3)] [0] [Qi5] hq (pw pn) (qb (lc (.rn (Qau rn0 rn0)) ln) qn))<|Qal<|Qav<|Qam<|Qam<|Qav<|Qam ?_
     obtain rfl:=osi h
     exact⟨_,Mor.rfl,fio [I y3] ⟨rot,tv⟩⟩
    ·exact wfn hc13<|Qak<|bln<|thn<|wxz1<|thn<|arm (mto (n:=19) [(0,(.dat 1 (p0.map Qaa))),(1,Qtv),(7,(I ((p0.length:Int)))),(8,(I (w64 (y3+1))))] [0] [Qi5] hq (pc (rnd Qab) (pc (.rn (Qau rn0 (rnc (rqr rfl) rn0))) (pw (pw pn)))) (qb (lc (.rn (Qau rn0 rn0)) ln) qn)) (ih (w64 (y3+1)) h)
   ·exact wfn hc6<|Qaz<|Qao<|Qao<|Qay rfl<|thn<|⟨(),h,(mto (n:=19) [] [0] [Qi5] hq pn (qb (lc (.rn (Qau rn0 rn0)) ln) qn))⟩
def Qdi (N:Nat) (p0:List Int):Option Bool:=
  (Qdu N p0).bind fun x3=>
  some (decide (x3≥0))
abbrev Q15:AV:=.fn (.func 102) [] [(.ref 0 1 (0) 0)]
abbrev Qr1:Slot:=.own 1 [[(.fn (.func 93) [] [])]]
theorem Qff (N:Nat) (p0:List Int) (r:Bool) (h:Qdi N p0=some r):Spec prog 45 [(.dat 1 (p0.map Qaa)),Q15] [Qr1] (B r) [Qr1]:=by
  refine sF func45 1 fun _ _ _ hq hd0=>?_
  unfold Qdi at h
  refine wxz ?_
  obtain⟨x3,hf2,h⟩:=bno h
  refine wx tbk [(2,⟨_,_,_,_,false⟩)] ⟨acq [(.dat 1 (p0.map Qaa)),Q15] [Qr1] [Qr1] (I x3) [0] Q0u (Qfy N p0 _ hf2) (Qcv (rnc (pld Qab) (rnc (Qau rn0 (rnc (Qbr rfl) rn0)) rn0))) (slc (Qan (rnc (.plain _ (NLt.fn _ _ _ nl0 nl0)) rn0)) Qaq) (slc (Qan (rnc (.plain _ (NLt.fn _ _ _ nl0 nl0)) rn0)) Qaq) (.plain _ nll),tv⟩ ?_
  refine wmr (mto (n:=9) (l':=[(4,(B ((decide (x3≥0)))))]) (own':=[Qr1]) [(4,(B ((decide (x3≥0)))))] [0] [Qr1] hq (pw pn) (qb (lc (.rn (Qau rn0 rn0)) ln) qn))<|Qal ?_
  obtain rfl:=osi h
  exact⟨_,Mor.rfl,fio [(B ((decide (x3≥0))))] ⟨rot,tv⟩⟩
def Qgd (N:Nat) (p0:List Int):Option Bool:=
  (Qdi N p0).bind fun x2=>
  some (!x2)
def Q16:AV:=.fn (.func 102) [] [(.ref 0 1 (0) 0)]
def Q17:Slot:=.own 1 [[(.fn (.func 93) [] [])]]
theorem Qi9 (N:Nat) (p0:List Int) (r:Bool) (h:Qgd N p0=some r):Spec prog 73 [(.dat 1 (p0.map Qaa)),(.fn (.func 93) [] [])] [] (B r) []:=by
  refine sA func73 0 fun _ _ _ hq hd0=>?_
  unfold Qgd at h
  refine wxz ?_
  obtain⟨x2,hf1,h⟩:=bno h
  refine wx tbk [(1,rp [(.tmp 3,.ref 0 1 0 0)] Q16),(2,⟨_,_,_,_,false⟩)] ⟨Qfs (fs:=[]) (cs:=[.ref 0 1 0 0]) rfl rfl rfl rfl,acq [(.dat 1 (p0.map Qaa)),Q16] [Q17] [Q17] (B x2) [0] Q06 (Qff N p0 _ hf1) (Qcv (rnc (pld Qab) (rnc (Qau rn0 (rnc (Qbr rfl) rn0)) rn0))) (slc (Qan (rnc (.plain _ (NLt.fn _ _ _ nl0 nl0)) rn0)) Qaq) (slc (Qan (rnc (.plain _ (NLt.fn _ _ _ nl0 nl0)) rn0)) Qaq) (.plain _ nll),tv⟩<|Qal ?_
  obtain rfl:=osi h
  exact fend ⟨[(B ((!x2)))],⟨rot,tv⟩,rfl⟩ nll
def Qh4 (N:Nat) (p0:List Qbf) (p1:List Int):Option Int:=
  (Qf5 N p0).bind fun x2=>
  bif (!x2) then
   some 1
  else
   bif ((p1.length:Int) != (p0.length:Int)) then
    some 2
   else
    (Qgd N p1).bind fun x6=>
    bif (!x6) then
     some 2
    else
     some 0
def Qzr (p1:List Int) (p0:List Qbf):List (Nat×Rec):=[(1,rp [((.tmp 10),(.dat 1 (p1.map Qaa)))] (I ((p1.length:Int)))),(3,rp [((.tmp 12),(.dat 4 (p0.map Qa3)))] (I ((p0.length:Int))))]
theorem Qi8 (N:Nat) (p0:List Qbf) (p1:List Int) (r:Int) (h:Qh4 N p0 p1=some r):Spec prog 60 [(.dat 4 (p0.map Qa3)),(.dat 1 (p1.map Qaa))] [] (I r) []:=by
  refine sA func60 0 fun _ _ _ hq hd0=>?_
  unfold Qh4 at h
  refine wxz<|wsq<|Qai ?_
  obtain⟨x2,hf1,h⟩:=bno h
  refine wx tbk [(1,rp _ _)] ⟨apw Q0y (Qip N p0 _ hf1),tv⟩ ?_
  refine bfe h (fun hc3 h=>?_) fun hc3 h=>?_
  ·refine wft hc3<|wxz<|Qal<|Qav<|Qam ?_
   obtain rfl:=osi h
   exact fend ⟨[I 1],⟨rot,tv⟩,rfl⟩ nll
  ·refine wfn hc3<|hpre (A:=(Qzr p1 p0)) ⟨alq 1 Qaa p1 underlying25,alq 4 Qa3 p0 underlying69,tv⟩ fun q1_=>?_
   refine bfe h (fun hb4 h=>?_) fun hb4 h=>?_
   ·refine wx tbk (hcat (Qzr p1 p0) [(5,rp [(.tmp 14,(B (((p1.length:Int) != (p0.length:Int)))))] (B true))]) (hap q1_ ⟨asb hb4 (amv rfl),tv⟩)<|wtr<|wxz<|Qal<|Qav<|Qam ?_
    obtain rfl:=osi h
    exact fend ⟨[I 2],⟨rot,tv⟩,rfl⟩ nll
   ·obtain⟨x6,hf5,h⟩:=bno h
    refine wx tbk (hcat (Qzr p1 p0) [(5,rp [(.tmp 14,(B (((p1.length:Int) != (p0.length:Int)))))] (B false)),(7,rp [(.tmp 15,B false),fu 73,(.tmp 16,(.dat 1 (p1.map Qaa))),fu 93] (B x6))]) (hap q1_ ⟨asb hb4 (amv rfl),ag_ (acq [(.dat 1 (p1.map Qaa)),(.fn (.func 93) [] [])] [] [] (B x6) [] Q0v (Qi9 N p1 _ hf5) (Qcv (rnc (pld Qab) (rnc (.plain _ (NLt.fn _ _ _ nl0 nl0)) rn0))) Qaq Qaq (.plain _ nll)),tv⟩) ?_
    refine bfe h (fun hc7 h=>?_) fun hc7 h=>?_
    ·refine wft hc7<|wxz<|Qal<|Qav<|Qam ?_
     obtain rfl:=osi h
     exact fend ⟨[I 2],⟨rot,tv⟩,rfl⟩ nll
    ·refine wfn hc7<|Qak<|bln<|thn<|wxz<|Qal ?_
     obtain rfl:=osi h
     exact fend ⟨[I 0],⟨rot,tv⟩,rfl⟩ nll
def Qdq (_N:Nat) (p0:List Int):Option Unit:=
  chk (!p0.isEmpty)<|
  chk (!p0.isEmpty)<|
  chk (decide ((0+p0.length)*8≤140737488355328))<|
  some ()
def Q12:AV:=.acc 0 3 1 ((([]:List Int):List Int).map Qaa)
theorem Qe0 (N:Nat) (p0:List Int) (r:Unit) (h:Qdq N p0=some r):Spec prog 99 [(.dat 1 (p0.map Qaa))] [] (.own 0 1 (0) p0.length) [(.own 1 (p0.map Qaa))]:=by
  refine sF func99 1 fun _ _ _ hq hd0=>?_
  unfold Qdq at h
  refine wxz<|wsq ?_
  obtain⟨hz1,h⟩:=cko h
  refine wx tbk [(1,rp [(.tmp 3,(.dat 1 (p0.map Qaa))),((.const (.slice none 0 0)),nilS)] (B false))] ⟨Qqs rfl underlying25 rfl (Qex hz1),tv⟩<|wfa<|Qak<|thn ?_
  obtain⟨ha3,h⟩:=cko h
  obtain⟨ha2,h⟩:=cko h
  refine wx tbk [(0,⟨[],[(0,.unused)],Q12,[(0,.tok)],false⟩),(2,⟨[(.tmp 5,Q12),(.tmp 6,(.dat 1 (p0.map Qaa)))],[(0,.tok),(1,.unused)],(.own 1 1 (0) p0.length),[(0,.dead),(1,(.own 1 (p0.map Qaa)))],false⟩)] ⟨Qoj rfl underlying25 ti3 tz3,Qsz rfl underlying25 te3 (Base.acc _ _) rfl rfl (Qex ha3) (Qxs Qaa Q0a _) (Qys Qaa ha2) (Qyr Qaa ha2 (by decide)) (List.length_map _),tv⟩ ?_
  refine wmr (mto (n:=8) (l':=[(2,(.own 0 1 (0) p0.length))]) (own':=[(.own 1 (p0.map Qaa))]) [(2,(.own 1 1 (0) p0.length))] [1] [(.own 1 (p0.map Qaa))] hq (pc (.rn (Qag rfl)) pn) (qc (spr Qab) qn))<|Qal ?_
  obtain rfl:=osi h
  exact⟨_,Mor.rfl,fio [(.own 0 1 (0) p0.length)] ⟨rot,tv⟩⟩
def Qbz (_N:Nat) (_p0:List Qbf):Option Unit:=
  some ()
abbrev Qtu:AV:=.fn (.func 101) [] [(.ref 0 1 (0) 0)]
theorem Qde (N:Nat) (p0:List Qbf) (r:Unit) (h:Qbz N p0=some r):Spec prog 65 [(.dat 4 (p0.map Qa3))] [] Qtu [(.own 1 [[(.dat 4 (p0.map Qa3))]])]:=by
  refine sF func65 1 fun _ _ _ hq hd0=>?_
  unfold Qbz at h
  refine wxz<|wx tbk [(0,rp [(.tmp 1,.ref 0 1 0 0)] Qtu)] ⟨Qfs (fs:=[]) (cs:=[.ref 0 1 0 0]) rfl rfl rfl rfl,tv⟩ ?_
  refine wmr (mto (n:=4) (l':=[(2,Qtu)]) (own':=[(.own 1 [[(.dat 4 (p0.map Qa3))]])]) [(2,Qtu)] [0] [(.own 1 [[(.dat 4 (p0.map Qa3))]])] hq (pc (.rn (Qau rn0 (rnc (rqr rfl) rn0))) pn) (qb (lc (rnd Qad) ln) qn))<|Qal ?_
  obtain rfl:=osi h
  exact⟨_,Mor.rfl,fio [Qtu] ⟨rot,tv⟩⟩
def Qax (N:Nat) (p0:List Qbf):Nat→Int→Option (List (Int×Qbf))
  |0,_=>none
  |n7+1,y3=>
    bif (decide (y3≥0)) then
     (getI p0 y3).bind fun x9=>
     yld (y3,x9)<|
     Qax N p0 n7 (w64 (y3-1))
    else
     some ([])
def Qby (N:Nat) (p0:List Qbf):Option (List (Int×Qbf)):=
  (some (w64 ((p0.length:Int)-1))).bind fun x1=>
  Qax N p0 N x1
abbrev Qk6 (p0:List Qbf):AV:=.dat 4 (p0.map Qa3)
def Qw0 (x9:Qbf):AV:=.agg [(I x9.Parent),(I x9.Loss),(I x9.Limit),(I x9.Rank)]
theorem Qdd (N:Nat) (p0:List Qbf) (r:(List (Int×Qbf))) (h:Qby N p0=some r):Qmh prog 101 [(.ref 0 1 (0) 0)] [(.own 1 [[(Qk6 p0)]])] (fun x=>[(.int .i64 x.1),(.agg #[(.int .i64 x.2.Parent),(.int .i64 x.2.Loss),(.int .i64 x.2.Limit),(.int .i64 x.2.Rank)])]) r:=by
  refine Qmp func101 rfl rfl (fun X φ0 w0 l J hq hy=>?_)
  unfold Qby at h
  obtain⟨x1,hl2,h⟩:=bno h
  refine wx tbk [(1,rp _ _),(3,rp [(.tmp 6,(I (w64 ((p0.length:Int)-1))))] (I x1))] ⟨alq 4 Qa3 p0 underlying69,Qeb hl2 (aas rfl),tv⟩<|Qai ?_
  refine wmr (mto (n:=19) (l':=[(0,(.lit (.func (.yield l) #[] #[]))),(1,.ref 0 1 0 0),(3,I x1)]) (own':=[(.own 1 [[(Qk6 p0)]]),(.far (J (some r)))]) [(0,(.lit (.func (.yield l) #[] #[]))),(1,.ref 0 1 0 0),(3,I x1)] [0,1] [(.own 1 [[(Qk6 p0)]]),(.far (J (some r)))] hq (pw (prr (pw pn))) (qb (lc (rnd Qad) ln) (qc (.far _) qn))) ?_
  refine Qb1 (τ:=(Int)×List (Int×Qbf)) (fun n t=>Qax N p0 n t.1=some t.2) (fun ⟨y3,q4⟩=>⟨mk 19 [(0,(.lit (.func (.yield l) #[] #[]))),(1,.ref 0 1 0 0),(3,I y3)],[(.own 1 [[(Qk6 p0)]]),(.far (J (some q4)))]⟩) (fun t h=>by rw[Qax] at h;cases h) (fun n7 ih t h=>?_) N ((x1),r) h
  obtain⟨y3,q4⟩:=t
  rw[Qax] at h
  try dsimp only at h
  refine wsq<|wxz ?_
  refine bfe h (fun hc8 h=>?_) fun hc8 h=>?_
  ·refine wft hc8<|Qak<|thn<|wsq<|Qai ?_
   obtain⟨x9,hg10,h⟩:=bno h
   obtain⟨hi11,hj12⟩:=gsm hg10
   obtain⟨q13,hy_,hq_⟩:=Qua h
   clear h
   subst hq_
   have h:=hy_
   clear hy_
   refine Qrt 6 [mv 0 (.lit (.func (.yield l) #[] #[])),mv 3 (I y3),rb [(.tmp 1,.ref 0 1 0 0)] [(0,(.own 1 [[(Qk6 p0)]]))] (Qk6 p0),mv 3 (I y3),rp [(.tmp 13,(Qk6 p0)),(.tmp 14,I y3)] (.dptr (Qa3 x9) 0),rp [(.tmp 15,(.dptr (Qa3 x9) 0))] (Qw0 x9),⟨[(.tmp 11,(.lit (.func (.yield l) #[] #[]))),(.tmp 12,I y3),(.tmp 16,(Qw0 x9))],[(1,(.far (J (some ((y3,x9)::q13)))))],B true,[(1,(.far (J (some q13))))],false⟩,rp [(.tmp 17,B true)] (B false)] [mv 0 (.lit (.func (.yield l) #[] #[])),mv 3 (I y3),rb [(.tmp 1,.ref 0 1 0 0)] [(0,(.own 1 [[(Qk6 p0)]]))] (Qk6 p0),mv 3 (I y3),rp [(.tmp 13,(Qk6 p0)),(.tmp 14,I y3)] (.dptr (Qa3 x9) 0),rp [(.tmp 15,(.dptr (Qa3 x9) 0))] (Qw0 x9),⟨[(.tmp 11,(.lit (.func (.yield l) #[] #[]))),(.tmp 12,I y3),(.tmp 16,(Qw0 x9))],[(1,(.far (J (some ((y3,x9)::q13)))))],B false,[(1,(.far (J none)))],false⟩,rp [(.tmp 17,B false)] (B true)] (by exact⟨by kernel_rfl,by kernel_rfl⟩) (by exact⟨by kernel_rfl,by kernel_rfl⟩) rfl rfl rfl rfl (Qmd (rd':=(.tmp 11,.lit (.func (.yield l) #[] #[]))::[(.tmp 12,.lit (.int .i64 y3)),(.tmp 16,.lit (.agg #[(.int .i64 x9.Parent),(.int .i64 x9.Loss),(.int .i64 x9.Limit),(.int .i64 x9.Rank)]))]) ⟨rfl,lrf,rfl,lrf,rfl,(Less.lits [(.int .i64 x9.Parent),(.int .i64 x9.Loss),(.int .i64 x9.Limit),(.int .i64 x9.Rank)]),tv⟩ (Qkj (x:=(y3,x9)) (rest:=q13) rfl rfl hy rfl)) (⟨fun _ _=>amv rfl,fun _ _=>amv rfl,fun _ _=>ald rfl ti69 (by decide) rfl (nle rfl) rfl,fun _ _=>amv rfl,fun _ _=>aiq underlying69 Qiv Qa3 hi11 hj12,fun _ _=>ald_ rfl Qiv (by decide) (nle rfl) rfl,fun _ h=>absurd rfl h,fun _ _=>Qh1 rfl,tv⟩) (⟨fun _ _=>amv rfl,fun _ _=>amv rfl,fun _ _=>ald rfl ti69 (by decide) rfl (nle rfl) rfl,fun _ _=>amv rfl,fun _ _=>aiq underlying69 Qiv Qa3 hi11 hj12,fun _ _=>ald_ rfl Qiv (by decide) (nle rfl) rfl,fun _ h=>absurd rfl h,fun _ _=>Qh1 rfl,tv⟩) ?_ ?_
   ·skip
    exact wfa<|Qak<|bln<|thn<|wxz1<|thn<|arm (mto (n:=19) [(0,(.lit (.func (.yield l) #[] #[]))),(1,.ref 0 1 0 0),(3,(I (w64 (y3-1))))] [0,1] [(.own 1 [[(Qk6 p0)]]),(.far (J (some q13)))] hq (pw (prr (pw pn))) (qb (lc (rnd Qad) ln) (qc (.far _) qn))) (ih ((w64 (y3-1)),q13) h)
   ·clear h
    exact wtr<|Qal<|Qav<|Qam<|Qam<|Qav<|Or.inr (by kernel_rfl)
  ·refine wfn hc8<|Qaz<|Qao<|Qao<|Qay rfl ?_
   obtain rfl:=osi h
   exact Or.inl rfl
def Qd2 (_N:Nat) (p0:Int) (p1:Nat) (p2:List Qbf) (p3:List Int):Option (List Int):=
  Qco (fun y2=>
    (getI p2 p0).bind fun x4=>
    bif (decide (x4.Parent≥0)) then
     chk (decide (0≤x4.Parent)&&decide (x4.Parent.toNat<p1))<|
     (y2[x4.Parent.toNat]?).bind fun x10=>
     chk (decide (0≤p0)&&decide (p0.toNat<p1))<|
     (y2[p0.toNat]?).bind fun x13=>
     chk (decide (0≤x4.Parent)&&decide (x4.Parent.toNat<p1))<|
     (y2[x4.Parent.toNat]?).bind fun _=>
     some (y2.set x4.Parent.toNat (w64 (x10+x13)))
    else
     some y2) fun k3:(List Int)→Option (List Int)=>
  chk (decide (0≤p0)&&decide (p0.toNat<p1))<|
  (p3[p0.toNat]?).bind fun x19=>
  bif (decide (x19>0)) then
   chk (decide (0≤p0)&&decide (p0.toNat<p1))<|
   (p3[p0.toNat]?).bind fun x23=>
   (getI p2 p0).bind fun x25=>
   chk (decide (0≤p0)&&decide (p0.toNat<p1))<|
   (p3[p0.toNat]?).bind fun _=>
   k3 (p3.set p0.toNat (w64 (x23+x25.Loss)))
  else
   k3 (p3)
abbrev Qnj (p1:Nat):Slot:=.own 1 [[(.own 2 1 (0) p1)]]
abbrev Qni (p2:List Qbf):AV:=.dat 4 (p2.map Qa3)
theorem Qfc (N:Nat) (p0:Int) (p1:Nat) (p2:List Qbf) (p3 r:List Int) (h:Qd2 N p0 p1 p2 p3=some r):Spec prog 100 [(I p0),(.ref 0 1 (0) 0),(.ref 1 1 (0) 0)] [(Qnj p1),(.own 1 [[(Qni p2)]]),(.own 1 (p3.map Qaa))] (.tup []) [(Qnj p1),(.own 1 [[(Qni p2)]]),(.own 1 (r.map Qaa))]:=by
  refine sF func100 3 fun _ _ _ hq hd0=>?_
  unfold Qd2 at h
  obtain⟨k3,hk_k3,h⟩:=jko h
  refine wjn (τ:=(List Int)) (fun t=>k3 t=some r) (fun y2=>⟨mk 38 [(0,I p0),(1,.ref 0 1 0 0),(2,.ref 1 1 0 0)],[(Qnj p1),(.own 1 [[(Qni p2)]]),(.own 1 (y2.map Qaa))]⟩) (fun y2 h=>?_) ?_
  ·subst hk_k3
   obtain⟨x4,hg5,h⟩:=bno h
   obtain⟨hi6,hj7⟩:=gsm hg5
   refine wx tbk [(2,rp _ _)] ⟨aiq underlying69 Qiv Qa3 hi6 hj7,tv⟩<|wxz ?_
   refine bfe h (fun hc8 h=>?_) fun hc8 h=>?_
   ·refine wft hc8 ?_
    obtain⟨hi9,h⟩:=cko h
    obtain⟨hi9a,hi9b⟩:=Qaw hi9
    obtain⟨x10,hg11,h⟩:=bno h
    obtain⟨hi12,h⟩:=cko h
    obtain⟨hi12a,hi12b⟩:=Qaw hi12
    obtain⟨x13,hg14,h⟩:=bno h
    obtain⟨hi15,h⟩:=cko h
    obtain⟨hi15a,hi15b⟩:=Qaw hi15
    obtain⟨x16,hg17,h⟩:=bno h
    refine wy1 tbk [(2,rb [(.tmp 28,(.own 2 1 (0) p1)),(.tmp 29,I x4.Parent)] [(2,(.own 1 (y2.map Qaa)))] (.ref 2 1 x4.Parent.toNat 0)),(3,rb [(.tmp 30,(.ref 2 1 x4.Parent.toNat 0))] [(2,(.own 1 (y2.map Qaa)))] (I x10)),(6,rb [(.tmp 32,(.own 2 1 (0) p1)),(.tmp 33,I p0)] [(2,(.own 1 (y2.map Qaa)))] (.ref 2 1 p0.toNat 0)),(7,rb [(.tmp 34,(.ref 2 1 p0.toNat 0))] [(2,(.own 1 (y2.map Qaa)))] (I x13)),(9,rb [(.tmp 28,(.own 2 1 (0) p1)),(.tmp 29,I x4.Parent)] [(2,(.own 1 (y2.map Qaa)))] (.ref 2 1 x4.Parent.toNat 0)),(10,⟨[(.tmp 37,(.ref 2 1 x4.Parent.toNat 0)),(.tmp 36,(I (w64 (x10+x13))))],[(2,(.own 1 (y2.map Qaa)))],.any,[(2,(.own 1 ((y2.set x4.Parent.toNat (w64 (x10+x13)):List Int).map Qaa)))],false⟩)] ⟨aio rfl underlying25 ti3 (odt hi9a) (odt hi9b) (Nat.zero_add _),ald rfl ti3 (by decide) (mgt Qaa hg11) (nle rfl) rfl,aio rfl underlying25 ti3 (odt hi12a) (odt hi12b) (Nat.zero_add _),ald rfl ti3 (by decide) (mgt Qaa hg14) (nle rfl) rfl,aio rfl underlying25 ti3 (odt hi15a) (odt hi15b) (Nat.zero_add _),ast rfl ti3 (by rfl) (mgt Qaa hg17) (nle rfl) (Qd7 Qaa rfl),tv⟩ ?_
    obtain rfl:=osi h
    exact⟨_,(mto (n:=38) (l':=[]) (own':=[(Qnj p1),(.own 1 [[(Qni p2)]]),(.own 1 (((y2.set x4.Parent.toNat (w64 (x10+x13))):List Int).map Qaa))]) [] [0,1,2] [(Qnj p1),(.own 1 [[(Qni p2)]]),(.own 1 ((y2.set x4.Parent.toNat (w64 (x10+x13)):List Int).map Qaa))] hq pn (qb (lc (.rn (Qag rfl)) ln) (qb (lc (rnd Qad) ln) (qc (spr Qab) qn)))),fio [] tv⟩
   ·refine wfn hc8<|Qak ?_
    obtain rfl:=osi h
    exact⟨_,(mto (n:=38) (l':=[]) (own':=[(Qnj p1),(.own 1 [[(Qni p2)]]),(.own 1 (y2.map Qaa))]) [] [0,1,2] [(Qnj p1),(.own 1 [[(Qni p2)]]),(.own 1 (y2.map Qaa))] hq pn (qb (lc (.rn (Qag rfl)) ln) (qb (lc (rnd Qad) ln) (qc (spr Qab) qn)))),fio [] tv⟩
  ·skip
   obtain⟨hi18,h⟩:=cko h
   obtain⟨hi18a,hi18b⟩:=Qaw hi18
   obtain⟨x19,hg20,h⟩:=bno h
   refine wx tbk [(2,rb [(.tmp 5,(.own 2 1 (0) p1)),(.tmp 6,I p0)] [(2,(.own 1 (p3.map Qaa)))] (.ref 2 1 p0.toNat 0)),(3,rb [(.tmp 7,(.ref 2 1 p0.toNat 0))] [(2,(.own 1 (p3.map Qaa)))] (I x19))] ⟨aio rfl underlying25 ti3 (odt hi18a) (odt hi18b) (Nat.zero_add _),ald rfl ti3 (by decide) (mgt Qaa hg20) (nle rfl) rfl,tv⟩ ?_
   refine bfe h (fun hc21 h=>?_) fun hc21 h=>?_
   ·refine wft hc21 ?_
    obtain⟨hi22,h⟩:=cko h
    obtain⟨hi22a,hi22b⟩:=Qaw hi22
    obtain⟨x23,hg24,h⟩:=bno h
    obtain⟨x25,hg26,h⟩:=bno h
    obtain⟨hi27,hj28⟩:=gsm hg26
    obtain⟨hi29,h⟩:=cko h
    obtain⟨hi29a,hi29b⟩:=Qaw hi29
    obtain⟨x30,hg31,h⟩:=bno h
    refine wy1 tbk [(2,rb [(.tmp 10,(.own 2 1 (0) p1)),(.tmp 11,I p0)] [(2,(.own 1 (p3.map Qaa)))] (.ref 2 1 p0.toNat 0)),(3,rb [(.tmp 12,(.ref 2 1 p0.toNat 0))] [(2,(.own 1 (p3.map Qaa)))] (I x23)),(6,rp _ _),(10,rb [(.tmp 10,(.own 2 1 (0) p1)),(.tmp 11,I p0)] [(2,(.own 1 (p3.map Qaa)))] (.ref 2 1 p0.toNat 0)),(11,⟨[(.tmp 20,(.ref 2 1 p0.toNat 0)),(.tmp 19,(I (w64 (x23+x25.Loss))))],[(2,(.own 1 (p3.map Qaa)))],.any,[(2,(.own 1 ((p3.set p0.toNat (w64 (x23+x25.Loss)):List Int).map Qaa)))],false⟩)] ⟨aio rfl underlying25 ti3 (odt hi22a) (odt hi22b) (Nat.zero_add _),ald rfl ti3 (by decide) (mgt Qaa hg24) (nle rfl) rfl,aiq underlying69 Qiv Qa3 hi27 hj28,aio rfl underlying25 ti3 (odt hi29a) (odt hi29b) (Nat.zero_add _),ast rfl ti3 (by rfl) (mgt Qaa hg31) (nle rfl) (Qd7 Qaa rfl),tv⟩<|thn ?_
    exact⟨(p3.set p0.toNat (w64 (x23+x25.Loss))),h,(mto (n:=38) [(0,I p0),(1,.ref 0 1 0 0),(2,.ref 1 1 0 0)] [0,1,2] [(Qnj p1),(.own 1 [[(Qni p2)]]),(.own 1 ((p3.set p0.toNat (w64 (x23+x25.Loss)):List Int).map Qaa))] hq (pw (prr (prr pn))) (qb (lc (.rn (Qag rfl)) ln) (qb (lc (rnd Qad) ln) (qc (spr Qab) qn))))⟩
   ·exact wfn hc21<|Qak<|thn<|⟨(p3),h,(mto (n:=38) [(0,I p0),(1,.ref 0 1 0 0),(2,.ref 1 1 0 0)] [0,1,2] [(Qnj p1),(.own 1 [[(Qni p2)]]),(.own 1 (p3.map Qaa))] hq (pw (prr (prr pn))) (qb (lc (.rn (Qag rfl)) ln) (qb (lc (rnd Qad) ln) (qc (spr Qab) qn))))⟩
def Qc5 (N:Nat) (p0:List Qbf) (p1:List Int) (k6:(List Int)→Option (List Int)):(List (Int×Qbf))→(List Int)→Option (List Int)
  |[],y12=>
    k6 (y12)
  |x15::q16,y12=>
    (Qd2 N x15.1 p1.length p0 y12).bind fun x25=>
    Qc5 N p0 p1 k6 q16 x25
def Qf6 (N:Nat) (p0:List Qbf) (p1:List Int):Option (List Int):=
  (Qdq N p1).bind fun _=>
  Qco (fun y5=>
    chk (decide (p1.length≤y5.length))<|
    some (y5.take p1.length)) fun k6:(List Int)→Option (List Int)=>
  (Qbz N p0).bind fun _=>
  (Qby N p0).bind fun q10=>
  Qc5 N p0 p1 k6 q10 p1
def Q14:AV:=.fn (.func 100) [] [(.ref 2 1 (0) 0),(.ref 0 1 (0) 0)]
def Qq2 (y5 p1:List Int):AV:=.dat 1 ((y5.take p1.length:List Int).map Qaa)
def Qkq (p0:List Qbf):AV:=.dat 4 (p0.map Qa3)
def Q13:AV:=.fn (.func 101) [] [(.ref 4 1 (0) 0)]
def Qp5 (p1:List Int):Slot:=.own 1 [[(.own 3 1 (0) p1.length)]]
def Qw1:AV:=.fn (.func 100) [] [(.ref 0 1 (0) 0),(.ref 4 1 (0) 0)]
theorem Qiq (N:Nat) (p0:List Qbf) (p1 r:List Int) (h:Qf6 N p0 p1=some r):Spec prog 61 [(.dat 4 (p0.map Qa3)),(.dat 1 (p1.map Qaa))] [] (.dat 1 (r.map Qaa)) []:=by
  refine sF func61 0 fun _ _ _ hq hd0=>?_
  unfold Qf6 at h
  refine wxz ?_
  obtain⟨x4,hf3,h⟩:=bno h
  refine wx tbk [(1,⟨_,_,_,_,false⟩)] ⟨acq [(.dat 1 (p1.map Qaa))] [] [(.own 1 (p1.map Qaa))] (.own 1 1 (0) p1.length) [1] Qvn (Qe0 N p1 _ hf3) (Qcv (rnc (pld Qab) rn0)) Qaq (slc (Qbq Qab) Qaq) (Qge rfl),tv⟩ ?_
  refine wx tbk [(0,rp [(.tmp 5,.ref 2 1 0 0),(.tmp 2,.ref 0 1 0 0)] Q14)] ⟨Qfs (fs:=[]) (cs:=[.ref 2 1 0 0,.ref 0 1 0 0]) rfl rfl rfl rfl,tv⟩ ?_
  obtain⟨k6,hk_k6,h⟩:=jko h
  refine wjn (τ:=(List Int)) (fun t=>k6 t=some r) (fun y5=>⟨mk 19 [(5,.ref 0 1 0 0)],[(.own 1 [[(.own 1 1 (0) p1.length)]]),(.own 1 (y5.map Qaa))]⟩) (fun y5 h=>?_) ?_
  ·subst hk_k6
   refine wxz ?_
   obtain⟨hz7,h⟩:=cko h
   refine wmr (Qmw (n:=19) (l':=[(4,(Qq2 y5 p1))]) 1 [(4,(.own 1 1 (0) p1.length))] (by kernel_rfl) (by kernel_rfl) (by kernel_rfl) ⟨rfl,(Qj6 hz7),tv⟩ rfl) ?_
   refine wmr (mto (n:=19) (l':=[(4,(Qq2 y5 p1))]) (own':=[]) [(4,(Qq2 y5 p1))] [] [] hq (pc (rnd Qab) pn) qn)<|Qal ?_
   obtain rfl:=osi h
   exact⟨_,Mor.rfl,fio [(Qq2 y5 p1)] ⟨rot,tv⟩⟩
  ·skip
   obtain⟨x9,hf8,h⟩:=bno h
   refine wx tbk [(1,⟨_,_,_,_,false⟩)] ⟨acq [(Qkq p0)] [] [(.own 1 [[(Qkq p0)]])] Q13 [4] Qvq (Qde N p0 _ hf8) (Qcv (rnc (pld Qad) rn0)) Qaq (slc (Qan (rnc (pld Qad) rn0)) Qaq) (Qau rn0 (rnc (Qf7 rfl) rn0)),tv⟩<|Qai ?_
   obtain⟨q10,hL11,h⟩:=bno h
   refine wmr (mto (n:=19) (l':=[(5,.ref 0 1 0 0),(6,.ref 1 1 0 0),(12,(.fn (.func 101) [] [.ref 2 1 0 0]))]) (own':=[(Qp5 p1),(.own 1 [[Qw1]]),(.own 1 [[(Qkq p0)]]),(.own 1 (p1.map Qaa)),(.own 1 [[(Qkq p0)]])]) [(5,.ref 2 1 0 0),(6,.ref 3 1 0 0),(12,Q13)] [2,3,4,1,0] [(.own 1 [[(.own 1 1 (0) p1.length)]]),(.own 1 [[Q14]]),(.own 1 [[(Qkq p0)]]),(.own 1 (p1.map Qaa)),(.own 1 [[(Qkq p0)]])] hq (prr (prr (pc (.rn (Qau rn0 (rnc (rqr rfl) rn0))) pn))) (qb (lc (.rn (Qag rfl)) ln) (qb (lc (.rn (Qau rn0 (rnc (rqr rfl) (rnc (rqr rfl) rn0)))) ln) (qb (lc (rnd Qad) ln) (qc (spr Qab) (qb (lc (rnd Qad) ln) qn)))))) ?_
   refine Qh7 (τ:=((List Int))) (kb:=5) (caps:=[.ref 2 1 0 0]) (σr:=[(.own 1 [[(Qkq p0)]])]) (encs:=fun x=>[(.int .i64 x.1),(.agg #[(.int .i64 x.2.Parent),(.int .i64 x.2.Loss),(.int .i64 x.2.Limit),(.int .i64 x.2.Rank)])]) (fun x=>[I x.1,(.agg [I x.2.Parent,I x.2.Loss,I x.2.Limit,I x.2.Rank])]) [2] (fun n hn=>hq n (Nat.le_trans (nle rfl) hn)) hd0 (Qdd N p0 _ hL11) Qrm (by kernel_rfl) (by kernel_rfl) (Qcv (rnc (Qf7 rfl) rn0)) (slc (Qan (rnc (pld Qad) rn0)) Qaq) (by kernel_rfl) (fun _=>rfl) (fun x=>⟨lrf,(Less.unlits [(.int .i64 x.2.Parent),(.int .i64 x.2.Loss),(.int .i64 x.2.Limit),(.int .i64 x.2.Rank)]),tv⟩) (Qre (Qeg (NLt.ref _ _ _ _ (by decide)) (Qeg (NLt.ref _ _ _ _ (by decide)) (Qeg (NLt.fn _ _ _ nl0 (nlc (NLt.ref _ _ _ _ (by decide)) nl0)) Qny)))) (fun y12=>[(Qp5 p1),(.own 1 [[Qw1]]),.dead,(.own 1 (y12.map Qaa)),(.own 1 [[(Qkq p0)]])]) (fun _=>rfl) (fun _=>rfl) (fun l t=>Qc5 N p0 p1 k6 l t=some r) p1 h (by kernel_rfl) ?_ ?_
   ·intro l17 o18 X21 φ22 w23 hφ20 x15 q16 y12 h
    rw[Qc5] at h
    refine wxz1 ?_
    refine⟨by kernel_rfl,fun o19=>?_⟩
    refine Qai ?_
    obtain⟨x25,hf24,h⟩:=bno h
    refine wx1 tbk [(2,⟨_,_,_,_,false⟩)] ⟨Qeh (first:=[]) (cap:=[.ref 0 1 0 0,.ref 4 1 0 0]) (vs:=[I x15.1]) (σr:=[(Qp5 p1),(.own 1 [[(Qkq p0)]]),(.own 1 (y12.map Qaa))]) (σr':=[(Qp5 p1),(.own 1 [[(Qkq p0)]]),(.own 1 (x25.map Qaa))]) (res':=(.tup [])) [0,4,3] rfl Qrn (Qfc N x15.1 p1.length p0 y12 _ hf24) rfl (Qcv (rnc (.plain _ nll) (rnc (Qbr rfl) (rnc (Qbr rfl) rn0)))) (slc (Qan (rnc (Qd0 rfl) rn0)) (slc (Qan (rnc (pld Qad) rn0)) (slc (Qbq Qab) Qaq))) (slc (Qan (rnc (Qge rfl) rn0)) (slc (Qan (rnc (pld Qad) rn0)) (slc (Qbq Qab) Qaq))) (.plain _ (NLt.tup _ nl0)) rfl rfl rfl,tv⟩<|bln ?_
    exact⟨(x25),h,Qo0 (own':=[(Qp5 p1),(.own 1 [[Qw1]]),.dead,(.own 1 (x25.map Qaa)),(.own 1 [[(Qkq p0)]]),(.far (farL l17 o19))]) [0,1,2,3,4,5] [(Qp5 p1),(.own 1 [[Qw1]]),.dead,(.own 1 (x25.map Qaa)),(.own 1 [[(Qkq p0)]]),(.far (farL l17 o19))] (by kernel_rfl) (by kernel_rfl) ⟨(spb (lc (.rn (Qag rfl)) ln)),(spb (lc (.rn (Qau rn0 (rnc (rqr rfl) (rnc (rqr rfl) rn0)))) ln)),.dead,(spr Qab),(spb (lc (rnd Qad) ln)),.far _,tv⟩⟩
   ·intro y12 h
    rw[Qc5] at h
    exact bln<|thn<|⟨(y12),h,(mto (n:=19) [(5,.ref 0 1 0 0)] [0,3] [(Qp5 p1),(.own 1 (y12.map Qaa))] hq (prr pn) (qb (lc (.rn (Qag rfl)) ln) (qc (spr Qab) qn)))⟩
def Qc1 (N:Nat) (p0:List Qbf) (k1:Unit→Option Int) (p1:List Int):Nat→Int→Option Int
  |0,_=>none
  |n4+1,y2=>
    bif (decide (y2<(p1.length:Int))) then
     (getI p1 y2).bind fun x6=>
     bif (decide (y2>0)) then
      (getI p0 y2).bind fun x11=>
      bif (decide (x6>x11.Limit)) then
       some y2
      else
       Qc1 N p0 k1 p1 n4 (w64 (y2+1))
     else
      Qc1 N p0 k1 p1 n4 (w64 (y2+1))
    else
     k1 ()
def Qfb (N:Nat) (p0:List Qbf) (p1:List Int):Option Int:=
  Qco (fun _=>
    some (-1)) fun k1:Unit→Option Int=>
  Qc1 N p0 k1 p1 N 0
def Qr0 (p0:List Qbf):AV:=.dat 4 (p0.map Qa3)
theorem Qgo (N:Nat) (p0:List Qbf) (p1:List Int) (r:Int) (h:Qfb N p0 p1=some r):Spec prog 62 [(.dat 4 (p0.map Qa3)),(.dat 1 (p1.map Qaa))] [] (I r) []:=by
  refine sA func62 0 fun _ _ _ hq hd0=>?_
  unfold Qfb at h
  refine wxz ?_
  obtain⟨k1,hk_k1,h⟩:=jko h
  refine wjn (τ:=Unit) (fun t=>k1 t=some r) (fun _=>⟨mk 27 [],[]⟩) (fun t h=>?_) ?_
  ·subst hk_k1
   refine wxz<|Qal ?_
   obtain rfl:=osi h
   exact fend ⟨[(I ((-1)))],⟨rot,tv⟩,rfl⟩ nll
  ·skip
   refine wx tbk [(1,rp _ _)] ⟨alq 1 Qaa p1 underlying25,tv⟩<|Qai ?_
   refine wmr (mto (n:=27) (l':=[(0,(Qr0 p0)),(7,(.dat 1 (p1.map Qaa))),(8,(I ((p1.length:Int)))),(9,I 0)]) (own':=[]) [(0,(Qr0 p0)),(7,(.dat 1 (p1.map Qaa))),(8,(I ((p1.length:Int)))),(9,I 0)] [] [] hq (pc (rnd Qad) (pc (rnd Qab) (pw (pw pn)))) qn) ?_
   refine Qb1 (τ:=Int) (fun n t=>Qc1 N p0 k1 p1 n t=some r) (fun y2=>⟨mk 27 [(0,(Qr0 p0)),(7,(.dat 1 (p1.map Qaa))),(8,(I ((p1.length:Int)))),(9,I y2)],[]⟩) (fun t h=>by rw[Qc1] at h;cases h) (fun n4 ih y2 h=>?_) N (0) h
   rw[Qc1] at h
   skip
   refine wxz<|wsq ?_
   refine bfe h (fun hc5 h=>?_) fun hc5 h=>?_
   ·refine wft hc5<|Qak<|thn<|wsq<|Qai ?_
    obtain⟨x6,hg7,h⟩:=bno h
    obtain⟨hi8,hj9⟩:=gsm hg7
    refine wx tbk [(1,rp _ _)] ⟨aiq underlying25 ti3 Qaa hi8 hj9,tv⟩ ?_
    refine bfe h (fun hb10 h=>?_) fun hb10 h=>?_
    ·obtain⟨x11,hg12,h⟩:=bno h
     obtain⟨hi13,hj14⟩:=gsm hg12
     refine wx tbk [(2,rp [(.tmp 15,(B ((decide (y2>0)))))] (B true)),(6,rp [(.tmp 16,B true),(.tmp 18,(Qr0 p0)),(.tmp 19,I y2)] (.dptr (Qa3 x11) 0))] ⟨asb hb10 (amv rfl),ag_ (aiq underlying69 Qiv Qa3 hi13 hj14),tv⟩ ?_
     refine bfe h (fun hc15 h=>?_) fun hc15 h=>?_
     ·refine wft hc15<|wxz<|Qal<|Qav<|Qam<|Qam<|Qav<|Qam ?_
      obtain rfl:=osi h
      exact fend ⟨[I y2],⟨rot,tv⟩,rfl⟩ nll
     ·exact wfn hc15<|Qak<|bln<|thn<|wxz1<|thn<|arm (mto (n:=27) [(0,(Qr0 p0)),(7,(.dat 1 (p1.map Qaa))),(8,(I ((p1.length:Int)))),(9,(I (w64 (y2+1))))] [] [] hq (pc (rnd Qad) (pc (rnd Qab) (pw (pw pn)))) qn) (ih (w64 (y2+1)) h)
    ·exact wx tbk [(2,rp [(.tmp 15,(B ((decide (y2>0)))))] (B false))] ⟨asb hb10 (amv rfl),tv⟩<|wfa<|Qak<|bln<|thn<|wxz1<|thn<|arm (mto (n:=27) [(0,(Qr0 p0)),(7,(.dat 1 (p1.map Qaa))),(8,(I ((p1.length:Int)))),(9,(I (w64 (y2+1))))] [] [] hq (pc (rnd Qad) (pc (rnd Qab) (pw (pw pn)))) qn) (ih (w64 (y2+1)) h)
   ·exact wfn hc5<|Qaz<|Qao<|Qao<|Qay rfl<|thn<|⟨(),h,(mto (n:=27) [] [] [] hq pn qn)⟩
def Qiu (N:Nat) (p0:List Qbf) (p1:List Int):Option ((List Int)×Int×Int):=
  (Qh4 N p0 p1).bind fun x2=>
  bif (x2 != 0) then
   some ([],0,x2)
  else
   (Qf6 N p0 p1).bind fun x5=>
   (Qfb N p0 x5).bind fun x7=>
   bif (decide (x7≥0)) then
    some ([],x7,11)
   else
    some (x5,0,0)
def Q18:AV:=.dat 1 (([]:List Int).map Qaa)
theorem Qmj (N:Nat) (p0:List Qbf) (p1:List Int) (r:((List Int)×Int×Int)) (h:Qiu N p0 p1=some r):Spec prog 22 [(.dat 4 (p0.map Qa3)),(.dat 1 (p1.map Qaa))] [] (.tup [(.dat 1 (r.1.map Qaa)),(I r.2.1),(I r.2.2)]) []:=by
  refine sA func22 0 fun _ _ _ hq hd0=>?_
  unfold Qiu at h
  refine wxz<|wsq ?_
  obtain⟨x2,hf1,h⟩:=bno h
  refine wx tbk [(2,rp _ _)] ⟨apw Qvt (Qi8 N p0 p1 _ hf1),tv⟩<|wxz ?_
  refine bfe h (fun hc3 h=>?_) fun hc3 h=>?_
  ·refine wft hc3<|wxz<|Qal<|Qam ?_
   obtain rfl:=osi h
   exact fie [Q18,I 0,I x2] ⟨Qj0 (v:=nilS) rot Less.nil,rot,rot,tv⟩
  ·refine wfn hc3<|Qak<|thn ?_
   obtain⟨x5,hf4,h⟩:=bno h
   refine wx tbk [(2,rp _ _)] ⟨apw Qvs (Qiq N p0 p1 _ hf4),tv⟩<|wsq ?_
   obtain⟨x7,hf6,h⟩:=bno h
   refine wx tbk [(2,rp _ _)] ⟨apw Qvr (Qgo N p0 x5 _ hf6),tv⟩<|wxz ?_
   refine bfe h (fun hc8 h=>?_) fun hc8 h=>?_
   ·refine wft hc8<|wxz<|Qal<|Qam ?_
    obtain rfl:=osi h
    exact fie [Q18,I x7,I 11] ⟨Qj0 (v:=nilS) rot Less.nil,rot,rot,tv⟩
   ·refine wfn hc8<|Qak<|thn<|wxz<|Qal ?_
    obtain rfl:=osi h
    exact fie [(.dat 1 (x5.map Qaa)),I 0,I 0] ⟨rot,rot,rot,tv⟩
def Qfo (N:Nat) (p0:Qh2):Option Bool:=
  (Qej N p0.Reading).bind fun x2=>
  bif x2 then
   (Qct N p0.Off 0 500).bind fun x5=>
   some x5
  else
   some false
def Qzq (p0:Qh2) (x2:Bool):List (Nat×Rec):=[(2,rp [fu 93,((.tmp 4),(I p0.Reading))] (B x2))]
theorem Qid (N:Nat) (p0:Qh2) (r:Bool) (h:Qfo N p0=some r):Spec prog 64 [(.agg (Qjn p0))] [] (B r) []:=by
  refine sA func64 0 fun _ _ _ hq hd0=>?_
  unfold Qfo at h
  refine wxz ?_
  obtain⟨x2,hf1,h⟩:=bno h
  refine hpre (A:=(Qzq p0 x2)) ⟨apv Qhz (Qed N p0.Reading _ hf1) (nlc nll nl0) nll,tv⟩ fun q1_=>?_
  refine bfe h (fun hb3 h=>?_) fun hb3 h=>?_
  ·obtain⟨x5,hf4,h⟩:=bno h
   exact wx tbk (hcat (Qzq p0 x2) [(3,rp [(.tmp 5,B x2)] (B true)),(6,rp [(.tmp 6,B true),fu 68,(.tmp 8,I p0.Off),ci 0,ci 500] (B x5))]) (hap q1_ ⟨asb hb3 (amv rfl),ag_ (apv Qgj (Qcs N p0.Off 0 500 _ hf4) (nlcc (nlc nll nl0)) nll),tv⟩)<|Qal<|frb h
  ·exact wx tbk (hcat (Qzq p0 x2) [(3,rp [(.tmp 5,B x2)] (B false))]) (hap q1_ ⟨asb hb3 (amv rfl),tv⟩)<|Qal<|frb h
def Qe4 (_N:Nat) (p0:Qh2):Option Qkm:=
  (some (w64 ((w64 ((w64 (1000*p0.Reading))+(w64 (1000+p0.Off))))-1))).bind fun x1=>
  chk ((w64 (1000+p0.Off)) != 0)<|
  chk ((w64 (1000-p0.Off)) != 0)<|
  some (⟨w64 (x1.tdiv (w64 (1000+p0.Off))),w64 ((w64 (1000*p0.Reading)).tdiv (w64 (1000-p0.Off)))⟩:Qkm)
def Q29 (x1:Int) (p0:Qh2):AV:=.agg [(I (w64 (x1.tdiv (w64 (1000+p0.Off))))),(I (w64 ((w64 (1000*p0.Reading)).tdiv (w64 (1000-p0.Off)))))]
theorem Qhp (N:Nat) (p0:Qh2) (r:Qkm) (h:Qe4 N p0=some r):Spec prog 66 [(.agg (Qjn p0))] [] (.agg (Qk2 r)) []:=by
  refine sA func66 0 fun _ _ _ hq hd0=>?_
  unfold Qe4 at h
  refine wxz<|wxe ?_
  obtain⟨x1,hl2,h⟩:=bno h
  obtain⟨hz3,h⟩:=cko h
  obtain⟨hz4,h⟩:=cko h
  refine wxd tbk [(5,rp [(.tmp 15,(I (w64 ((w64 (1000*p0.Reading))+(w64 (1000+p0.Off)))))),ci 1] (I x1)),(7,rp [(.tmp 16,I x1),(.tmp 17,(I (w64 (1000+p0.Off))))] (I (w64 (x1.tdiv (w64 (1000+p0.Off)))))),(12,rp [(.tmp 21,(I (w64 (1000*p0.Reading)))),(.tmp 22,(I (w64 (1000-p0.Off))))] (I (w64 ((w64 (1000*p0.Reading)).tdiv (w64 (1000-p0.Off)))))),(13,rp _ _)] ⟨Qeb hl2 (abn rfl rfl),Qpu rfl (Qqm hz3),Qpu rfl (Qqm hz4),Qa2 (vs:=[(I (w64 (x1.tdiv (w64 (1000+p0.Off))))),(I (w64 ((w64 (1000*p0.Reading)).tdiv (w64 (1000-p0.Off)))))]) rfl ts91 tz91 rfl (by rfl) rfl,tv⟩<|Qal ?_
  obtain rfl:=osi h
  exact fie [(Q29 x1 p0)] ⟨Qeo (n:=1) (m:=2) (j:=0) (i:=0) (xs:=[[(I (w64 (x1.tdiv (w64 (1000+p0.Off))))),(I (w64 ((w64 (1000*p0.Reading)).tdiv (w64 (1000-p0.Off)))))]]) (by kernel_rfl) (by kernel_rfl) ti91 (by decide) rfl (nle rfl) rfl,tv⟩
def Qg6 (N:Nat) (p0:Qh2):Option (Qkm×Int):=
  (Qfo N p0).bind fun x2=>
  bif (!x2) then
   some ((⟨0,0⟩:Qkm),2)
  else
   (Qe4 N p0).bind fun x5=>
   some (x5,0)
theorem Qks (N:Nat) (p0:Qh2) (r:(Qkm×Int)) (h:Qg6 N p0=some r):Spec prog 53 [(.agg (Qjn p0))] [] (.tup [(.agg (Qk2 r.1)),(I r.2)]) []:=by
  refine sA func53 0 fun _ _ _ hq hd0=>?_
  unfold Qg6 at h
  refine wxz<|wsq ?_
  obtain⟨x2,hf1,h⟩:=bno h
  refine wx tbk [(1,rp _ _)] ⟨apw Q0x (Qid N p0 _ hf1),tv⟩ ?_
  refine bfe h (fun hc3 h=>?_) fun hc3 h=>?_
  ·refine wft hc3<|wx tbk [(0,rp _ _)] ⟨Qa2 (vs:=[]) rfl ts91 tz91 rfl (by rfl) rfl,tv⟩<|Qal<|Qam ?_
   obtain rfl:=osi h
   exact fie [(.agg [I 0,I 0]),I 2] ⟨Qeo (n:=1) (m:=2) (j:=0) (i:=0) (xs:=[[I 0,I 0]]) (by kernel_rfl) (by kernel_rfl) ti91 (by decide) rfl (nle rfl) rfl,rot,tv⟩
  ·refine wfn hc3<|Qak<|thn ?_
   obtain⟨x5,hf4,h⟩:=bno h
   refine wx tbk [(1,rp _ _)] ⟨apw Q0w (Qhp N p0 _ hf4),tv⟩<|Qal ?_
   obtain rfl:=osi h
   exact fie [(.agg [I x5.Lo,I x5.Hi]),I 0] ⟨Qeo (n:=1) (m:=2) (j:=0) (i:=0) (xs:=[[I x5.Lo,I x5.Hi]]) (by kernel_rfl) (by kernel_rfl) ti91 (by decide) rfl (nle rfl) rfl,rot,tv⟩
def Qhf (_N:Nat):Option (List Qbf):=
  some ([(⟨(-1),0,0,0⟩:Qbf),(⟨0,5,100,0⟩:Qbf),(⟨1,3,50,2⟩:Qbf),(⟨1,2,60,1⟩:Qbf)])
def Q10:AV:=.agg [(I ((-1))),(I (0)),(I (0)),(I (0))]
def Q1z:AV:=.agg [(I (0)),(I (5)),(I (100)),(I (0))]
def Q1y:AV:=.agg [(I (1)),(I (3)),(I (50)),(I (2))]
def Q1x:AV:=.agg [(I (1)),(I (2)),(I (60)),(I (1))]
def Q1w:AV:=.dat 4 (([(⟨(-1),0,0,0⟩:Qbf),(⟨0,5,100,0⟩:Qbf),(⟨1,3,50,2⟩:Qbf),(⟨1,2,60,1⟩:Qbf)]:List Qbf).map Qa3)
theorem Qii (N:Nat) (r:List Qbf) (h:Qhf N=some r):Spec prog 23 [] [] (.dat 4 (r.map Qa3)) []:=by
  refine sA func23 0 fun _ _ _ hq hd0=>?_
  unfold Qhf at h
  refine wxz<|wx tbk [(0,rp _ _),(1,rp _ _),(2,rp _ _),(3,rp _ _),(4,rp [(.tmp 1,Q10),(.tmp 2,Q1z),(.tmp 3,Q1y),(.tmp 4,Q1x)] Q1w)] ⟨Qa2 (vs:=[(I ((-1)))]) rfl Qxb Qr4 rfl (by rfl) rfl,Qa2 (vs:=[I 5,I 100]) rfl Qxb Qr4 rfl (by rfl) rfl,Qa2 (vs:=[I 1,I 3,I 50,I 2]) rfl Qxb Qr4 rfl (by rfl) rfl,Qa2 (vs:=[I 1,I 2,I 60,I 1]) rfl Qxb Qr4 rfl (by rfl) rfl,Qb4 (vs:=[Q10,Q1z,Q1y,Q1x]) rfl underlying69 Qiv Qr4 rfl (by decide) rfl (by decide) (by rfl) (by rfl) (by rfl) rfl,tv⟩<|Qal ?_
  obtain rfl:=osi h
  exact fie [Q1w] ⟨rot,tv⟩
def Qf9 (_N:Nat) (p0:Qbf):Option Int:=
  some p0.Rank
theorem Qhj (N:Nat) (p0:Qbf) (r:Int) (h:Qf9 N p0=some r):Spec prog 92 [(.agg (Qa3 p0))] [] (I r) []:=by
  refine sA func92 0 fun _ _ _ hq hd0=>?_
  unfold Qf9 at h
  refine wxz<|wxz<|Qal ?_
  obtain rfl:=osi h
  exact fend ⟨[I p0.Rank],⟨rot,tv⟩,rfl⟩ nll
def Qce (N:Nat) (p0 p1:Int) (p2:List Qbf):Option Int:=
  (getI p2 p0).bind fun x2=>
  (Qf9 N x2).bind fun x7=>
  (getI p2 p1).bind fun x8=>
  (Qf9 N x8).bind fun x13=>
  some (w64 (x7-x13))
abbrev Qwx:Slot:=.own 1 [[(.fn (.func 92) [] [])]]
abbrev Qww (p2:List Qbf):AV:=.dat 4 (p2.map Qa3)
theorem Qcy (N:Nat) (p0 p1:Int) (p2:List Qbf) (r:Int) (h:Qce N p0 p1 p2=some r):Spec prog 111 [(I p0),(I p1),(.ref 0 1 (0) 0),(.ref 1 1 (0) 0)] [Qwx,(.own 1 [[(Qww p2)]])] (I r) [Qwx,(.own 1 [[(Qww p2)]])]:=by
  refine sF func111 2 fun _ _ _ hq hd0=>?_
  unfold Qce at h
  refine wxz ?_
  obtain⟨x2,hg3,h⟩:=bno h
  obtain⟨hi4,hj5⟩:=gsm hg3
  obtain⟨x7,hf6,h⟩:=bno h
  obtain⟨x8,hg9,h⟩:=bno h
  obtain⟨hi10,hj11⟩:=gsm hg9
  obtain⟨x13,hf12,h⟩:=bno h
  refine wxd tbk [(3,rp _ _),(5,rp _ _),(9,rp _ _),(11,rp _ _)] ⟨aiq underlying68 Qiv Qa3 hi4 hj5,apw Qvo (Qhj N x2 _ hf6),aiq underlying68 Qiv Qa3 hi10 hj11,apw Qvo (Qhj N x8 _ hf12),tv⟩ ?_
  refine wmr (mto (n:=20) (l':=[(6,(I (w64 (x7-x13))))]) (own':=[Qwx,(.own 1 [[(Qww p2)]])]) [(6,(I (w64 (x7-x13))))] [0,1] [Qwx,(.own 1 [[(Qww p2)]])] hq (pw pn) (qb (lc (.rn (Qau rn0 rn0)) ln) (qb (lc (rnd Qad) ln) qn)))<|Qal ?_
  obtain rfl:=osi h
  exact⟨_,Mor.rfl,fio [(I (w64 (x7-x13)))] ⟨rot,tv⟩⟩
def Qa8 (N p0:Nat) (p1:Int) (p4:List Qbf) (k9:(List Int)→Option (List Int)):Nat→Int→(List Int)→Option (List Int)
  |0,_,_=>none
  |n14+1,y10,y11=>
    Qco (fun _=>
      chk (decide (0≤w64 (y10-1))&&decide ((w64 (y10-1)).toNat<p0))<|
      (y11[(w64 (y10-1)).toNat]?).bind fun x17=>
      chk (decide (0≤y10)&&decide (y10.toNat<p0))<|
      (y11[y10.toNat]?).bind fun x20=>
      chk (decide (0≤y10)&&decide (y10.toNat<p0))<|
      (y11[y10.toNat]?).bind fun _=>
      chk (decide (0≤w64 (y10-1))&&decide ((w64 (y10-1)).toNat<p0))<|
      ((y11.set y10.toNat x17)[(w64 (y10-1)).toNat]?).bind fun _=>
      Qa8 N p0 p1 p4 k9 n14 (w64 (y10-1)) ((y11.set y10.toNat x17).set ((w64 (y10-1)).toNat) x20)) fun k15:Unit→Option (List Int)=>
    bif (decide (y10>p1)) then
     chk (decide (0≤y10)&&decide (y10.toNat<p0))<|
     (y11[y10.toNat]?).bind fun x30=>
     chk (decide (0≤w64 (y10-1))&&decide ((w64 (y10-1)).toNat<p0))<|
     (y11[(w64 (y10-1)).toNat]?).bind fun x33=>
     (Qce N x30 x33 p4).bind fun x36=>
     bif (decide (x36<0)) then
      k15 ()
     else
      k9 (y11)
    else
     k9 (y11)
def Qa9 (N p0:Nat) (p1 p2:Int) (p4:List Qbf):Nat→Int→(List Int)→Option (List Int)
  |0,_,_=>none
  |n6+1,y2,y3=>
    bif (decide (y2<p2)) then
     Qco (fun y8=>
       Qa9 N p0 p1 p2 p4 n6 (w64 (y2+1)) y8) fun k9:(List Int)→Option (List Int)=>
     Qa8 N p0 p1 p4 k9 N y2 y3
    else
     some y3
def Qci (N p0:Nat) (p1 p2:Int) (p3:List Int) (p4:List Qbf):Option (List Int):=
  Qa9 N p0 p1 p2 p4 N (w64 (p1+1)) p3
abbrev Qil:AV:=.fn (.func 111) [] [(.ref 1 1 (0) 0),(.ref 2 1 (0) 0)]
abbrev Qgs:Slot:=.own 1 [[(.fn (.func 92) [] [])]]
abbrev Qgr (p4:List Qbf):AV:=.dat 4 (p4.map Qa3)
theorem Qdo (N p0:Nat) (p1 p2:Int) (p3:List Int) (p4:List Qbf) (r:List Int) (h:Qci N p0 p1 p2 p3 p4=some r):Spec prog 120 [(.own 0 1 (0) p0),(I p1),(I p2),Qil] [(.own 1 (p3.map Qaa)),Qgs,(.own 1 [[(Qgr p4)]])] (.tup []) [(.own 1 (r.map Qaa)),Qgs,(.own 1 [[(Qgr p4)]])]:=by
  refine sF func120 3 fun _ _ _ hq hd0=>?_
  unfold Qci at h
  refine wxz<|Qai ?_
  refine wmr (mto (n:=53) (l':=[(0,(.own 0 1 (0) p0)),(1,I p1),(2,I p2),(3,Qil),(8,(I ((w64 (p1+1)))))]) (own':=[(.own 1 (p3.map Qaa)),Qgs,(.own 1 [[(Qgr p4)]])]) [(0,(.own 0 1 (0) p0)),(1,I p1),(2,I p2),(3,Qil),(8,(I (w64 (p1+1))))] [0,1,2] [(.own 1 (p3.map Qaa)),Qgs,(.own 1 [[(Qgr p4)]])] hq (pc (.rn (Qag rfl)) (pw (pw (pc (.rn (Qau rn0 (rnc (rqr rfl) (rnc (rqr rfl) rn0)))) (pw pn))))) (qc (spr Qab) (qb (lc (.rn (Qau rn0 rn0)) ln) (qb (lc (rnd Qad) ln) qn)))) ?_
  refine Qb1 (τ:=Int×(List Int)) (fun n t=>Qa9 N p0 p1 p2 p4 n t.1 t.2=some r) (fun ⟨y2,y3⟩=>⟨mk 53 [(0,(.own 0 1 (0) p0)),(1,I p1),(2,I p2),(3,Qil),(8,I y2)],[(.own 1 (y3.map Qaa)),Qgs,(.own 1 [[(Qgr p4)]])]⟩) (fun t h=>by rw[Qa9] at h;cases h) (fun n6 ih t h=>?_) N (w64 (p1+1),p3) h
  obtain⟨y2,y3⟩:=t
  rw[Qa9] at h
  skip
  refine wsq<|wxz ?_
  refine bfe h (fun hc7 h=>?_) fun hc7 h=>?_
  ·refine wft hc7<|Qak<|thn ?_
   obtain⟨k9,hk_k9,h⟩:=jko h
   refine wjn (τ:=(List Int)) (fun t=>k9 t=some r) (fun y8=>⟨mk 53 [(0,(.own 0 1 (0) p0)),(1,I p1),(2,I p2),(3,Qil),(8,I y2)],[(.own 1 (y8.map Qaa)),Qgs,(.own 1 [[(Qgr p4)]])]⟩) (fun y8 h=>?_) ?_
   ·subst hk_k9
    exact wxz1<|thn<|arm (mto (n:=53) [(0,(.own 0 1 (0) p0)),(1,I p1),(2,I p2),(3,Qil),(8,(I (w64 (y2+1))))] [0,1,2] [(.own 1 (y8.map Qaa)),Qgs,(.own 1 [[(Qgr p4)]])] hq (pc (.rn (Qag rfl)) (pw (pw (pc (.rn (Qau rn0 (rnc (rqr rfl) (rnc (rqr rfl) rn0)))) (pw pn))))) (qc (spr Qab) (qb (lc (.rn (Qau rn0 rn0)) ln) (qb (lc (rnd Qad) ln) qn)))) (ih (w64 (y2+1),y8) h)
   ·skip
    refine Qai<|wxz<|Qai ?_
    refine wmr (mto (n:=53) (l':=[(0,(.own 0 1 (0) p0)),(1,I p1),(2,I p2),(3,Qil),(8,I y2),(9,I y2)]) (own':=[(.own 1 (y3.map Qaa)),Qgs,(.own 1 [[(Qgr p4)]])]) [(0,(.own 0 1 (0) p0)),(1,I p1),(2,I p2),(3,Qil),(8,I y2),(9,I y2)] [0,1,2] [(.own 1 (y3.map Qaa)),Qgs,(.own 1 [[(Qgr p4)]])] hq (pc (.rn (Qag rfl)) (pw (pw (pc (.rn (Qau rn0 (rnc (rqr rfl) (rnc (rqr rfl) rn0)))) (pw (pw pn)))))) (qc (spr Qab) (qb (lc (.rn (Qau rn0 rn0)) ln) (qb (lc (rnd Qad) ln) qn)))) ?_
    refine Qb1 (τ:=Int×(List Int)) (fun n t=>Qa8 N p0 p1 p4 k9 n t.1 t.2=some r) (fun ⟨y10,y11⟩=>⟨mk 53 [(0,(.own 0 1 (0) p0)),(1,I p1),(2,I p2),(3,Qil),(8,I y2),(9,I y10)],[(.own 1 (y11.map Qaa)),Qgs,(.own 1 [[(Qgr p4)]])]⟩) (fun t h=>by rw[Qa8] at h;cases h) (fun n14 ih t h=>?_) N (y2,y3) h
    obtain⟨y10,y11⟩:=t
    rw[Qa8] at h
    skip
    obtain⟨k15,hk_k15,h⟩:=jko h
    refine wjn (τ:=Unit) (fun t=>k15 t=some r) (fun _=>⟨mk 53 [(0,(.own 0 1 (0) p0)),(1,I p1),(2,I p2),(3,Qil),(8,I y2),(9,I y10)],[(.own 1 (y11.map Qaa)),Qgs,(.own 1 [[(Qgr p4)]])]⟩) (fun t h=>?_) ?_
    ·subst hk_k15
     refine wsq<|Qai ?_
     obtain⟨hi16,h⟩:=cko h
     obtain⟨hi16a,hi16b⟩:=Qaw hi16
     obtain⟨x17,hg18,h⟩:=bno h
     obtain⟨hi19,h⟩:=cko h
     obtain⟨hi19a,hi19b⟩:=Qaw hi19
     obtain⟨x20,hg21,h⟩:=bno h
     obtain⟨hi22,h⟩:=cko h
     obtain⟨hi22a,hi22b⟩:=Qaw hi22
     obtain⟨x23,hg24,h⟩:=bno h
     obtain⟨hi25,h⟩:=cko h
     obtain⟨hi25a,hi25b⟩:=Qaw hi25
     obtain⟨x26,hg27,h⟩:=bno h
     refine wy1 tbk [(8,rb [(.tmp 42,(.own 0 1 (0) p0)),(.tmp 44,(I (w64 (y10-1))))] [(0,(.own 1 (y11.map Qaa)))] (.ref 0 1 ((w64 (y10-1)).toNat) 0)),(9,rb [(.tmp 45,(.ref 0 1 ((w64 (y10-1)).toNat) 0))] [(0,(.own 1 (y11.map Qaa)))] (I x17)),(12,rb [(.tmp 47,(.own 0 1 (0) p0)),(.tmp 48,I y10)] [(0,(.own 1 (y11.map Qaa)))] (.ref 0 1 y10.toNat 0)),(13,rb [(.tmp 49,(.ref 0 1 y10.toNat 0))] [(0,(.own 1 (y11.map Qaa)))] (I x20)),(14,rb [(.tmp 37,(.own 0 1 (0) p0)),(.tmp 38,I y10)] [(0,(.own 1 (y11.map Qaa)))] (.ref 0 1 y10.toNat 0)),(15,⟨[(.tmp 51,(.ref 0 1 y10.toNat 0)),(.tmp 46,I x17)],[(0,(.own 1 (y11.map Qaa)))],.any,[(0,(.own 1 ((y11.set y10.toNat x17:List Int).map Qaa)))],false⟩),(16,rb [(.tmp 39,(.own 0 1 (0) p0)),(.tmp 41,(I (w64 (y10-1))))] [(0,(.own 1 ((y11.set y10.toNat x17:List Int).map Qaa)))] (.ref 0 1 ((w64 (y10-1)).toNat) 0)),(17,⟨[(.tmp 52,(.ref 0 1 ((w64 (y10-1)).toNat) 0)),(.tmp 50,I x20)],[(0,(.own 1 ((y11.set y10.toNat x17:List Int).map Qaa)))],.any,[(0,(.own 1 (((y11.set y10.toNat x17).set ((w64 (y10-1)).toNat) x20:List Int).map Qaa)))],false⟩)] ⟨aio rfl underlying25 ti3 (odt hi16a) (odt hi16b) (Nat.zero_add _),ald rfl ti3 (by decide) (mgt Qaa hg18) (nle rfl) rfl,aio rfl underlying25 ti3 (odt hi19a) (odt hi19b) (Nat.zero_add _),ald rfl ti3 (by decide) (mgt Qaa hg21) (nle rfl) rfl,aio rfl underlying25 ti3 (odt hi22a) (odt hi22b) (Nat.zero_add _),ast rfl ti3 (by rfl) (mgt Qaa hg24) (nle rfl) (Qd7 Qaa rfl),aio rfl underlying25 ti3 (odt hi25a) (odt hi25b) (Nat.zero_add _),ast rfl ti3 (by rfl) (mgt Qaa hg27) (nle rfl) (Qd7 Qaa rfl),tv⟩<|bln<|thn<|wxz1<|thn ?_
     exact arm (mto (n:=53) [(0,(.own 0 1 (0) p0)),(1,I p1),(2,I p2),(3,Qil),(8,I y2),(9,(I (w64 (y10-1))))] [0,1,2] [(.own 1 (((y11.set y10.toNat x17).set ((w64 (y10-1)).toNat) x20:List Int).map Qaa)),Qgs,(.own 1 [[(Qgr p4)]])] hq (pc (.rn (Qag rfl)) (pw (pw (pc (.rn (Qau rn0 (rnc (rqr rfl) (rnc (rqr rfl) rn0)))) (pw (pw pn)))))) (qc (spr Qab) (qb (lc (.rn (Qau rn0 rn0)) ln) (qb (lc (rnd Qad) ln) qn)))) (ih (w64 (y10-1),(y11.set y10.toNat x17).set ((w64 (y10-1)).toNat) x20) h)
    ·skip
     refine bfe h (fun hb28 h=>?_) fun hb28 h=>?_
     ·obtain⟨hi29,h⟩:=cko h
      obtain⟨hi29a,hi29b⟩:=Qaw hi29
      obtain⟨x30,hg31,h⟩:=bno h
      obtain⟨hi32,h⟩:=cko h
      obtain⟨hi32a,hi32b⟩:=Qaw hi32
      obtain⟨x33,hg34,h⟩:=bno h
      obtain⟨x36,hf35,h⟩:=bno h
      refine wxd tbk [(3,rp [(.tmp 20,(B ((decide (y10>p1)))))] (B true)),(7,rb [(.tmp 21,B true),(.tmp 23,(.own 0 1 (0) p0)),(.tmp 24,I y10)] [(0,(.own 1 (y11.map Qaa)))] (.ref 0 1 y10.toNat 0)),(8,rb [(.tmp 21,B true),(.tmp 25,(.ref 0 1 y10.toNat 0))] [(0,(.own 1 (y11.map Qaa)))] (I x30)),(12,rb [(.tmp 21,B true),(.tmp 27,(.own 0 1 (0) p0)),(.tmp 29,(I (w64 (y10-1))))] [(0,(.own 1 (y11.map Qaa)))] (.ref 0 1 ((w64 (y10-1)).toNat) 0)),(13,rb [(.tmp 21,B true),(.tmp 30,(.ref 0 1 ((w64 (y10-1)).toNat) 0))] [(0,(.own 1 (y11.map Qaa)))] (I x33)),(14,⟨[(.tmp 21,B true),(.tmp 22,Qil),(.tmp 26,I x30),(.tmp 31,I x33)],[(1,Qgs),(2,(.own 1 [[(Qgr p4)]]))],I x36,[(1,Qgs),(2,(.own 1 [[(Qgr p4)]]))],false⟩)] ⟨asb hb28 (amv rfl),ag_ (aio rfl underlying25 ti3 (odt hi29a) (odt hi29b) (Nat.zero_add _)),ag_ (ald rfl ti3 (by decide) (mgt Qaa hg31) (nle rfl) rfl),ag_ (aio rfl underlying25 ti3 (odt hi32a) (odt hi32b) (Nat.zero_add _)),ag_ (ald rfl ti3 (by decide) (mgt Qaa hg34) (nle rfl) rfl),ag_ (Qeh (first:=[]) (cap:=[.ref 1 1 0 0,.ref 2 1 0 0]) (vs:=[I x30,I x33]) (σr:=[Qgs,(.own 1 [[(Qgr p4)]])]) (σr':=[Qgs,(.own 1 [[(Qgr p4)]])]) (res':=(I x36)) [1,2] rfl Qk0 (Qcy N x30 x33 p4 _ hf35) rfl (Qcv (rncc (rnc (Qbr rfl) (rnc (Qbr rfl) rn0)))) (slc (Qan (rnc (.plain _ (NLt.fn _ _ _ nl0 nl0)) rn0)) (slc (Qan (rnc (pld Qad) rn0)) Qaq)) (slc (Qan (rnc (.plain _ (NLt.fn _ _ _ nl0 nl0)) rn0)) (slc (Qan (rnc (pld Qad) rn0)) Qaq)) (.plain _ nll) rfl rfl rfl),tv⟩ ?_
      refine bfe h (fun hc37 h=>?_) fun hc37 h=>?_
      ·exact wft hc37<|Qak<|thn<|⟨(),h,(mto (n:=53) [(0,(.own 0 1 (0) p0)),(1,I p1),(2,I p2),(3,Qil),(8,I y2),(9,I y10)] [0,1,2] [(.own 1 (y11.map Qaa)),Qgs,(.own 1 [[(Qgr p4)]])] hq (pc (.rn (Qag rfl)) (pw (pw (pc (.rn (Qau rn0 (rnc (rqr rfl) (rnc (rqr rfl) rn0)))) (pw (pw pn)))))) (qc (spr Qab) (qb (lc (.rn (Qau rn0 rn0)) ln) (qb (lc (rnd Qad) ln) qn))))⟩
      ·exact wfn hc37<|Qaz<|Qao<|Qao<|Qay rfl<|bln<|thn<|⟨(y11),h,(mto (n:=53) [(0,(.own 0 1 (0) p0)),(1,I p1),(2,I p2),(3,Qil),(8,I y2)] [0,1,2] [(.own 1 (y11.map Qaa)),Qgs,(.own 1 [[(Qgr p4)]])] hq (pc (.rn (Qag rfl)) (pw (pw (pc (.rn (Qau rn0 (rnc (rqr rfl) (rnc (rqr rfl) rn0)))) (pw pn))))) (qc (spr Qab) (qb (lc (.rn (Qau rn0 rn0)) ln) (qb (lc (rnd Qad) ln) qn))))⟩
     ·exact wxd tbk [(3,rp [(.tmp 20,(B ((decide (y10>p1)))))] (B false))] ⟨asb hb28 (amv rfl),tv⟩<|wfa<|Qaz<|Qao<|Qao<|Qay rfl<|bln<|thn<|⟨(y11),h,(mto (n:=53) [(0,(.own 0 1 (0) p0)),(1,I p1),(2,I p2),(3,Qil),(8,I y2)] [0,1,2] [(.own 1 (y11.map Qaa)),Qgs,(.own 1 [[(Qgr p4)]])] hq (pc (.rn (Qag rfl)) (pw (pw (pc (.rn (Qau rn0 (rnc (rqr rfl) (rnc (rqr rfl) rn0)))) (pw pn))))) (qc (spr Qab) (qb (lc (.rn (Qau rn0 rn0)) ln) (qb (lc (rnd Qad) ln) qn))))⟩
  ·refine wfn hc7<|Qaz<|Qao<|Qao<|Qay rfl ?_
   obtain rfl:=osi h
   exact⟨_,(mto (n:=53) (l':=[]) (own':=[(.own 1 (y3.map Qaa)),Qgs,(.own 1 [[(Qgr p4)]])]) [] [0,1,2] [(.own 1 (y3.map Qaa)),Qgs,(.own 1 [[(Qgr p4)]])] hq pn (qc (spr Qab) (qb (lc (.rn (Qau rn0 rn0)) ln) (qb (lc (rnd Qad) ln) qn)))),fio [] tv⟩
def Qbj (N p0:Nat) (p1 p2 p3:Int):Nat→Int→(List Int)→Option (List Int)
  |0,_,_=>none
  |n6+1,y2,y3=>
    bif (decide (y2<p3)) then
     chk (decide (0≤w64 (p2+y2))&&decide ((w64 (p2+y2)).toNat<p0))<|
     (y3[(w64 (p2+y2)).toNat]?).bind fun x9=>
     chk (decide (0≤w64 (p1+y2))&&decide ((w64 (p1+y2)).toNat<p0))<|
     (y3[(w64 (p1+y2)).toNat]?).bind fun x12=>
     chk (decide (0≤w64 (p1+y2))&&decide ((w64 (p1+y2)).toNat<p0))<|
     (y3[(w64 (p1+y2)).toNat]?).bind fun _=>
     chk (decide (0≤w64 (p2+y2))&&decide ((w64 (p2+y2)).toNat<p0))<|
     ((y3.set ((w64 (p1+y2)).toNat) x9)[(w64 (p2+y2)).toNat]?).bind fun _=>
     Qbj N p0 p1 p2 p3 n6 (w64 (y2+1)) ((y3.set ((w64 (p1+y2)).toNat) x9).set ((w64 (p2+y2)).toNat) x12)
    else
     some y3
def Qcb (N p0:Nat) (p1 p2 p3:Int) (p4:List Int) (_p5:List Qbf):Option (List Int):=
  Qbj N p0 p1 p2 p3 N 0 p4
abbrev Qop:Slot:=.own 1 [[(.fn (.func 92) [] [])]]
abbrev Qoo (p5:List Qbf):AV:=.dat 4 (p5.map Qa3)
def Qtg (y3:List Int) (p1 y2 x9:Int):Slot:=.own 1 ((y3.set ((w64 (p1+y2)).toNat) x9:List Int).map Qaa)
theorem Qc6 (N p0:Nat) (p1 p2 p3:Int) (p4:List Int) (p5:List Qbf) (r:List Int) (h:Qcb N p0 p1 p2 p3 p4 p5=some r):Spec prog 123 [(.own 0 1 (0) p0),(I p1),(I p2),(I p3),(.fn (.func 111) [] [(.ref 1 1 (0) 0),(.ref 2 1 (0) 0)])] [(.own 1 (p4.map Qaa)),Qop,(.own 1 [[(Qoo p5)]])] (.tup []) [(.own 1 (r.map Qaa)),Qop,(.own 1 [[(Qoo p5)]])]:=by
  refine sF func123 3 fun _ _ _ hq hd0=>?_
  unfold Qcb at h
  refine wxz<|Qai ?_
  refine wmr (mto (n:=38) (l':=[(0,(.own 0 1 (0) p0)),(1,I p1),(2,I p2),(3,I p3),(10,I 0)]) (own':=[(.own 1 (p4.map Qaa)),Qop,(.own 1 [[(Qoo p5)]])]) [(0,(.own 0 1 (0) p0)),(1,I p1),(2,I p2),(3,I p3),(10,I 0)] [0,1,2] [(.own 1 (p4.map Qaa)),Qop,(.own 1 [[(Qoo p5)]])] hq (pc (.rn (Qag rfl)) (pw (pw (pw (pw pn))))) (qc (spr Qab) (qb (lc (.rn (Qau rn0 rn0)) ln) (qb (lc (rnd Qad) ln) qn)))) ?_
  refine Qb1 (τ:=Int×(List Int)) (fun n t=>Qbj N p0 p1 p2 p3 n t.1 t.2=some r) (fun ⟨y2,y3⟩=>⟨mk 38 [(0,(.own 0 1 (0) p0)),(1,I p1),(2,I p2),(3,I p3),(10,I y2)],[(.own 1 (y3.map Qaa)),Qop,(.own 1 [[(Qoo p5)]])]⟩) (fun t h=>by rw[Qbj] at h;cases h) (fun n6 ih t h=>?_) N (0,p4) h
  obtain⟨y2,y3⟩:=t
  rw[Qbj] at h
  skip
  refine wsq<|wxz ?_
  refine bfe h (fun hc7 h=>?_) fun hc7 h=>?_
  ·refine wft hc7<|Qak<|thn<|wsq<|Qai ?_
   obtain⟨hi8,h⟩:=cko h
   obtain⟨hi8a,hi8b⟩:=Qaw hi8
   obtain⟨x9,hg10,h⟩:=bno h
   obtain⟨hi11,h⟩:=cko h
   obtain⟨hi11a,hi11b⟩:=Qaw hi11
   obtain⟨x12,hg13,h⟩:=bno h
   obtain⟨hi14,h⟩:=cko h
   obtain⟨hi14a,hi14b⟩:=Qaw hi14
   obtain⟨x15,hg16,h⟩:=bno h
   obtain⟨hi17,h⟩:=cko h
   obtain⟨hi17a,hi17b⟩:=Qaw hi17
   obtain⟨x18,hg19,h⟩:=bno h
   refine wy1 tbk [(12,rb [(.tmp 24,(.own 0 1 (0) p0)),(.tmp 27,(I (w64 (p2+y2))))] [(0,(.own 1 (y3.map Qaa)))] (.ref 0 1 ((w64 (p2+y2)).toNat) 0)),(13,rb [(.tmp 28,(.ref 0 1 ((w64 (p2+y2)).toNat) 0))] [(0,(.own 1 (y3.map Qaa)))] (I x9)),(18,rb [(.tmp 30,(.own 0 1 (0) p0)),(.tmp 33,(I (w64 (p1+y2))))] [(0,(.own 1 (y3.map Qaa)))] (.ref 0 1 ((w64 (p1+y2)).toNat) 0)),(19,rb [(.tmp 34,(.ref 0 1 ((w64 (p1+y2)).toNat) 0))] [(0,(.own 1 (y3.map Qaa)))] (I x12)),(20,rb [(.tmp 16,(.own 0 1 (0) p0)),(.tmp 19,(I (w64 (p1+y2))))] [(0,(.own 1 (y3.map Qaa)))] (.ref 0 1 ((w64 (p1+y2)).toNat) 0)),(21,⟨[(.tmp 36,(.ref 0 1 ((w64 (p1+y2)).toNat) 0)),(.tmp 29,I x9)],[(0,(.own 1 (y3.map Qaa)))],.any,[(0,(Qtg y3 p1 y2 x9))],false⟩),(22,rb [(.tmp 20,(.own 0 1 (0) p0)),(.tmp 23,(I (w64 (p2+y2))))] [(0,(Qtg y3 p1 y2 x9))] (.ref 0 1 ((w64 (p2+y2)).toNat) 0)),(23,⟨[(.tmp 37,(.ref 0 1 ((w64 (p2+y2)).toNat) 0)),(.tmp 35,I x12)],[(0,(Qtg y3 p1 y2 x9))],.any,[(0,(.own 1 (((y3.set ((w64 (p1+y2)).toNat) x9).set ((w64 (p2+y2)).toNat) x12:List Int).map Qaa)))],false⟩)] ⟨aio rfl underlying25 ti3 (odt hi8a) (odt hi8b) (Nat.zero_add _),ald rfl ti3 (by decide) (mgt Qaa hg10) (nle rfl) rfl,aio rfl underlying25 ti3 (odt hi11a) (odt hi11b) (Nat.zero_add _),ald rfl ti3 (by decide) (mgt Qaa hg13) (nle rfl) rfl,aio rfl underlying25 ti3 (odt hi14a) (odt hi14b) (Nat.zero_add _),ast rfl ti3 (by rfl) (mgt Qaa hg16) (nle rfl) (Qd7 Qaa rfl),aio rfl underlying25 ti3 (odt hi17a) (odt hi17b) (Nat.zero_add _),ast rfl ti3 (by rfl) (mgt Qaa hg19) (nle rfl) (Qd7 Qaa rfl),tv⟩<|bln<|thn<|wxz1<|thn ?_
   exact arm (mto (n:=38) [(0,(.own 0 1 (0) p0)),(1,I p1),(2,I p2),(3,I p3),(10,(I (w64 (y2+1))))] [0,1,2] [(.own 1 (((y3.set ((w64 (p1+y2)).toNat) x9).set ((w64 (p2+y2)).toNat) x12:List Int).map Qaa)),Qop,(.own 1 [[(Qoo p5)]])] hq (pc (.rn (Qag rfl)) (pw (pw (pw (pw pn))))) (qc (spr Qab) (qb (lc (.rn (Qau rn0 rn0)) ln) (qb (lc (rnd Qad) ln) qn)))) (ih (w64 (y2+1),(y3.set ((w64 (p1+y2)).toNat) x9).set ((w64 (p2+y2)).toNat) x12) h)
  ·refine wfn hc7<|Qaz<|Qao<|Qao<|Qay rfl ?_
   obtain rfl:=osi h
   exact⟨_,(mto (n:=38) (l':=[]) (own':=[(.own 1 (y3.map Qaa)),Qop,(.own 1 [[(Qoo p5)]])]) [] [0,1,2] [(.own 1 (y3.map Qaa)),Qop,(.own 1 [[(Qoo p5)]])] hq pn (qc (spr Qab) (qb (lc (.rn (Qau rn0 rn0)) ln) (qb (lc (rnd Qad) ln) qn)))),fio [] tv⟩
def Qbd (N p0:Nat) (p2:Int) (k4:Int×(List Int)→Option (List Int)) (p5:List Qbf):Nat→Int→Int→(List Int)→Option (List Int)
  |0,_,_,_=>none
  |n13+1,y7,y8,y9=>
    bif (y7 != y8) then
     bif (decide (y7>y8)) then
      (Qcb N p0 (w64 (p2-y7)) p2 y8 y9 p5).bind fun x17=>
      Qbd N p0 p2 k4 p5 n13 (w64 (y7-y8)) y8 x17
     else
      (Qcb N p0 (w64 (p2-y7)) (w64 ((w64 (p2+y8))-y7)) y7 y9 p5).bind fun x19=>
      Qbd N p0 p2 k4 p5 n13 y7 (w64 (y8-y7)) x19
    else
     k4 (y7,y9)
def Qdt (N p0:Nat) (p1 p2 p3:Int) (p4:List Int) (p5:List Qbf):Option (List Int):=
  Qco (fun ⟨y2,y3⟩=>
    (Qcb N p0 (w64 (p2-y2)) p2 y2 y3 p5).bind fun x6=>
    some x6) fun k4:Int×(List Int)→Option (List Int)=>
  Qbd N p0 p2 k4 p5 N (w64 (p2-p1)) (w64 (p3-p2)) p4
abbrev Qk4:AV:=.fn (.func 111) [] [(.ref 1 1 (0) 0),(.ref 2 1 (0) 0)]
abbrev Qhs:Slot:=.own 1 [[(.fn (.func 92) [] [])]]
abbrev Qhr (p5:List Qbf):AV:=.dat 4 (p5.map Qa3)
theorem Qfx (N p0:Nat) (p1 p2 p3:Int) (p4:List Int) (p5:List Qbf) (r:List Int) (h:Qdt N p0 p1 p2 p3 p4 p5=some r):Spec prog 122 [(.own 0 1 (0) p0),(I p1),(I p2),(I p3),Qk4] [(.own 1 (p4.map Qaa)),Qhs,(.own 1 [[(Qhr p5)]])] (.tup []) [(.own 1 (r.map Qaa)),Qhs,(.own 1 [[(Qhr p5)]])]:=by
  refine sF func122 3 fun _ _ _ hq hd0=>?_
  unfold Qdt at h
  refine wxz<|wxz ?_
  obtain⟨k4,hk_k4,h⟩:=jko h
  refine wjn (τ:=Int×(List Int)) (fun t=>k4 t=some r) (fun ⟨y2,y3⟩=>⟨mk 58 [(0,(.own 0 1 (0) p0)),(2,I p2),(4,Qk4),(10,I y2)],[(.own 1 (y3.map Qaa)),Qhs,(.own 1 [[(Qhr p5)]])]⟩) (fun t h=>?_) ?_
  ·subst hk_k4
   obtain⟨y2,y3⟩:=t
   obtain⟨x6,hf5,h⟩:=bno h
   refine wx1 tbk [(7,⟨_,_,_,_,false⟩)] ⟨acq [(.own 0 1 (0) p0),(I (w64 (p2-y2))),I p2,I y2,Qk4] [(.own 1 (y3.map Qaa)),Qhs,(.own 1 [[(Qhr p5)]])] [(.own 1 (x6.map Qaa)),Qhs,(.own 1 [[(Qhr p5)]])] (.tup []) [0,1,2] Qoa (Qc6 N p0 (w64 (p2-y2)) p2 y2 y3 p5 _ hf5) (Qcv (rnc (Qd0 rfl) (rncc (rnc (.plain _ nll) (rnc (Qau rn0 (rnc (Qbr rfl) (rnc (Qbr rfl) rn0))) rn0))))) (slc (Qbq Qab) (slc (Qan (rnc (.plain _ (NLt.fn _ _ _ nl0 nl0)) rn0)) (slc (Qan (rnc (pld Qad) rn0)) Qaq))) (slc (Qbq Qab) (slc (Qan (rnc (.plain _ (NLt.fn _ _ _ nl0 nl0)) rn0)) (slc (Qan (rnc (pld Qad) rn0)) Qaq))) (.plain _ (NLt.tup _ nl0)),tv⟩ ?_
   obtain rfl:=osi h
   exact⟨_,(mto (n:=58) (l':=[]) (own':=[(.own 1 (x6.map Qaa)),Qhs,(.own 1 [[(Qhr p5)]])]) [] [0,1,2] [(.own 1 (x6.map Qaa)),Qhs,(.own 1 [[(Qhr p5)]])] hq pn (qc (spr Qab) (qb (lc (.rn (Qau rn0 rn0)) ln) (qb (lc (rnd Qad) ln) qn)))),fio [] tv⟩
  ·skip
   refine Qai<|wmr (mto (n:=58) (l':=[(0,(.own 0 1 (0) p0)),(2,I p2),(4,Qk4),(10,(I ((w64 (p2-p1))))),(11,(I ((w64 (p3-p2)))))]) (own':=[(.own 1 (p4.map Qaa)),Qhs,(.own 1 [[(Qhr p5)]])]) [(0,(.own 0 1 (0) p0)),(2,I p2),(4,Qk4),(10,(I (w64 (p2-p1)))),(11,(I (w64 (p3-p2))))] [0,1,2] [(.own 1 (p4.map Qaa)),Qhs,(.own 1 [[(Qhr p5)]])] hq (pc (.rn (Qag rfl)) (pw (pc (.rn (Qau rn0 (rnc (rqr rfl) (rnc (rqr rfl) rn0)))) (pw (pw pn))))) (qc (spr Qab) (qb (lc (.rn (Qau rn0 rn0)) ln) (qb (lc (rnd Qad) ln) qn)))) ?_
   refine Qb1 (τ:=Int×Int×(List Int)) (fun n t=>Qbd N p0 p2 k4 p5 n t.1 t.2.1 t.2.2=some r) (fun ⟨y7,y8,y9⟩=>⟨mk 58 [(0,(.own 0 1 (0) p0)),(2,I p2),(4,Qk4),(10,I y7),(11,I y8)],[(.own 1 (y9.map Qaa)),Qhs,(.own 1 [[(Qhr p5)]])]⟩) (fun t h=>by rw[Qbd] at h;cases h) (fun n13 ih t h=>?_) N (w64 (p2-p1),w64 (p3-p2),p4) h
   obtain⟨y7,y8,y9⟩:=t
   rw[Qbd] at h
   skip
   refine wsq<|wxz ?_
   refine bfe h (fun hc14 h=>?_) fun hc14 h=>?_
   ·refine wft hc14<|Qak<|thn<|Qai<|wxz ?_
    refine bfe h (fun hc15 h=>?_) fun hc15 h=>?_
    ·refine wft hc15 ?_
     obtain⟨x17,hf16,h⟩:=bno h
     refine wx tbk [(7,⟨_,_,_,_,false⟩)] ⟨acq [(.own 0 1 (0) p0),(I (w64 (p2-y7))),I p2,I y8,Qk4] [(.own 1 (y9.map Qaa)),Qhs,(.own 1 [[(Qhr p5)]])] [(.own 1 (x17.map Qaa)),Qhs,(.own 1 [[(Qhr p5)]])] (.tup []) [0,1,2] Qoa (Qc6 N p0 (w64 (p2-y7)) p2 y8 y9 p5 _ hf16) (Qcv (rnc (Qd0 rfl) (rncc (rnc (.plain _ nll) (rnc (Qau rn0 (rnc (Qbr rfl) (rnc (Qbr rfl) rn0))) rn0))))) (slc (Qbq Qab) (slc (Qan (rnc (.plain _ (NLt.fn _ _ _ nl0 nl0)) rn0)) (slc (Qan (rnc (pld Qad) rn0)) Qaq))) (slc (Qbq Qab) (slc (Qan (rnc (.plain _ (NLt.fn _ _ _ nl0 nl0)) rn0)) (slc (Qan (rnc (pld Qad) rn0)) Qaq))) (.plain _ (NLt.tup _ nl0)),tv⟩<|wxz1<|bln<|thn ?_
     exact arm (mto (n:=58) [(0,(.own 0 1 (0) p0)),(2,I p2),(4,Qk4),(10,(I (w64 (y7-y8)))),(11,I y8)] [0,1,2] [(.own 1 (x17.map Qaa)),Qhs,(.own 1 [[(Qhr p5)]])] hq (pc (.rn (Qag rfl)) (pw (pc (.rn (Qau rn0 (rnc (rqr rfl) (rnc (rqr rfl) rn0)))) (pw (pw pn))))) (qc (spr Qab) (qb (lc (.rn (Qau rn0 rn0)) ln) (qb (lc (rnd Qad) ln) qn)))) (ih (w64 (y7-y8),y8,x17) h)
    ·refine wfn hc15 ?_
     obtain⟨x19,hf18,h⟩:=bno h
     refine wx tbk [(11,⟨_,_,_,_,false⟩)] ⟨acq [(.own 0 1 (0) p0),(I (w64 (p2-y7))),(I (w64 ((w64 (p2+y8))-y7))),I y7,Qk4] [(.own 1 (y9.map Qaa)),Qhs,(.own 1 [[(Qhr p5)]])] [(.own 1 (x19.map Qaa)),Qhs,(.own 1 [[(Qhr p5)]])] (.tup []) [0,1,2] Qoa (Qc6 N p0 (w64 (p2-y7)) (w64 ((w64 (p2+y8))-y7)) y7 y9 p5 _ hf18) (Qcv (rnc (Qd0 rfl) (rncc (rnc (.plain _ nll) (rnc (Qau rn0 (rnc (Qbr rfl) (rnc (Qbr rfl) rn0))) rn0))))) (slc (Qbq Qab) (slc (Qan (rnc (.plain _ (NLt.fn _ _ _ nl0 nl0)) rn0)) (slc (Qan (rnc (pld Qad) rn0)) Qaq))) (slc (Qbq Qab) (slc (Qan (rnc (.plain _ (NLt.fn _ _ _ nl0 nl0)) rn0)) (slc (Qan (rnc (pld Qad) rn0)) Qaq))) (.plain _ (NLt.tup _ nl0)),tv⟩<|wxz1<|bln<|thn ?_
     exact arm (mto (n:=58) [(0,(.own 0 1 (0) p0)),(2,I p2),(4,Qk4),(10,I y7),(11,(I (w64 (y8-y7))))] [0,1,2] [(.own 1 (x19.map Qaa)),Qhs,(.own 1 [[(Qhr p5)]])] hq (pc (.rn (Qag rfl)) (pw (pc (.rn (Qau rn0 (rnc (rqr rfl) (rnc (rqr rfl) rn0)))) (pw (pw pn))))) (qc (spr Qab) (qb (lc (.rn (Qau rn0 rn0)) ln) (qb (lc (rnd Qad) ln) qn)))) (ih (y7,w64 (y8-y7),x19) h)
   ·exact wfn hc14<|Qaz<|Qao<|Qao<|Qay rfl<|thn<|⟨(y7,y9),h,(mto (n:=58) [(0,(.own 0 1 (0) p0)),(2,I p2),(4,Qk4),(10,I y7)] [0,1,2] [(.own 1 (y9.map Qaa)),Qhs,(.own 1 [[(Qhr p5)]])] hq (pc (.rn (Qag rfl)) (pw (pc (.rn (Qau rn0 (rnc (rqr rfl) (rnc (rqr rfl) rn0)))) (pw pn)))) (qc (spr Qab) (qb (lc (.rn (Qau rn0 rn0)) ln) (qb (lc (rnd Qad) ln) qn))))⟩
def Qa7 (N p0:Nat) (p4:List Int) (p5:List Qbf) (x10:Int) (k13:Int→Option (List Int)):Nat→Int→Int→Option (List Int)
  |0,_,_=>none
  |n36+1,y32,y33=>
    bif (decide (y32<y33)) then
     (some (w64 ((IntKind.wrap .u64 (w64 (y32+y33)))/2))).bind fun x38=>
     chk (decide (0≤w64 (x10-x38))&&decide ((w64 (x10-x38)).toNat<p0))<|
     (p4[(w64 (x10-x38)).toNat]?).bind fun x41=>
     chk (decide (0≤x38)&&decide (x38.toNat<p0))<|
     (p4[x38.toNat]?).bind fun x44=>
     (Qce N x41 x44 p5).bind fun x47=>
     bif (!(decide (x47<0))) then
      Qa7 N p0 p4 p5 x10 k13 n36 (w64 (x38+1)) y33
     else
      Qa7 N p0 p4 p5 x10 k13 n36 y32 x38
    else
     k13 (y32)
def Qbm (N p0:Nat) (y53:Int) (k56:(List Int)→Option (List Int)):Nat→Int→(List Int)→Option (List Int)
  |0,_,_=>none
  |n61+1,y57,y58=>
    bif (decide (y57>y53)) then
     chk (decide (0≤w64 (y57-1))&&decide ((w64 (y57-1)).toNat<p0))<|
     (y58[(w64 (y57-1)).toNat]?).bind fun x64=>
     chk (decide (0≤y57)&&decide (y57.toNat<p0))<|
     (y58[y57.toNat]?).bind fun x67=>
     chk (decide (0≤y57)&&decide (y57.toNat<p0))<|
     (y58[y57.toNat]?).bind fun _=>
     chk (decide (0≤w64 (y57-1))&&decide ((w64 (y57-1)).toNat<p0))<|
     ((y58.set y57.toNat x64)[(w64 (y57-1)).toNat]?).bind fun _=>
     Qbm N p0 y53 k56 n61 (w64 (y57-1)) ((y58.set y57.toNat x64).set ((w64 (y57-1)).toNat) x67)
    else
     k56 (y58)
def Qa6 (N p0:Nat) (p2:Int) (p4:List Int) (p5:List Qbf) (k54:Int→Option (List Int)):Nat→Int→Int→Option (List Int)
  |0,_,_=>none
  |n79+1,y75,y76=>
    bif (decide (y75<y76)) then
     (some (w64 ((IntKind.wrap .u64 (w64 (y75+y76)))/2))).bind fun x81=>
     chk (decide (0≤p2)&&decide (p2.toNat<p0))<|
     (p4[p2.toNat]?).bind fun x84=>
     chk (decide (0≤x81)&&decide (x81.toNat<p0))<|
     (p4[x81.toNat]?).bind fun x87=>
     (Qce N x84 x87 p5).bind fun x90=>
     bif (!(decide (x90<0))) then
      Qa6 N p0 p2 p4 p5 k54 n79 (w64 (x81+1)) y76
     else
      Qa6 N p0 p2 p4 p5 k54 n79 y75 x81
    else
     k54 (y75)
def Qbl (N p0:Nat) (y93:Int) (k96:(List Int)→Option (List Int)):Nat→Int→(List Int)→Option (List Int)
  |0,_,_=>none
  |n101+1,y97,y98=>
    bif (decide (y97<(w64 (y93-1)))) then
     chk (decide (0≤w64 (y97+1))&&decide ((w64 (y97+1)).toNat<p0))<|
     (y98[(w64 (y97+1)).toNat]?).bind fun x104=>
     chk (decide (0≤y97)&&decide (y97.toNat<p0))<|
     (y98[y97.toNat]?).bind fun x107=>
     chk (decide (0≤y97)&&decide (y97.toNat<p0))<|
     (y98[y97.toNat]?).bind fun _=>
     chk (decide (0≤w64 (y97+1))&&decide ((w64 (y97+1)).toNat<p0))<|
     ((y98.set y97.toNat x104)[(w64 (y97+1)).toNat]?).bind fun _=>
     Qbl N p0 y93 k96 n101 (w64 (y97+1)) ((y98.set y97.toNat x104).set ((w64 (y97+1)).toNat) x107)
    else
     k96 (y98)
def Qa5 (N p0:Nat) (p1:Int) (p4:List Int) (p5:List Qbf) (k94:Int→Option (List Int)):Nat→Int→Int→Option (List Int)
  |0,_,_=>none
  |n119+1,y115,y116=>
    bif (decide (y115<y116)) then
     (some (w64 ((IntKind.wrap .u64 (w64 (y115+y116)))/2))).bind fun x121=>
     chk (decide (0≤x121)&&decide (x121.toNat<p0))<|
     (p4[x121.toNat]?).bind fun x124=>
     chk (decide (0≤p1)&&decide (p1.toNat<p0))<|
     (p4[p1.toNat]?).bind fun x127=>
     (Qce N x124 x127 p5).bind fun x130=>
     bif (decide (x130<0)) then
      Qa5 N p0 p1 p4 p5 k94 n119 (w64 (x121+1)) y116
     else
      Qa5 N p0 p1 p4 p5 k94 n119 y115 x121
    else
     k94 (y115)
def Qc4 (N:Nat) (rec_:Nat→Int→Int→Int→(List Int)→(List Qbf)→Option (List Int)) (p0:Nat) (p1 p2 p3:Int) (p4:List Int) (p5:List Qbf):Option (List Int):=
  Qco (fun _=>
    Qco (fun _=>
      (some (w64 ((IntKind.wrap .u64 (w64 (p1+p3)))/2))).bind fun x5=>
      Qco (fun ⟨y7,y8⟩=>
        (some (w64 ((w64 (x5+p2))-1))).bind fun x10=>
        Qco (fun y12=>
          (some (w64 ((w64 (x5+p2))-y12))).bind fun x14=>
          Qco (fun y16=>
            Qco (fun y18=>
              bif (decide (x5<x14)) then
               bif (decide (x14<p3)) then
                (rec_ p0 x5 x14 p3 y18 p5).bind fun x23=>
                some x23
               else
                some y18
              else
               some y18) fun k19:(List Int)→Option (List Int)=>
            bif (decide (p1<y12)) then
             bif (decide (y12<x5)) then
              (rec_ p0 p1 y12 x5 y16 p5).bind fun x27=>
              k19 (x27)
             else
              k19 (y16)
            else
             k19 y16) fun k17:(List Int)→Option (List Int)=>
          bif (decide (y12<p2)) then
           bif (decide (p2<x14)) then
            (Qdt N p0 y12 p2 x14 p4 p5).bind fun x31=>
            k17 (x31)
           else
            k17 (p4)
          else
           k17 p4) fun k13:Int→Option (List Int)=>
        Qa7 N p0 p4 p5 x10 k13 N y7 y8) fun k9:Int×Int→Option (List Int)=>
      bif (decide (p2>x5)) then
       (some (w64 ((w64 (x5+p2))-p3))).bind fun x50=>
       k9 (x50,x5)
      else
       k9 (p1,p2)) fun k4:Unit→Option (List Int)=>
    bif ((w64 (p3-p2))==1) then
     Qco (fun y53=>
       Qco (fun y55=>
         some y55) fun k56:(List Int)→Option (List Int)=>
       Qbm N p0 y53 k56 N p2 p4) fun k54:Int→Option (List Int)=>
     Qa6 N p0 p2 p4 p5 k54 N p1 p2
    else
     k4 ()) fun k3:Unit→Option (List Int)=>
  bif ((w64 (p2-p1))==1) then
   Qco (fun y93=>
     Qco (fun y95=>
       some y95) fun k96:(List Int)→Option (List Int)=>
     Qbl N p0 y93 k96 N p1 p4) fun k94:Int→Option (List Int)=>
   Qa5 N p0 p1 p4 p5 k94 N p2 p3
  else
   k3 ()
def Qch:Nat→Nat→Int→Int→Int→(List Int)→(List Qbf)→Option (List Int)
  |0,_,_,_,_,_,_=>none
  |N+1,p0,p1,p2,p3,p4,p5=>Qc4 N (Qch N) p0 p1 p2 p3 p4 p5
abbrev Qer:AV:=.fn (.func 111) [] [(.ref 1 1 (0) 0),(.ref 2 1 (0) 0)]
abbrev Qcq:Slot:=.own 1 [[(.fn (.func 92) [] [])]]
abbrev Qcp (p5:List Qbf):AV:=.dat 4 (p5.map Qa3)
theorem Qd1:∀(N p0:Nat) (p1 p2 p3:Int) (p4:List Int) (p5:List Qbf) (r:List Int) (_:Qch N p0 p1 p2 p3 p4 p5=some r),Spec prog 121 [(.own 0 1 (0) p0),(I p1),(I p2),(I p3),Qer] [(.own 1 (p4.map Qaa)),Qcq,(.own 1 [[(Qcp p5)]])] (.tup []) [(.own 1 (r.map Qaa)),Qcq,(.own 1 [[(Qcp p5)]])]:=by
  intro N
  induction N with
  |zero=>intro p0 p1 p2 p3 p4 p5 r h;exact nomatch (show(none:Option (List Int))=some r from h)
  |succ N ihX=>
  intro p0 p1 p2 p3 p4 p5 r h
  replace h:Qc4 N (Qch N) p0 p1 p2 p3 p4 p5=some r:=h
  refine sF func121 3 fun _ _ _ hq hd0=>?_
  unfold Qc4 at h
  obtain⟨k3,hk_k3,h⟩:=jko h
  refine wjn (τ:=Unit) (fun t=>k3 t=some r) (fun _=>⟨mk 220 [(0,(.own 0 1 (0) p0)),(1,I p1),(2,I p2),(3,I p3),(4,Qer)],[(.own 1 (p4.map Qaa)),Qcq,(.own 1 [[(Qcp p5)]])]⟩) (fun t h=>?_) ?_
  ·subst hk_k3
   obtain⟨k4,hk_k4,h⟩:=jko h
   refine wjn (τ:=Unit) (fun t=>k4 t=some r) (fun _=>⟨mk 220 [(0,(.own 0 1 (0) p0)),(1,I p1),(2,I p2),(3,I p3),(4,Qer)],[(.own 1 (p4.map Qaa)),Qcq,(.own 1 [[(Qcp p5)]])]⟩) (fun t h=>?_) ?_
   ·subst hk_k4
    obtain⟨x5,hl6,h⟩:=bno h
    refine wx tbk [(3,rp [(.tmp 131,(I (w64 (p1+p3))))] (K .u64 (IntKind.wrap .u64 (w64 (p1+p3))))),(4,rp [(.tmp 132,(K .u64 (IntKind.wrap .u64 (w64 (p1+p3))))),(.const (.int .u64 1),(K .u64 (1)))] (K .u64 ((IntKind.wrap .u64 (w64 (p1+p3)))/2))),(5,rp [(.tmp 133,(K .u64 ((IntKind.wrap .u64 (w64 (p1+p3)))/2)))] (I (w64 ((IntKind.wrap .u64 (w64 (p1+p3)))/2)))),(6,rp [(.tmp 134,(I (w64 ((IntKind.wrap .u64 (w64 (p1+p3)))/2))))] (I x5))] ⟨acv rfl (by rw[underlying3];rfl) underlying193,Qjo rfl (by decide) (by decide),acv rfl (by rw[underlying193];rfl) underlying3,Qeb hl6 (aas rfl),tv⟩<|wxz<|wxz ?_
    obtain⟨k9,hk_k9,h⟩:=jko h
    refine wjn (τ:=Int×Int) (fun t=>k9 t=some r) (fun ⟨y7,y8⟩=>⟨mk 220 [(0,(.own 0 1 (0) p0)),(1,I p1),(2,I p2),(3,I p3),(4,Qer),(18,I x5),(19,(I (w64 (x5+p2)))),(20,I y7),(21,I y8)],[(.own 1 (p4.map Qaa)),Qcq,(.own 1 [[(Qcp p5)]])]⟩) (fun t h=>?_) ?_
    ·subst hk_k9
     obtain⟨y7,y8⟩:=t
     obtain⟨x10,hl11,h⟩:=bno h
     refine wx tbk [(2,rp [(.tmp 148,(I (w64 ((w64 (x5+p2))-1))))] (I x10))] ⟨Qeb hl11 (aas rfl),tv⟩ ?_
     obtain⟨k13,hk_k13,h⟩:=jko h
     refine wjn (τ:=Int) (fun t=>k13 t=some r) (fun y12=>⟨mk 220 [(0,(.own 0 1 (0) p0)),(1,I p1),(2,I p2),(3,I p3),(4,Qer),(18,I x5),(19,(I (w64 (x5+p2)))),(20,I y12)],[(.own 1 (p4.map Qaa)),Qcq,(.own 1 [[(Qcp p5)]])]⟩) (fun y12 h=>?_) ?_
     ·subst hk_k13
      obtain⟨x14,hl15,h⟩:=bno h
      refine wx tbk [(3,rp [(.tmp 177,(I (w64 ((w64 (x5+p2))-y12))))] (I x14))] ⟨Qeb hl15 (aas rfl),tv⟩ ?_
      obtain⟨k17,hk_k17,h⟩:=jko h
      refine wjn (τ:=(List Int)) (fun t=>k17 t=some r) (fun y16=>⟨mk 220 [(0,(.own 0 1 (0) p0)),(1,I p1),(3,I p3),(4,Qer),(18,I x5),(20,I y12),(24,I x14)],[(.own 1 (y16.map Qaa)),Qcq,(.own 1 [[(Qcp p5)]])]⟩) (fun y16 h=>?_) ?_
      ·subst hk_k17
       obtain⟨k19,hk_k19,h⟩:=jko h
       refine wjn (τ:=(List Int)) (fun t=>k19 t=some r) (fun y18=>⟨mk 220 [(0,(.own 0 1 (0) p0)),(3,I p3),(4,Qer),(18,I x5),(24,I x14)],[(.own 1 (y18.map Qaa)),Qcq,(.own 1 [[(Qcp p5)]])]⟩) (fun y18 h=>?_) ?_
       ·subst hk_k19
        refine bfe h (fun hb20 h=>?_) fun hb20 h=>?_
        ·refine wx tbk [(3,rp [(.tmp 208,(B ((decide (x5<x14)))))] (B true))] ⟨asb hb20 (amv rfl),tv⟩ ?_
         refine bfe h (fun hc21 h=>?_) fun hc21 h=>?_
         ·refine wft hc21 ?_
          obtain⟨x23,hf22,h⟩:=bno h
          refine wx1 tbk [(5,⟨_,_,_,_,false⟩)] ⟨acq [(.own 0 1 (0) p0),I x5,I x14,I p3,Qer] [(.own 1 (y18.map Qaa)),Qcq,(.own 1 [[(Qcp p5)]])] [(.own 1 (x23.map Qaa)),Qcq,(.own 1 [[(Qcp p5)]])] (.tup []) [0,1,2] Qkz (ihX p0 x5 x14 p3 y18 p5 _ hf22) (Qcv (rnc (Qd0 rfl) (rncc (rnc (.plain _ nll) (rnc (Qau rn0 (rnc (Qbr rfl) (rnc (Qbr rfl) rn0))) rn0))))) (slc (Qbq Qab) (slc (Qan (rnc (.plain _ (NLt.fn _ _ _ nl0 nl0)) rn0)) (slc (Qan (rnc (pld Qad) rn0)) Qaq))) (slc (Qbq Qab) (slc (Qan (rnc (.plain _ (NLt.fn _ _ _ nl0 nl0)) rn0)) (slc (Qan (rnc (pld Qad) rn0)) Qaq))) (.plain _ (NLt.tup _ nl0)),tv⟩ ?_
          obtain rfl:=osi h
          exact⟨_,(mto (n:=220) (l':=[]) (own':=[(.own 1 (x23.map Qaa)),Qcq,(.own 1 [[(Qcp p5)]])]) [] [0,1,2] [(.own 1 (x23.map Qaa)),Qcq,(.own 1 [[(Qcp p5)]])] hq pn (qc (spr Qab) (qb (lc (.rn (Qau rn0 rn0)) ln) (qb (lc (rnd Qad) ln) qn)))),fio [] tv⟩
         ·refine wfn hc21<|Qak ?_
          obtain rfl:=osi h
          exact⟨_,(mto (n:=220) (l':=[]) (own':=[(.own 1 (y18.map Qaa)),Qcq,(.own 1 [[(Qcp p5)]])]) [] [0,1,2] [(.own 1 (y18.map Qaa)),Qcq,(.own 1 [[(Qcp p5)]])] hq pn (qc (spr Qab) (qb (lc (.rn (Qau rn0 rn0)) ln) (qb (lc (rnd Qad) ln) qn)))),fio [] tv⟩
        ·refine wx tbk [(3,rp [(.tmp 208,(B ((decide (x5<x14)))))] (B false))] ⟨asb hb20 (amv rfl),tv⟩<|wfa<|Qak ?_
         obtain rfl:=osi h
         exact⟨_,(mto (n:=220) (l':=[]) (own':=[(.own 1 (y18.map Qaa)),Qcq,(.own 1 [[(Qcp p5)]])]) [] [0,1,2] [(.own 1 (y18.map Qaa)),Qcq,(.own 1 [[(Qcp p5)]])] hq pn (qc (spr Qab) (qb (lc (.rn (Qau rn0 rn0)) ln) (qb (lc (rnd Qad) ln) qn)))),fio [] tv⟩
       ·skip
        refine bfe h (fun hb24 h=>?_) fun hb24 h=>?_
        ·refine wx tbk [(3,rp [(.tmp 194,(B ((decide (p1<y12)))))] (B true))] ⟨asb hb24 (amv rfl),tv⟩ ?_
         refine bfe h (fun hc25 h=>?_) fun hc25 h=>?_
         ·refine wft hc25 ?_
          obtain⟨x27,hf26,h⟩:=bno h
          refine wx1 tbk [(5,⟨_,_,_,_,false⟩)] ⟨acq [(.own 0 1 (0) p0),I p1,I y12,I x5,Qer] [(.own 1 (y16.map Qaa)),Qcq,(.own 1 [[(Qcp p5)]])] [(.own 1 (x27.map Qaa)),Qcq,(.own 1 [[(Qcp p5)]])] (.tup []) [0,1,2] Qkz (ihX p0 p1 y12 x5 y16 p5 _ hf26) (Qcv (rnc (Qd0 rfl) (rncc (rnc (.plain _ nll) (rnc (Qau rn0 (rnc (Qbr rfl) (rnc (Qbr rfl) rn0))) rn0))))) (slc (Qbq Qab) (slc (Qan (rnc (.plain _ (NLt.fn _ _ _ nl0 nl0)) rn0)) (slc (Qan (rnc (pld Qad) rn0)) Qaq))) (slc (Qbq Qab) (slc (Qan (rnc (.plain _ (NLt.fn _ _ _ nl0 nl0)) rn0)) (slc (Qan (rnc (pld Qad) rn0)) Qaq))) (.plain _ (NLt.tup _ nl0)),tv⟩<|thn ?_
          exact⟨(x27),h,(mto (n:=220) [(0,(.own 0 1 (0) p0)),(3,I p3),(4,Qer),(18,I x5),(24,I x14)] [0,1,2] [(.own 1 (x27.map Qaa)),Qcq,(.own 1 [[(Qcp p5)]])] hq (pc (.rn (Qag rfl)) (pw (pc (.rn (Qau rn0 (rnc (rqr rfl) (rnc (rqr rfl) rn0)))) (pw (pw pn))))) (qc (spr Qab) (qb (lc (.rn (Qau rn0 rn0)) ln) (qb (lc (rnd Qad) ln) qn))))⟩
         ·exact wfn hc25<|Qak<|thn<|⟨(y16),h,(mto (n:=220) [(0,(.own 0 1 (0) p0)),(3,I p3),(4,Qer),(18,I x5),(24,I x14)] [0,1,2] [(.own 1 (y16.map Qaa)),Qcq,(.own 1 [[(Qcp p5)]])] hq (pc (.rn (Qag rfl)) (pw (pc (.rn (Qau rn0 (rnc (rqr rfl) (rnc (rqr rfl) rn0)))) (pw (pw pn))))) (qc (spr Qab) (qb (lc (.rn (Qau rn0 rn0)) ln) (qb (lc (rnd Qad) ln) qn))))⟩
        ·exact wx tbk [(3,rp [(.tmp 194,(B ((decide (p1<y12)))))] (B false))] ⟨asb hb24 (amv rfl),tv⟩<|wfa<|Qak<|thn<|⟨(y16),h,(mto (n:=220) [(0,(.own 0 1 (0) p0)),(3,I p3),(4,Qer),(18,I x5),(24,I x14)] [0,1,2] [(.own 1 (y16.map Qaa)),Qcq,(.own 1 [[(Qcp p5)]])] hq (pc (.rn (Qag rfl)) (pw (pc (.rn (Qau rn0 (rnc (rqr rfl) (rnc (rqr rfl) rn0)))) (pw (pw pn))))) (qc (spr Qab) (qb (lc (.rn (Qau rn0 rn0)) ln) (qb (lc (rnd Qad) ln) qn))))⟩
      ·skip
       refine bfe h (fun hb28 h=>?_) fun hb28 h=>?_
       ·refine wx tbk [(3,rp [(.tmp 180,(B ((decide (y12<p2)))))] (B true))] ⟨asb hb28 (amv rfl),tv⟩ ?_
        refine bfe h (fun hc29 h=>?_) fun hc29 h=>?_
        ·refine wft hc29 ?_
         obtain⟨x31,hf30,h⟩:=bno h
         refine wx1 tbk [(5,⟨_,_,_,_,false⟩)] ⟨acq [(.own 0 1 (0) p0),I y12,I p2,I x14,Qer] [(.own 1 (p4.map Qaa)),Qcq,(.own 1 [[(Qcp p5)]])] [(.own 1 (x31.map Qaa)),Qcq,(.own 1 [[(Qcp p5)]])] (.tup []) [0,1,2] Qx8 (Qfx N p0 y12 p2 x14 p4 p5 _ hf30) (Qcv (rnc (Qd0 rfl) (rncc (rnc (.plain _ nll) (rnc (Qau rn0 (rnc (Qbr rfl) (rnc (Qbr rfl) rn0))) rn0))))) (slc (Qbq Qab) (slc (Qan (rnc (.plain _ (NLt.fn _ _ _ nl0 nl0)) rn0)) (slc (Qan (rnc (pld Qad) rn0)) Qaq))) (slc (Qbq Qab) (slc (Qan (rnc (.plain _ (NLt.fn _ _ _ nl0 nl0)) rn0)) (slc (Qan (rnc (pld Qad) rn0)) Qaq))) (.plain _ (NLt.tup _ nl0)),tv⟩<|thn ?_
         exact⟨(x31),h,(mto (n:=220) [(0,(.own 0 1 (0) p0)),(1,I p1),(3,I p3),(4,Qer),(18,I x5),(20,I y12),(24,I x14)] [0,1,2] [(.own 1 (x31.map Qaa)),Qcq,(.own 1 [[(Qcp p5)]])] hq (pc (.rn (Qag rfl)) (pw (pw (pc (.rn (Qau rn0 (rnc (rqr rfl) (rnc (rqr rfl) rn0)))) (pw (pw (pw pn))))))) (qc (spr Qab) (qb (lc (.rn (Qau rn0 rn0)) ln) (qb (lc (rnd Qad) ln) qn))))⟩
        ·exact wfn hc29<|Qak<|thn<|⟨(p4),h,(mto (n:=220) [(0,(.own 0 1 (0) p0)),(1,I p1),(3,I p3),(4,Qer),(18,I x5),(20,I y12),(24,I x14)] [0,1,2] [(.own 1 (p4.map Qaa)),Qcq,(.own 1 [[(Qcp p5)]])] hq (pc (.rn (Qag rfl)) (pw (pw (pc (.rn (Qau rn0 (rnc (rqr rfl) (rnc (rqr rfl) rn0)))) (pw (pw (pw pn))))))) (qc (spr Qab) (qb (lc (.rn (Qau rn0 rn0)) ln) (qb (lc (rnd Qad) ln) qn))))⟩
       ·exact wx tbk [(3,rp [(.tmp 180,(B ((decide (y12<p2)))))] (B false))] ⟨asb hb28 (amv rfl),tv⟩<|wfa<|Qak<|thn<|⟨(p4),h,(mto (n:=220) [(0,(.own 0 1 (0) p0)),(1,I p1),(3,I p3),(4,Qer),(18,I x5),(20,I y12),(24,I x14)] [0,1,2] [(.own 1 (p4.map Qaa)),Qcq,(.own 1 [[(Qcp p5)]])] hq (pc (.rn (Qag rfl)) (pw (pw (pc (.rn (Qau rn0 (rnc (rqr rfl) (rnc (rqr rfl) rn0)))) (pw (pw (pw pn))))))) (qc (spr Qab) (qb (lc (.rn (Qau rn0 rn0)) ln) (qb (lc (rnd Qad) ln) qn))))⟩
     ·skip
      refine Qai<|wmr (mto (n:=220) (l':=[(0,(.own 0 1 (0) p0)),(1,I p1),(2,I p2),(3,I p3),(4,Qer),(18,I x5),(19,(I (w64 (x5+p2)))),(20,I y7),(21,I y8),(22,I x10)]) (own':=[(.own 1 (p4.map Qaa)),Qcq,(.own 1 [[(Qcp p5)]])]) [(0,(.own 0 1 (0) p0)),(1,I p1),(2,I p2),(3,I p3),(4,Qer),(18,I x5),(19,(I (w64 (x5+p2)))),(20,I y7),(21,I y8),(22,I x10)] [0,1,2] [(.own 1 (p4.map Qaa)),Qcq,(.own 1 [[(Qcp p5)]])] hq (pc (.rn (Qag rfl)) (pw (pw (pw (pc (.rn (Qau rn0 (rnc (rqr rfl) (rnc (rqr rfl) rn0)))) (pw (pw (pw (pw (pw pn)))))))))) (qc (spr Qab) (qb (lc (.rn (Qau rn0 rn0)) ln) (qb (lc (rnd Qad) ln) qn)))) ?_
      refine Qb1 (τ:=Int×Int) (fun n t=>Qa7 N p0 p4 p5 x10 k13 n t.1 t.2=some r) (fun ⟨y32,y33⟩=>⟨mk 220 [(0,(.own 0 1 (0) p0)),(1,I p1),(2,I p2),(3,I p3),(4,Qer),(18,I x5),(19,(I (w64 (x5+p2)))),(20,I y32),(21,I y33),(22,I x10)],[(.own 1 (p4.map Qaa)),Qcq,(.own 1 [[(Qcp p5)]])]⟩) (fun t h=>by rw[Qa7] at h;cases h) (fun n36 ih t h=>?_) N (y7,y8) h
      obtain⟨y32,y33⟩:=t
      rw[Qa7] at h
      skip
      refine wsq<|wxz ?_
      refine bfe h (fun hc37 h=>?_) fun hc37 h=>?_
      ·refine wft hc37<|Qak<|thn<|Qai ?_
       obtain⟨x38,hl39,h⟩:=bno h
       refine wx tbk [(3,rp [(.tmp 154,(I (w64 (y32+y33))))] (K .u64 (IntKind.wrap .u64 (w64 (y32+y33))))),(4,rp [(.tmp 155,(K .u64 (IntKind.wrap .u64 (w64 (y32+y33))))),(.const (.int .u64 1),(K .u64 (1)))] (K .u64 ((IntKind.wrap .u64 (w64 (y32+y33)))/2))),(5,rp [(.tmp 156,(K .u64 ((IntKind.wrap .u64 (w64 (y32+y33)))/2)))] (I (w64 ((IntKind.wrap .u64 (w64 (y32+y33)))/2)))),(6,rp [(.tmp 157,(I (w64 ((IntKind.wrap .u64 (w64 (y32+y33)))/2))))] (I x38))] ⟨acv rfl (by rw[underlying3];rfl) underlying193,Qjo rfl (by decide) (by decide),acv rfl (by rw[underlying193];rfl) underlying3,Qeb hl39 (aas rfl),tv⟩ ?_
       obtain⟨hi40,h⟩:=cko h
       obtain⟨hi40a,hi40b⟩:=Qaw hi40
       obtain⟨x41,hg42,h⟩:=bno h
       obtain⟨hi43,h⟩:=cko h
       obtain⟨hi43a,hi43b⟩:=Qaw hi43
       obtain⟨x44,hg45,h⟩:=bno h
       obtain⟨x47,hf46,h⟩:=bno h
       refine wxd tbk [(5,rb [(.tmp 159,(.own 0 1 (0) p0)),(.tmp 162,(I (w64 (x10-x38))))] [(0,(.own 1 (p4.map Qaa)))] (.ref 0 1 ((w64 (x10-x38)).toNat) 0)),(6,rb [(.tmp 163,(.ref 0 1 ((w64 (x10-x38)).toNat) 0))] [(0,(.own 1 (p4.map Qaa)))] (I x41)),(9,rb [(.tmp 165,(.own 0 1 (0) p0)),(.tmp 166,I x38)] [(0,(.own 1 (p4.map Qaa)))] (.ref 0 1 x38.toNat 0)),(10,rb [(.tmp 167,(.ref 0 1 x38.toNat 0))] [(0,(.own 1 (p4.map Qaa)))] (I x44)),(11,⟨_,_,_,_,false⟩)] ⟨aio rfl underlying25 ti3 (odt hi40a) (odt hi40b) (Nat.zero_add _),ald rfl ti3 (by decide) (mgt Qaa hg42) (nle rfl) rfl,aio rfl underlying25 ti3 (odt hi43a) (odt hi43b) (Nat.zero_add _),ald rfl ti3 (by decide) (mgt Qaa hg45) (nle rfl) rfl,Qeh (first:=[]) (cap:=[.ref 1 1 0 0,.ref 2 1 0 0]) (vs:=[I x41,I x44]) (σr:=[Qcq,(.own 1 [[(Qcp p5)]])]) (σr':=[Qcq,(.own 1 [[(Qcp p5)]])]) (res':=(I x47)) [1,2] rfl Qk0 (Qcy N x41 x44 p5 _ hf46) rfl (Qcv (rncc (rnc (Qbr rfl) (rnc (Qbr rfl) rn0)))) (slc (Qan (rnc (.plain _ (NLt.fn _ _ _ nl0 nl0)) rn0)) (slc (Qan (rnc (pld Qad) rn0)) Qaq)) (slc (Qan (rnc (.plain _ (NLt.fn _ _ _ nl0 nl0)) rn0)) (slc (Qan (rnc (pld Qad) rn0)) Qaq)) (.plain _ nll) rfl rfl rfl,tv⟩ ?_
       refine bfe h (fun hc48 h=>?_) fun hc48 h=>?_
       ·exact wft hc48<|wxz1<|bln<|thn<|arm (mto (n:=220) [(0,(.own 0 1 (0) p0)),(1,I p1),(2,I p2),(3,I p3),(4,Qer),(18,I x5),(19,(I (w64 (x5+p2)))),(20,(I (w64 (x38+1)))),(21,I y33),(22,I x10)] [0,1,2] [(.own 1 (p4.map Qaa)),Qcq,(.own 1 [[(Qcp p5)]])] hq (pc (.rn (Qag rfl)) (pw (pw (pw (pc (.rn (Qau rn0 (rnc (rqr rfl) (rnc (rqr rfl) rn0)))) (pw (pw (pw (pw (pw pn)))))))))) (qc (spr Qab) (qb (lc (.rn (Qau rn0 rn0)) ln) (qb (lc (rnd Qad) ln) qn)))) (ih (w64 (x38+1),y33) h)
       ·exact wfn hc48<|wxz1<|bln<|thn<|arm (mto (n:=220) [(0,(.own 0 1 (0) p0)),(1,I p1),(2,I p2),(3,I p3),(4,Qer),(18,I x5),(19,(I (w64 (x5+p2)))),(20,I y32),(21,I x38),(22,I x10)] [0,1,2] [(.own 1 (p4.map Qaa)),Qcq,(.own 1 [[(Qcp p5)]])] hq (pc (.rn (Qag rfl)) (pw (pw (pw (pc (.rn (Qau rn0 (rnc (rqr rfl) (rnc (rqr rfl) rn0)))) (pw (pw (pw (pw (pw pn)))))))))) (qc (spr Qab) (qb (lc (.rn (Qau rn0 rn0)) ln) (qb (lc (rnd Qad) ln) qn)))) (ih (y32,x38) h)
      ·exact wfn hc37<|Qaz<|Qao<|Qao<|Qay rfl<|thn<|⟨(y32),h,(mto (n:=220) [(0,(.own 0 1 (0) p0)),(1,I p1),(2,I p2),(3,I p3),(4,Qer),(18,I x5),(19,(I (w64 (x5+p2)))),(20,I y32)] [0,1,2] [(.own 1 (p4.map Qaa)),Qcq,(.own 1 [[(Qcp p5)]])] hq (pc (.rn (Qag rfl)) (pw (pw (pw (pc (.rn (Qau rn0 (rnc (rqr rfl) (rnc (rqr rfl) rn0)))) (pw (pw (pw pn)))))))) (qc (spr Qab) (qb (lc (.rn (Qau rn0 rn0)) ln) (qb (lc (rnd Qad) ln) qn))))⟩
    ·skip
     refine wxz ?_
     refine bfe h (fun hc49 h=>?_) fun hc49 h=>?_
     ·refine wft hc49 ?_
      obtain⟨x50,hl51,h⟩:=bno h
      exact wx tbk [(3,rp [(.tmp 143,(I (w64 ((w64 (x5+p2))-p3))))] (I x50))] ⟨Qeb hl51 (aas rfl),tv⟩<|wxz1<|thn<|⟨(x50,x5),h,(mto (n:=220) [(0,(.own 0 1 (0) p0)),(1,I p1),(2,I p2),(3,I p3),(4,Qer),(18,I x5),(19,(I (w64 (x5+p2)))),(20,I x50),(21,I x5)] [0,1,2] [(.own 1 (p4.map Qaa)),Qcq,(.own 1 [[(Qcp p5)]])] hq (pc (.rn (Qag rfl)) (pw (pw (pw (pc (.rn (Qau rn0 (rnc (rqr rfl) (rnc (rqr rfl) rn0)))) (pw (pw (pw (pw pn))))))))) (qc (spr Qab) (qb (lc (.rn (Qau rn0 rn0)) ln) (qb (lc (rnd Qad) ln) qn))))⟩
     ·exact wfn hc49<|wxz<|wxz1<|thn<|⟨(p1,p2),h,(mto (n:=220) [(0,(.own 0 1 (0) p0)),(1,I p1),(2,I p2),(3,I p3),(4,Qer),(18,I x5),(19,(I (w64 (x5+p2)))),(20,I p1),(21,I p2)] [0,1,2] [(.own 1 (p4.map Qaa)),Qcq,(.own 1 [[(Qcp p5)]])] hq (pc (.rn (Qag rfl)) (pw (pw (pw (pc (.rn (Qau rn0 (rnc (rqr rfl) (rnc (rqr rfl) rn0)))) (pw (pw (pw (pw pn))))))))) (qc (spr Qab) (qb (lc (.rn (Qau rn0 rn0)) ln) (qb (lc (rnd Qad) ln) qn))))⟩
   ·skip
    refine wxz ?_
    refine bfe h (fun hc52 h=>?_) fun hc52 h=>?_
    ·refine wft hc52<|wxz<|wxz ?_
     obtain⟨k54,hk_k54,h⟩:=jko h
     refine wjn (τ:=Int) (fun t=>k54 t=some r) (fun y53=>⟨mk 220 [(0,(.own 0 1 (0) p0)),(2,I p2),(14,I y53)],[(.own 1 (p4.map Qaa)),Qcq,(.own 1 [[(Qcp p5)]])]⟩) (fun y53 h=>?_) ?_
     ·subst hk_k54
      obtain⟨k56,hk_k56,h⟩:=jko h
      refine wjn (τ:=(List Int)) (fun t=>k56 t=some r) (fun y55=>⟨mk 220 [],[(.own 1 (y55.map Qaa)),Qcq,(.own 1 [[(Qcp p5)]])]⟩) (fun y55 h=>?_) ?_
      ·subst hk_k56
       refine wmr (mto (n:=220) (l':=[]) (own':=[(.own 1 (y55.map Qaa)),Qcq,(.own 1 [[(Qcp p5)]])]) [] [0,1,2] [(.own 1 (y55.map Qaa)),Qcq,(.own 1 [[(Qcp p5)]])] hq pn (qc (spr Qab) (qb (lc (.rn (Qau rn0 rn0)) ln) (qb (lc (rnd Qad) ln) qn))))<|Qal<|Qam ?_
       obtain rfl:=osi h
       exact⟨_,Mor.rfl,fio [] tv⟩
      ·skip
       refine wxz<|Qai ?_
       refine wmr (mto (n:=220) (l':=[(0,(.own 0 1 (0) p0)),(14,I y53),(17,I p2)]) (own':=[(.own 1 (p4.map Qaa)),Qcq,(.own 1 [[(Qcp p5)]])]) [(0,(.own 0 1 (0) p0)),(14,I y53),(17,I p2)] [0,1,2] [(.own 1 (p4.map Qaa)),Qcq,(.own 1 [[(Qcp p5)]])] hq (pc (.rn (Qag rfl)) (pw (pw pn))) (qc (spr Qab) (qb (lc (.rn (Qau rn0 rn0)) ln) (qb (lc (rnd Qad) ln) qn)))) ?_
       refine Qb1 (τ:=Int×(List Int)) (fun n t=>Qbm N p0 y53 k56 n t.1 t.2=some r) (fun ⟨y57,y58⟩=>⟨mk 220 [(0,(.own 0 1 (0) p0)),(14,I y53),(17,I y57)],[(.own 1 (y58.map Qaa)),Qcq,(.own 1 [[(Qcp p5)]])]⟩) (fun t h=>by rw[Qbm] at h;cases h) (fun n61 ih t h=>?_) N (p2,p4) h
       obtain⟨y57,y58⟩:=t
       rw[Qbm] at h
       skip
       refine wsq<|wxz ?_
       refine bfe h (fun hc62 h=>?_) fun hc62 h=>?_
       ·refine wft hc62<|Qak<|thn<|wsq<|Qai ?_
        obtain⟨hi63,h⟩:=cko h
        obtain⟨hi63a,hi63b⟩:=Qaw hi63
        obtain⟨x64,hg65,h⟩:=bno h
        obtain⟨hi66,h⟩:=cko h
        obtain⟨hi66a,hi66b⟩:=Qaw hi66
        obtain⟨x67,hg68,h⟩:=bno h
        obtain⟨hi69,h⟩:=cko h
        obtain⟨hi69a,hi69b⟩:=Qaw hi69
        obtain⟨x70,hg71,h⟩:=bno h
        obtain⟨hi72,h⟩:=cko h
        obtain⟨hi72a,hi72b⟩:=Qaw hi72
        obtain⟨x73,hg74,h⟩:=bno h
        refine wy1 tbk [(8,rb [(.tmp 118,(.own 0 1 (0) p0)),(.tmp 120,(I (w64 (y57-1))))] [(0,(.own 1 (y58.map Qaa)))] (.ref 0 1 ((w64 (y57-1)).toNat) 0)),(9,rb [(.tmp 121,(.ref 0 1 ((w64 (y57-1)).toNat) 0))] [(0,(.own 1 (y58.map Qaa)))] (I x64)),(12,rb [(.tmp 123,(.own 0 1 (0) p0)),(.tmp 124,I y57)] [(0,(.own 1 (y58.map Qaa)))] (.ref 0 1 y57.toNat 0)),(13,rb [(.tmp 125,(.ref 0 1 y57.toNat 0))] [(0,(.own 1 (y58.map Qaa)))] (I x67)),(14,rb [(.tmp 113,(.own 0 1 (0) p0)),(.tmp 114,I y57)] [(0,(.own 1 (y58.map Qaa)))] (.ref 0 1 y57.toNat 0)),(15,⟨[(.tmp 127,(.ref 0 1 y57.toNat 0)),(.tmp 122,I x64)],[(0,(.own 1 (y58.map Qaa)))],.any,[(0,(.own 1 ((y58.set y57.toNat x64:List Int).map Qaa)))],false⟩),(16,rb [(.tmp 115,(.own 0 1 (0) p0)),(.tmp 117,(I (w64 (y57-1))))] [(0,(.own 1 ((y58.set y57.toNat x64:List Int).map Qaa)))] (.ref 0 1 ((w64 (y57-1)).toNat) 0)),(17,⟨[(.tmp 128,(.ref 0 1 ((w64 (y57-1)).toNat) 0)),(.tmp 126,I x67)],[(0,(.own 1 ((y58.set y57.toNat x64:List Int).map Qaa)))],.any,[(0,(.own 1 (((y58.set y57.toNat x64).set ((w64 (y57-1)).toNat) x67:List Int).map Qaa)))],false⟩)] ⟨aio rfl underlying25 ti3 (odt hi63a) (odt hi63b) (Nat.zero_add _),ald rfl ti3 (by decide) (mgt Qaa hg65) (nle rfl) rfl,aio rfl underlying25 ti3 (odt hi66a) (odt hi66b) (Nat.zero_add _),ald rfl ti3 (by decide) (mgt Qaa hg68) (nle rfl) rfl,aio rfl underlying25 ti3 (odt hi69a) (odt hi69b) (Nat.zero_add _),ast rfl ti3 (by rfl) (mgt Qaa hg71) (nle rfl) (Qd7 Qaa rfl),aio rfl underlying25 ti3 (odt hi72a) (odt hi72b) (Nat.zero_add _),ast rfl ti3 (by rfl) (mgt Qaa hg74) (nle rfl) (Qd7 Qaa rfl),tv⟩<|bln<|thn<|wxz1<|thn ?_
        exact arm (mto (n:=220) [(0,(.own 0 1 (0) p0)),(14,I y53),(17,(I (w64 (y57-1))))] [0,1,2] [(.own 1 (((y58.set y57.toNat x64).set ((w64 (y57-1)).toNat) x67:List Int).map Qaa)),Qcq,(.own 1 [[(Qcp p5)]])] hq (pc (.rn (Qag rfl)) (pw (pw pn))) (qc (spr Qab) (qb (lc (.rn (Qau rn0 rn0)) ln) (qb (lc (rnd Qad) ln) qn)))) (ih (w64 (y57-1),(y58.set y57.toNat x64).set ((w64 (y57-1)).toNat) x67) h)
       ·exact wfn hc62<|Qaz<|Qao<|Qao<|Qay rfl<|thn<|⟨(y58),h,(mto (n:=220) [] [0,1,2] [(.own 1 (y58.map Qaa)),Qcq,(.own 1 [[(Qcp p5)]])] hq pn (qc (spr Qab) (qb (lc (.rn (Qau rn0 rn0)) ln) (qb (lc (rnd Qad) ln) qn))))⟩
     ·skip
      refine Qai<|wmr (mto (n:=220) (l':=[(0,(.own 0 1 (0) p0)),(2,I p2),(4,Qer),(14,I p1),(15,I p2)]) (own':=[(.own 1 (p4.map Qaa)),Qcq,(.own 1 [[(Qcp p5)]])]) [(0,(.own 0 1 (0) p0)),(2,I p2),(4,Qer),(14,I p1),(15,I p2)] [0,1,2] [(.own 1 (p4.map Qaa)),Qcq,(.own 1 [[(Qcp p5)]])] hq (pc (.rn (Qag rfl)) (pw (pc (.rn (Qau rn0 (rnc (rqr rfl) (rnc (rqr rfl) rn0)))) (pw (pw pn))))) (qc (spr Qab) (qb (lc (.rn (Qau rn0 rn0)) ln) (qb (lc (rnd Qad) ln) qn)))) ?_
      refine Qb1 (τ:=Int×Int) (fun n t=>Qa6 N p0 p2 p4 p5 k54 n t.1 t.2=some r) (fun ⟨y75,y76⟩=>⟨mk 220 [(0,(.own 0 1 (0) p0)),(2,I p2),(4,Qer),(14,I y75),(15,I y76)],[(.own 1 (p4.map Qaa)),Qcq,(.own 1 [[(Qcp p5)]])]⟩) (fun t h=>by rw[Qa6] at h;cases h) (fun n79 ih t h=>?_) N (p1,p2) h
      obtain⟨y75,y76⟩:=t
      rw[Qa6] at h
      skip
      refine wsq<|wxz ?_
      refine bfe h (fun hc80 h=>?_) fun hc80 h=>?_
      ·refine wft hc80<|Qak<|thn<|Qai ?_
       obtain⟨x81,hl82,h⟩:=bno h
       refine wx tbk [(3,rp [(.tmp 88,(I (w64 (y75+y76))))] (K .u64 (IntKind.wrap .u64 (w64 (y75+y76))))),(4,rp [(.tmp 89,(K .u64 (IntKind.wrap .u64 (w64 (y75+y76))))),(.const (.int .u64 1),(K .u64 (1)))] (K .u64 ((IntKind.wrap .u64 (w64 (y75+y76)))/2))),(5,rp [(.tmp 90,(K .u64 ((IntKind.wrap .u64 (w64 (y75+y76)))/2)))] (I (w64 ((IntKind.wrap .u64 (w64 (y75+y76)))/2)))),(6,rp [(.tmp 91,(I (w64 ((IntKind.wrap .u64 (w64 (y75+y76)))/2))))] (I x81))] ⟨acv rfl (by rw[underlying3];rfl) underlying193,Qjo rfl (by decide) (by decide),acv rfl (by rw[underlying193];rfl) underlying3,Qeb hl82 (aas rfl),tv⟩ ?_
       obtain⟨hi83,h⟩:=cko h
       obtain⟨hi83a,hi83b⟩:=Qaw hi83
       obtain⟨x84,hg85,h⟩:=bno h
       obtain⟨hi86,h⟩:=cko h
       obtain⟨hi86a,hi86b⟩:=Qaw hi86
       obtain⟨x87,hg88,h⟩:=bno h
       obtain⟨x90,hf89,h⟩:=bno h
       refine wxd tbk [(3,rb [(.tmp 93,(.own 0 1 (0) p0)),(.tmp 94,I p2)] [(0,(.own 1 (p4.map Qaa)))] (.ref 0 1 p2.toNat 0)),(4,rb [(.tmp 95,(.ref 0 1 p2.toNat 0))] [(0,(.own 1 (p4.map Qaa)))] (I x84)),(7,rb [(.tmp 97,(.own 0 1 (0) p0)),(.tmp 98,I x81)] [(0,(.own 1 (p4.map Qaa)))] (.ref 0 1 x81.toNat 0)),(8,rb [(.tmp 99,(.ref 0 1 x81.toNat 0))] [(0,(.own 1 (p4.map Qaa)))] (I x87)),(9,⟨_,_,_,_,false⟩)] ⟨aio rfl underlying25 ti3 (odt hi83a) (odt hi83b) (Nat.zero_add _),ald rfl ti3 (by decide) (mgt Qaa hg85) (nle rfl) rfl,aio rfl underlying25 ti3 (odt hi86a) (odt hi86b) (Nat.zero_add _),ald rfl ti3 (by decide) (mgt Qaa hg88) (nle rfl) rfl,Qeh (first:=[]) (cap:=[.ref 1 1 0 0,.ref 2 1 0 0]) (vs:=[I x84,I x87]) (σr:=[Qcq,(.own 1 [[(Qcp p5)]])]) (σr':=[Qcq,(.own 1 [[(Qcp p5)]])]) (res':=(I x90)) [1,2] rfl Qk0 (Qcy N x84 x87 p5 _ hf89) rfl (Qcv (rncc (rnc (Qbr rfl) (rnc (Qbr rfl) rn0)))) (slc (Qan (rnc (.plain _ (NLt.fn _ _ _ nl0 nl0)) rn0)) (slc (Qan (rnc (pld Qad) rn0)) Qaq)) (slc (Qan (rnc (.plain _ (NLt.fn _ _ _ nl0 nl0)) rn0)) (slc (Qan (rnc (pld Qad) rn0)) Qaq)) (.plain _ nll) rfl rfl rfl,tv⟩ ?_
       refine bfe h (fun hc91 h=>?_) fun hc91 h=>?_
       ·exact wft hc91<|wxz1<|bln<|thn<|arm (mto (n:=220) [(0,(.own 0 1 (0) p0)),(2,I p2),(4,Qer),(14,(I (w64 (x81+1)))),(15,I y76)] [0,1,2] [(.own 1 (p4.map Qaa)),Qcq,(.own 1 [[(Qcp p5)]])] hq (pc (.rn (Qag rfl)) (pw (pc (.rn (Qau rn0 (rnc (rqr rfl) (rnc (rqr rfl) rn0)))) (pw (pw pn))))) (qc (spr Qab) (qb (lc (.rn (Qau rn0 rn0)) ln) (qb (lc (rnd Qad) ln) qn)))) (ih (w64 (x81+1),y76) h)
       ·exact wfn hc91<|wxz1<|bln<|thn<|arm (mto (n:=220) [(0,(.own 0 1 (0) p0)),(2,I p2),(4,Qer),(14,I y75),(15,I x81)] [0,1,2] [(.own 1 (p4.map Qaa)),Qcq,(.own 1 [[(Qcp p5)]])] hq (pc (.rn (Qag rfl)) (pw (pc (.rn (Qau rn0 (rnc (rqr rfl) (rnc (rqr rfl) rn0)))) (pw (pw pn))))) (qc (spr Qab) (qb (lc (.rn (Qau rn0 rn0)) ln) (qb (lc (rnd Qad) ln) qn)))) (ih (y75,x81) h)
      ·exact wfn hc80<|Qaz<|Qao<|Qao<|Qay rfl<|thn<|⟨(y75),h,(mto (n:=220) [(0,(.own 0 1 (0) p0)),(2,I p2),(14,I y75)] [0,1,2] [(.own 1 (p4.map Qaa)),Qcq,(.own 1 [[(Qcp p5)]])] hq (pc (.rn (Qag rfl)) (pw (pw pn))) (qc (spr Qab) (qb (lc (.rn (Qau rn0 rn0)) ln) (qb (lc (rnd Qad) ln) qn))))⟩
    ·exact wfn hc52<|Qak<|thn<|⟨(),h,(mto (n:=220) [(0,(.own 0 1 (0) p0)),(1,I p1),(2,I p2),(3,I p3),(4,Qer)] [0,1,2] [(.own 1 (p4.map Qaa)),Qcq,(.own 1 [[(Qcp p5)]])] hq (pc (.rn (Qag rfl)) (pw (pw (pw (pc (.rn (Qau rn0 (rnc (rqr rfl) (rnc (rqr rfl) rn0)))) pn))))) (qc (spr Qab) (qb (lc (.rn (Qau rn0 rn0)) ln) (qb (lc (rnd Qad) ln) qn))))⟩
  ·skip
   refine wxz ?_
   refine bfe h (fun hc92 h=>?_) fun hc92 h=>?_
   ·refine wft hc92<|wxz<|wxz ?_
    obtain⟨k94,hk_k94,h⟩:=jko h
    refine wjn (τ:=Int) (fun t=>k94 t=some r) (fun y93=>⟨mk 220 [(0,(.own 0 1 (0) p0)),(1,I p1),(10,I y93)],[(.own 1 (p4.map Qaa)),Qcq,(.own 1 [[(Qcp p5)]])]⟩) (fun y93 h=>?_) ?_
    ·subst hk_k94
     obtain⟨k96,hk_k96,h⟩:=jko h
     refine wjn (τ:=(List Int)) (fun t=>k96 t=some r) (fun y95=>⟨mk 220 [],[(.own 1 (y95.map Qaa)),Qcq,(.own 1 [[(Qcp p5)]])]⟩) (fun y95 h=>?_) ?_
     ·subst hk_k96
      refine wmr (mto (n:=220) (l':=[]) (own':=[(.own 1 (y95.map Qaa)),Qcq,(.own 1 [[(Qcp p5)]])]) [] [0,1,2] [(.own 1 (y95.map Qaa)),Qcq,(.own 1 [[(Qcp p5)]])] hq pn (qc (spr Qab) (qb (lc (.rn (Qau rn0 rn0)) ln) (qb (lc (rnd Qad) ln) qn))))<|Qal<|Qam ?_
      obtain rfl:=osi h
      exact⟨_,Mor.rfl,fio [] tv⟩
     ·skip
      refine wxz<|Qai ?_
      refine wmr (mto (n:=220) (l':=[(0,(.own 0 1 (0) p0)),(10,I y93),(13,I p1)]) (own':=[(.own 1 (p4.map Qaa)),Qcq,(.own 1 [[(Qcp p5)]])]) [(0,(.own 0 1 (0) p0)),(10,I y93),(13,I p1)] [0,1,2] [(.own 1 (p4.map Qaa)),Qcq,(.own 1 [[(Qcp p5)]])] hq (pc (.rn (Qag rfl)) (pw (pw pn))) (qc (spr Qab) (qb (lc (.rn (Qau rn0 rn0)) ln) (qb (lc (rnd Qad) ln) qn)))) ?_
      refine Qb1 (τ:=Int×(List Int)) (fun n t=>Qbl N p0 y93 k96 n t.1 t.2=some r) (fun ⟨y97,y98⟩=>⟨mk 220 [(0,(.own 0 1 (0) p0)),(10,I y93),(13,I y97)],[(.own 1 (y98.map Qaa)),Qcq,(.own 1 [[(Qcp p5)]])]⟩) (fun t h=>by rw[Qbl] at h;cases h) (fun n101 ih t h=>?_) N (p1,p4) h
      obtain⟨y97,y98⟩:=t
      rw[Qbl] at h
      skip
      refine wsq<|wxz ?_
      refine bfe h (fun hc102 h=>?_) fun hc102 h=>?_
      ·refine wft hc102<|Qak<|thn<|wsq<|Qai ?_
       obtain⟨hi103,h⟩:=cko h
       obtain⟨hi103a,hi103b⟩:=Qaw hi103
       obtain⟨x104,hg105,h⟩:=bno h
       obtain⟨hi106,h⟩:=cko h
       obtain⟨hi106a,hi106b⟩:=Qaw hi106
       obtain⟨x107,hg108,h⟩:=bno h
       obtain⟨hi109,h⟩:=cko h
       obtain⟨hi109a,hi109b⟩:=Qaw hi109
       obtain⟨x110,hg111,h⟩:=bno h
       obtain⟨hi112,h⟩:=cko h
       obtain⟨hi112a,hi112b⟩:=Qaw hi112
       obtain⟨x113,hg114,h⟩:=bno h
       refine wy1 tbk [(8,rb [(.tmp 66,(.own 0 1 (0) p0)),(.tmp 68,(I (w64 (y97+1))))] [(0,(.own 1 (y98.map Qaa)))] (.ref 0 1 ((w64 (y97+1)).toNat) 0)),(9,rb [(.tmp 69,(.ref 0 1 ((w64 (y97+1)).toNat) 0))] [(0,(.own 1 (y98.map Qaa)))] (I x104)),(12,rb [(.tmp 71,(.own 0 1 (0) p0)),(.tmp 72,I y97)] [(0,(.own 1 (y98.map Qaa)))] (.ref 0 1 y97.toNat 0)),(13,rb [(.tmp 73,(.ref 0 1 y97.toNat 0))] [(0,(.own 1 (y98.map Qaa)))] (I x107)),(14,rb [(.tmp 61,(.own 0 1 (0) p0)),(.tmp 62,I y97)] [(0,(.own 1 (y98.map Qaa)))] (.ref 0 1 y97.toNat 0)),(15,⟨[(.tmp 75,(.ref 0 1 y97.toNat 0)),(.tmp 70,I x104)],[(0,(.own 1 (y98.map Qaa)))],.any,[(0,(.own 1 ((y98.set y97.toNat x104:List Int).map Qaa)))],false⟩),(16,rb [(.tmp 63,(.own 0 1 (0) p0)),(.tmp 65,(I (w64 (y97+1))))] [(0,(.own 1 ((y98.set y97.toNat x104:List Int).map Qaa)))] (.ref 0 1 ((w64 (y97+1)).toNat) 0)),(17,⟨[(.tmp 76,(.ref 0 1 ((w64 (y97+1)).toNat) 0)),(.tmp 74,I x107)],[(0,(.own 1 ((y98.set y97.toNat x104:List Int).map Qaa)))],.any,[(0,(.own 1 (((y98.set y97.toNat x104).set ((w64 (y97+1)).toNat) x107:List Int).map Qaa)))],false⟩)] ⟨aio rfl underlying25 ti3 (odt hi103a) (odt hi103b) (Nat.zero_add _),ald rfl ti3 (by decide) (mgt Qaa hg105) (nle rfl) rfl,aio rfl underlying25 ti3 (odt hi106a) (odt hi106b) (Nat.zero_add _),ald rfl ti3 (by decide) (mgt Qaa hg108) (nle rfl) rfl,aio rfl underlying25 ti3 (odt hi109a) (odt hi109b) (Nat.zero_add _),ast rfl ti3 (by rfl) (mgt Qaa hg111) (nle rfl) (Qd7 Qaa rfl),aio rfl underlying25 ti3 (odt hi112a) (odt hi112b) (Nat.zero_add _),ast rfl ti3 (by rfl) (mgt Qaa hg114) (nle rfl) (Qd7 Qaa rfl),tv⟩<|bln<|thn<|wxz1<|thn ?_
       exact arm (mto (n:=220) [(0,(.own 0 1 (0) p0)),(10,I y93),(13,(I (w64 (y97+1))))] [0,1,2] [(.own 1 (((y98.set y97.toNat x104).set ((w64 (y97+1)).toNat) x107:List Int).map Qaa)),Qcq,(.own 1 [[(Qcp p5)]])] hq (pc (.rn (Qag rfl)) (pw (pw pn))) (qc (spr Qab) (qb (lc (.rn (Qau rn0 rn0)) ln) (qb (lc (rnd Qad) ln) qn)))) (ih (w64 (y97+1),(y98.set y97.toNat x104).set ((w64 (y97+1)).toNat) x107) h)
      ·exact wfn hc102<|Qaz<|Qao<|Qao<|Qay rfl<|thn<|⟨(y98),h,(mto (n:=220) [] [0,1,2] [(.own 1 (y98.map Qaa)),Qcq,(.own 1 [[(Qcp p5)]])] hq pn (qc (spr Qab) (qb (lc (.rn (Qau rn0 rn0)) ln) (qb (lc (rnd Qad) ln) qn))))⟩
    ·skip
     refine Qai<|wmr (mto (n:=220) (l':=[(0,(.own 0 1 (0) p0)),(1,I p1),(4,Qer),(10,I p2),(11,I p3)]) (own':=[(.own 1 (p4.map Qaa)),Qcq,(.own 1 [[(Qcp p5)]])]) [(0,(.own 0 1 (0) p0)),(1,I p1),(4,Qer),(10,I p2),(11,I p3)] [0,1,2] [(.own 1 (p4.map Qaa)),Qcq,(.own 1 [[(Qcp p5)]])] hq (pc (.rn (Qag rfl)) (pw (pc (.rn (Qau rn0 (rnc (rqr rfl) (rnc (rqr rfl) rn0)))) (pw (pw pn))))) (qc (spr Qab) (qb (lc (.rn (Qau rn0 rn0)) ln) (qb (lc (rnd Qad) ln) qn)))) ?_
     refine Qb1 (τ:=Int×Int) (fun n t=>Qa5 N p0 p1 p4 p5 k94 n t.1 t.2=some r) (fun ⟨y115,y116⟩=>⟨mk 220 [(0,(.own 0 1 (0) p0)),(1,I p1),(4,Qer),(10,I y115),(11,I y116)],[(.own 1 (p4.map Qaa)),Qcq,(.own 1 [[(Qcp p5)]])]⟩) (fun t h=>by rw[Qa5] at h;cases h) (fun n119 ih t h=>?_) N (p2,p3) h
     obtain⟨y115,y116⟩:=t
     rw[Qa5] at h
     skip
     refine wsq<|wxz ?_
     refine bfe h (fun hc120 h=>?_) fun hc120 h=>?_
     ·refine wft hc120<|Qak<|thn<|Qai ?_
      obtain⟨x121,hl122,h⟩:=bno h
      refine wx tbk [(3,rp [(.tmp 36,(I (w64 (y115+y116))))] (K .u64 (IntKind.wrap .u64 (w64 (y115+y116))))),(4,rp [(.tmp 37,(K .u64 (IntKind.wrap .u64 (w64 (y115+y116))))),(.const (.int .u64 1),(K .u64 (1)))] (K .u64 ((IntKind.wrap .u64 (w64 (y115+y116)))/2))),(5,rp [(.tmp 38,(K .u64 ((IntKind.wrap .u64 (w64 (y115+y116)))/2)))] (I (w64 ((IntKind.wrap .u64 (w64 (y115+y116)))/2)))),(6,rp [(.tmp 39,(I (w64 ((IntKind.wrap .u64 (w64 (y115+y116)))/2))))] (I x121))] ⟨acv rfl (by rw[underlying3];rfl) underlying193,Qjo rfl (by decide) (by decide),acv rfl (by rw[underlying193];rfl) underlying3,Qeb hl122 (aas rfl),tv⟩ ?_
      obtain⟨hi123,h⟩:=cko h
      obtain⟨hi123a,hi123b⟩:=Qaw hi123
      obtain⟨x124,hg125,h⟩:=bno h
      obtain⟨hi126,h⟩:=cko h
      obtain⟨hi126a,hi126b⟩:=Qaw hi126
      obtain⟨x127,hg128,h⟩:=bno h
      obtain⟨x130,hf129,h⟩:=bno h
      refine wxd tbk [(3,rb [(.tmp 41,(.own 0 1 (0) p0)),(.tmp 42,I x121)] [(0,(.own 1 (p4.map Qaa)))] (.ref 0 1 x121.toNat 0)),(4,rb [(.tmp 43,(.ref 0 1 x121.toNat 0))] [(0,(.own 1 (p4.map Qaa)))] (I x124)),(7,rb [(.tmp 45,(.own 0 1 (0) p0)),(.tmp 46,I p1)] [(0,(.own 1 (p4.map Qaa)))] (.ref 0 1 p1.toNat 0)),(8,rb [(.tmp 47,(.ref 0 1 p1.toNat 0))] [(0,(.own 1 (p4.map Qaa)))] (I x127)),(9,⟨_,_,_,_,false⟩)] ⟨aio rfl underlying25 ti3 (odt hi123a) (odt hi123b) (Nat.zero_add _),ald rfl ti3 (by decide) (mgt Qaa hg125) (nle rfl) rfl,aio rfl underlying25 ti3 (odt hi126a) (odt hi126b) (Nat.zero_add _),ald rfl ti3 (by decide) (mgt Qaa hg128) (nle rfl) rfl,Qeh (first:=[]) (cap:=[.ref 1 1 0 0,.ref 2 1 0 0]) (vs:=[I x124,I x127]) (σr:=[Qcq,(.own 1 [[(Qcp p5)]])]) (σr':=[Qcq,(.own 1 [[(Qcp p5)]])]) (res':=(I x130)) [1,2] rfl Qk0 (Qcy N x124 x127 p5 _ hf129) rfl (Qcv (rncc (rnc (Qbr rfl) (rnc (Qbr rfl) rn0)))) (slc (Qan (rnc (.plain _ (NLt.fn _ _ _ nl0 nl0)) rn0)) (slc (Qan (rnc (pld Qad) rn0)) Qaq)) (slc (Qan (rnc (.plain _ (NLt.fn _ _ _ nl0 nl0)) rn0)) (slc (Qan (rnc (pld Qad) rn0)) Qaq)) (.plain _ nll) rfl rfl rfl,tv⟩ ?_
      refine bfe h (fun hc131 h=>?_) fun hc131 h=>?_
      ·exact wft hc131<|wxz1<|bln<|thn<|arm (mto (n:=220) [(0,(.own 0 1 (0) p0)),(1,I p1),(4,Qer),(10,(I (w64 (x121+1)))),(11,I y116)] [0,1,2] [(.own 1 (p4.map Qaa)),Qcq,(.own 1 [[(Qcp p5)]])] hq (pc (.rn (Qag rfl)) (pw (pc (.rn (Qau rn0 (rnc (rqr rfl) (rnc (rqr rfl) rn0)))) (pw (pw pn))))) (qc (spr Qab) (qb (lc (.rn (Qau rn0 rn0)) ln) (qb (lc (rnd Qad) ln) qn)))) (ih (w64 (x121+1),y116) h)
      ·exact wfn hc131<|wxz1<|bln<|thn<|arm (mto (n:=220) [(0,(.own 0 1 (0) p0)),(1,I p1),(4,Qer),(10,I y115),(11,I x121)] [0,1,2] [(.own 1 (p4.map Qaa)),Qcq,(.own 1 [[(Qcp p5)]])] hq (pc (.rn (Qag rfl)) (pw (pc (.rn (Qau rn0 (rnc (rqr rfl) (rnc (rqr rfl) rn0)))) (pw (pw pn))))) (qc (spr Qab) (qb (lc (.rn (Qau rn0 rn0)) ln) (qb (lc (rnd Qad) ln) qn)))) (ih (y115,x121) h)
     ·exact wfn hc120<|Qaz<|Qao<|Qao<|Qay rfl<|thn<|⟨(y115),h,(mto (n:=220) [(0,(.own 0 1 (0) p0)),(1,I p1),(10,I y115)] [0,1,2] [(.own 1 (p4.map Qaa)),Qcq,(.own 1 [[(Qcp p5)]])] hq (pc (.rn (Qag rfl)) (pw (pw pn))) (qc (spr Qab) (qb (lc (.rn (Qau rn0 rn0)) ln) (qb (lc (rnd Qad) ln) qn))))⟩
   ·exact wfn hc92<|Qak<|thn<|⟨(),h,(mto (n:=220) [(0,(.own 0 1 (0) p0)),(1,I p1),(2,I p2),(3,I p3),(4,Qer)] [0,1,2] [(.own 1 (p4.map Qaa)),Qcq,(.own 1 [[(Qcp p5)]])] hq (pc (.rn (Qag rfl)) (pw (pw (pw (pc (.rn (Qau rn0 (rnc (rqr rfl) (rnc (rqr rfl) rn0)))) pn))))) (qc (spr Qab) (qb (lc (.rn (Qau rn0 rn0)) ln) (qb (lc (rnd Qad) ln) qn))))⟩
def Qbu (N p0:Nat) (p1:Int) (p3:List Qbf) (y7:Int) (k15:Int×(List Int)→Option (List Int)):Nat→Int→Int→(List Int)→Option (List Int)
  |0,_,_,_=>none
  |n25+1,y19,y20,y21=>
    bif (decide (y20≤p1)) then
     (Qch N p0 y19 (w64 (y19+y7)) y20 y21 p3).bind fun x28=>
     (some (w64 (y20+(w64 (2*y7))))).bind fun x29=>
     Qbu N p0 p1 p3 y7 k15 n25 y20 x29 x28
    else
     k15 (y19,y21)
def Qbc (N p0:Nat) (p1:Int) (p3:List Qbf):Nat→Int→(List Int)→Option (List Int)
  |0,_,_=>none
  |n11+1,y7,y8=>
    bif (decide (y7<p1)) then
     Qco (fun ⟨y13,y14⟩=>
       bif (decide ((w64 (y13+y7))<p1)) then
        (Qch N p0 y13 (w64 (y13+y7)) p1 y14 p3).bind fun x18=>
        Qbc N p0 p1 p3 n11 (w64 (y7*2)) x18
       else
        Qbc N p0 p1 p3 n11 (w64 (y7*2)) y14) fun k15:Int×(List Int)→Option (List Int)=>
     Qbu N p0 p1 p3 y7 k15 N 0 (w64 (2*y7)) y8
    else
     some y8
def Qbt (N p0:Nat) (p1:Int) (p3:List Qbf) (k4:Int×(List Int)→Option (List Int)):Nat→Int→Int→(List Int)→Option (List Int)
  |0,_,_,_=>none
  |n37+1,y31,y32,y33=>
    bif (decide (y32≤p1)) then
     (Qci N p0 y31 y32 y33 p3).bind fun x40=>
     Qbt N p0 p1 p3 k4 n37 y32 (w64 (y32+20)) x40
    else
     k4 (y31,y33)
def Qds (N p0:Nat) (p1:Int) (p2:List Int) (p3:List Qbf):Option (List Int):=
  Qco (fun ⟨y2,y3⟩=>
    (Qci N p0 y2 p1 y3 p3).bind fun x6=>
    Qbc N p0 p1 p3 N 20 x6) fun k4:Int×(List Int)→Option (List Int)=>
  Qbt N p0 p1 p3 k4 N 0 20 p2
abbrev Qgk:AV:=.fn (.func 111) [] [(.ref 1 1 (0) 0),(.ref 2 1 (0) 0)]
abbrev Qfa:Slot:=.own 1 [[(.fn (.func 92) [] [])]]
abbrev Qe9 (p3:List Qbf):AV:=.dat 4 (p3.map Qa3)
theorem Qfw (N p0:Nat) (p1:Int) (p2:List Int) (p3:List Qbf) (r:List Int) (h:Qds N p0 p1 p2 p3=some r):Spec prog 117 [(.own 0 1 (0) p0),(I p1),Qgk] [(.own 1 (p2.map Qaa)),Qfa,(.own 1 [[(Qe9 p3)]])] (.tup []) [(.own 1 (r.map Qaa)),Qfa,(.own 1 [[(Qe9 p3)]])]:=by
  refine sF func117 3 fun _ _ _ hq hd0=>?_
  unfold Qds at h
  refine wxz<|wxz ?_
  obtain⟨k4,hk_k4,h⟩:=jko h
  refine wjn (τ:=Int×(List Int)) (fun t=>k4 t=some r) (fun ⟨y2,y3⟩=>⟨mk 63 [(0,(.own 0 1 (0) p0)),(1,I p1),(2,Qgk),(6,I 20),(7,I y2)],[(.own 1 (y3.map Qaa)),Qfa,(.own 1 [[(Qe9 p3)]])]⟩) (fun t h=>?_) ?_
  ·subst hk_k4
   obtain⟨y2,y3⟩:=t
   obtain⟨x6,hf5,h⟩:=bno h
   refine wx tbk [(4,⟨_,_,_,_,false⟩)] ⟨acq [(.own 0 1 (0) p0),I y2,I p1,Qgk] [(.own 1 (y3.map Qaa)),Qfa,(.own 1 [[(Qe9 p3)]])] [(.own 1 (x6.map Qaa)),Qfa,(.own 1 [[(Qe9 p3)]])] (.tup []) [0,1,2] Qrk (Qdo N p0 y2 p1 y3 p3 _ hf5) (Qcv (rnc (Qd0 rfl) (rncc (rnc (Qau rn0 (rnc (Qbr rfl) (rnc (Qbr rfl) rn0))) rn0)))) (slc (Qbq Qab) (slc (Qan (rnc (.plain _ (NLt.fn _ _ _ nl0 nl0)) rn0)) (slc (Qan (rnc (pld Qad) rn0)) Qaq))) (slc (Qbq Qab) (slc (Qan (rnc (.plain _ (NLt.fn _ _ _ nl0 nl0)) rn0)) (slc (Qan (rnc (pld Qad) rn0)) Qaq))) (.plain _ (NLt.tup _ nl0)),tv⟩<|Qai ?_
   refine wmr (mto (n:=63) (l':=[(0,(.own 0 1 (0) p0)),(1,I p1),(2,Qgk),(6,I 20)]) (own':=[(.own 1 (x6.map Qaa)),Qfa,(.own 1 [[(Qe9 p3)]])]) [(0,(.own 0 1 (0) p0)),(1,I p1),(2,Qgk),(6,I 20)] [0,1,2] [(.own 1 (x6.map Qaa)),Qfa,(.own 1 [[(Qe9 p3)]])] hq (pc (.rn (Qag rfl)) (pw (pc (.rn (Qau rn0 (rnc (rqr rfl) (rnc (rqr rfl) rn0)))) (pw pn)))) (qc (spr Qab) (qb (lc (.rn (Qau rn0 rn0)) ln) (qb (lc (rnd Qad) ln) qn)))) ?_
   refine Qb1 (τ:=Int×(List Int)) (fun n t=>Qbc N p0 p1 p3 n t.1 t.2=some r) (fun ⟨y7,y8⟩=>⟨mk 63 [(0,(.own 0 1 (0) p0)),(1,I p1),(2,Qgk),(6,I y7)],[(.own 1 (y8.map Qaa)),Qfa,(.own 1 [[(Qe9 p3)]])]⟩) (fun t h=>by rw[Qbc] at h;cases h) (fun n11 ih t h=>?_) N (20,x6) h
   obtain⟨y7,y8⟩:=t
   rw[Qbc] at h
   skip
   refine wsq<|wxz ?_
   refine bfe h (fun hc12 h=>?_) fun hc12 h=>?_
   ·refine wft hc12<|Qak<|thn<|Qai<|wxz ?_
    obtain⟨k15,hk_k15,h⟩:=jko h
    refine wjn (τ:=Int×(List Int)) (fun t=>k15 t=some r) (fun ⟨y13,y14⟩=>⟨mk 63 [(0,(.own 0 1 (0) p0)),(1,I p1),(2,Qgk),(6,I y7),(7,I y13)],[(.own 1 (y14.map Qaa)),Qfa,(.own 1 [[(Qe9 p3)]])]⟩) (fun t h=>?_) ?_
    ·subst hk_k15
     obtain⟨y13,y14⟩:=t
     refine wsq<|wxz<|wxz ?_
     refine bfe h (fun hc16 h=>?_) fun hc16 h=>?_
     ·refine wft hc16 ?_
      obtain⟨x18,hf17,h⟩:=bno h
      refine wx1 tbk [(5,⟨_,_,_,_,false⟩)] ⟨acq [(.own 0 1 (0) p0),I y13,(I (w64 (y13+y7))),I p1,Qgk] [(.own 1 (y14.map Qaa)),Qfa,(.own 1 [[(Qe9 p3)]])] [(.own 1 (x18.map Qaa)),Qfa,(.own 1 [[(Qe9 p3)]])] (.tup []) [0,1,2] Qkz (Qd1 N p0 y13 (w64 (y13+y7)) p1 y14 p3 _ hf17) (Qcv (rnc (Qd0 rfl) (rncc (rnc (.plain _ nll) (rnc (Qau rn0 (rnc (Qbr rfl) (rnc (Qbr rfl) rn0))) rn0))))) (slc (Qbq Qab) (slc (Qan (rnc (.plain _ (NLt.fn _ _ _ nl0 nl0)) rn0)) (slc (Qan (rnc (pld Qad) rn0)) Qaq))) (slc (Qbq Qab) (slc (Qan (rnc (.plain _ (NLt.fn _ _ _ nl0 nl0)) rn0)) (slc (Qan (rnc (pld Qad) rn0)) Qaq))) (.plain _ (NLt.tup _ nl0)),tv⟩<|thn<|wxz1<|bln<|thn ?_
      exact arm (mto (n:=63) [(0,(.own 0 1 (0) p0)),(1,I p1),(2,Qgk),(6,(I (w64 (y7*2))))] [0,1,2] [(.own 1 (x18.map Qaa)),Qfa,(.own 1 [[(Qe9 p3)]])] hq (pc (.rn (Qag rfl)) (pw (pc (.rn (Qau rn0 (rnc (rqr rfl) (rnc (rqr rfl) rn0)))) (pw pn)))) (qc (spr Qab) (qb (lc (.rn (Qau rn0 rn0)) ln) (qb (lc (rnd Qad) ln) qn)))) (ih (w64 (y7*2),x18) h)
     ·exact wfn hc16<|Qak<|thn<|wxz1<|bln<|thn<|arm (mto (n:=63) [(0,(.own 0 1 (0) p0)),(1,I p1),(2,Qgk),(6,(I (w64 (y7*2))))] [0,1,2] [(.own 1 (y14.map Qaa)),Qfa,(.own 1 [[(Qe9 p3)]])] hq (pc (.rn (Qag rfl)) (pw (pc (.rn (Qau rn0 (rnc (rqr rfl) (rnc (rqr rfl) rn0)))) (pw pn)))) (qc (spr Qab) (qb (lc (.rn (Qau rn0 rn0)) ln) (qb (lc (rnd Qad) ln) qn)))) (ih (w64 (y7*2),y14) h)
    ·skip
     refine Qai<|wmr (mto (n:=63) (l':=[(0,(.own 0 1 (0) p0)),(1,I p1),(2,Qgk),(6,I y7),(7,I 0),(8,(I ((w64 (2*y7)))))]) (own':=[(.own 1 (y8.map Qaa)),Qfa,(.own 1 [[(Qe9 p3)]])]) [(0,(.own 0 1 (0) p0)),(1,I p1),(2,Qgk),(6,I y7),(7,I 0),(8,(I (w64 (2*y7))))] [0,1,2] [(.own 1 (y8.map Qaa)),Qfa,(.own 1 [[(Qe9 p3)]])] hq (pc (.rn (Qag rfl)) (pw (pc (.rn (Qau rn0 (rnc (rqr rfl) (rnc (rqr rfl) rn0)))) (pw (pw (pw pn)))))) (qc (spr Qab) (qb (lc (.rn (Qau rn0 rn0)) ln) (qb (lc (rnd Qad) ln) qn)))) ?_
     refine Qb1 (τ:=Int×Int×(List Int)) (fun n t=>Qbu N p0 p1 p3 y7 k15 n t.1 t.2.1 t.2.2=some r) (fun ⟨y19,y20,y21⟩=>⟨mk 63 [(0,(.own 0 1 (0) p0)),(1,I p1),(2,Qgk),(6,I y7),(7,I y19),(8,I y20)],[(.own 1 (y21.map Qaa)),Qfa,(.own 1 [[(Qe9 p3)]])]⟩) (fun t h=>by rw[Qbu] at h;cases h) (fun n25 ih t h=>?_) N (0,w64 (2*y7),y8) h
     obtain⟨y19,y20,y21⟩:=t
     rw[Qbu] at h
     skip
     refine wsq<|wxz ?_
     refine bfe h (fun hc26 h=>?_) fun hc26 h=>?_
     ·refine wft hc26<|Qak<|thn<|Qai ?_
      obtain⟨x28,hf27,h⟩:=bno h
      refine wx tbk [(7,⟨_,_,_,_,false⟩)] ⟨acq [(.own 0 1 (0) p0),I y19,(I (w64 (y19+y7))),I y20,Qgk] [(.own 1 (y21.map Qaa)),Qfa,(.own 1 [[(Qe9 p3)]])] [(.own 1 (x28.map Qaa)),Qfa,(.own 1 [[(Qe9 p3)]])] (.tup []) [0,1,2] Qkz (Qd1 N p0 y19 (w64 (y19+y7)) y20 y21 p3 _ hf27) (Qcv (rnc (Qd0 rfl) (rncc (rnc (.plain _ nll) (rnc (Qau rn0 (rnc (Qbr rfl) (rnc (Qbr rfl) rn0))) rn0))))) (slc (Qbq Qab) (slc (Qan (rnc (.plain _ (NLt.fn _ _ _ nl0 nl0)) rn0)) (slc (Qan (rnc (pld Qad) rn0)) Qaq))) (slc (Qbq Qab) (slc (Qan (rnc (.plain _ (NLt.fn _ _ _ nl0 nl0)) rn0)) (slc (Qan (rnc (pld Qad) rn0)) Qaq))) (.plain _ (NLt.tup _ nl0)),tv⟩<|wxz ?_
      obtain⟨x29,hl30,h⟩:=bno h
      exact wx1 tbk [(4,rp [(.tmp 48,(I (w64 (y20+(w64 (2*y7))))))] (I x29))] ⟨Qeb hl30 (aas rfl),tv⟩<|bln<|thn<|arm (mto (n:=63) [(0,(.own 0 1 (0) p0)),(1,I p1),(2,Qgk),(6,I y7),(7,I y20),(8,I x29)] [0,1,2] [(.own 1 (x28.map Qaa)),Qfa,(.own 1 [[(Qe9 p3)]])] hq (pc (.rn (Qag rfl)) (pw (pc (.rn (Qau rn0 (rnc (rqr rfl) (rnc (rqr rfl) rn0)))) (pw (pw (pw pn)))))) (qc (spr Qab) (qb (lc (.rn (Qau rn0 rn0)) ln) (qb (lc (rnd Qad) ln) qn)))) (ih (y20,x29,x28) h)
     ·exact wfn hc26<|Qaz<|Qao<|Qao<|Qay rfl<|thn<|⟨(y19,y21),h,(mto (n:=63) [(0,(.own 0 1 (0) p0)),(1,I p1),(2,Qgk),(6,I y7),(7,I y19)] [0,1,2] [(.own 1 (y21.map Qaa)),Qfa,(.own 1 [[(Qe9 p3)]])] hq (pc (.rn (Qag rfl)) (pw (pc (.rn (Qau rn0 (rnc (rqr rfl) (rnc (rqr rfl) rn0)))) (pw (pw pn))))) (qc (spr Qab) (qb (lc (.rn (Qau rn0 rn0)) ln) (qb (lc (rnd Qad) ln) qn))))⟩
   ·refine wfn hc12<|Qaz<|Qao<|Qao<|Qay rfl ?_
    obtain rfl:=osi h
    exact⟨_,(mto (n:=63) (l':=[]) (own':=[(.own 1 (y8.map Qaa)),Qfa,(.own 1 [[(Qe9 p3)]])]) [] [0,1,2] [(.own 1 (y8.map Qaa)),Qfa,(.own 1 [[(Qe9 p3)]])] hq pn (qc (spr Qab) (qb (lc (.rn (Qau rn0 rn0)) ln) (qb (lc (rnd Qad) ln) qn)))),fio [] tv⟩
  ·skip
   refine Qai<|wmr (mto (n:=63) (l':=[(0,(.own 0 1 (0) p0)),(1,I p1),(2,Qgk),(6,I 20),(7,I 0),(8,I 20)]) (own':=[(.own 1 (p2.map Qaa)),Qfa,(.own 1 [[(Qe9 p3)]])]) [(0,(.own 0 1 (0) p0)),(1,I p1),(2,Qgk),(6,I 20),(7,I 0),(8,I 20)] [0,1,2] [(.own 1 (p2.map Qaa)),Qfa,(.own 1 [[(Qe9 p3)]])] hq (pc (.rn (Qag rfl)) (pw (pc (.rn (Qau rn0 (rnc (rqr rfl) (rnc (rqr rfl) rn0)))) (pw (pw (pw pn)))))) (qc (spr Qab) (qb (lc (.rn (Qau rn0 rn0)) ln) (qb (lc (rnd Qad) ln) qn)))) ?_
   refine Qb1 (τ:=Int×Int×(List Int)) (fun n t=>Qbt N p0 p1 p3 k4 n t.1 t.2.1 t.2.2=some r) (fun ⟨y31,y32,y33⟩=>⟨mk 63 [(0,(.own 0 1 (0) p0)),(1,I p1),(2,Qgk),(6,I 20),(7,I y31),(8,I y32)],[(.own 1 (y33.map Qaa)),Qfa,(.own 1 [[(Qe9 p3)]])]⟩) (fun t h=>by rw[Qbt] at h;cases h) (fun n37 ih t h=>?_) N (0,20,p2) h
   obtain⟨y31,y32,y33⟩:=t
   rw[Qbt] at h
   skip
   refine wsq<|wxz ?_
   refine bfe h (fun hc38 h=>?_) fun hc38 h=>?_
   ·refine wft hc38<|Qak<|thn<|Qai ?_
    obtain⟨x40,hf39,h⟩:=bno h
    refine wx tbk [(4,⟨_,_,_,_,false⟩)] ⟨acq [(.own 0 1 (0) p0),I y31,I y32,Qgk] [(.own 1 (y33.map Qaa)),Qfa,(.own 1 [[(Qe9 p3)]])] [(.own 1 (x40.map Qaa)),Qfa,(.own 1 [[(Qe9 p3)]])] (.tup []) [0,1,2] Qrk (Qdo N p0 y31 y32 y33 p3 _ hf39) (Qcv (rnc (Qd0 rfl) (rncc (rnc (Qau rn0 (rnc (Qbr rfl) (rnc (Qbr rfl) rn0))) rn0)))) (slc (Qbq Qab) (slc (Qan (rnc (.plain _ (NLt.fn _ _ _ nl0 nl0)) rn0)) (slc (Qan (rnc (pld Qad) rn0)) Qaq))) (slc (Qbq Qab) (slc (Qan (rnc (.plain _ (NLt.fn _ _ _ nl0 nl0)) rn0)) (slc (Qan (rnc (pld Qad) rn0)) Qaq))) (.plain _ (NLt.tup _ nl0)),tv⟩<|wxz<|wxz1<|bln<|thn ?_
    exact arm (mto (n:=63) [(0,(.own 0 1 (0) p0)),(1,I p1),(2,Qgk),(6,I 20),(7,I y32),(8,(I (w64 (y32+20))))] [0,1,2] [(.own 1 (x40.map Qaa)),Qfa,(.own 1 [[(Qe9 p3)]])] hq (pc (.rn (Qag rfl)) (pw (pc (.rn (Qau rn0 (rnc (rqr rfl) (rnc (rqr rfl) rn0)))) (pw (pw (pw pn)))))) (qc (spr Qab) (qb (lc (.rn (Qau rn0 rn0)) ln) (qb (lc (rnd Qad) ln) qn)))) (ih (y32,w64 (y32+20),x40) h)
   ·exact wfn hc38<|Qaz<|Qao<|Qao<|Qay rfl<|thn<|⟨(y31,y33),h,(mto (n:=63) [(0,(.own 0 1 (0) p0)),(1,I p1),(2,Qgk),(6,I 20),(7,I y31)] [0,1,2] [(.own 1 (y33.map Qaa)),Qfa,(.own 1 [[(Qe9 p3)]])] hq (pc (.rn (Qag rfl)) (pw (pc (.rn (Qau rn0 (rnc (rqr rfl) (rnc (rqr rfl) rn0)))) (pw (pw pn))))) (qc (spr Qab) (qb (lc (.rn (Qau rn0 rn0)) ln) (qb (lc (rnd Qad) ln) qn))))⟩
def Qdb (N p0:Nat) (p1:List Int) (p2:List Qbf):Option (List Int):=
  (Qds N p0 ((p0:Nat):Int) p1 p2).bind fun x3=>
  some x3
abbrev Q1s:AV:=.fn (.func 111) [] [(.ref 1 1 (0) 0),(.ref 2 1 (0) 0)]
abbrev Qrz:Slot:=.own 1 [[(.fn (.func 92) [] [])]]
abbrev Qry (p2:List Qbf):AV:=.dat 4 (p2.map Qa3)
theorem Qe5 (N p0:Nat) (p1:List Int) (p2:List Qbf) (r:List Int) (h:Qdb N p0 p1 p2=some r):Spec prog 109 [(.own 0 1 (0) p0),Q1s] [(.own 1 (p1.map Qaa)),Qrz,(.own 1 [[(Qry p2)]])] (.tup []) [(.own 1 (r.map Qaa)),Qrz,(.own 1 [[(Qry p2)]])]:=by
  refine sF func109 3 fun _ _ _ hq hd0=>?_
  unfold Qdb at h
  obtain⟨x3,hf2,h⟩:=bno h
  refine wx1 tbk [(2,rp [(.tmp 5,(.own 0 1 (0) p0))] (I (((p0:Nat):Int)))),(4,⟨_,_,_,_,false⟩)] ⟨aln rfl underlying25 rfl,acq [(.own 0 1 (0) p0),(I (((p0:Nat):Int))),Q1s] [(.own 1 (p1.map Qaa)),Qrz,(.own 1 [[(Qry p2)]])] [(.own 1 (x3.map Qaa)),Qrz,(.own 1 [[(Qry p2)]])] (.tup []) [0,1,2] Qya (Qfw N p0 ((p0:Nat):Int) p1 p2 _ hf2) (Qcv (rnc (Qd0 rfl) (rnc (.plain _ nll) (rnc (Qau rn0 (rnc (Qbr rfl) (rnc (Qbr rfl) rn0))) rn0)))) (slc (Qbq Qab) (slc (Qan (rnc (.plain _ (NLt.fn _ _ _ nl0 nl0)) rn0)) (slc (Qan (rnc (pld Qad) rn0)) Qaq))) (slc (Qbq Qab) (slc (Qan (rnc (.plain _ (NLt.fn _ _ _ nl0 nl0)) rn0)) (slc (Qan (rnc (pld Qad) rn0)) Qaq))) (.plain _ (NLt.tup _ nl0)),tv⟩ ?_
  obtain rfl:=osi h
  exact⟨_,(mto (n:=9) (l':=[]) (own':=[(.own 1 (x3.map Qaa)),Qrz,(.own 1 [[(Qry p2)]])]) [] [0,1,2] [(.own 1 (x3.map Qaa)),Qrz,(.own 1 [[(Qry p2)]])] hq pn (qc (spr Qab) (qb (lc (.rn (Qau rn0 rn0)) ln) (qb (lc (rnd Qad) ln) qn)))),fio [] tv⟩
def Qb9 (N:Nat) (p0:List Qbf) (k4:(List Int)→Option (List Int)):Nat→Int→(List Int)→Option (List Int)
  |0,_,_=>none
  |n13+1,y9,y10=>
    bif (decide (y9<(p0.length:Int))) then
     chk (decide ((y10.length+([y9]).length)*8≤140737488355328))<|
     Qb9 N p0 k4 n13 (w64 (y9+1)) (y10++([y9]))
    else
     k4 (y10)
def Qd4 (N:Nat) (p0:List Qbf):Option (List Int):=
  Qco (fun y3=>
    chk (!y3.isEmpty)<|
    (Qdb N y3.length y3 p0).bind fun x7=>
    chk (decide (y3.length≤x7.length))<|
    some (x7.take y3.length)) fun k4:(List Int)→Option (List Int)=>
  Qb9 N p0 k4 N 0 ([]:List Int)
abbrev Qko (p0:List Qbf):AV:=.dat 4 (p0.map Qa3)
def Qk5:Slot:=.own 1 [[(.fn (.func 92) [] [])]]
def Qwy:AV:=.fn (.func 111) [] [(.ref 1 1 (0) 0),(.ref 0 1 (0) 0)]
def Qqy (x7 y3:List Int):AV:=.dat 1 ((x7.take y3.length:List Int).map Qaa)
def Q1t:Slot:=.gro 1 ((([]:List Int):List Int).map Qaa)
theorem Qgc (N:Nat) (p0:List Qbf) (r:List Int) (h:Qd4 N p0=some r):Spec prog 91 [(Qko p0),(.fn (.func 92) [] [])] [] (.dat 1 (r.map Qaa)) []:=by
  refine sF func91 0 fun _ _ _ hq hd0=>?_
  unfold Qd4 at h
  refine wxz<|wxz ?_
  obtain⟨k4,hk_k4,h⟩:=jko h
  refine wjn (τ:=(List Int)) (fun t=>k4 t=some r) (fun y3=>⟨mk 21 [(2,.ref 0 1 0 0),(3,.ref 1 1 0 0),(5,(.gro 2 3 1 y3.length))],[(.own 1 [[(Qko p0)]]),Qk5,(.gro 1 (y3.map Qaa))]⟩) (fun y3 h=>?_) ?_
  ·subst hk_k4
   obtain⟨hz5,h⟩:=cko h
   obtain⟨x7,hf6,h⟩:=bno h
   refine wx tbk [(1,rp [(.tmp 3,.ref 1 1 0 0),(.tmp 2,.ref 0 1 0 0)] Qwy),(2,⟨[fu 109,(.tmp 17,(.gro 2 3 1 y3.length)),(.tmp 18,Qwy)],[(2,(.gro 1 (y3.map Qaa))),(1,Qk5),(0,(.own 1 [[(Qko p0)]]))],(.tup []),[(2,(.own 1 (x7.map Qaa))),(1,Qk5),(0,(.own 1 [[(Qko p0)]]))],false⟩)] ⟨Qfs (fs:=[]) (cs:=[.ref 1 1 0 0,.ref 0 1 0 0]) rfl rfl rfl rfl,Qa1 (bl':=[(2,(.own 1 (y3.map Qaa))),(1,Qk5),(0,(.own 1 [[(Qko p0)]]))]) ⟨rfl,SLess.gro (Qex hz5),rfl,SLess.rfl,rfl,SLess.rfl,tv⟩ (awk (rd':=[fu 109,(.tmp 17,(.own 2 1 (0) y3.length)),(.tmp 18,Qwy)]) ⟨rfl,lrf,rfl,Less.gro,rfl,lrf,tv⟩ (acq [(.own 2 1 (0) y3.length),Qwy] [(.own 1 (y3.map Qaa)),Qk5,(.own 1 [[(Qko p0)]])] [(.own 1 (x7.map Qaa)),Qk5,(.own 1 [[(Qko p0)]])] (.tup []) [2,1,0] Qyd (Qe5 N y3.length y3 p0 _ hf6) (Qcv (rnc (Qd0 rfl) (rnc (Qau rn0 (rnc (Qbr rfl) (rnc (Qbr rfl) rn0))) rn0))) (slc (Qbq Qab) (slc (Qan (rnc (.plain _ (NLt.fn _ _ _ nl0 nl0)) rn0)) (slc (Qan (rnc (pld Qad) rn0)) Qaq))) (slc (Qbq Qab) (slc (Qan (rnc (.plain _ (NLt.fn _ _ _ nl0 nl0)) rn0)) (slc (Qan (rnc (pld Qad) rn0)) Qaq))) (.plain _ (NLt.tup _ nl0)))),tv⟩<|wxz ?_
   obtain⟨hz8,h⟩:=cko h
   refine wmr (Qxx (n:=21) (l':=[(4,(.own 2 1 (0) y3.length))]) [(4,(.gro 2 3 1 y3.length))] (by kernel_rfl) (by kernel_rfl) ⟨rfl,Less.gro,tv⟩) ?_
   refine wmr (Qmw (n:=21) (l':=[(4,(Qqy x7 y3))]) 2 [(4,(.own 2 1 (0) y3.length))] (by kernel_rfl) (by kernel_rfl) (by kernel_rfl) ⟨rfl,(Qj6 hz8),tv⟩ rfl) ?_
   refine wmr (mto (n:=21) (l':=[(4,(Qqy x7 y3))]) (own':=[]) [(4,(Qqy x7 y3))] [] [] hq (pc (rnd Qab) pn) qn)<|Qal ?_
   obtain rfl:=osi h
   exact⟨_,Mor.rfl,fio [(Qqy x7 y3)] ⟨rot,tv⟩⟩
  ·skip
   refine wx tbk [(1,rp _ _)] ⟨alq 4 Qa3 p0 underlying68,tv⟩<|Qai ?_
   refine wmr (Mor.trans (Qxw 2 3 1 5 (by kernel_rfl) (by kernel_rfl)) (mto (n:=21) (l':=[(2,.ref 0 1 0 0),(3,.ref 1 1 0 0),(5,(.gro 2 3 1 (([]:List Int).length))),(8,(I ((p0.length:Int)))),(9,I 0)]) (own':=[(.own 1 [[(Qko p0)]]),Qk5,Q1t]) [(2,.ref 0 1 0 0),(3,.ref 1 1 0 0),(5,(.gro 2 3 1 (([]:List Int).length))),(8,(I ((p0.length:Int)))),(9,I 0)] [0,1,2] [(.own 1 [[(Qko p0)]]),Qk5,Q1t] hq (prr (prr (pc (.rn (Qd9 rfl)) (pw (pw pn))))) (qb (lc (rnd Qad) ln) (qb (lc (.rn (Qau rn0 rn0)) ln) (qc (Qfe Qab) qn))))) ?_
   refine Qb1 (τ:=Int×(List Int)) (fun n t=>Qb9 N p0 k4 n t.1 t.2=some r) (fun ⟨y9,y10⟩=>⟨mk 21 [(2,.ref 0 1 0 0),(3,.ref 1 1 0 0),(5,(.gro 2 3 1 y10.length)),(8,(I ((p0.length:Int)))),(9,I y9)],[(.own 1 [[(Qko p0)]]),Qk5,(.gro 1 (y10.map Qaa))]⟩) (fun t h=>by rw[Qb9] at h;cases h) (fun n13 ih t h=>?_) N (0,([]:List Int)) h
   obtain⟨y9,y10⟩:=t
   rw[Qb9] at h
   skip
   refine wxz<|wsq ?_
   refine bfe h (fun hc14 h=>?_) fun hc14 h=>?_
   ·refine wft hc14<|Qak<|thn<|wsq<|Qai<|wxz ?_
    obtain⟨ha15,h⟩:=cko h
    refine wx1 tbk [(2,rp [(.tmp 13,I y9)] (.dat 1 (([y9]:List Int).map Qaa))),(3,⟨[(.tmp 12,(.gro 2 3 1 y10.length)),(.tmp 14,(.dat 1 (([y9]:List Int).map Qaa)))],[(2,(.gro 1 (y10.map Qaa))),(3,.unused)],(.gro 3 3 1 ((y10++([y9])).length)),[(2,.dead),(3,(.gro 1 ((y10++([y9]):List Int).map Qaa)))],false⟩)] ?_ ?_
    ·exact⟨Qb4 (vs:=[I y9]) rfl underlying25 ti3 tz3 rfl (by decide) rfl (by decide) (by rfl) (by rfl) (by rfl) rfl,Qmc (c:=Qaa) (a:=y10) (b:=[y9]) rfl underlying25 te3 rfl (Qex rfl) (by rfl) ha15 (by decide),tv⟩
    exact bln<|thn<|wxz1<|thn<|arm (mto (n:=21) [(2,.ref 0 1 0 0),(3,.ref 1 1 0 0),(5,(.gro 3 3 1 ((y10++([y9])).length))),(8,(I ((p0.length:Int)))),(9,(I (w64 (y9+1))))] [0,1,3] [(.own 1 [[(Qko p0)]]),Qk5,(.gro 1 ((y10++([y9]):List Int).map Qaa))] hq (prr (prr (pc (.rn (Qd9 rfl)) (pw (pw pn))))) (qb (lc (rnd Qad) ln) (qb (lc (.rn (Qau rn0 rn0)) ln) (qc (Qfe Qab) qn)))) (ih (w64 (y9+1),y10++([y9])) h)
   ·exact wfn hc14<|Qaz<|Qao<|Qao<|Qay rfl<|thn<|⟨(y10),h,(mto (n:=21) [(2,.ref 0 1 0 0),(3,.ref 1 1 0 0),(5,(.gro 2 3 1 y10.length))] [0,1,2] [(.own 1 [[(Qko p0)]]),Qk5,(.gro 1 (y10.map Qaa))] hq (prr (prr (pc (.rn (Qd9 rfl)) pn))) (qb (lc (rnd Qad) ln) (qb (lc (.rn (Qau rn0 rn0)) ln) (qc (Qfe Qab) qn))))⟩
def Qcx (N:Nat) (p0:List Qbf) (p1:Nat) (p2:List Int) (k7:(List Int)→Option (List Int)):(List (Int×Qbf))→(List Int)→Option (List Int)
  |[],y13=>
    k7 (y13)
  |x16::q17,y13=>
    (Qd2 N x16.1 ((p2.take p1).length) p0 y13).bind fun x26=>
    Qcx N p0 p1 p2 k7 q17 x26
def Qfd (N:Nat) (p0:List Qbf) (p1:Nat) (p2:List Int):Option (List Int):=
  chk (decide (p1≤p2.length))<|
  (Qdq N (p2.take p1)).bind fun _=>
  Qco (fun y6=>
    chk (decide ((p2.take p1).length≤y6.length))<|
    some (y6.take ((p2.take p1).length))) fun k7:(List Int)→Option (List Int)=>
  (Qbz N p0).bind fun _=>
  (Qby N p0).bind fun q11=>
  Qcx N p0 p1 p2 k7 q11 (p2.take p1)
abbrev Qjt (p0:List Qbf):AV:=.dat 4 (p0.map Qa3)
def Qwv (p2:List Int) (p1:Nat):Slot:=.own 1 ((p2.take p1:List Int).map Qaa)
def Q1r:AV:=.fn (.func 100) [] [(.ref 3 1 (0) 0),(.ref 1 1 (0) 0)]
def Qqx (y6 p2:List Int) (p1:Nat):AV:=.dat 1 ((y6.take ((p2.take p1).length):List Int).map Qaa)
def Q1q:AV:=.fn (.func 101) [] [(.ref 5 1 (0) 0)]
def Qp4 (p2:List Int) (p1:Nat):Slot:=.own 1 [[(.own 4 1 (0) ((p2.take p1).length))]]
def Qwu:AV:=.fn (.func 100) [] [(.ref 1 1 (0) 0),(.ref 5 1 (0) 0)]
theorem Qhw (N:Nat) (p0:List Qbf) (p1:Nat) (p2 r:List Int) (h:Qfd N p0 p1 p2=some r):Spec prog 61 [(Qjt p0),(.own 0 1 (0) p1)] [(.own 1 (p2.map Qaa))] (.dat 1 (r.map Qaa)) [(.own 1 (p2.map Qaa))]:=by
  refine sF func61 1 fun _ _ _ hq hd0=>?_
  unfold Qfd at h
  refine wxz ?_
  obtain⟨hz3,h⟩:=cko h
  obtain⟨x5,hf4,h⟩:=bno h
  refine wx tbk [(1,⟨[fu 99,(.tmp 8,(.own 0 1 (0) p1))],[(0,(.own 1 (p2.map Qaa))),(2,.unused)],(.own 2 1 (0) ((p2.take p1).length)),[(2,(Qwv p2 p1))],false⟩)] ⟨Qfl (rd':=[fu 99,(.tmp 8,(.dat 1 ((p2.take p1:List Int).map Qaa)))]) [(0,1,p2.map Qaa)] ⟨rfl,.same _,rfl,(Qj7 0 rfl hz3),tv⟩ (by rfl) (.own _ _ _ _ (nin rfl)) (Qq8 (.own _ _ (Qm1 Qvb _)) Qlh) (acq [(.dat 1 ((p2.take p1:List Int).map Qaa))] [] [(Qwv p2 p1)] (.own 2 1 (0) ((p2.take p1).length)) [2] Qvn (Qe0 N (p2.take p1) _ hf4) (Qcv (rnc (pld Qab) rn0)) Qaq (slc (Qbq Qab) Qaq) (Qge rfl)),tv⟩ ?_
  refine wx tbk [(0,rp [(.tmp 5,.ref 3 1 0 0),(.tmp 2,.ref 1 1 0 0)] Q1r)] ⟨Qfs (fs:=[]) (cs:=[.ref 3 1 0 0,.ref 1 1 0 0]) rfl rfl rfl rfl,tv⟩ ?_
  obtain⟨k7,hk_k7,h⟩:=jko h
  refine wjn (τ:=(List Int)) (fun t=>k7 t=some r) (fun y6=>⟨mk 19 [(5,.ref 1 1 0 0)],[(.own 1 (p2.map Qaa)),(.own 1 [[(.own 2 1 (0) ((p2.take p1).length))]]),(.own 1 (y6.map Qaa))]⟩) (fun y6 h=>?_) ?_
  ·subst hk_k7
   refine wxz ?_
   obtain⟨hz8,h⟩:=cko h
   refine wmr (Qmw (n:=19) (l':=[(4,(Qqx y6 p2 p1))]) 2 [(4,(.own 2 1 (0) ((p2.take p1).length)))] (by kernel_rfl) (by kernel_rfl) (by kernel_rfl) ⟨rfl,(Qj6 hz8),tv⟩ rfl) ?_
   refine wmr (mto (n:=19) (l':=[(4,(Qqx y6 p2 p1))]) (own':=[(.own 1 (p2.map Qaa))]) [(4,(Qqx y6 p2 p1))] [0] [(.own 1 (p2.map Qaa))] hq (pc (rnd Qab) pn) (qc (spr Qab) qn))<|Qal ?_
   obtain rfl:=osi h
   exact⟨_,Mor.rfl,fio [(Qqx y6 p2 p1)] ⟨rot,tv⟩⟩
  ·skip
   obtain⟨x10,hf9,h⟩:=bno h
   refine wx tbk [(1,⟨_,_,_,_,false⟩)] ⟨acq [(Qjt p0)] [] [(.own 1 [[(Qjt p0)]])] Q1q [5] Qvq (Qde N p0 _ hf9) (Qcv (rnc (pld Qad) rn0)) Qaq (slc (Qan (rnc (pld Qad) rn0)) Qaq) (Qau rn0 (rnc (Qf7 rfl) rn0)),tv⟩<|Qai ?_
   obtain⟨q11,hL12,h⟩:=bno h
   refine wmr (mto (n:=19) (l':=[(5,.ref 1 1 0 0),(6,.ref 2 1 0 0),(12,(.fn (.func 101) [] [.ref 3 1 0 0]))]) (own':=[(.own 1 (p2.map Qaa)),(Qp4 p2 p1),(.own 1 [[Qwu]]),(.own 1 [[(Qjt p0)]]),(Qwv p2 p1),(.own 1 [[(Qjt p0)]])]) [(5,.ref 3 1 0 0),(6,.ref 4 1 0 0),(12,Q1q)] [0,3,4,5,2,1] [(.own 1 (p2.map Qaa)),(.own 1 [[(.own 2 1 (0) ((p2.take p1).length))]]),(.own 1 [[Q1r]]),(.own 1 [[(Qjt p0)]]),(Qwv p2 p1),(.own 1 [[(Qjt p0)]])] hq (prr (prr (pc (.rn (Qau rn0 (rnc (rqr rfl) rn0))) pn))) (qc (spr Qab) (qb (lc (.rn (Qag rfl)) ln) (qb (lc (.rn (Qau rn0 (rnc (rqr rfl) (rnc (rqr rfl) rn0)))) ln) (qb (lc (rnd Qad) ln) (qc (spr Qab) (qb (lc (rnd Qad) ln) qn))))))) ?_
   refine Qh7 (τ:=((List Int))) (kb:=6) (caps:=[.ref 3 1 0 0]) (σr:=[(.own 1 [[(Qjt p0)]])]) (encs:=fun x=>[(.int .i64 x.1),(.agg #[(.int .i64 x.2.Parent),(.int .i64 x.2.Loss),(.int .i64 x.2.Limit),(.int .i64 x.2.Rank)])]) (fun x=>[I x.1,(.agg [I x.2.Parent,I x.2.Loss,I x.2.Limit,I x.2.Rank])]) [3] (fun n hn=>hq n (Nat.le_trans (nle rfl) hn)) hd0 (Qdd N p0 _ hL12) Qrm (by kernel_rfl) (by kernel_rfl) (Qcv (rnc (Qf7 rfl) rn0)) (slc (Qan (rnc (pld Qad) rn0)) Qaq) (by kernel_rfl) (fun _=>rfl) (fun x=>⟨lrf,(Less.unlits [(.int .i64 x.2.Parent),(.int .i64 x.2.Loss),(.int .i64 x.2.Limit),(.int .i64 x.2.Rank)]),tv⟩) (Qre (Qeg (NLt.ref _ _ _ _ (by decide)) (Qeg (NLt.ref _ _ _ _ (by decide)) (Qeg (NLt.fn _ _ _ nl0 (nlc (NLt.ref _ _ _ _ (by decide)) nl0)) Qny)))) (fun y13=>[(.own 1 (p2.map Qaa)),(Qp4 p2 p1),(.own 1 [[Qwu]]),.dead,(.own 1 (y13.map Qaa)),(.own 1 [[(Qjt p0)]])]) (fun _=>rfl) (fun _=>rfl) (fun l t=>Qcx N p0 p1 p2 k7 l t=some r) (p2.take p1) h (by kernel_rfl) ?_ ?_
   ·intro l18 o19 X22 φ23 w24 hφ21 x16 q17 y13 h
    rw[Qcx] at h
    refine wxz1 ?_
    refine⟨by kernel_rfl,fun o20=>?_⟩
    refine Qai ?_
    obtain⟨x26,hf25,h⟩:=bno h
    refine wx1 tbk [(2,⟨_,_,_,_,false⟩)] ⟨Qeh (first:=[]) (cap:=[.ref 1 1 0 0,.ref 5 1 0 0]) (vs:=[I x16.1]) (σr:=[(Qp4 p2 p1),(.own 1 [[(Qjt p0)]]),(.own 1 (y13.map Qaa))]) (σr':=[(Qp4 p2 p1),(.own 1 [[(Qjt p0)]]),(.own 1 (x26.map Qaa))]) (res':=(.tup [])) [1,5,4] rfl Qrn (Qfc N x16.1 ((p2.take p1).length) p0 y13 _ hf25) rfl (Qcv (rnc (.plain _ nll) (rnc (Qbr rfl) (rnc (Qbr rfl) rn0)))) (slc (Qan (rnc (Qd0 rfl) rn0)) (slc (Qan (rnc (pld Qad) rn0)) (slc (Qbq Qab) Qaq))) (slc (Qan (rnc (Qge rfl) rn0)) (slc (Qan (rnc (pld Qad) rn0)) (slc (Qbq Qab) Qaq))) (.plain _ (NLt.tup _ nl0)) rfl rfl rfl,tv⟩<|bln ?_
    exact⟨(x26),h,Qo0 (own':=[(.own 1 (p2.map Qaa)),(Qp4 p2 p1),(.own 1 [[Qwu]]),.dead,(.own 1 (x26.map Qaa)),(.own 1 [[(Qjt p0)]]),(.far (farL l18 o20))]) [0,1,2,3,4,5,6] [(.own 1 (p2.map Qaa)),(Qp4 p2 p1),(.own 1 [[Qwu]]),.dead,(.own 1 (x26.map Qaa)),(.own 1 [[(Qjt p0)]]),(.far (farL l18 o20))] (by kernel_rfl) (by kernel_rfl) ⟨(spr Qab),(spb (lc (.rn (Qag rfl)) ln)),(spb (lc (.rn (Qau rn0 (rnc (rqr rfl) (rnc (rqr rfl) rn0)))) ln)),.dead,(spr Qab),(spb (lc (rnd Qad) ln)),.far _,tv⟩⟩
   ·intro y13 h
    rw[Qcx] at h
    exact bln<|thn<|⟨(y13),h,(mto (n:=19) [(5,.ref 1 1 0 0)] [0,1,4] [(.own 1 (p2.map Qaa)),(Qp4 p2 p1),(.own 1 (y13.map Qaa))] hq (prr pn) (qc (spr Qab) (qb (lc (.rn (Qag rfl)) ln) (qc (spr Qab) qn))))⟩
def Qc2 (N:Nat) (p0:List Qbf) (p1:List Int) (p2:Int) (k15:Int×(List Bool)→Option ((List Bool)×Int×Int)) (x18:List Int):Nat→Int→Int→(List Bool)→(List Int)→Option ((List Bool)×Int×Int)
  |0,_,_,_,_=>none
  |n27+1,y19,y20,y21,y22=>
    bif (decide (y20<(x18.length:Int))) then
     (getI x18 y20).bind fun x29=>
     (getI p1 x29).bind fun x33=>
     bif (x33==0) then
      Qc2 N p0 p1 p2 k15 x18 n27 y19 (w64 (y20+1)) y21 y22
     else
      chk (decide (0≤x29)&&decide (x29.toNat<(p0.length:Int).toNat))<|
      (y22[x29.toNat]?).bind fun _=>
      (Qfd N p0 ((p0.length:Int).toNat) (y22.set x29.toNat x33)).bind fun x42=>
      Qco (fun _=>
        (getI x42 0).bind fun x44=>
        chk (decide (0≤x29)&&decide (x29.toNat<(p0.length:Int).toNat))<|
        (y21[x29.toNat]?).bind fun _=>
        Qc2 N p0 p1 p2 k15 x18 n27 x44 (w64 (y20+1)) (y21.set x29.toNat true) (y22.set x29.toNat x33)) fun k43:Unit→Option ((List Bool)×Int×Int)=>
      (Qfb N p0 x42).bind fun x52=>
      bif (decide (x52≥0)) then
       chk (decide (0≤x29)&&decide (x29.toNat<(p0.length:Int).toNat))<|
       ((y22.set x29.toNat x33)[x29.toNat]?).bind fun _=>
       Qc2 N p0 p1 p2 k15 x18 n27 y19 (w64 (y20+1)) y21 ((y22.set x29.toNat x33).set x29.toNat 0)
      else
       (getI x42 0).bind fun x57=>
       bif (decide (x57>p2)) then
        chk (decide (0≤x29)&&decide (x29.toNat<(p0.length:Int).toNat))<|
        ((y22.set x29.toNat x33)[x29.toNat]?).bind fun _=>
        Qc2 N p0 p1 p2 k15 x18 n27 y19 (w64 (y20+1)) y21 ((y22.set x29.toNat x33).set x29.toNat 0)
       else
        k43 ()
    else
     k15 (y19,y21)
def Qir (N:Nat) (p0:List Qbf) (p1:List Int) (p2:Int):Option ((List Bool)×Int×Int):=
  (Qh4 N p0 p1).bind fun x6=>
  bif (x6 != 0) then
   some ([],0,x6)
  else
   (Qct N p2 0 100000000000).bind fun x9=>
   bif (!x9) then
    some ([],0,2)
   else
    chk (decide (0≤(p0.length:Int))&&decide (1*(p0.length:Int)≤281474976710656)&&decide ((p0.length:Int)≤9223372036854775807))<|
    chk (decide (0≤(p0.length:Int))&&decide (8*(p0.length:Int)≤281474976710656)&&decide ((p0.length:Int)≤9223372036854775807))<|
    Qco (fun ⟨y13,y14⟩=>
      chk (decide ((p0.length:Int).toNat≤y14.length))<|
      some (y14.take ((p0.length:Int).toNat),y13,0)) fun k15:Int×(List Bool)→Option ((List Bool)×Int×Int)=>
    (Qd4 N p0).bind fun x18=>
    Qc2 N p0 p1 p2 k15 x18 N 0 0 (List.replicate (p0.length:Int).toNat false) (List.replicate (p0.length:Int).toNat 0)
def Qkp (p0:List Qbf):AV:=.dat 4 (p0.map Qa3)
def Qq1:AV:=.dat 1 (([]:List Bool).map Qe1)
def Q1v (p0:List Qbf):Slot:=.own 1 ((List.replicate (p0.length:Int).toNat false:List Bool).map Qe1)
def Q1u (p0:List Qbf):Slot:=.own 1 ((List.replicate (p0.length:Int).toNat 0:List Int).map Qaa)
def Qq0 (y14:List Bool) (p0:List Qbf):AV:=.dat 1 ((y14.take ((p0.length:Int).toNat):List Bool).map Qe1)
def Qi4 (y21:List Bool):Slot:=.own 1 (y21.map Qe1)
def Qie (y22:List Int) (x29 x33:Int):Slot:=.own 1 ((y22.set x29.toNat x33:List Int).map Qaa)
def Qth (p0:List Qbf) (x42:List Int) (x52:Int):List (Nat×Rec):=[(2,rp [fu 62,((.tmp 51),(Qkp p0)),((.tmp 52),(.dat 1 (x42.map Qaa)))] (I x52))]
def Qqz (y22:List Int) (x29 x33:Int):Slot:=.own 1 (((y22.set x29.toNat x33).set x29.toNat 0:List Int).map Qaa)
theorem Qmi (N:Nat) (p0:List Qbf) (p1:List Int) (p2:Int) (r:((List Bool)×Int×Int)) (h:Qir N p0 p1 p2=some r):Spec prog 52 [(.dat 4 (p0.map Qa3)),(.dat 1 (p1.map Qaa)),(I p2)] [] (.tup [(.dat 1 (r.1.map Qe1)),(I r.2.1),(I r.2.2)]) []:=by
  refine sF func52 0 fun _ _ _ hq hd0=>?_
  unfold Qir at h
  refine wxz<|wsq ?_
  obtain⟨x6,hf5,h⟩:=bno h
  refine wx tbk [(2,rp _ _)] ⟨apw Qvt (Qi8 N p0 p1 _ hf5),tv⟩<|wxz ?_
  refine bfe h (fun hc7 h=>?_) fun hc7 h=>?_
  ·refine wft hc7<|wxz ?_
   refine wmr (mto (n:=74) (l':=[(6,Qq1),(7,I 0),(8,I x6)]) (own':=[]) [(6,nilS),(7,I 0),(8,I x6)] [] [] hq (pc (.nil _) (pw (pw pn))) qn)<|Qal<|Qam ?_
   obtain rfl:=osi h
   exact⟨_,Mor.rfl,fio [Qq1,I 0,I x6] ⟨rot,rot,rot,tv⟩⟩
  ·refine wfn hc7<|Qak<|thn<|wsq ?_
   obtain⟨x9,hf8,h⟩:=bno h
   refine wx tbk [(1,rp _ _)] ⟨apw Qgj (Qcs N p2 0 100000000000 _ hf8),tv⟩ ?_
   refine bfe h (fun hc10 h=>?_) fun hc10 h=>?_
   ·refine wft hc10<|wxz ?_
    refine wmr (mto (n:=74) (l':=[(6,Qq1),(7,I 0),(8,I 2)]) (own':=[]) [(6,nilS),(7,I 0),(8,I 2)] [] [] hq (pc (.nil _) (pw (pw pn))) qn)<|Qal<|Qam ?_
    obtain rfl:=osi h
    exact⟨_,Mor.rfl,fio [Qq1,I 0,I 2] ⟨rot,rot,rot,tv⟩⟩
   ·refine wfn hc10<|Qak<|thn ?_
    obtain⟨hm11,h⟩:=cko h
    obtain⟨hm12,h⟩:=cko h
    refine wxd tbk [(1,rp _ _),(2,⟨[(.tmp 24,(I ((p0.length:Int)))),(.tmp 24,(I ((p0.length:Int))))],[(0,.unused)],(.own 0 1 (0) ((p0.length:Int).toNat)),[(0,(Q1v p0))],false⟩),(4,rp _ _),(5,⟨[(.tmp 27,(I ((p0.length:Int)))),(.tmp 27,(I ((p0.length:Int))))],[(1,.unused)],(.own 1 1 (0) ((p0.length:Int).toNat)),[(1,(Q1u p0))],false⟩)] ⟨alq 4 Qa3 p0 underlying69,Qg3 rfl underlying77 te4 tz4 rfl (Qwk hm11) rfl (Qwj hm11) (Qp0 hm11) (Qll Qe1 rfl),alq 4 Qa3 p0 underlying69,Qg3 rfl underlying25 te3 tz3 rfl (Qwk hm12) rfl (Qwj hm12) (Qp0 hm12) (Qll Qaa rfl),tv⟩ ?_
    obtain⟨k15,hk_k15,h⟩:=jko h
    refine wjn (τ:=Int×(List Bool)) (fun t=>k15 t=some r) (fun ⟨y13,y14⟩=>⟨mk 74 [(6,(.own 0 1 (0) ((p0.length:Int).toNat))),(7,I y13)],[(.own 1 (y14.map Qe1))]⟩) (fun t h=>?_) ?_
    ·subst hk_k15
     obtain⟨y13,y14⟩:=t
     refine wxz ?_
     obtain⟨hz16,h⟩:=cko h
     refine wmr (Qmw (n:=74) (l':=[(6,(Qq0 y14 p0)),(7,I y13),(8,I 0)]) 0 [(6,(.own 0 1 (0) ((p0.length:Int).toNat))),(7,I y13),(8,I 0)] (by kernel_rfl) (by kernel_rfl) (by kernel_rfl) ⟨rfl,(Qj6 hz16),rfl,(.same _),rfl,(.same _),tv⟩ rfl) ?_
     refine wmr (mto (n:=74) (l':=[(6,(Qq0 y14 p0)),(7,I y13),(8,I 0)]) (own':=[]) [(6,(Qq0 y14 p0)),(7,I y13),(8,I 0)] [] [] hq (pc (rnd Qhb) (pw (pw pn))) qn)<|Qal ?_
     obtain rfl:=osi h
     exact⟨_,Mor.rfl,fio [(Qq0 y14 p0),I y13,I 0] ⟨rot,rot,rot,tv⟩⟩
    ·skip
     obtain⟨x18,hf17,h⟩:=bno h
     refine wx tbk [(1,rp _ _),(2,rp _ _)] ⟨acq [(Qkp p0),(.fn (.func 92) [] [])] [] [] (.dat 1 (x18.map Qaa)) [] Q0t (Qgc N p0 _ hf17) (Qcv (rnc (pld Qad) (rnc (.plain _ (NLt.fn _ _ _ nl0 nl0)) rn0))) Qaq Qaq (pld Qab),alq 1 Qaa x18 underlying25,tv⟩<|Qai ?_
     refine wmr (mto (n:=74) (l':=[(0,(Qkp p0)),(1,(.dat 1 (p1.map Qaa))),(2,I p2),(6,(.own 0 1 (0) ((p0.length:Int).toNat))),(7,I 0),(10,(.own 1 1 (0) ((p0.length:Int).toNat))),(30,(.dat 1 (x18.map Qaa))),(31,(I ((x18.length:Int)))),(32,I 0)]) (own':=[(.own 1 (((List.replicate (p0.length:Int).toNat false):List Bool).map Qe1)),(.own 1 (((List.replicate (p0.length:Int).toNat 0):List Int).map Qaa))]) [(0,(Qkp p0)),(1,(.dat 1 (p1.map Qaa))),(2,I p2),(6,(.own 0 1 (0) ((p0.length:Int).toNat))),(7,I 0),(10,(.own 1 1 (0) ((p0.length:Int).toNat))),(30,(.dat 1 (x18.map Qaa))),(31,(I ((x18.length:Int)))),(32,I 0)] [0,1] [(Q1v p0),(Q1u p0)] hq (pc (rnd Qad) (pc (rnd Qab) (pw (pc (.rn (Qag rfl)) (pw (pc (.rn (Qag rfl)) (pc (rnd Qab) (pw (pw pn))))))))) (qc (spr Qhb) (qc (spr Qab) qn))) ?_
     refine Qb1 (τ:=Int×Int×(List Bool)×(List Int)) (fun n t=>Qc2 N p0 p1 p2 k15 x18 n t.1 t.2.1 t.2.2.1 t.2.2.2=some r) (fun ⟨y19,y20,y21,y22⟩=>⟨mk 74 [(0,(Qkp p0)),(1,(.dat 1 (p1.map Qaa))),(2,I p2),(6,(.own 0 1 (0) ((p0.length:Int).toNat))),(7,I y19),(10,(.own 1 1 (0) ((p0.length:Int).toNat))),(30,(.dat 1 (x18.map Qaa))),(31,(I ((x18.length:Int)))),(32,I y20)],[(Qi4 y21),(.own 1 (y22.map Qaa))]⟩) (fun t h=>by rw[Qc2] at h;cases h) (fun n27 ih t h=>?_) N (0,0,List.replicate (p0.length:Int).toNat false,List.replicate (p0.length:Int).toNat 0) h
     obtain⟨y19,y20,y21,y22⟩:=t
     rw[Qc2] at h
     skip
     refine wxz<|wsq ?_
     refine bfe h (fun hc28 h=>?_) fun hc28 h=>?_
     ·refine wft hc28<|Qak<|thn<|wsq<|Qai ?_
      obtain⟨x29,hg30,h⟩:=bno h
      obtain⟨hi31,hj32⟩:=gsm hg30
      refine wx tbk [(0,rp _ _)] ⟨aiq underlying25 ti3 Qaa hi31 hj32,tv⟩<|wsq ?_
      obtain⟨x33,hg34,h⟩:=bno h
      obtain⟨hi35,hj36⟩:=gsm hg34
      refine wx tbk [(2,rp _ _)] ⟨aiq underlying25 ti3 Qaa hi35 hj36,tv⟩ ?_
      refine bfe h (fun hc37 h=>?_) fun hc37 h=>?_
      ·exact wft hc37<|Qaz<|Qao<|Qay rfl<|thn<|wxz1<|thn<|arm (mto (n:=74) [(0,(Qkp p0)),(1,(.dat 1 (p1.map Qaa))),(2,I p2),(6,(.own 0 1 (0) ((p0.length:Int).toNat))),(7,I y19),(10,(.own 1 1 (0) ((p0.length:Int).toNat))),(30,(.dat 1 (x18.map Qaa))),(31,(I ((x18.length:Int)))),(32,(I (w64 (y20+1))))] [0,1] [(Qi4 y21),(.own 1 (y22.map Qaa))] hq (pc (rnd Qad) (pc (rnd Qab) (pw (pc (.rn (Qag rfl)) (pw (pc (.rn (Qag rfl)) (pc (rnd Qab) (pw (pw pn))))))))) (qc (spr Qhb) (qc (spr Qab) qn))) (ih (y19,w64 (y20+1),y21,y22) h)
      ·refine wfn hc37<|Qak<|thn ?_
       obtain⟨hi38,h⟩:=cko h
       obtain⟨hi38a,hi38b⟩:=Qaw hi38
       obtain⟨x39,hg40,h⟩:=bno h
       refine wx tbk [(4,rp _ _),(6,rb [(.tmp 41,(.own 1 1 (0) ((p0.length:Int).toNat))),(.tmp 42,I x29)] [(1,(.own 1 (y22.map Qaa)))] (.ref 1 1 x29.toNat 0)),(7,⟨[(.tmp 47,(.ref 1 1 x29.toNat 0)),(.tmp 46,I x33)],[(1,(.own 1 (y22.map Qaa)))],.any,[(1,(Qie y22 x29 x33))],false⟩)] ⟨aiq underlying25 ti3 Qaa hi35 hj36,aio rfl underlying25 ti3 (odt hi38a) (odt hi38b) (Nat.zero_add _),ast rfl ti3 (by rfl) (mgt Qaa hg40) (nle rfl) (Qd7 Qaa rfl),tv⟩ ?_
       obtain⟨x42,hf41,h⟩:=bno h
       refine wx tbk [(2,⟨_,_,_,_,false⟩)] ⟨acq [(Qkp p0),(.own 1 1 (0) (((p0.length:Int).toNat)))] [(Qie y22 x29 x33)] [(Qie y22 x29 x33)] (.dat 1 (x42.map Qaa)) [1] Qvs (Qhw N p0 ((p0.length:Int).toNat) (y22.set x29.toNat x33) _ hf41) (Qcv (rnc (pld Qad) (rnc (Qd0 rfl) rn0))) (slc (Qbq Qab) Qaq) (slc (Qbq Qab) Qaq) (pld Qab),tv⟩ ?_
       obtain⟨k43,hk_k43,h⟩:=jko h
       refine wjn (τ:=Unit) (fun t=>k43 t=some r) (fun _=>⟨mk 74 [(0,(Qkp p0)),(1,(.dat 1 (p1.map Qaa))),(2,I p2),(6,(.own 0 1 (0) ((p0.length:Int).toNat))),(10,(.own 1 1 (0) ((p0.length:Int).toNat))),(12,I x29),(13,(.dat 1 (x42.map Qaa))),(30,(.dat 1 (x18.map Qaa))),(31,(I ((x18.length:Int)))),(32,I y20)],[(Qi4 y21),(Qie y22 x29 x33)]⟩) (fun t h=>?_) ?_
       ·subst hk_k43
        obtain⟨x44,hg45,h⟩:=bno h
        obtain⟨hi46,hj47⟩:=gsm hg45
        obtain⟨hi48,h⟩:=cko h
        obtain⟨hi48a,hi48b⟩:=Qaw hi48
        obtain⟨x49,hg50,h⟩:=bno h
        refine wx1 tbk [(3,rp _ _),(5,rb [(.tmp 65,(.own 0 1 (0) ((p0.length:Int).toNat))),(.tmp 66,I x29)] [(0,(Qi4 y21))] (.ref 0 1 x29.toNat 0)),(6,⟨[(.tmp 70,(.ref 0 1 x29.toNat 0)),cb true],[(0,(Qi4 y21))],.any,[(0,(.own 1 ((y21.set x29.toNat true:List Bool).map Qe1)))],false⟩)] ⟨aiq underlying25 ti3 Qaa hi46 hj47,aio rfl underlying77 ti4 (odt hi48a) (odt hi48b) (Nat.zero_add _),ast rfl ti4 (by rfl) (mgt Qe1 hg50) (nle rfl) (Qd7 Qe1 rfl),tv⟩<|bln<|thn<|wxz1<|thn ?_
        exact arm (mto (n:=74) [(0,(Qkp p0)),(1,(.dat 1 (p1.map Qaa))),(2,I p2),(6,(.own 0 1 (0) ((p0.length:Int).toNat))),(7,I x44),(10,(.own 1 1 (0) ((p0.length:Int).toNat))),(30,(.dat 1 (x18.map Qaa))),(31,(I ((x18.length:Int)))),(32,(I (w64 (y20+1))))] [0,1] [(.own 1 ((y21.set x29.toNat true:List Bool).map Qe1)),(Qie y22 x29 x33)] hq (pc (rnd Qad) (pc (rnd Qab) (pw (pc (.rn (Qag rfl)) (pw (pc (.rn (Qag rfl)) (pc (rnd Qab) (pw (pw pn))))))))) (qc (spr Qhb) (qc (spr Qab) qn))) (ih (x44,w64 (y20+1),y21.set x29.toNat true,y22.set x29.toNat x33) h)
       ·skip
        obtain⟨x52,hf51,h⟩:=bno h
        refine hpre (A:=(Qth p0 x42 x52)) ⟨apv Qvr (Qgo N p0 x42 _ hf51) (nlc (nld Qad _) (nlc (nld Qab _) nl0)) nll,tv⟩ fun q1_=>?_
        refine bfe h (fun hb53 h=>?_) fun hb53 h=>?_
        ·refine wx tbk (hcat (Qth p0 x42 x52) [(4,rp [(.tmp 54,(B ((decide (x52≥0)))))] (B true))]) (hap q1_ ⟨asb hb53 (amv rfl),tv⟩)<|wtr ?_
         obtain⟨hi54,h⟩:=cko h
         obtain⟨hi54a,hi54b⟩:=Qaw hi54
         obtain⟨x55,hg56,h⟩:=bno h
         refine wx tbk [(2,rb [(.tmp 62,(.own 1 1 (0) ((p0.length:Int).toNat))),(.tmp 63,I x29)] [(1,(Qie y22 x29 x33))] (.ref 1 1 x29.toNat 0)),(3,⟨[(.tmp 64,(.ref 1 1 x29.toNat 0)),ci 0],[(1,(Qie y22 x29 x33))],.any,[(1,(Qqz y22 x29 x33))],false⟩)] ⟨aio rfl underlying25 ti3 (odt hi54a) (odt hi54b) (Nat.zero_add _),ast rfl ti3 (by rfl) (mgt Qaa hg56) (nle rfl) (Qd7 Qaa rfl),tv⟩<|Qaz<|Qao<|Qay rfl<|thn<|wxz1<|thn ?_
         exact arm (mto (n:=74) [(0,(Qkp p0)),(1,(.dat 1 (p1.map Qaa))),(2,I p2),(6,(.own 0 1 (0) ((p0.length:Int).toNat))),(7,I y19),(10,(.own 1 1 (0) ((p0.length:Int).toNat))),(30,(.dat 1 (x18.map Qaa))),(31,(I ((x18.length:Int)))),(32,(I (w64 (y20+1))))] [0,1] [(Qi4 y21),(Qqz y22 x29 x33)] hq (pc (rnd Qad) (pc (rnd Qab) (pw (pc (.rn (Qag rfl)) (pw (pc (.rn (Qag rfl)) (pc (rnd Qab) (pw (pw pn))))))))) (qc (spr Qhb) (qc (spr Qab) qn))) (ih (y19,w64 (y20+1),y21,(y22.set x29.toNat x33).set x29.toNat 0) h)
        ·obtain⟨x57,hg58,h⟩:=bno h
         obtain⟨hi59,hj60⟩:=gsm hg58
         refine wx tbk (hcat (Qth p0 x42 x52) [(4,rp [(.tmp 54,(B ((decide (x52≥0)))))] (B false)),(6,rp [(.tmp 55,B false),(.tmp 56,(.dat 1 (x42.map Qaa))),ci 0] (.dptr (Qaa x57) 0))]) (hap q1_ ⟨asb hb53 (amv rfl),ag_ (aiq underlying25 ti3 Qaa hi59 hj60),tv⟩) ?_
         refine bfe h (fun hc61 h=>?_) fun hc61 h=>?_
         ·refine wft hc61 ?_
          obtain⟨hi62,h⟩:=cko h
          obtain⟨hi62a,hi62b⟩:=Qaw hi62
          obtain⟨x63,hg64,h⟩:=bno h
          refine wx tbk [(2,rb [(.tmp 62,(.own 1 1 (0) ((p0.length:Int).toNat))),(.tmp 63,I x29)] [(1,(Qie y22 x29 x33))] (.ref 1 1 x29.toNat 0)),(3,⟨[(.tmp 64,(.ref 1 1 x29.toNat 0)),ci 0],[(1,(Qie y22 x29 x33))],.any,[(1,(Qqz y22 x29 x33))],false⟩)] ⟨aio rfl underlying25 ti3 (odt hi62a) (odt hi62b) (Nat.zero_add _),ast rfl ti3 (by rfl) (mgt Qaa hg64) (nle rfl) (Qd7 Qaa rfl),tv⟩<|Qaz<|Qao<|Qay rfl<|thn<|wxz1<|thn ?_
          exact arm (mto (n:=74) [(0,(Qkp p0)),(1,(.dat 1 (p1.map Qaa))),(2,I p2),(6,(.own 0 1 (0) ((p0.length:Int).toNat))),(7,I y19),(10,(.own 1 1 (0) ((p0.length:Int).toNat))),(30,(.dat 1 (x18.map Qaa))),(31,(I ((x18.length:Int)))),(32,(I (w64 (y20+1))))] [0,1] [(Qi4 y21),(Qqz y22 x29 x33)] hq (pc (rnd Qad) (pc (rnd Qab) (pw (pc (.rn (Qag rfl)) (pw (pc (.rn (Qag rfl)) (pc (rnd Qab) (pw (pw pn))))))))) (qc (spr Qhb) (qc (spr Qab) qn))) (ih (y19,w64 (y20+1),y21,(y22.set x29.toNat x33).set x29.toNat 0) h)
         ·exact wfn hc61<|Qak<|thn<|⟨(),h,(mto (n:=74) [(0,(Qkp p0)),(1,(.dat 1 (p1.map Qaa))),(2,I p2),(6,(.own 0 1 (0) ((p0.length:Int).toNat))),(10,(.own 1 1 (0) ((p0.length:Int).toNat))),(12,I x29),(13,(.dat 1 (x42.map Qaa))),(30,(.dat 1 (x18.map Qaa))),(31,(I ((x18.length:Int)))),(32,I y20)] [0,1] [(Qi4 y21),(Qie y22 x29 x33)] hq (pc (rnd Qad) (pc (rnd Qab) (pw (pc (.rn (Qag rfl)) (pc (.rn (Qag rfl)) (pw (pc (rnd Qab) (pc (rnd Qab) (pw (pw pn)))))))))) (qc (spr Qhb) (qc (spr Qab) qn)))⟩
     ·exact wfn hc28<|Qaz<|Qao<|Qao<|Qay rfl<|thn<|⟨(y19,y21),h,(mto (n:=74) [(6,(.own 0 1 (0) ((p0.length:Int).toNat))),(7,I y19)] [0] [(Qi4 y21)] hq (pc (.rn (Qag rfl)) (pw pn)) (qc (spr Qhb) qn))⟩
def Qj3 (_N:Nat):Option GDay:=
  some (⟨10,0,[(⟨5,[(⟨20,1⟩:Qaf)]⟩:Qah),(⟨8,[(⟨5,4⟩:Qaf)]⟩:Qah),(⟨6,[(⟨9,2⟩:Qaf)]⟩:Qah)]⟩:GDay)
def Q1p:AV:=.agg [(I (20)),(I (1))]
def Qwt:AV:=.dat 2 (([(⟨20,1⟩:Qaf)]:List Qaf).map Qae)
def Q1o:AV:=.agg [(I (5)),(I (4))]
def Qws:AV:=.dat 2 (([(⟨5,4⟩:Qaf)]:List Qaf).map Qae)
def Q1n:AV:=.agg [(I (9)),(I (2))]
def Qwr:AV:=.dat 2 (([(⟨9,2⟩:Qaf)]:List Qaf).map Qae)
def Qwq:AV:=.dat 2 (([(⟨5,[(⟨20,1⟩:Qaf)]⟩:Qah),(⟨8,[(⟨5,4⟩:Qaf)]⟩:Qah),(⟨6,[(⟨9,2⟩:Qaf)]⟩:Qah)]:List Qah).map Qaj)
def Q28:AV:=.agg [(I (10)),(I (0)),Qwq]
theorem Qn4 (N:Nat) (r:GDay) (h:Qj3 N=some r):Spec prog 28 [] [] (.agg (Qhm r)) []:=by
  refine sA func28 0 fun _ _ _ hq hd0=>?_
  unfold Qj3 at h
  refine wxz<|wx tbk [(0,rp _ _),(1,rp [(.tmp 1,Q1p)] Qwt),(2,rp _ _),(3,rp _ _),(4,rp [(.tmp 4,Q1o)] Qws),(5,rp _ _),(6,rp _ _),(7,rp [(.tmp 7,Q1n)] Qwr),(8,rp _ _),(9,rp [(.tmp 3,(.agg [I 5,Qwt])),(.tmp 6,(.agg [I 8,Qws])),(.tmp 9,(.agg [I 6,Qwr]))] Qwq),(10,rp _ _)] ⟨Qa2 (vs:=[I 20,I 1]) rfl ts64 tz64 rfl (by rfl) rfl,Qb4 (vs:=[Q1p]) rfl underlying60 ti64 tz64 rfl (by decide) rfl (by decide) (by rfl) (by rfl) (by rfl) rfl,Qa2 (vs:=[I 5,Qwt]) rfl ts62 tz62 rfl (by rfl) rfl,Qa2 (vs:=[I 5,I 4]) rfl ts64 tz64 rfl (by rfl) rfl,Qb4 (vs:=[Q1o]) rfl underlying60 ti64 tz64 rfl (by decide) rfl (by decide) (by rfl) (by rfl) (by rfl) rfl,Qa2 (vs:=[I 8,Qws]) rfl ts62 tz62 rfl (by rfl) rfl,Qa2 (vs:=[I 9,I 2]) rfl ts64 tz64 rfl (by rfl) rfl,Qb4 (vs:=[Q1n]) rfl underlying60 ti64 tz64 rfl (by decide) rfl (by decide) (by rfl) (by rfl) (by rfl) rfl,Qa2 (vs:=[I 6,Qwr]) rfl ts62 tz62 rfl (by rfl) rfl,Qb4 (vs:=[(.agg [I 5,Qwt]),(.agg [I 8,Qws]),(.agg [I 6,Qwr])]) rfl underlying55 ti62 tz62 rfl (by decide) rfl (by decide) (by rfl) (by rfl) (by rfl) rfl,Qa2 (vs:=[I 10,Qwq]) rfl ts57 tz57 rfl (by rfl) rfl,tv⟩<|Qal ?_
  obtain rfl:=osi h
  exact fie [Q28] ⟨Qeo (n:=0) (m:=3) (j:=0) (i:=0) (xs:=[[I 10,I 0,Qwq]]) (by kernel_rfl) (by kernel_rfl) ti57 (by decide) rfl (nle rfl) rfl,tv⟩
def Qea (N:Nat) (p0 p1:List Int) (k2:Unit→Option Bool):Nat→Int→Option Bool
  |0,_=>none
  |n5+1,y3=>
    bif (decide (y3<(p0.length:Int))) then
     (getI p0 y3).bind fun x7=>
     (getI p1 y3).bind fun x11=>
     bif (x7 != x11) then
      some false
     else
      Qea N p0 p1 k2 n5 (w64 (y3+1))
    else
     k2 ()
def Qhe (N:Nat) (p0 p1:List Int):Option Bool:=
  bif ((p0.length:Int) != (p1.length:Int)) then
   some false
  else
   Qco (fun _=>
     some true) fun k2:Unit→Option Bool=>
   Qea N p0 p1 k2 N 0
theorem Qih (N:Nat) (p0 p1:List Int) (r:Bool) (h:Qhe N p0 p1=some r):Spec prog 54 [(.dat 1 (p0.map Qaa)),(.dat 1 (p1.map Qaa))] [] (B r) []:=by
  refine sA func54 0 fun _ _ _ hq hd0=>?_
  unfold Qhe at h
  refine wxz<|wsq ?_
  refine wx tbk [(1,rp _ _),(3,rp _ _)] ⟨alq 1 Qaa p0 underlying25,alq 1 Qaa p1 underlying25,tv⟩ ?_
  refine bfe h (fun hc1 h=>?_) fun hc1 h=>?_
  ·exact wft hc1<|wxz<|Qal<|Qam<|frb h
  ·refine wfn hc1<|Qak<|thn ?_
   obtain⟨k2,hk_k2,h⟩:=jko h
   refine wjn (τ:=Unit) (fun t=>k2 t=some r) (fun _=>⟨mk 26 [],[]⟩) (fun t h=>?_) ?_
   ·subst hk_k2
    exact wxz<|Qal<|frb h
   ·skip
    refine wxz<|Qai ?_
    refine wmr (mto (n:=26) (l':=[(0,(.dat 1 (p0.map Qaa))),(1,(.dat 1 (p1.map Qaa))),(5,I 0)]) (own':=[]) [(0,(.dat 1 (p0.map Qaa))),(1,(.dat 1 (p1.map Qaa))),(5,I 0)] [] [] hq (pc (rnd Qab) (pc (rnd Qab) (pw pn))) qn) ?_
    refine Qb1 (τ:=Int) (fun n t=>Qea N p0 p1 k2 n t=some r) (fun y3=>⟨mk 26 [(0,(.dat 1 (p0.map Qaa))),(1,(.dat 1 (p1.map Qaa))),(5,I y3)],[]⟩) (fun t h=>by rw[Qea] at h;cases h) (fun n5 ih y3 h=>?_) N (0) h
    rw[Qea] at h
    skip
    refine wsq<|wx tbk [(2,rp _ _)] ⟨alq 1 Qaa p0 underlying25,tv⟩ ?_
    refine bfe h (fun hc6 h=>?_) fun hc6 h=>?_
    ·refine wft hc6<|Qak<|thn<|wsq<|Qai ?_
     obtain⟨x7,hg8,h⟩:=bno h
     obtain⟨hi9,hj10⟩:=gsm hg8
     obtain⟨x11,hg12,h⟩:=bno h
     obtain⟨hi13,hj14⟩:=gsm hg12
     refine wxd tbk [(2,rp _ _),(6,rp _ _)] ⟨aiq underlying25 ti3 Qaa hi9 hj10,aiq underlying25 ti3 Qaa hi13 hj14,tv⟩ ?_
     refine bfe h (fun hc15 h=>?_) fun hc15 h=>?_
     ·exact wft hc15<|wxz<|Qal<|Qav<|Qam<|Qam<|Qav<|Qam<|frb h
     ·exact wfn hc15<|Qak<|bln<|thn<|wxz1<|thn<|arm (mto (n:=26) [(0,(.dat 1 (p0.map Qaa))),(1,(.dat 1 (p1.map Qaa))),(5,(I (w64 (y3+1))))] [] [] hq (pc (rnd Qab) (pc (rnd Qab) (pw pn))) qn) (ih (w64 (y3+1)) h)
    ·exact wfn hc6<|Qaz<|Qao<|Qao<|Qay rfl<|thn<|⟨(),h,(mto (n:=26) [] [] [] hq pn qn)⟩
def Qc9 (N:Nat):Option Bool:=
  (Qhf 2000 ).bind fun x2=>
  (Qiu N x2 ([0,10,20,30])).bind fun x4=>
  (Qhf 2000 ).bind fun x6=>
  (Qir N x6 ([0,10,20,30]) 60).bind fun x8=>
  (Qg6 N (⟨100,50⟩:Qh2)).bind fun x10=>
  (Qj3 2000 ).bind fun x12=>
  (Qbi N x12).bind fun x14=>
  bif (x4.2.2==0) then
   bif (x8.2.2==0) then
    bif (x10.2==0) then
     bif (x14.2.2.2==0) then
      (Qhe N x4.1 ([70,70,23,32])).bind fun x20=>
      bif x20 then
       bif ((x8.1.length:Int)==4) then
        (getI x8.1 1).bind fun x23=>
        bif x23 then
         (getI x8.1 2).bind fun x28=>
         bif (!x28) then
          (getI x8.1 3).bind fun x33=>
          bif x33 then
           bif (x8.2.1==47) then
            bif (([x10.1.Lo,x10.1.Hi]:List Int)==[96,105]) then
             (Qhe N x14.1 ([15,0,4])).bind fun x41=>
             bif x41 then
              bif ((x14.2.1.length:Int)==3) then
               some (x14.2.2.1==23)
              else
               some false
             else
              some false
            else
             some false
           else
            some false
          else
           some false
         else
          some false
        else
         some false
       else
        some false
      else
       some false
     else
      some false
    else
     some false
   else
    some false
  else
   some false
def Q11:AV:=.dat 1 (([0,10,20,30]:List Int).map Qaa)
def Qwz (x8:((List Bool)×Int×Int)):AV:=.dat 1 (x8.1.map Qe1)
def Qtt (x4:((List Int)×Int×Int)):List (Nat×Rec):=[(2,rp [((.tmp 40),(B ((x4.2.2==0))))] (B true))]
def Qts x4 (x8:((List Bool)×Int×Int)):=hcat (Qtt x4) [(6,rp [((.tmp 44),(B ((x8.2.2==0))))] (B true))]
def Qtr x4 x8 (x10:(Qkm×Int)):=hcat (Qts x4 x8) [(10,rp [((.tmp 48),(B ((x10.2==0))))] (B true))]
def Qy8:AV:=.dat 1 (([70,70,23,32]:List Int).map Qaa)
def Qtq x4 x8 x10 (x14:((List Int)×(List Int)×Int×Int)) (x20:Bool):=hcat (Qtr x4 x8 x10) [(14,rp [((.tmp 52),(B ((x14.2.2.2==0))))] (B true)),(16,rp [((.tmp 53),(B true)),ci 70,ci 70,ci 23,ci 32] Qy8),(17,rp [((.tmp 53),(B true)),fu 54,((.tmp 54),(.dat 1 (x4.1.map Qaa))),((.tmp 55),Qy8)] (B x20))]
def Qtp x4 x8 x10 x14 x20:=hcat (Qtq x4 x8 x10 x14 x20) [(19,rp [((.tmp 57),(B x20))] (B true)),(21,rp [((.tmp 58),(B true)),((.tmp 59),(Qwz x8))] (I ((x8.1.length:Int))))]
def Qto x4 x8 x10 x14 x20 (x23:Bool):=hcat (Qtp x4 x8 x10 x14 x20) [(24,rp [((.tmp 62),(B (((x8.1.length:Int)==4))))] (B true)),(26,rp [((.tmp 63),(B true)),((.tmp 64),(Qwz x8)),ci 1] (.dptr (Qe1 x23) 0))]
def Qtn x4 x8 x10 x14 x20 x23 (x28:Bool):=hcat (Qto x4 x8 x10 x14 x20 x23) [(29,rp [((.tmp 67),(B x23))] (B true)),(31,rp [((.tmp 68),(B true)),((.tmp 69),(Qwz x8)),ci 2] (.dptr (Qe1 x28) 0))]
def Qtm x4 x8 x10 x14 x20 x23 x28 (x33:Bool):=hcat (Qtn x4 x8 x10 x14 x20 x23 x28) [(35,rp [((.tmp 73),(B ((!x28))))] (B true)),(37,rp [((.tmp 74),(B true)),((.tmp 75),(Qwz x8)),ci 3] (.dptr (Qe1 x33) 0))]
def Qtl x4 x8 x10 x14 x20 x23 x28 x33:=hcat (Qtm x4 x8 x10 x14 x20 x23 x28 x33) [(40,rp [((.tmp 78),(B x33))] (B true))]
def Qtk x4 x8 x10 x14 x20 x23 x28 x33:=hcat (Qtl x4 x8 x10 x14 x20 x23 x28 x33) [(44,rp [((.tmp 82),(B ((x8.2.1==47))))] (B true)),(46,rp [((.tmp 83),(B true)),ci 96,ci 105] (.agg [(I (96)),(I (105))])),(47,rp [((.tmp 83),(B true)),((.tmp 84),(.agg [(I x10.1.Lo),(I x10.1.Hi)])),((.tmp 85),(.agg [(I (96)),(I (105))]))] (B ((([x10.1.Lo,x10.1.Hi]:List Int)==[96,105]))))]
def Qy7:AV:=.dat 1 (([15,0,4]:List Int).map Qaa)
def Qtj x4 x8 x10 x14 x20 x23 x28 x33 (x41:Bool):=hcat (Qtk x4 x8 x10 x14 x20 x23 x28 x33) [(49,rp [((.tmp 87),(B ((([x10.1.Lo,x10.1.Hi]:List Int)==[96,105]))))] (B true)),(51,rp [((.tmp 88),(B true)),ci 15,ci 0,ci 4] Qy7),(52,rp [((.tmp 88),(B true)),fu 54,((.tmp 89),(.dat 1 (x14.1.map Qaa))),((.tmp 90),Qy7)] (B x41))]
def Qti x4 x8 x10 x14 x20 x23 x28 x33 x41:=hcat (Qtj x4 x8 x10 x14 x20 x23 x28 x33 x41) [(54,rp [((.tmp 92),(B x41))] (B true)),(56,rp [((.tmp 93),(B true)),((.tmp 94),(.dat 1 (x14.2.1.map Qaa)))] (I ((x14.2.1.length:Int))))]
theorem Qc8 (N:Nat) (r:Bool) (h:Qc9 N=some r):Spec prog 19 [] [] (B r) []:=by
  refine sA func19 0 fun _ _ _ hq hd0=>?_
  unfold Qc9 at h
  refine wxz ?_
  obtain⟨x2,hf1,h⟩:=bno h
  obtain⟨x4,hf3,h⟩:=bno h
  refine wx tbk [(0,rp _ _),(1,rp [ci 0,ci 10,ci 20,ci 30] Q11),(2,rp _ _)] ⟨apw Qvv (Qii 2000  _ hf1),Qb4 (vs:=[I 0,I 10,I 20,I 30]) rfl underlying25 ti3 tz3 rfl (by decide) rfl (by decide) (by rfl) (by rfl) (by rfl) rfl,apw Q08 (Qmj N x2 ([0,10,20,30]) _ hf3),tv⟩ ?_
  obtain⟨x6,hf5,h⟩:=bno h
  obtain⟨x8,hf7,h⟩:=bno h
  refine wx tbk [(0,rp _ _),(1,rp [ci 0,ci 10,ci 20,ci 30] Q11),(2,rp _ _)] ⟨apw Qvv (Qii 2000  _ hf5),Qb4 (vs:=[I 0,I 10,I 20,I 30]) rfl underlying25 ti3 tz3 rfl (by decide) rfl (by decide) (by rfl) (by rfl) (by rfl) rfl,apw Q05 (Qmi N x6 ([0,10,20,30]) 60 _ hf7),tv⟩ ?_
  obtain⟨x10,hf9,h⟩:=bno h
  refine wx tbk [(0,rp _ _),(1,rp _ _)] ⟨Qa2 (vs:=[I 100,I 50]) rfl ts75 tz75 rfl (by rfl) rfl,apw Q04 (Qks N (⟨100,50⟩:Qh2) _ hf9),tv⟩ ?_
  obtain⟨x12,hf11,h⟩:=bno h
  obtain⟨x14,hf13,h⟩:=bno h
  refine wx tbk [(0,rp _ _),(1,rp _ _)] ⟨apw Q07 (Qn4 2000  _ hf11),apw Ql0 (Qd5 N x12 _ hf13),tv⟩ ?_
  refine bfe h (fun hb15 h=>?_) fun hb15 h=>?_
  ·refine hpre (A:=(Qtt x4)) ⟨asb hb15 (amv rfl),tv⟩ fun q1_=>?_
   refine bfe h (fun hb16 h=>?_) fun hb16 h=>?_
   ·refine hpre (A:=(Qts x4 x8)) (hap q1_ ⟨asb hb16 (amv rfl),tv⟩) fun q2_=>?_
    refine bfe h (fun hb17 h=>?_) fun hb17 h=>?_
    ·refine hpre (A:=(Qtr x4 x8 x10)) (hap q2_ ⟨asb hb17 (amv rfl),tv⟩) fun q3_=>?_
     refine bfe h (fun hb18 h=>?_) fun hb18 h=>?_
     ·obtain⟨x20,hf19,h⟩:=bno h
      refine hpre (A:=(Qtq x4 x8 x10 x14 x20)) (hap q3_ ⟨asb hb18 (amv rfl),ag_ (Qb4 (vs:=[I 70,I 70,I 23,I 32]) rfl underlying25 ti3 tz3 rfl (by decide) rfl (by decide) (by rfl) (by rfl) (by rfl) rfl),ag_ (apv Qvu (Qih N x4.1 ([70,70,23,32]) _ hf19) (nlc (nld Qab _) (nlc (nld Qab _) nl0)) nll),tv⟩) fun q4_=>?_
      refine bfe h (fun hb21 h=>?_) fun hb21 h=>?_
      ·refine hpre (A:=(Qtp x4 x8 x10 x14 x20)) (hap q4_ ⟨asb hb21 (amv rfl),ag_ (alq 1 Qe1 x8.1 underlying77),tv⟩) fun q5_=>?_
       refine bfe h (fun hb22 h=>?_) fun hb22 h=>?_
       ·obtain⟨x23,hg24,h⟩:=bno h
        obtain⟨hi25,hj26⟩:=gsm hg24
        refine hpre (A:=(Qto x4 x8 x10 x14 x20 x23)) (hap q5_ ⟨asb hb22 (amv rfl),ag_ (aiq underlying77 ti4 Qe1 hi25 hj26),tv⟩) fun q6_=>?_
        refine bfe h (fun hb27 h=>?_) fun hb27 h=>?_
        ·obtain⟨x28,hg29,h⟩:=bno h
         obtain⟨hi30,hj31⟩:=gsm hg29
         refine hpre (A:=(Qtn x4 x8 x10 x14 x20 x23 x28)) (hap q6_ ⟨asb hb27 (amv rfl),ag_ (aiq underlying77 ti4 Qe1 hi30 hj31),tv⟩) fun q7_=>?_
         refine bfe h (fun hb32 h=>?_) fun hb32 h=>?_
         ·obtain⟨x33,hg34,h⟩:=bno h
          obtain⟨hi35,hj36⟩:=gsm hg34
          refine hpre (A:=(Qtm x4 x8 x10 x14 x20 x23 x28 x33)) (hap q7_ ⟨asb hb32 (amv rfl),ag_ (aiq underlying77 ti4 Qe1 hi35 hj36),tv⟩) fun q8_=>?_
          refine bfe h (fun hb37 h=>?_) fun hb37 h=>?_
          ·refine hpre (A:=(Qtl x4 x8 x10 x14 x20 x23 x28 x33)) (hap q8_ ⟨asb hb37 (amv rfl),tv⟩) fun q9_=>?_
           refine bfe h (fun hb38 h=>?_) fun hb38 h=>?_
           ·refine hpre (A:=(Qtk x4 x8 x10 x14 x20 x23 x28 x33)) (hap q9_ ⟨asb hb38 (amv rfl),ag_ (Qa2 (vs:=[I 96,I 105]) rfl ts91 tz91 rfl (by rfl) rfl),ag_ (Qwd (ls:=[x10.1.Lo,x10.1.Hi]) (ks:=[96,105]) rfl rfl Q3s (by kernel_rfl) rfl rfl),tv⟩) fun q10_=>?_
            refine bfe h (fun hb39 h=>?_) fun hb39 h=>?_
            ·obtain⟨x41,hf40,h⟩:=bno h
             refine hpre (A:=(Qtj x4 x8 x10 x14 x20 x23 x28 x33 x41)) (hap q10_ ⟨asb hb39 (amv rfl),ag_ (Qb4 (vs:=[I 15,I 0,I 4]) rfl underlying25 ti3 tz3 rfl (by decide) rfl (by decide) (by rfl) (by rfl) (by rfl) rfl),ag_ (apv Qvu (Qih N x14.1 ([15,0,4]) _ hf40) (nlc (nld Qab _) (nlc (nld Qab _) nl0)) nll),tv⟩) fun q11_=>?_
             refine bfe h (fun hb42 h=>?_) fun hb42 h=>?_
             ·refine hpre (A:=(Qti x4 x8 x10 x14 x20 x23 x28 x33 x41)) (hap q11_ ⟨asb hb42 (amv rfl),ag_ (alq 1 Qaa x14.2.1 underlying25),tv⟩) fun q12_=>?_
              refine bfe h (fun hb43 h=>?_) fun hb43 h=>?_
              ·refine wx tbk (hcat (Qti x4 x8 x10 x14 x20 x23 x28 x33 x41) [(59,rp [(.tmp 97,(B (((x14.2.1.length:Int)==3))))] (B true))]) (hap q12_ ⟨asb hb43 (amv rfl),tv⟩)<|Qal ?_
               obtain rfl:=osi h
               exact fend ⟨[(B ((x14.2.2.1==23)))],⟨rot,tv⟩,rfl⟩ nll
              ·exact wx tbk (hcat (Qti x4 x8 x10 x14 x20 x23 x28 x33 x41) [(59,rp [(.tmp 97,(B (((x14.2.1.length:Int)==3))))] (B false))]) (hap q12_ ⟨asb hb43 (amv rfl),tv⟩)<|Qal<|frb h
             ·exact wx tbk (hcat (Qtj x4 x8 x10 x14 x20 x23 x28 x33 x41) [(54,rp [(.tmp 92,B x41)] (B false))]) (hap q11_ ⟨asb hb42 (amv rfl),tv⟩)<|Qal<|frb h
            ·exact wx tbk (hcat (Qtk x4 x8 x10 x14 x20 x23 x28 x33) [(49,rp [(.tmp 87,(B ((([x10.1.Lo,x10.1.Hi]:List Int)==[96,105]))))] (B false))]) (hap q10_ ⟨asb hb39 (amv rfl),tv⟩)<|Qal<|frb h
           ·exact wx tbk (hcat (Qtl x4 x8 x10 x14 x20 x23 x28 x33) [(44,rp [(.tmp 82,(B ((x8.2.1==47))))] (B false))]) (hap q9_ ⟨asb hb38 (amv rfl),tv⟩)<|Qal<|frb h
          ·exact wx tbk (hcat (Qtm x4 x8 x10 x14 x20 x23 x28 x33) [(40,rp [(.tmp 78,B x33)] (B false))]) (hap q8_ ⟨asb hb37 (amv rfl),tv⟩)<|Qal<|frb h
         ·exact wx tbk (hcat (Qtn x4 x8 x10 x14 x20 x23 x28) [(35,rp [(.tmp 73,(B ((!x28))))] (B false))]) (hap q7_ ⟨asb hb32 (amv rfl),tv⟩)<|Qal<|frb h
        ·exact wx tbk (hcat (Qto x4 x8 x10 x14 x20 x23) [(29,rp [(.tmp 67,B x23)] (B false))]) (hap q6_ ⟨asb hb27 (amv rfl),tv⟩)<|Qal<|frb h
       ·exact wx tbk (hcat (Qtp x4 x8 x10 x14 x20) [(24,rp [(.tmp 62,(B (((x8.1.length:Int)==4))))] (B false))]) (hap q5_ ⟨asb hb22 (amv rfl),tv⟩)<|Qal<|frb h
      ·exact wx tbk (hcat (Qtq x4 x8 x10 x14 x20) [(19,rp [(.tmp 57,B x20)] (B false))]) (hap q4_ ⟨asb hb21 (amv rfl),tv⟩)<|Qal<|frb h
     ·exact wx tbk (hcat (Qtr x4 x8 x10) [(14,rp [(.tmp 52,(B ((x14.2.2.2==0))))] (B false))]) (hap q3_ ⟨asb hb18 (amv rfl),tv⟩)<|Qal<|frb h
    ·exact wx tbk (hcat (Qts x4 x8) [(10,rp [(.tmp 48,(B ((x10.2==0))))] (B false))]) (hap q2_ ⟨asb hb17 (amv rfl),tv⟩)<|Qal<|frb h
   ·exact wx tbk (hcat (Qtt x4) [(6,rp [(.tmp 44,(B ((x8.2.2==0))))] (B false))]) (hap q1_ ⟨asb hb16 (amv rfl),tv⟩)<|Qal<|frb h
  ·exact wx tbk [(2,rp [(.tmp 40,(B ((x4.2.2==0))))] (B false))] ⟨asb hb15 (amv rfl),tv⟩<|Qal<|frb h
end
end Go.Proofs.Ytjpfjfdaomckhaa
