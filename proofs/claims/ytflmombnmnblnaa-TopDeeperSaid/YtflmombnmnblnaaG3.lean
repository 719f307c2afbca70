/-
  The texts X1, X2, X3 of the proof, one behind the other. No conditions.
-/
import Derived.Test.YtflmombnmnblnaaG2
namespace Go.Proofs.Ytflmombnmnblnaa
open _root_.Go.Proofs.Try
open Go.RowKit
set_option maxRecDepth 100000
set_option maxHeartbeats 4000000
set_option synthInstance.maxSize 4000
set_option synthInstance.maxHeartbeats 400000
section
def Qdb (_N:Nat) (p0 p1 p2:Int):Option Bool:=
  bif (decide (p1≤p0)) then
   some (decide (p0≤p2))
  else
   some false
theorem Qds (N:Nat) (p0 p1 p2:Int) (r:Bool) (h:Qdb N p0 p1 p2=some r):Spec prog 122 [(I p0),(I p1),(I p2)] [] (B r) []:=by
  refine sA func122 0 fun _ _ _ hq hd0=>?_
  unfold Qdb at h
  refine wxz ?_
  refine bfe h (fun hb1 h=>?_) fun hb1 h=>?_
  ·refine wx tbk [(3,rp [(.tmp 9,(B ((decide (p1≤p0)))))] (B true))] ⟨asb hb1 (amv rfl),tv⟩<|Qae ?_
   obtain rfl:=osi h
   exact fend ⟨[(B ((decide (p0≤p2))))],⟨rot,tv⟩,rfl⟩ nll
  ·exact wx tbk [(3,rp [(.tmp 9,(B ((decide (p1≤p0)))))] (B false))] ⟨asb hb1 (amv rfl),tv⟩<|Qae<|frb h
def Qes (N:Nat) (p0:Qa8) (p1:Int):Option Bool:=
  (Qdb N p0.Gain 0 p1).bind fun x3=>
  bif x3 then
   (Qdb N p0.Width 1 100000).bind fun x6=>
   some x6
  else
   some false
abbrev z8_2 (p0:Qa8):Slot:=.own 1 [[(I p0.Gain)]]
theorem Qhy (N:Nat) (p0:Qa8) (p1:Int) (r:Bool) (h:Qes N p0 p1=some r):Spec prog 177 [(.agg [(I p0.Width),(I p0.Gain)]),(.ref 0 1 (0) 0)] [(.own 1 [[(I p1)]])] (B r) [(z8_2 p0)]:=by
  refine sF func177 1 fun _ _ _ hq hd0=>?_
  unfold Qes at h
  refine wxz ?_
  obtain⟨x3,hf2,h⟩:=bno h
  refine wx tbk [(3,rp _ _)] ⟨apw Qhq (Qds N p0.Gain 0 p1 _ hf2),tv⟩<|wxz ?_
  refine bfe h (fun hb4 h=>?_) fun hb4 h=>?_
  ·obtain⟨x6,hf5,h⟩:=bno h
   refine wx tbk [(1,rp [(.tmp 11,B x3)] (B true)),(4,rp [(.tmp 12,B true),fu 122,(.tmp 14,I p0.Width),ci 1,ci 100000] (B x6))] ⟨asb hb4 (amv rfl),ag_ (apv Qhq (Qds N p0.Width 1 100000 _ hf5) (nlcc (nlc nll nl0)) nll),tv⟩ ?_
   refine wmr (mto (n:=17) (l':=[(3,B x6)]) (own':=[(z8_2 p0)]) [(3,B x6)] [0] [(z8_2 p0)] hq (pw pn) (qb (lc rwl ln) qn))<|Qae ?_
   obtain rfl:=osi h
   exact⟨_,Mor.rfl,fio [B x6] ⟨rot,tv⟩⟩
  ·refine wx tbk [(1,rp [(.tmp 11,B x3)] (B false))] ⟨asb hb4 (amv rfl),tv⟩ ?_
   refine wmr (mto (n:=17) (l':=[(3,B false)]) (own':=[(z8_2 p0)]) [(3,B false)] [0] [(z8_2 p0)] hq (pw pn) (qb (lc rwl ln) qn))<|Qae ?_
   obtain rfl:=osi h
   exact⟨_,Mor.rfl,fio [B false] ⟨rot,tv⟩⟩
def Qc9 (N:Nat) (p0:Qa8) (p1:Int):Option Bool:=
  (Qes N p0 p1).bind fun x3=>
  some (!x3)
abbrev z7_1 (p0:Qa8):AV:=.agg [(I p0.Width),(I p0.Gain)]
abbrev z7_2:AV:=.fn (.func 177) [] [(.ref 1 1 (0) 0)]
abbrev z7_3 (p0:Qa8):Slot:=.own 1 [[(I p0.Gain)]]
theorem Qg5 (N:Nat) (p0:Qa8) (p1:Int) (r:Bool) (h:Qc9 N p0 p1=some r):Spec prog 218 [(z7_1 p0),(.ref 0 1 (0) 0)] [(.own 1 [[z7_2]]),(.own 1 [[(I p1)]])] (B r) [(.own 1 [[z7_2]]),(z7_3 p0)]:=by
  refine sF func218 2 fun _ _ _ hq hd0=>?_
  unfold Qc9 at h
  refine wxz ?_
  obtain⟨x3,hf2,h⟩:=bno h
  refine wx tbk [(2,⟨_,_,_,_,false⟩)] ⟨Qd5 (first:=[]) (cap:=[.ref 1 1 0 0]) (vs:=[(z7_1 p0)]) (σr:=[(.own 1 [[I p1]])]) (σr':=[(z7_3 p0)]) (res':=(B x3)) [1] rfl Q0y (Qhy N p0 p1 _ hf2) rfl (Qco (rnc (.plain _ (NLt.agg _ (nlcc nl0))) (rnc (Qby rfl) rn0))) (slc (Qar (rnc (.plain _ nll) rn0)) Qas) (slc (Qar (rnc (.plain _ nll) rn0)) Qas) (.plain _ nll) rfl rfl rfl,tv⟩ ?_
  refine wmr (mto (n:=8) (l':=[(3,(B ((!x3))))]) (own':=[(.own 1 [[z7_2]]),(z7_3 p0)]) [(3,(B ((!x3))))] [0,1] [(.own 1 [[z7_2]]),(z7_3 p0)] hq (pw pn) (qb (lc (.rn (Qau rn0 (rnc (rqr rfl) rn0))) ln) (qb (lc rwl ln) qn)))<|Qae ?_
  obtain rfl:=osi h
  exact⟨_,Mor.rfl,fio [(B ((!x3)))] ⟨rot,tv⟩⟩
def Qa0 (N:Nat) (p0:List Qa8) (k4:Int→Option (Int×Int)):Nat→Int→Int→Option (Int×Int)
  |0,_,_=>none
  |n9+1,y5,y6=>
    bif (decide (y5<(p0.length:Int))) then
     (getI p0 y5).bind fun x11=>
     (Qc9 N x11 y6).bind fun x16=>
     bif x16 then
      some (y5,x11.Gain)
     else
      Qa0 N p0 k4 n9 (w64 (y5+1)) x11.Gain
    else
     k4 (y6)
def Qb0 (N:Nat) (p0:List Qa8) (p1:Int):Option (Int×Int):=
  Qb5 (fun y3=>
    some ((-1),y3)) fun k4:Int→Option (Int×Int)=>
  Qa0 N p0 k4 N 0 p1
abbrev z6_0 (p0:List Qa8):AV:=.dat 2 (p0.map Qbe)
abbrev z6_1:AV:=.fn (.func 218) [] [(.ref 0 1 (0) 0)]
abbrev z6_3:AV:=.fn (.func 177) [] [(.ref 1 1 (0) 0)]
def Qyt (x11:Qa8):Slot:=.own 1 [[(I x11.Gain)]]
theorem Qe6 (N:Nat) (p0:List Qa8) (p1:Int) (r:(Int×Int)) (h:Qb0 N p0 p1=some r):Spec prog 235 [(z6_0 p0),z6_1] [(.own 1 [[z6_3]]),(.own 1 [[(I p1)]])] (I r.1) [(.own 1 [[z6_3]]),(.own 1 [[(I r.2)]])]:=by
  refine sF func235 2 fun _ _ _ hq hd0=>?_
  unfold Qb0 at h
  refine wxz ?_
  obtain⟨k4,hk_k4,h⟩:=jko h
  refine wjn (τ:=Int) (fun t=>k4 t=some r) (fun y3=>⟨mk 19 [],[(.own 1 [[z6_3]]),(.own 1 [[I y3]])]⟩) (fun y3 h=>?_) ?_
  ·subst hk_k4
   refine wxz<|wmr (mto (n:=19) (l':=[(4,(I ((-1))))]) (own':=[(.own 1 [[z6_3]]),(.own 1 [[I y3]])]) [(4,(I ((-1))))] [0,1] [(.own 1 [[z6_3]]),(.own 1 [[I y3]])] hq (pw pn) (qb (lc (.rn (Qau rn0 (rnc (rqr rfl) rn0))) ln) (qb (lc rwl ln) qn)))<|Qae ?_
   obtain rfl:=osi h
   exact⟨_,Mor.rfl,fio [(I ((-1)))] ⟨rot,tv⟩⟩
  ·skip
   refine wx tbk [(1,rp _ _)] ⟨alq 2 Qbe p0 underlying171,tv⟩<|Qag ?_
   refine wmr (mto (n:=19) (l':=[(0,(z6_0 p0)),(1,z6_1),(7,(I ((p0.length:Int)))),(8,I 0)]) (own':=[(.own 1 [[z6_3]]),(.own 1 [[I p1]])]) [(0,(z6_0 p0)),(1,z6_1),(7,(I ((p0.length:Int)))),(8,I 0)] [0,1] [(.own 1 [[z6_3]]),(.own 1 [[I p1]])] hq (pc (rnd Qbo) (pc (.rn (Qau rn0 (rnc (rqr rfl) rn0))) (pw (pw pn)))) (qb (lc (.rn (Qau rn0 (rnc (rqr rfl) rn0))) ln) (qb (lc rwl ln) qn))) ?_
   refine Qb8 (τ:=Int×Int) (fun n t=>Qa0 N p0 k4 n t.1 t.2=some r) (fun ⟨y5,y6⟩=>⟨mk 19 [(0,(z6_0 p0)),(1,z6_1),(7,(I ((p0.length:Int)))),(8,I y5)],[(.own 1 [[z6_3]]),(.own 1 [[I y6]])]⟩) (fun t h=>by rw[Qa0] at h;cases h) (fun n9 ih t h=>?_) N (0,p1) h
   obtain⟨y5,y6⟩:=t
   rw[Qa0] at h
   skip
   refine wxz<|wsq ?_
   refine bfe h (fun hc10 h=>?_) fun hc10 h=>?_
   ·refine wft hc10<|Qan<|thn<|wsq<|Qag<|wxz ?_
    obtain⟨x11,hg12,h⟩:=bno h
    obtain⟨hi13,hj14⟩:=gsm hg12
    obtain⟨x16,hf15,h⟩:=bno h
    refine wx tbk [(3,rp _ _),(5,⟨_,_,_,_,false⟩)] ⟨aiq underlying171 Ql5 Qbe hi13 hj14,Qd5 (first:=[]) (cap:=[.ref 0 1 0 0]) (vs:=[(.agg [I x11.Width,I x11.Gain])]) (σr:=[(.own 1 [[z6_3]]),(.own 1 [[I y6]])]) (σr':=[(.own 1 [[z6_3]]),(Qyt x11)]) (res':=(B x16)) [0,1] rfl Q0k (Qg5 N x11 y6 _ hf15) rfl (Qco (rnc (.plain _ (NLt.agg _ (nlcc nl0))) (rnc (Qby rfl) rn0))) (slc (Qar (rnc (Qau rn0 (rnc (Qby rfl) rn0)) rn0)) (slc (Qar (rnc (.plain _ nll) rn0)) Qas)) (slc (Qar (rnc (Qau rn0 (rnc (Qft rfl) rn0)) rn0)) (slc (Qar (rnc (.plain _ nll) rn0)) Qas)) (.plain _ nll) rfl rfl rfl,tv⟩ ?_
    refine bfe h (fun hc17 h=>?_) fun hc17 h=>?_
    ·refine wft hc17<|wxz ?_
     refine wmr (mto (n:=19) (l':=[(4,I y5)]) (own':=[(.own 1 [[z6_3]]),(Qyt x11)]) [(4,I y5)] [0,1] [(.own 1 [[z6_3]]),(Qyt x11)] hq (pw pn) (qb (lc (.rn (Qau rn0 (rnc (rqr rfl) rn0))) ln) (qb (lc rwl ln) qn)))<|Qae<|Qa3<|Qak<|Qak<|Qa3<|Qak ?_
     obtain rfl:=osi h
     exact⟨_,Mor.rfl,fio [I y5] ⟨rot,tv⟩⟩
    ·exact wfn hc17<|Qan<|bln<|thn<|wxz1<|thn<|arm (mto (n:=19) [(0,(z6_0 p0)),(1,z6_1),(7,(I ((p0.length:Int)))),(8,(I (w64 (y5+1))))] [0,1] [(.own 1 [[z6_3]]),(Qyt x11)] hq (pc (rnd Qbo) (pc (.rn (Qau rn0 (rnc (rqr rfl) rn0))) (pw (pw pn)))) (qb (lc (.rn (Qau rn0 (rnc (rqr rfl) rn0))) ln) (qb (lc rwl ln) qn))) (ih (w64 (y5+1),x11.Gain) h)
   ·exact wfn hc10<|Qbi<|Qaw<|Qaw<|Qbh rfl<|thn<|⟨(y6),h,(mto (n:=19) [] [0,1] [(.own 1 [[z6_3]]),(.own 1 [[I y6]])] hq pn (qb (lc (.rn (Qau rn0 (rnc (rqr rfl) rn0))) ln) (qb (lc rwl ln) qn)))⟩
def Qbs (N:Nat) (p0:List Qa8) (p1:Int):Option (Bool×Int):=
  (Qb0 N p0 p1).bind fun x4=>
  some ((decide (x4.1≥0)),x4.2)
abbrev z5_1:AV:=.fn (.func 218) [] [(.ref 0 1 (0) 0)]
abbrev z5_2:AV:=.fn (.func 177) [] [(.ref 1 1 (0) 0)]
theorem Qev (N:Nat) (p0:List Qa8) (p1:Int) (r:(Bool×Int)) (h:Qbs N p0 p1=some r):Spec prog 217 [(.dat 2 (p0.map Qbe)),z5_1] [(.own 1 [[z5_2]]),(.own 1 [[(I p1)]])] (B r.1) [(.own 1 [[z5_2]]),(.own 1 [[(I r.2)]])]:=by
  refine sF func217 2 fun _ _ _ hq hd0=>?_
  unfold Qbs at h
  refine wxz ?_
  obtain⟨x4,hf3,h⟩:=bno h
  refine wx tbk [(2,⟨_,_,_,_,false⟩)] ⟨acq [(.dat 2 (p0.map Qbe)),z5_1] [(.own 1 [[z5_2]]),(.own 1 [[I p1]])] [(.own 1 [[z5_2]]),(.own 1 [[I x4.2]])] (I x4.1) [0,1] Q0d (Qe6 N p0 p1 _ hf3) (Qco (rnc (pld Qbo) (rnc (Qau rn0 (rnc (Qby rfl) rn0)) rn0))) (slc (Qar (rnc (Qau rn0 (rnc (Qby rfl) rn0)) rn0)) (slc (Qar (rnc (.plain _ nll) rn0)) Qas)) (slc (Qar (rnc (Qau rn0 (rnc (Qft rfl) rn0)) rn0)) (slc (Qar (rnc (.plain _ nll) rn0)) Qas)) (.plain _ nll),tv⟩ ?_
  refine wmr (mto (n:=9) (l':=[(4,(B ((decide (x4.1≥0)))))]) (own':=[(.own 1 [[z5_2]]),(.own 1 [[I x4.2]])]) [(4,(B ((decide (x4.1≥0)))))] [0,1] [(.own 1 [[z5_2]]),(.own 1 [[I x4.2]])] hq (pw pn) (qb (lc (.rn (Qau rn0 (rnc (rqr rfl) rn0))) ln) (qb (lc rwl ln) qn)))<|Qae ?_
  obtain rfl:=osi h
  exact⟨_,Mor.rfl,fio [(B ((decide (x4.1≥0))))] ⟨rot,tv⟩⟩
def Qed (N:Nat) (p0:List Qa8) (p1:Int):Option (Bool×Int):=
  (Qbs N p0 p1).bind fun x4=>
  some ((!x4.1),x4.2)
abbrev z4_0:AV:=.fn (.func 177) [] [(.ref 0 1 (0) 0)]
def z4_2:AV:=.fn (.func 218) [] [(.ref 1 1 (0) 0)]
theorem Qhn (N:Nat) (p0:List Qa8) (p1:Int) (r:(Bool×Int)) (h:Qed N p0 p1=some r):Spec prog 176 [(.dat 2 (p0.map Qbe)),z4_0] [(.own 1 [[(I p1)]])] (B r.1) [(.own 1 [[(I r.2)]])]:=by
  refine sF func176 1 fun _ _ _ hq hd0=>?_
  unfold Qed at h
  refine wxz ?_
  obtain⟨x4,hf3,h⟩:=bno h
  refine wx tbk [(1,rp [(.tmp 3,.ref 1 1 0 0)] z4_2),(2,⟨_,_,_,_,false⟩)] ⟨Qe4 (fs:=[]) (cs:=[.ref 1 1 0 0]) rfl rfl rfl rfl,acq [(.dat 2 (p0.map Qbe)),z4_2] [(.own 1 [[z4_0]]),(.own 1 [[I p1]])] [(.own 1 [[z4_0]]),(.own 1 [[I x4.2]])] (B x4.1) [1,0] Q0l (Qev N p0 p1 _ hf3) (Qco (rnc (pld Qbo) (rnc (Qau rn0 (rnc (Qby rfl) rn0)) rn0))) (slc (Qar (rnc (Qau rn0 (rnc (Qby rfl) rn0)) rn0)) (slc (Qar (rnc (.plain _ nll) rn0)) Qas)) (slc (Qar (rnc (Qau rn0 (rnc (Qft rfl) rn0)) rn0)) (slc (Qar (rnc (.plain _ nll) rn0)) Qas)) (.plain _ nll),tv⟩ ?_
  refine wmr (mto (n:=9) (l':=[(4,(B ((!x4.1))))]) (own':=[(.own 1 [[I x4.2]])]) [(4,(B ((!x4.1))))] [0] [(.own 1 [[I x4.2]])] hq (pw pn) (qb (lc rwl ln) qn))<|Qae ?_
  obtain rfl:=osi h
  exact⟨_,Mor.rfl,fio [(B ((!x4.1)))] ⟨rot,tv⟩⟩
def Qef (N:Nat) (p0:Qah):Option Bool:=
  (Qdb N p0.Inlet 0 5).bind fun x2=>
  bif x2 then
   (Qdb N (p0.Parts.length:Int) 1 8).bind fun x5=>
   bif x5 then
    (Qed N p0.Parts 1000).bind fun x8=>
    some x8.1
   else
    some false
  else
   some false
def z2_4 (p0:Qah) (x2:Bool):List (Nat×Rec):=[(2,rp [fu 122,((.tmp 5),(I p0.Inlet)),ci 0,ci 5] (B x2))]
def z2_0 (p0:Qah):AV:=.dat 2 (p0.Parts.map Qbe)
def z2_5 p0 x2 (x5:Bool):=hcat (z2_4 p0 x2) [(3,rp [((.tmp 6),(B x2))] (B true)),(6,rp [((.tmp 7),(B true)),((.tmp 9),(z2_0 p0))] (I ((p0.Parts.length:Int)))),(7,rp [((.tmp 7),(B true)),fu 122,((.tmp 10),(I ((p0.Parts.length:Int)))),ci 1,ci 8] (B x5))]
def z2_3:AV:=.fn (.func 177) [] [(.ref 1 1 (0) 0)]
theorem Qgz (N:Nat) (p0:Qah) (r:Bool) (h:Qef N p0=some r):Spec prog 121 [(.agg (Qaj p0))] [] (B r) []:=by
  refine sA func121 0 fun _ _ _ hq hd0=>?_
  unfold Qef at h
  refine wxz<|wxz ?_
  obtain⟨x2,hf1,h⟩:=bno h
  refine hpre (A:=(z2_4 p0 x2)) ⟨apv Qhq (Qds N p0.Inlet 0 5 _ hf1) (nlcc (nlc nll nl0)) nll,tv⟩ fun q1_=>?_
  refine bfe h (fun hb3 h=>?_) fun hb3 h=>?_
  ·obtain⟨x5,hf4,h⟩:=bno h
   refine hpre (A:=(z2_5 p0 x2 x5)) (hap q1_ ⟨asb hb3 (amv rfl),ag_ (alq 2 Qbe p0.Parts underlying171),ag_ (apv Qhq (Qds N (p0.Parts.length:Int) 1 8 _ hf4) (nlcc (nlc nll nl0)) nll),tv⟩) fun q2_=>?_
   refine bfe h (fun hb6 h=>?_) fun hb6 h=>?_
   ·obtain⟨x8,hf7,h⟩:=bno h
    refine wx tbk (hcat (z2_5 p0 x2 x5) [(9,rp [(.tmp 12,B x5)] (B true)),(12,rp [(.tmp 13,B true),(.tmp 3,.ref 1 1 0 0)] z2_3),(13,⟨[(.tmp 13,B true),fu 176,(.tmp 15,(z2_0 p0)),(.tmp 16,z2_3)],[(1,.own 1 [[I 1000]])],B x8.1,[(1,.own 1 [[I x8.2]])],false⟩)]) (hap q2_ ⟨asb hb6 (amv rfl),ag_ (Qe4 (fs:=[]) (cs:=[.ref 1 1 0 0]) rfl rfl rfl rfl),ag_ (acq [(z2_0 p0),z2_3] [(.own 1 [[I 1000]])] [(.own 1 [[I x8.2]])] (B x8.1) [1] Q0z (Qhn N p0.Parts 1000 _ hf7) (Qco (rnc (pld Qbo) (rnc (Qau rn0 (rnc (Qby rfl) rn0)) rn0))) (slc (Qar (rnc (.plain _ nll) rn0)) Qas) (slc (Qar (rnc (.plain _ nll) rn0)) Qas) (.plain _ nll)),tv⟩)<|Qae ?_
    exact frb h
   ·exact wx tbk (hcat (z2_5 p0 x2 x5) [(9,rp [(.tmp 12,B x5)] (B false))]) (hap q2_ ⟨asb hb6 (amv rfl),tv⟩)<|Qae<|frb h
  ·exact wx tbk (hcat (z2_4 p0 x2) [(3,rp [(.tmp 6,B x2)] (B false))]) (hap q1_ ⟨asb hb3 (amv rfl),tv⟩)<|Qae<|frb h
def Qcx (N:Nat) (p0:Qah) (k2:Int→Option Int):Nat→Int→Int→Option Int
  |0,_,_=>none
  |n7+1,y3,y4=>
    bif (decide (y4<(p0.Parts.length:Int))) then
     (getI p0.Parts y4).bind fun x9=>
     Qcx N p0 k2 n7 (w64 (y3+x9.Width)) (w64 (y4+1))
    else
     k2 (y3)
def Qfu (N:Nat) (p0:Qah):Option Int:=
  Qb5 (fun y1=>
    some y1) fun k2:Int→Option Int=>
  Qcx N p0 k2 N 0 0
def z9_0 (p0:Qah):AV:=.dat 2 (p0.Parts.map Qbe)
theorem Qh9 (N:Nat) (p0:Qah) (r:Int) (h:Qfu N p0=some r):Spec prog 123 [(.agg (Qaj p0))] [] (I r) []:=by
  refine sA func123 0 fun _ _ _ hq hd0=>?_
  unfold Qfu at h
  refine wxz ?_
  obtain⟨k2,hk_k2,h⟩:=jko h
  refine wjn (τ:=Int) (fun t=>k2 t=some r) (fun y1=>⟨mk 18 [(2,I y1)],[]⟩) (fun y1 h=>?_) ?_
  ·subst hk_k2
   refine wxz<|Qae ?_
   obtain rfl:=osi h
   exact fend ⟨[I y1],⟨rot,tv⟩,rfl⟩ nll
  ·skip
   refine wx tbk [(2,rp _ _)] ⟨alq 2 Qbe p0.Parts underlying171,tv⟩<|Qag ?_
   refine wmr (mto (n:=18) (l':=[(2,I 0),(6,(z9_0 p0)),(7,(I ((p0.Parts.length:Int)))),(8,I 0)]) (own':=[]) [(2,I 0),(6,(z9_0 p0)),(7,(I ((p0.Parts.length:Int)))),(8,I 0)] [] [] hq (pw (pc (rnd Qbo) (pw (pw pn)))) qn) ?_
   refine Qb8 (τ:=Int×Int) (fun n t=>Qcx N p0 k2 n t.1 t.2=some r) (fun ⟨y3,y4⟩=>⟨mk 18 [(2,I y3),(6,(z9_0 p0)),(7,(I ((p0.Parts.length:Int)))),(8,I y4)],[]⟩) (fun t h=>by rw[Qcx] at h;cases h) (fun n7 ih t h=>?_) N (0,0) h
   obtain⟨y3,y4⟩:=t
   rw[Qcx] at h
   skip
   refine wxz<|wsq ?_
   refine bfe h (fun hc8 h=>?_) fun hc8 h=>?_
   ·refine wft hc8<|Qan<|thn<|wsq<|Qag ?_
    obtain⟨x9,hg10,h⟩:=bno h
    obtain⟨hi11,hj12⟩:=gsm hg10
    exact wx tbk [(0,rp _ _)] ⟨aiq underlying171 Ql5 Qbe hi11 hj12,tv⟩<|wxz1<|bln<|thn<|wxz1<|thn<|arm (mto (n:=18) [(2,(I (w64 (y3+x9.Width)))),(6,(z9_0 p0)),(7,(I ((p0.Parts.length:Int)))),(8,(I (w64 (y4+1))))] [] [] hq (pw (pc (rnd Qbo) (pw (pw pn)))) qn) (ih (w64 (y3+x9.Width),w64 (y4+1)) h)
   ·exact wfn hc8<|Qbi<|Qaw<|Qaw<|Qbh rfl<|thn<|⟨(y3),h,(mto (n:=18) [(2,I y3)] [] [] hq (pw pn) qn)⟩
def Qfk (_N:Nat) (_p0:Qah) (_p1:Int):Option Unit:=
  some ()
abbrev Qv5:AV:=.fn (.func 219) [] [(.ref 0 2 (0) 0),(.ref 1 1 (0) 0)]
abbrev Q3p (p0:Qah):Slot:=.own 2 [[(I p0.Inlet),(.dat 2 (p0.Parts.map Qbe))]]
theorem Qi8 (N:Nat) (p0:Qah) (p1:Int) (r:Unit) (h:Qfk N p0 p1=some r):Spec prog 178 [(.agg [(I p0.Inlet),(.dat 2 (p0.Parts.map Qbe))]),(I p1)] [] Qv5 [(Q3p p0),(.own 1 [[(I p1)]])]:=by
  refine sF func178 2 fun _ _ _ hq hd0=>?_
  unfold Qfk at h
  refine wxz<|wx tbk [(0,rp [(.tmp 2,.ref 0 2 0 0),(.tmp 3,.ref 1 1 0 0)] Qv5)] ⟨Qe4 (fs:=[]) (cs:=[.ref 0 2 0 0,.ref 1 1 0 0]) rfl rfl rfl rfl,tv⟩ ?_
  refine wmr (mto (n:=6) (l':=[(4,Qv5)]) (own':=[(Q3p p0),(.own 1 [[I p1]])]) [(4,Qv5)] [0,1] [(Q3p p0),(.own 1 [[I p1]])] hq (pc (.rn (Qau rn0 (rnc (rqr rfl) (rnc (rqr rfl) rn0)))) pn) (qb (lc rwl (lc (rnd Qbo) ln)) (qb (lc rwl ln) qn)))<|Qae ?_
  obtain rfl:=osi h
  exact⟨_,Mor.rfl,fio [Qv5] ⟨rot,tv⟩⟩
def Qcg (N:Nat) (p1:List Qa8):Nat→Int→Int→Option (List (Qa8×Int))
  |0,_,_=>none
  |n7+1,y1,y2=>
    bif (decide (y1<(p1.length:Int))) then
     (getI p1 y1).bind fun x9=>
     (some (if x9.Width<y2 then x9.Width else y2)).bind fun x13=>
     yld (x9,x13)<|
     Qcg N p1 n7 (w64 (y1+1)) (w64 (y2-x13))
    else
     some ([])
def Qfj (N:Nat) (_p0:Int) (p1:List Qa8) (p2:Int):Option (List (Qa8×Int)):=
  Qcg N p1 N 0 p2
abbrev Qv4 (p1:List Qa8):AV:=.dat 2 (p1.map Qbe)
abbrev Qv3 (p0:Int) (p1:List Qa8):Slot:=.own 2 [[(I p0),(Qv4 p1)]]
def Qzb (x9:Qa8):AV:=.agg [(I x9.Width),(I x9.Gain)]
theorem Qi7 (N:Nat) (p0:Int) (p1:List Qa8) (p2:Int) (r:(List (Qa8×Int))) (h:Qfj N p0 p1 p2=some r):Qm2 prog 219 [(.ref 0 2 (0) 0),(.ref 1 1 (0) 0)] [(Qv3 p0 p1),(.own 1 [[(I p2)]])] (fun x=>[(.agg #[(.int .i64 x.1.Width),(.int .i64 x.1.Gain)]),(.int .i64 x.2)]) r:=by
  refine Qnc func219 rfl rfl (fun X φ0 w0 l J hq hy=>?_)
  unfold Qfj at h
  refine wx tbk [(2,rp _ _)] ⟨alq 2 Qbe p1 underlying171,tv⟩<|Qag ?_
  refine wmr (mto (n:=27) (l':=[(0,(.lit (.func (.yield l) #[] #[]))),(2,.ref 1 1 0 0),(8,(Qv4 p1)),(9,(I ((p1.length:Int)))),(10,I 0)]) (own':=[(Qv3 p0 p1),(.own 1 [[I p2]]),(.far (J (some r)))]) [(0,(.lit (.func (.yield l) #[] #[]))),(2,.ref 1 1 0 0),(8,(Qv4 p1)),(9,(I ((p1.length:Int)))),(10,I 0)] [0,1,2] [(Qv3 p0 p1),(.own 1 [[I p2]]),(.far (J (some r)))] hq (pw (prr (pc (rnd Qbo) (pw (pw pn))))) (qb (lc rwl (lc (rnd Qbo) ln)) (qb (lc rwl ln) (qc (.far _) qn)))) ?_
  refine Qb8 (τ:=(Int×Int)×List (Qa8×Int)) (fun n t=>Qcg N p1 n t.1.1 t.1.2=some t.2) (fun ⟨⟨y1,y2⟩,q3⟩=>⟨mk 27 [(0,(.lit (.func (.yield l) #[] #[]))),(2,.ref 1 1 0 0),(8,(Qv4 p1)),(9,(I ((p1.length:Int)))),(10,I y1)],[(Qv3 p0 p1),(.own 1 [[I y2]]),(.far (J (some q3)))]⟩) (fun t h=>by rw[Qcg] at h;cases h) (fun n7 ih t h=>?_) N ((0,p2),r) h
  obtain⟨⟨y1,y2⟩,q3⟩:=t
  rw[Qcg] at h
  try dsimp only at h
  refine wxz<|wsq ?_
  refine bfe h (fun hc8 h=>?_) fun hc8 h=>?_
  ·refine wft hc8<|Qan<|thn<|wsq<|Qag ?_
   obtain⟨x9,hg10,h⟩:=bno h
   obtain⟨hi11,hj12⟩:=gsm hg10
   refine wx tbk [(0,rp _ _)] ⟨aiq underlying171 Ql5 Qbe hi11 hj12,tv⟩ ?_
   obtain⟨x13,hl14,h⟩:=bno h
   refine wx tbk [(3,rp [(.tmp 14,I y2),(.tmp 16,I x9.Width)] (I ((if x9.Width<y2 then x9.Width else y2)))),(4,rp [(.tmp 17,(I ((if x9.Width<y2 then x9.Width else y2))))] (I x13))] ⟨Qk0 rfl,Qfh hl14 (aas rfl),tv⟩<|wsq ?_
   obtain⟨q15,hy_,hq_⟩:=Qv6 h
   clear h
   subst hq_
   have h:=hy_
   clear hy_
   refine Qtb 3 [mv 0 (.lit (.func (.yield l) #[] #[])),rb [(.tmp 5,.ref 3 2 0 0)] [(3,.own 2 [[I x9.Width,I x9.Gain]])] (Qzb x9),mv 6 (I x13),⟨[(.tmp 18,(.lit (.func (.yield l) #[] #[]))),(.tmp 19,(Qzb x9)),(.tmp 20,I x13)],[(2,(.far (J (some ((x9,x13)::q15)))))],B true,[(2,(.far (J (some q15))))],false⟩,rp [(.tmp 21,B true)] (B false)] [mv 0 (.lit (.func (.yield l) #[] #[])),rb [(.tmp 5,.ref 3 2 0 0)] [(3,.own 2 [[I x9.Width,I x9.Gain]])] (Qzb x9),mv 6 (I x13),⟨[(.tmp 18,(.lit (.func (.yield l) #[] #[]))),(.tmp 19,(Qzb x9)),(.tmp 20,I x13)],[(2,(.far (J (some ((x9,x13)::q15)))))],B false,[(2,(.far (J none)))],false⟩,rp [(.tmp 21,B false)] (B true)] (by exact⟨by kernel_rfl,by kernel_rfl⟩) (by exact⟨by kernel_rfl,by kernel_rfl⟩) rfl rfl rfl rfl (Qmz (rd':=(.tmp 18,.lit (.func (.yield l) #[] #[]))::[(.tmp 19,.lit (.agg #[(.int .i64 x9.Width),(.int .i64 x9.Gain)])),(.tmp 20,.lit (.int .i64 x13))]) ⟨rfl,lrf,rfl,(Less.lits [(.int .i64 x9.Width),(.int .i64 x9.Gain)]),rfl,lrf,tv⟩ (Qlj (x:=(x9,x13)) (rest:=q15) rfl rfl hy rfl)) (⟨fun _ _=>amv rfl,fun _ _=>ald rfl Ql5 (by decide) rfl (nle rfl) rfl,fun _ _=>amv rfl,fun _ h=>absurd rfl h,fun _ _=>Qjf rfl,tv⟩) (⟨fun _ _=>amv rfl,fun _ _=>ald rfl Ql5 (by decide) rfl (nle rfl) rfl,fun _ _=>amv rfl,fun _ h=>absurd rfl h,fun _ _=>Qjf rfl,tv⟩) ?_ ?_
   ·skip
    exact wfa<|Qan<|thn<|wxz1<|bln<|thn<|wxz1<|thn<|arm (mto (n:=27) [(0,(.lit (.func (.yield l) #[] #[]))),(2,.ref 1 1 0 0),(8,(Qv4 p1)),(9,(I ((p1.length:Int)))),(10,(I (w64 (y1+1))))] [0,1,2] [(Qv3 p0 p1),(.own 1 [[(I (w64 (y2-x13)))]]),(.far (J (some q15)))] hq (pw (prr (pc (rnd Qbo) (pw (pw pn))))) (qb (lc rwl (lc (rnd Qbo) ln)) (qb (lc rwl ln) (qc (.far _) qn)))) (ih ((w64 (y1+1),w64 (y2-x13)),q15) h)
   ·clear h
    exact wtr<|Qae<|Qak<|Qa3<|Qak<|Qak<|Qa3<|Or.inr (by kernel_rfl)
  ·refine wfn hc8<|Qbi<|Qaw<|Qaw<|Qbh rfl ?_
   obtain rfl:=osi h
   exact Or.inl rfl
def Qb4 (N:Nat) (k2:Int→Option Int):(List (Qa8×Int))→Int→Option Int
  |[],y7=>
    k2 (y7)
  |x10::q11,y7=>
    Qb4 N k2 q11 (w64 (y7+(w64 (x10.1.Gain*x10.2))))
def Qeg (N:Nat) (p0:Qah) (p1:Int):Option Int:=
  Qb5 (fun y1=>
    some y1) fun k2:Int→Option Int=>
  (Qfk N p0 p1).bind fun _=>
  (Qfj N p0.Inlet p0.Parts p1).bind fun q5=>
  Qb4 N k2 q5 0
def Q56 (p0:Qah):AV:=.dat 2 (p0.Parts.map Qbe)
def Q55:AV:=.fn (.func 219) [] [(.ref 2 2 (0) 0),(.ref 3 1 (0) 0)]
def Qzc (p0:Qah):Slot:=.own 2 [[(I p0.Inlet),(Q56 p0)]]
theorem Qg0 (N:Nat) (p0:Qah) (p1 r:Int) (h:Qeg N p0 p1=some r):Spec prog 124 [(.agg (Qaj p0)),(I p1)] [] (I r) []:=by
  refine sA func124 0 fun _ _ _ hq hd0=>?_
  unfold Qeg at h
  refine wxz ?_
  obtain⟨k2,hk_k2,h⟩:=jko h
  refine wjn (τ:=Int) (fun t=>k2 t=some r) (fun y1=>⟨mk 19 [(4,.ref 0 1 0 0)],[(.own 1 [[I y1]])]⟩) (fun y1 h=>?_) ?_
  ·subst hk_k2
   refine wxz<|Qae ?_
   obtain rfl:=osi h
   exact fend ⟨[I y1],⟨Qg9 (n:=0) (m:=1) (j:=0) (i:=0) (xs:=[[I y1]]) (by kernel_rfl) (by kernel_rfl) ti3 (by decide) rfl (nle rfl) rfl,tv⟩,rfl⟩ nll
  ·skip
   obtain⟨x4,hf3,h⟩:=bno h
   refine wx tbk [(2,⟨_,_,_,_,false⟩)] ⟨acq [(.agg [I p0.Inlet,(Q56 p0)]),I p1] [] [(Qzc p0),(.own 1 [[I p1]])] Q55 [2,3] Q0x (Qi8 N p0 p1 _ hf3) (Qco (rnc (.plain _ (NLt.agg _ (nlc nll (nlc (nld Qbo _) nl0)))) (rnc (.plain _ nll) rn0))) Qas (slc (Qar (rnc (.plain _ nll) (rnc (pld Qbo) rn0))) (slc (Qar (rnc (.plain _ nll) rn0)) Qas)) (Qau rn0 (rnc (Qft rfl) (rnc (Qft rfl) rn0))),tv⟩<|Qag ?_
   obtain⟨q5,hL6,h⟩:=bno h
   refine wmr (mto (n:=19) (l':=[(4,.ref 0 1 0 0),(9,(.fn (.func 219) [] [.ref 1 2 0 0,.ref 2 1 0 0]))]) (own':=[(.own 1 [[I 0]]),(Qzc p0),(.own 1 [[I p1]])]) [(4,.ref 1 1 0 0),(9,Q55)] [1,2,3] [(.own 1 [[I 0]]),(Qzc p0),(.own 1 [[I p1]])] hq (prr (pc (.rn (Qau rn0 (rnc (rqr rfl) (rnc (rqr rfl) rn0)))) pn)) (qb (lc rwl ln) (qb (lc rwl (lc (rnd Qbo) ln)) (qb (lc rwl ln) qn)))) ?_
   refine Qnr (τ:=(Int)) (kb:=3) (caps:=[.ref 1 2 0 0,.ref 2 1 0 0]) (σr:=[(Qzc p0),(.own 1 [[I p1]])]) (encs:=fun x=>[(.agg #[(.int .i64 x.1.Width),(.int .i64 x.1.Gain)]),(.int .i64 x.2)]) (fun x=>[(.agg [I x.1.Width,I x.1.Gain]),I x.2]) [1,2] (fun n hn=>hq n (Nat.le_trans (nle rfl) hn)) hd0 (Qi7 N p0.Inlet p0.Parts p1 _ hL6) Q0j (by kernel_rfl) (by kernel_rfl) (Qco (rnc (Qft rfl) (rnc (Qft rfl) rn0))) (slc (Qar (rnc (.plain _ nll) (rnc (pld Qbo) rn0))) (slc (Qar (rnc (.plain _ nll) rn0)) Qas)) (by kernel_rfl) (fun _=>rfl) (fun x=>⟨(Less.unlits [(.int .i64 x.1.Width),(.int .i64 x.1.Gain)]),lrf,tv⟩) (Q2l (Qlu (NLt.ref _ _ _ _ (by decide)) (Qlu (NLt.fn _ _ _ nl0 (nlc (NLt.ref _ _ _ _ (by decide)) (nlc (NLt.ref _ _ _ _ (by decide)) nl0))) Qw0))) (fun y7=>[(.own 1 [[I y7]]),.dead,.dead]) (fun _=>rfl) (fun _=>rfl) (fun l t=>Qb4 N k2 l t=some r) (0) h (by kernel_rfl) ?_ ?_
   ·intro l12 o13 X16 φ17 w18 hφ15 x10 q11 y7 h
    rw[Qb4] at h
    refine wxz<|wxz1 ?_
    refine⟨by kernel_rfl,fun o14=>?_⟩
    exact Qag<|wxz1<|bln<|⟨(w64 (y7+(w64 (x10.1.Gain*x10.2)))),h,Q2j (own':=[(.own 1 [[(I ((w64 (y7+(w64 (x10.1.Gain*x10.2))))))]]),.dead,.dead,(.far (farL l12 o14))]) [0,1,2,3] [(.own 1 [[(I (w64 (y7+(w64 (x10.1.Gain*x10.2)))))]]),.dead,.dead,(.far (farL l12 o14))] (by kernel_rfl) (by kernel_rfl) ⟨(spb (lc rwl ln)),.dead,.dead,.far _,tv⟩⟩
   ·intro y7 h
    rw[Qb4] at h
    exact bln<|thn<|⟨(y7),h,(mto (n:=19) [(4,.ref 0 1 0 0)] [0] [(.own 1 [[I y7]])] hq (prr pn) (qb (lc rwl ln) qn))⟩
def Qi9 (N:Nat) (p0:Qah) (p1:Int):Option (Int×Int):=
  (Qef N p0).bind fun x2=>
  bif (!x2) then
   some (0,1)
  else
   (Qfu N p0).bind fun x5=>
   (Qdb N p1 0 x5).bind fun x7=>
   bif (!x7) then
    some (0,2)
   else
    (Qeg N p0 p1).bind fun x10=>
    some (x10,0)
theorem Qmg (N:Nat) (p0:Qah) (p1:Int) (r:(Int×Int)) (h:Qi9 N p0 p1=some r):Spec prog 74 [(.agg (Qaj p0)),(I p1)] [] (.tup [(I r.1),(I r.2)]) []:=by
  refine sA func74 0 fun _ _ _ hq hd0=>?_
  unfold Qi9 at h
  refine wxz<|wsq<|Qag ?_
  obtain⟨x2,hf1,h⟩:=bno h
  refine wx tbk [(1,rp _ _)] ⟨apw Qs0 (Qgz N p0 _ hf1),tv⟩ ?_
  refine bfe h (fun hc3 h=>?_) fun hc3 h=>?_
  ·refine wft hc3<|wxz<|Qae<|Qa3<|Qak ?_
   obtain rfl:=osi h
   exact fie [I 0,I 1] ⟨rot,rot,tv⟩
  ·refine wfn hc3 ?_
   obtain⟨x5,hf4,h⟩:=bno h
   obtain⟨x7,hf6,h⟩:=bno h
   refine wx tbk [(2,rp _ _),(3,rp _ _)] ⟨apw Q1e (Qh9 N p0 _ hf4),apw Qhq (Qds N p1 0 x5 _ hf6),tv⟩ ?_
   refine bfe h (fun hc8 h=>?_) fun hc8 h=>?_
   ·refine wft hc8<|wxz<|Qae<|Qa3<|Qak ?_
    obtain rfl:=osi h
    exact fie [I 0,I 2] ⟨rot,rot,tv⟩
   ·refine wfn hc8<|Qan<|bln<|thn ?_
    obtain⟨x10,hf9,h⟩:=bno h
    refine wx tbk [(2,rp _ _)] ⟨apw Qsz (Qg0 N p0 p1 _ hf9),tv⟩<|Qae ?_
    obtain rfl:=osi h
    exact fie [I x10,I 0] ⟨rot,rot,tv⟩
def Qeb (_N:Nat) (p0:List Int):Option Unit:=
  chk (!p0.isEmpty)<|
  chk (!p0.isEmpty)<|
  chk (decide ((0+p0.length)*8≤140737488355328))<|
  some ()
def Q52:AV:=.acc 0 3 1 ((([]:List Int):List Int).map Qab)
theorem Qhk (N:Nat) (p0:List Int) (r:Unit) (h:Qeb N p0=some r):Spec prog 158 [(.dat 1 (p0.map Qab))] [] (.own 0 1 (0) p0.length) [(.own 1 (p0.map Qab))]:=by
  refine sF func158 1 fun _ _ _ hq hd0=>?_
  unfold Qeb at h
  refine wxz<|wsq ?_
  obtain⟨hz1,h⟩:=cko h
  refine wx tbk [(1,rp [(.tmp 3,(.dat 1 (p0.map Qab))),((.const (.slice none 0 0)),nilS)] (B false))] ⟨Qru rfl underlying22 rfl (Qdc hz1),tv⟩<|wfa<|Qan<|thn ?_
  obtain⟨ha3,h⟩:=cko h
  obtain⟨ha2,h⟩:=cko h
  refine wx tbk [(0,⟨[],[(0,.unused)],Q52,[(0,.tok)],false⟩),(2,⟨[(.tmp 5,Q52),(.tmp 6,(.dat 1 (p0.map Qab)))],[(0,.tok),(1,.unused)],(.own 1 1 (0) p0.length),[(0,.dead),(1,(.own 1 (p0.map Qab)))],false⟩)] ⟨Qo7 rfl underlying22 ti3 tz3,Qup rfl underlying22 te3 (Base.acc _ _) rfl rfl (Qdc ha3) (Qkp Qab Qmj _) (Ql0 Qab ha2) (Qlz Qab ha2 (by decide)) (List.length_map _),tv⟩ ?_
  refine wmr (mto (n:=8) (l':=[(2,(.own 0 1 (0) p0.length))]) (own':=[(.own 1 (p0.map Qab))]) [(2,(.own 1 1 (0) p0.length))] [1] [(.own 1 (p0.map Qab))] hq (pc (.rn (Qal rfl)) pn) (qc (spr Qad) qn))<|Qae ?_
  obtain rfl:=osi h
  exact⟨_,Mor.rfl,fio [(.own 0 1 (0) p0.length)] ⟨rot,tv⟩⟩
def Qb7 (N:Nat) (p0:Qc2) (k5:(List Int)→Option (List Int)):Nat→Int→(List Int)→Option (List Int)
  |0,_,_=>none
  |n12+1,y8,y9=>
    bif (decide (y8≥0)) then
     chk (decide (0≤y8)&&decide (y8.toNat<p0.heads.length))<|
     (y9[y8.toNat]?).bind fun x15=>
     chk (decide (0≤w64 (y8+1))&&decide ((w64 (y8+1)).toNat<p0.heads.length))<|
     (y9[(w64 (y8+1)).toNat]?).bind fun x18=>
     chk (decide (0≤y8)&&decide (y8.toNat<p0.heads.length))<|
     (y9[y8.toNat]?).bind fun _=>
     Qb7 N p0 k5 n12 (w64 (y8-1)) (y9.set y8.toNat (w64 (x15+x18)))
    else
     k5 (y9)
def Qd8 (N:Nat) (p0:Qc2):Option (List Int):=
  (Qeb N p0.heads).bind fun _=>
  Qb5 (fun y4=>
    some y4) fun k5:(List Int)→Option (List Int)=>
  (some (w64 (((p0.heads.length:Nat):Int)-2))).bind fun x6=>
  Qb7 N p0 k5 N x6 p0.heads
abbrev Q53 (p0:Qc2):AV:=.dat 1 (p0.heads.map Qab)
def Q3o (p0:Qc2):Slot:=.own 1 (p0.heads.map Qab)
theorem Qh8 (N:Nat) (p0:Qc2) (r:List Int) (h:Qd8 N p0=some r):Spec prog 136 [(.agg [(Q53 p0),(.dat 2 (p0.units.map Qaj))])] [] (.own 0 1 (0) p0.heads.length) [(.own 1 (r.map Qab))]:=by
  refine sF func136 1 fun _ _ _ hq hd0=>?_
  unfold Qd8 at h
  refine wxz ?_
  obtain⟨x3,hf2,h⟩:=bno h
  refine wx tbk [(2,⟨_,_,_,_,false⟩)] ⟨acq [(Q53 p0)] [] [(Q3o p0)] (.own 1 1 (0) p0.heads.length) [1] Q00 (Qhk N p0.heads _ hf2) (Qco (rnc (pld Qad) rn0)) Qas (slc (Qcu Qad) Qas) (Qq5 rfl),tv⟩ ?_
  obtain⟨k5,hk_k5,h⟩:=jko h
  refine wjn (τ:=(List Int)) (fun t=>k5 t=some r) (fun y4=>⟨mk 27 [(3,(.own 0 1 (0) p0.heads.length))],[(.own 1 (y4.map Qab))]⟩) (fun y4 h=>?_) ?_
  ·subst hk_k5
   refine wxz<|wmr (mto (n:=27) (l':=[(2,(.own 0 1 (0) p0.heads.length))]) (own':=[(.own 1 (y4.map Qab))]) [(2,(.own 0 1 (0) p0.heads.length))] [0] [(.own 1 (y4.map Qab))] hq (pc (.rn (Qal rfl)) pn) (qc (spr Qad) qn))<|Qae ?_
   obtain rfl:=osi h
   exact⟨_,Mor.rfl,fio [(.own 0 1 (0) p0.heads.length)] ⟨rot,tv⟩⟩
  ·skip
   obtain⟨x6,hl7,h⟩:=bno h
   refine wx tbk [(1,rp [(.tmp 8,(.own 1 1 (0) p0.heads.length))] (I (((p0.heads.length:Nat):Int)))),(3,rp [(.tmp 10,(I (w64 (((p0.heads.length:Nat):Int)-2))))] (I x6))] ⟨aln rfl underlying22 rfl,Qfh hl7 (aas rfl),tv⟩<|Qag ?_
   refine wmr (mto (n:=27) (l':=[(3,(.own 0 1 (0) p0.heads.length)),(4,I x6)]) (own':=[(Q3o p0)]) [(3,(.own 1 1 (0) p0.heads.length)),(4,I x6)] [1] [(Q3o p0)] hq (pc (.rn (Qal rfl)) (pw pn)) (qc (spr Qad) qn)) ?_
   refine Qb8 (τ:=Int×(List Int)) (fun n t=>Qb7 N p0 k5 n t.1 t.2=some r) (fun ⟨y8,y9⟩=>⟨mk 27 [(3,(.own 0 1 (0) p0.heads.length)),(4,I y8)],[(.own 1 (y9.map Qab))]⟩) (fun t h=>by rw[Qb7] at h;cases h) (fun n12 ih t h=>?_) N (x6,p0.heads) h
   obtain⟨y8,y9⟩:=t
   rw[Qb7] at h
   skip
   refine wsq<|wxz ?_
   refine bfe h (fun hc13 h=>?_) fun hc13 h=>?_
   ·refine wft hc13<|Qan<|thn<|wsq<|Qag ?_
    obtain⟨hi14,h⟩:=cko h
    obtain⟨hi14a,hi14b⟩:=Qcb hi14
    obtain⟨x15,hg16,h⟩:=bno h
    obtain⟨hi17,h⟩:=cko h
    obtain⟨hi17a,hi17b⟩:=Qcb hi17
    obtain⟨x18,hg19,h⟩:=bno h
    obtain⟨hi20,h⟩:=cko h
    obtain⟨hi20a,hi20b⟩:=Qcb hi20
    obtain⟨x21,hg22,h⟩:=bno h
    refine wy1 tbk [(2,rb [(.tmp 15,(.own 0 1 (0) p0.heads.length)),(.tmp 16,I y8)] [(0,(.own 1 (y9.map Qab)))] (.ref 0 1 y8.toNat 0)),(3,rb [(.tmp 17,(.ref 0 1 y8.toNat 0))] [(0,(.own 1 (y9.map Qab)))] (I x15)),(7,rb [(.tmp 19,(.own 0 1 (0) p0.heads.length)),(.tmp 21,(I (w64 (y8+1))))] [(0,(.own 1 (y9.map Qab)))] (.ref 0 1 ((w64 (y8+1)).toNat) 0)),(8,rb [(.tmp 22,(.ref 0 1 ((w64 (y8+1)).toNat) 0))] [(0,(.own 1 (y9.map Qab)))] (I x18)),(10,rb [(.tmp 15,(.own 0 1 (0) p0.heads.length)),(.tmp 16,I y8)] [(0,(.own 1 (y9.map Qab)))] (.ref 0 1 y8.toNat 0)),(11,⟨[(.tmp 25,(.ref 0 1 y8.toNat 0)),(.tmp 24,(I (w64 (x15+x18))))],[(0,(.own 1 (y9.map Qab)))],.any,[(0,(.own 1 ((y9.set y8.toNat (w64 (x15+x18)):List Int).map Qab)))],false⟩)] ⟨aio rfl underlying22 ti3 (odt hi14a) (odt hi14b) (Nat.zero_add _),ald rfl ti3 (by decide) (mgt Qab hg16) (nle rfl) rfl,aio rfl underlying22 ti3 (odt hi17a) (odt hi17b) (Nat.zero_add _),ald rfl ti3 (by decide) (mgt Qab hg19) (nle rfl) rfl,aio rfl underlying22 ti3 (odt hi20a) (odt hi20b) (Nat.zero_add _),ast rfl ti3 (by rfl) (mgt Qab hg22) (nle rfl) (Qf8 Qab rfl),tv⟩<|bln<|thn<|wxz1<|thn ?_
    exact arm (mto (n:=27) [(3,(.own 0 1 (0) p0.heads.length)),(4,(I (w64 (y8-1))))] [0] [(.own 1 ((y9.set y8.toNat (w64 (x15+x18)):List Int).map Qab))] hq (pc (.rn (Qal rfl)) (pw pn)) (qc (spr Qad) qn)) (ih (w64 (y8-1),y9.set y8.toNat (w64 (x15+x18))) h)
   ·exact wfn hc13<|Qbi<|Qaw<|Qaw<|Qbh rfl<|thn<|⟨(y9),h,(mto (n:=27) [(3,(.own 0 1 (0) p0.heads.length))] [0] [(.own 1 (y9.map Qab))] hq (pc (.rn (Qal rfl)) pn) (qc (spr Qad) qn))⟩
def Qd9 (_N:Nat) (p0:Qaa):Option Int:=
  some p0.Part.Gain
theorem Qga (N:Nat) (p0:Qaa) (r:Int) (h:Qd9 N p0=some r):Spec prog 138 [(.agg (Qac p0))] [] (I r) []:=by
  refine sA func138 0 fun _ _ _ hq hd0=>?_
  unfold Qd9 at h
  refine wxz<|wxz<|Qae ?_
  obtain rfl:=osi h
  exact fend ⟨[I p0.Part.Gain],⟨rot,tv⟩,rfl⟩ nll
def Qbj (N:Nat) (p0 p1:Qaa):Option Int:=
  (Qd9 N (⟨p1.unit,(⟨p1.Part.Width,p1.Part.Gain⟩:Qa8)⟩:Qaa)).bind fun x3=>
  (Qd9 N (⟨p0.unit,(⟨p0.Part.Width,p0.Part.Gain⟩:Qa8)⟩:Qaa)).bind fun x5=>
  some (w64 (x3-x5))
abbrev Q7c (p0:Qaa):AV:=.agg [(I p0.unit),(I p0.Part.Width),(I p0.Part.Gain)]
abbrev Q7b (p1:Qaa):AV:=.agg [(I p1.unit),(I p1.Part.Width),(I p1.Part.Gain)]
abbrev Qza:Slot:=.own 1 [[(.fn (.func 138) [] [])]]
theorem Qcs (N:Nat) (p0 p1:Qaa) (r:Int) (h:Qbj N p0 p1=some r):Spec prog 190 [(Q7c p0),(Q7b p1),(.ref 0 1 (0) 0)] [Qza] (I r) [Qza]:=by
  refine sF func190 1 fun _ _ _ hq hd0=>?_
  unfold Qbj at h
  refine wxz ?_
  obtain⟨x3,hf2,h⟩:=bno h
  obtain⟨x5,hf4,h⟩:=bno h
  refine wxd tbk [(2,rp _ _),(5,rp _ _)] ⟨apw Qsy (Qga N (⟨p1.unit,(⟨p1.Part.Width,p1.Part.Gain⟩:Qa8)⟩:Qaa) _ hf2),apw Qsy (Qga N (⟨p0.unit,(⟨p0.Part.Width,p0.Part.Gain⟩:Qa8)⟩:Qaa) _ hf4),tv⟩ ?_
  refine wmr (mto (n:=13) (l':=[(5,(I ((w64 (x3-x5)))))]) (own':=[Qza]) [(5,(I (w64 (x3-x5))))] [0] [Qza] hq (pw pn) (qb (lc (.rn (Qau rn0 rn0)) ln) qn))<|Qae ?_
  obtain rfl:=osi h
  exact⟨_,Mor.rfl,fio [(I (w64 (x3-x5)))] ⟨rot,tv⟩⟩
def Qay (N p0:Nat) (p1:Int) (k9:(List Qaa)→Option (List Qaa)):Nat→Int→(List Qaa)→Option (List Qaa)
  |0,_,_=>none
  |n14+1,y10,y11=>
    Qb5 (fun _=>
      chk (decide (0≤w64 (y10-1))&&decide ((w64 (y10-1)).toNat<p0))<|
      (y11[(w64 (y10-1)).toNat]?).bind fun x17=>
      chk (decide (0≤y10)&&decide (y10.toNat<p0))<|
      (y11[y10.toNat]?).bind fun x20=>
      chk (decide (0≤y10)&&decide (y10.toNat<p0))<|
      (y11[y10.toNat]?).bind fun _=>
      chk (decide (0≤w64 (y10-1))&&decide ((w64 (y10-1)).toNat<p0))<|
      ((y11.set y10.toNat (⟨x17.unit,(⟨x17.Part.Width,x17.Part.Gain⟩:Qa8)⟩:Qaa))[(w64 (y10-1)).toNat]?).bind fun _=>
      Qay N p0 p1 k9 n14 (w64 (y10-1)) ((y11.set y10.toNat (⟨x17.unit,(⟨x17.Part.Width,x17.Part.Gain⟩:Qa8)⟩:Qaa)).set ((w64 (y10-1)).toNat) (⟨x20.unit,(⟨x20.Part.Width,x20.Part.Gain⟩:Qa8)⟩:Qaa))) fun k15:Unit→Option (List Qaa)=>
    bif (decide (y10>p1)) then
     chk (decide (0≤y10)&&decide (y10.toNat<p0))<|
     (y11[y10.toNat]?).bind fun x30=>
     chk (decide (0≤w64 (y10-1))&&decide ((w64 (y10-1)).toNat<p0))<|
     (y11[(w64 (y10-1)).toNat]?).bind fun x33=>
     (Qbj N (⟨x30.unit,(⟨x30.Part.Width,x30.Part.Gain⟩:Qa8)⟩:Qaa) (⟨x33.unit,(⟨x33.Part.Width,x33.Part.Gain⟩:Qa8)⟩:Qaa)).bind fun x36=>
     bif (decide (x36<0)) then
      k15 ()
     else
      k9 (y11)
    else
     k9 (y11)
def Qao (N p0:Nat) (p1 p2:Int):Nat→Int→(List Qaa)→Option (List Qaa)
  |0,_,_=>none
  |n6+1,y2,y3=>
    bif (decide (y2<p2)) then
     Qb5 (fun y8=>
       Qao N p0 p1 p2 n6 (w64 (y2+1)) y8) fun k9:(List Qaa)→Option (List Qaa)=>
     Qay N p0 p1 k9 N y2 y3
    else
     some y3
def Qa9 (N p0:Nat) (p1 p2:Int) (p3:List Qaa):Option (List Qaa):=
  Qao N p0 p1 p2 N (w64 (p1+1)) p3
abbrev Qjt:AV:=.fn (.func 190) [] [(.ref 1 1 (0) 0)]
abbrev Qhs:Slot:=.own 1 [[(.fn (.func 138) [] [])]]
def Qpc (y3:List Qaa):Slot:=.own 3 (y3.map Qac)
def Qfy (y11:List Qaa):Slot:=.own 3 (y11.map Qac)
def Q5y (x17:Qaa):AV:=.agg [(I x17.unit),(I x17.Part.Width),(I x17.Part.Gain)]
def Q2a (x20:Qaa):AV:=.agg [(I x20.unit),(I x20.Part.Width),(I x20.Part.Gain)]
def Qqu (y11:List Qaa) (y10:Int) (x17:Qaa):Slot:=.own 3 ((y11.set y10.toNat (⟨x17.unit,(⟨x17.Part.Width,x17.Part.Gain⟩:Qa8)⟩:Qaa):List Qaa).map Qac)
def Qv2 (y11:List Qaa) (y10:Int) (x17 x20:Qaa):Slot:=.own 3 (((y11.set y10.toNat (⟨x17.unit,(⟨x17.Part.Width,x17.Part.Gain⟩:Qa8)⟩:Qaa)).set ((w64 (y10-1)).toNat) (⟨x20.unit,(⟨x20.Part.Width,x20.Part.Gain⟩:Qa8)⟩:Qaa):List Qaa).map Qac)
def Q19 (x30:Qaa):AV:=.agg [(I x30.unit),(I x30.Part.Width),(I x30.Part.Gain)]
def Qv1 (x33:Qaa):AV:=.agg [(I x33.unit),(I x33.Part.Width),(I x33.Part.Gain)]
theorem Qde (N p0:Nat) (p1 p2:Int) (p3 r:List Qaa) (h:Qa9 N p0 p1 p2 p3=some r):Spec prog 237 [(.own 0 3 (0) p0),(I p1),(I p2),Qjt] [(.own 3 (p3.map Qac)),Qhs] (.tup []) [(.own 3 (r.map Qac)),Qhs]:=by
  refine sF func237 2 fun _ _ _ hq hd0=>?_
  unfold Qa9 at h
  refine wxz<|Qag ?_
  refine wmr (mto (n:=53) (l':=[(0,(.own 0 3 (0) p0)),(1,I p1),(2,I p2),(3,Qjt),(8,(I ((w64 (p1+1)))))]) (own':=[(.own 3 (p3.map Qac)),Qhs]) [(0,(.own 0 3 (0) p0)),(1,I p1),(2,I p2),(3,Qjt),(8,(I (w64 (p1+1))))] [0,1] [(.own 3 (p3.map Qac)),Qhs] hq (pc (.rn (Qal rfl)) (pw (pw (pc (.rn (Qau rn0 (rnc (rqr rfl) rn0))) (pw pn))))) (qc (spr Qaf) (qb (lc (.rn (Qau rn0 rn0)) ln) qn))) ?_
  refine Qb8 (τ:=Int×(List Qaa)) (fun n t=>Qao N p0 p1 p2 n t.1 t.2=some r) (fun ⟨y2,y3⟩=>⟨mk 53 [(0,(.own 0 3 (0) p0)),(1,I p1),(2,I p2),(3,Qjt),(8,I y2)],[(Qpc y3),Qhs]⟩) (fun t h=>by rw[Qao] at h;cases h) (fun n6 ih t h=>?_) N (w64 (p1+1),p3) h
  obtain⟨y2,y3⟩:=t
  rw[Qao] at h
  skip
  refine wsq<|wxz ?_
  refine bfe h (fun hc7 h=>?_) fun hc7 h=>?_
  ·refine wft hc7<|Qan<|thn ?_
   obtain⟨k9,hk_k9,h⟩:=jko h
   refine wjn (τ:=(List Qaa)) (fun t=>k9 t=some r) (fun y8=>⟨mk 53 [(0,(.own 0 3 (0) p0)),(1,I p1),(2,I p2),(3,Qjt),(8,I y2)],[(.own 3 (y8.map Qac)),Qhs]⟩) (fun y8 h=>?_) ?_
   ·subst hk_k9
    exact wxz1<|thn<|arm (mto (n:=53) [(0,(.own 0 3 (0) p0)),(1,I p1),(2,I p2),(3,Qjt),(8,(I (w64 (y2+1))))] [0,1] [(.own 3 (y8.map Qac)),Qhs] hq (pc (.rn (Qal rfl)) (pw (pw (pc (.rn (Qau rn0 (rnc (rqr rfl) rn0))) (pw pn))))) (qc (spr Qaf) (qb (lc (.rn (Qau rn0 rn0)) ln) qn))) (ih (w64 (y2+1),y8) h)
   ·skip
    refine Qag<|wxz<|Qag ?_
    refine wmr (mto (n:=53) (l':=[(0,(.own 0 3 (0) p0)),(1,I p1),(2,I p2),(3,Qjt),(8,I y2),(9,I y2)]) (own':=[(Qpc y3),Qhs]) [(0,(.own 0 3 (0) p0)),(1,I p1),(2,I p2),(3,Qjt),(8,I y2),(9,I y2)] [0,1] [(Qpc y3),Qhs] hq (pc (.rn (Qal rfl)) (pw (pw (pc (.rn (Qau rn0 (rnc (rqr rfl) rn0))) (pw (pw pn)))))) (qc (spr Qaf) (qb (lc (.rn (Qau rn0 rn0)) ln) qn))) ?_
    refine Qb8 (τ:=Int×(List Qaa)) (fun n t=>Qay N p0 p1 k9 n t.1 t.2=some r) (fun ⟨y10,y11⟩=>⟨mk 53 [(0,(.own 0 3 (0) p0)),(1,I p1),(2,I p2),(3,Qjt),(8,I y2),(9,I y10)],[(Qfy y11),Qhs]⟩) (fun t h=>by rw[Qay] at h;cases h) (fun n14 ih t h=>?_) N (y2,y3) h
    obtain⟨y10,y11⟩:=t
    rw[Qay] at h
    skip
    obtain⟨k15,hk_k15,h⟩:=jko h
    refine wjn (τ:=Unit) (fun t=>k15 t=some r) (fun _=>⟨mk 53 [(0,(.own 0 3 (0) p0)),(1,I p1),(2,I p2),(3,Qjt),(8,I y2),(9,I y10)],[(Qfy y11),Qhs]⟩) (fun t h=>?_) ?_
    ·subst hk_k15
     refine wsq<|Qag ?_
     obtain⟨hi16,h⟩:=cko h
     obtain⟨hi16a,hi16b⟩:=Qcb hi16
     obtain⟨x17,hg18,h⟩:=bno h
     obtain⟨hi19,h⟩:=cko h
     obtain⟨hi19a,hi19b⟩:=Qcb hi19
     obtain⟨x20,hg21,h⟩:=bno h
     obtain⟨hi22,h⟩:=cko h
     obtain⟨hi22a,hi22b⟩:=Qcb hi22
     obtain⟨x23,hg24,h⟩:=bno h
     obtain⟨hi25,h⟩:=cko h
     obtain⟨hi25a,hi25b⟩:=Qcb hi25
     obtain⟨x26,hg27,h⟩:=bno h
     refine wy1 tbk [(8,rb [(.tmp 42,(.own 0 3 (0) p0)),(.tmp 44,(I (w64 (y10-1))))] [(0,(Qfy y11))] (.ref 0 3 ((w64 (y10-1)).toNat) 0)),(9,rb [(.tmp 45,(.ref 0 3 ((w64 (y10-1)).toNat) 0))] [(0,(Qfy y11))] (Q5y x17)),(12,rb [(.tmp 47,(.own 0 3 (0) p0)),(.tmp 48,I y10)] [(0,(Qfy y11))] (.ref 0 3 y10.toNat 0)),(13,rb [(.tmp 49,(.ref 0 3 y10.toNat 0))] [(0,(Qfy y11))] (Q2a x20)),(14,rb [(.tmp 37,(.own 0 3 (0) p0)),(.tmp 38,I y10)] [(0,(Qfy y11))] (.ref 0 3 y10.toNat 0)),(15,⟨[(.tmp 51,(.ref 0 3 y10.toNat 0)),(.tmp 46,(Q5y x17))],[(0,(Qfy y11))],.any,[(0,(Qqu y11 y10 x17))],false⟩),(16,rb [(.tmp 39,(.own 0 3 (0) p0)),(.tmp 41,(I (w64 (y10-1))))] [(0,(Qqu y11 y10 x17))] (.ref 0 3 ((w64 (y10-1)).toNat) 0)),(17,⟨[(.tmp 52,(.ref 0 3 ((w64 (y10-1)).toNat) 0)),(.tmp 50,(Q2a x20))],[(0,(Qqu y11 y10 x17))],.any,[(0,(Qv2 y11 y10 x17 x20))],false⟩)] ⟨aio rfl underlying239 Qd1 (odt hi16a) (odt hi16b) (Nat.zero_add _),ald rfl Qd1 (by decide) (mgt Qac hg18) (nle rfl) rfl,aio rfl underlying239 Qd1 (odt hi19a) (odt hi19b) (Nat.zero_add _),ald rfl Qd1 (by decide) (mgt Qac hg21) (nle rfl) rfl,aio rfl underlying239 Qd1 (odt hi22a) (odt hi22b) (Nat.zero_add _),ast rfl Qd1 (by rfl) (mgt Qac hg24) (nle rfl) (Qf8 Qac rfl),aio rfl underlying239 Qd1 (odt hi25a) (odt hi25b) (Nat.zero_add _),ast rfl Qd1 (by rfl) (mgt Qac hg27) (nle rfl) (Qf8 Qac rfl),tv⟩<|bln<|thn<|wxz1<|thn ?_
     exact arm (mto (n:=53) [(0,(.own 0 3 (0) p0)),(1,I p1),(2,I p2),(3,Qjt),(8,I y2),(9,(I (w64 (y10-1))))] [0,1] [(Qv2 y11 y10 x17 x20),Qhs] hq (pc (.rn (Qal rfl)) (pw (pw (pc (.rn (Qau rn0 (rnc (rqr rfl) rn0))) (pw (pw pn)))))) (qc (spr Qaf) (qb (lc (.rn (Qau rn0 rn0)) ln) qn))) (ih (w64 (y10-1),(y11.set y10.toNat (⟨x17.unit,(⟨x17.Part.Width,x17.Part.Gain⟩:Qa8)⟩:Qaa)).set ((w64 (y10-1)).toNat) (⟨x20.unit,(⟨x20.Part.Width,x20.Part.Gain⟩:Qa8)⟩:Qaa)) h)
    ·skip
     refine bfe h (fun hb28 h=>?_) fun hb28 h=>?_
     ·obtain⟨hi29,h⟩:=cko h
      obtain⟨hi29a,hi29b⟩:=Qcb hi29
      obtain⟨x30,hg31,h⟩:=bno h
      obtain⟨hi32,h⟩:=cko h
      obtain⟨hi32a,hi32b⟩:=Qcb hi32
      obtain⟨x33,hg34,h⟩:=bno h
      obtain⟨x36,hf35,h⟩:=bno h
      refine wxd tbk [(3,rp [(.tmp 20,(B ((decide (y10>p1)))))] (B true)),(7,rb [(.tmp 21,B true),(.tmp 23,(.own 0 3 (0) p0)),(.tmp 24,I y10)] [(0,(Qfy y11))] (.ref 0 3 y10.toNat 0)),(8,rb [(.tmp 21,B true),(.tmp 25,(.ref 0 3 y10.toNat 0))] [(0,(Qfy y11))] (Q19 x30)),(12,rb [(.tmp 21,B true),(.tmp 27,(.own 0 3 (0) p0)),(.tmp 29,(I (w64 (y10-1))))] [(0,(Qfy y11))] (.ref 0 3 ((w64 (y10-1)).toNat) 0)),(13,rb [(.tmp 21,B true),(.tmp 30,(.ref 0 3 ((w64 (y10-1)).toNat) 0))] [(0,(Qfy y11))] (Qv1 x33)),(14,⟨[(.tmp 21,B true),(.tmp 22,Qjt),(.tmp 26,(Q19 x30)),(.tmp 31,(Qv1 x33))],[(1,Qhs)],I x36,[(1,Qhs)],false⟩)] ⟨asb hb28 (amv rfl),ag_ (aio rfl underlying239 Qd1 (odt hi29a) (odt hi29b) (Nat.zero_add _)),ag_ (ald rfl Qd1 (by decide) (mgt Qac hg31) (nle rfl) rfl),ag_ (aio rfl underlying239 Qd1 (odt hi32a) (odt hi32b) (Nat.zero_add _)),ag_ (ald rfl Qd1 (by decide) (mgt Qac hg34) (nle rfl) rfl),ag_ (Qd5 (first:=[]) (cap:=[.ref 1 1 0 0]) (vs:=[(.agg [(I ((⟨x30.unit,(⟨x30.Part.Width,x30.Part.Gain⟩:Qa8)⟩:Qaa).unit)),(I ((⟨x30.unit,(⟨x30.Part.Width,x30.Part.Gain⟩:Qa8)⟩:Qaa).Part.Width)),(I ((⟨x30.unit,(⟨x30.Part.Width,x30.Part.Gain⟩:Qa8)⟩:Qaa).Part.Gain))]),(.agg [(I ((⟨x33.unit,(⟨x33.Part.Width,x33.Part.Gain⟩:Qa8)⟩:Qaa).unit)),(I ((⟨x33.unit,(⟨x33.Part.Width,x33.Part.Gain⟩:Qa8)⟩:Qaa).Part.Width)),(I ((⟨x33.unit,(⟨x33.Part.Width,x33.Part.Gain⟩:Qa8)⟩:Qaa).Part.Gain))])]) (σr:=[Qhs]) (σr':=[Qhs]) (res':=(I x36)) [1] rfl Qlx (Qcs N (⟨x30.unit,(⟨x30.Part.Width,x30.Part.Gain⟩:Qa8)⟩:Qaa) (⟨x33.unit,(⟨x33.Part.Width,x33.Part.Gain⟩:Qa8)⟩:Qaa) _ hf35) rfl (Qco (rnc (.plain _ (NLt.agg _ (nlcc (nlc nll nl0)))) (rnc (.plain _ (NLt.agg _ (nlcc (nlc nll nl0)))) (rnc (Qby rfl) rn0)))) (slc (Qar (rnc (.plain _ (NLt.fn _ _ _ nl0 nl0)) rn0)) Qas) (slc (Qar (rnc (.plain _ (NLt.fn _ _ _ nl0 nl0)) rn0)) Qas) (.plain _ nll) rfl rfl rfl),tv⟩ ?_
      refine bfe h (fun hc37 h=>?_) fun hc37 h=>?_
      ·exact wft hc37<|Qan<|thn<|⟨(),h,(mto (n:=53) [(0,(.own 0 3 (0) p0)),(1,I p1),(2,I p2),(3,Qjt),(8,I y2),(9,I y10)] [0,1] [(Qfy y11),Qhs] hq (pc (.rn (Qal rfl)) (pw (pw (pc (.rn (Qau rn0 (rnc (rqr rfl) rn0))) (pw (pw pn)))))) (qc (spr Qaf) (qb (lc (.rn (Qau rn0 rn0)) ln) qn)))⟩
      ·exact wfn hc37<|Qbi<|Qaw<|Qaw<|Qbh rfl<|bln<|thn<|⟨(y11),h,(mto (n:=53) [(0,(.own 0 3 (0) p0)),(1,I p1),(2,I p2),(3,Qjt),(8,I y2)] [0,1] [(Qfy y11),Qhs] hq (pc (.rn (Qal rfl)) (pw (pw (pc (.rn (Qau rn0 (rnc (rqr rfl) rn0))) (pw pn))))) (qc (spr Qaf) (qb (lc (.rn (Qau rn0 rn0)) ln) qn)))⟩
     ·exact wxd tbk [(3,rp [(.tmp 20,(B ((decide (y10>p1)))))] (B false))] ⟨asb hb28 (amv rfl),tv⟩<|wfa<|Qbi<|Qaw<|Qaw<|Qbh rfl<|bln<|thn<|⟨(y11),h,(mto (n:=53) [(0,(.own 0 3 (0) p0)),(1,I p1),(2,I p2),(3,Qjt),(8,I y2)] [0,1] [(Qfy y11),Qhs] hq (pc (.rn (Qal rfl)) (pw (pw (pc (.rn (Qau rn0 (rnc (rqr rfl) rn0))) (pw pn))))) (qc (spr Qaf) (qb (lc (.rn (Qau rn0 rn0)) ln) qn)))⟩
  ·refine wfn hc7<|Qbi<|Qaw<|Qaw<|Qbh rfl ?_
   obtain rfl:=osi h
   exact⟨_,(mto (n:=53) (l':=[]) (own':=[(Qpc y3),Qhs]) [] [0,1] [(Qpc y3),Qhs] hq pn (qc (spr Qaf) (qb (lc (.rn (Qau rn0 rn0)) ln) qn))),fio [] tv⟩
def Qa4 (N p0:Nat) (p1 p2 p3:Int):Nat→Int→(List Qaa)→Option (List Qaa)
  |0,_,_=>none
  |n6+1,y2,y3=>
    bif (decide (y2<p3)) then
     chk (decide (0≤w64 (p2+y2))&&decide ((w64 (p2+y2)).toNat<p0))<|
     (y3[(w64 (p2+y2)).toNat]?).bind fun x9=>
     chk (decide (0≤w64 (p1+y2))&&decide ((w64 (p1+y2)).toNat<p0))<|
     (y3[(w64 (p1+y2)).toNat]?).bind fun x12=>
     chk (decide (0≤w64 (p1+y2))&&decide ((w64 (p1+y2)).toNat<p0))<|
     (y3[(w64 (p1+y2)).toNat]?).bind fun _=>
     chk (decide (0≤w64 (p2+y2))&&decide ((w64 (p2+y2)).toNat<p0))<|
     ((y3.set ((w64 (p1+y2)).toNat) (⟨x9.unit,(⟨x9.Part.Width,x9.Part.Gain⟩:Qa8)⟩:Qaa))[(w64 (p2+y2)).toNat]?).bind fun _=>
     Qa4 N p0 p1 p2 p3 n6 (w64 (y2+1)) ((y3.set ((w64 (p1+y2)).toNat) (⟨x9.unit,(⟨x9.Part.Width,x9.Part.Gain⟩:Qa8)⟩:Qaa)).set ((w64 (p2+y2)).toNat) (⟨x12.unit,(⟨x12.Part.Width,x12.Part.Gain⟩:Qa8)⟩:Qaa))
    else
     some y3
def Qbc (N p0:Nat) (p1 p2 p3:Int) (p4:List Qaa):Option (List Qaa):=
  Qa4 N p0 p1 p2 p3 N 0 p4
abbrev Qld:Slot:=.own 1 [[(.fn (.func 138) [] [])]]
def Qkd (y3:List Qaa):Slot:=.own 3 (y3.map Qac)
def Q18 (x9:Qaa):AV:=.agg [(I x9.unit),(I x9.Part.Width),(I x9.Part.Gain)]
def Q17 (x12:Qaa):AV:=.agg [(I x12.unit),(I x12.Part.Width),(I x12.Part.Gain)]
def Qvu (y3:List Qaa) (p1 y2:Int) (x9:Qaa):Slot:=.own 3 ((y3.set ((w64 (p1+y2)).toNat) (⟨x9.unit,(⟨x9.Part.Width,x9.Part.Gain⟩:Qa8)⟩:Qaa):List Qaa).map Qac)
def Q16 (y3:List Qaa) (p1 y2:Int) (x9:Qaa) (p2:Int) (x12:Qaa):Slot:=.own 3 (((y3.set ((w64 (p1+y2)).toNat) (⟨x9.unit,(⟨x9.Part.Width,x9.Part.Gain⟩:Qa8)⟩:Qaa)).set ((w64 (p2+y2)).toNat) (⟨x12.unit,(⟨x12.Part.Width,x12.Part.Gain⟩:Qa8)⟩:Qaa):List Qaa).map Qac)
theorem Qcp (N p0:Nat) (p1 p2 p3:Int) (p4 r:List Qaa) (h:Qbc N p0 p1 p2 p3 p4=some r):Spec prog 245 [(.own 0 3 (0) p0),(I p1),(I p2),(I p3),(.fn (.func 190) [] [(.ref 1 1 (0) 0)])] [(.own 3 (p4.map Qac)),Qld] (.tup []) [(.own 3 (r.map Qac)),Qld]:=by
  refine sF func245 2 fun _ _ _ hq hd0=>?_
  unfold Qbc at h
  refine wxz<|Qag ?_
  refine wmr (mto (n:=38) (l':=[(0,(.own 0 3 (0) p0)),(1,I p1),(2,I p2),(3,I p3),(10,I 0)]) (own':=[(.own 3 (p4.map Qac)),Qld]) [(0,(.own 0 3 (0) p0)),(1,I p1),(2,I p2),(3,I p3),(10,I 0)] [0,1] [(.own 3 (p4.map Qac)),Qld] hq (pc (.rn (Qal rfl)) (pw (pw (pw (pw pn))))) (qc (spr Qaf) (qb (lc (.rn (Qau rn0 rn0)) ln) qn))) ?_
  refine Qb8 (τ:=Int×(List Qaa)) (fun n t=>Qa4 N p0 p1 p2 p3 n t.1 t.2=some r) (fun ⟨y2,y3⟩=>⟨mk 38 [(0,(.own 0 3 (0) p0)),(1,I p1),(2,I p2),(3,I p3),(10,I y2)],[(Qkd y3),Qld]⟩) (fun t h=>by rw[Qa4] at h;cases h) (fun n6 ih t h=>?_) N (0,p4) h
  obtain⟨y2,y3⟩:=t
  rw[Qa4] at h
  skip
  refine wsq<|wxz ?_
  refine bfe h (fun hc7 h=>?_) fun hc7 h=>?_
  ·refine wft hc7<|Qan<|thn<|wsq<|Qag ?_
   obtain⟨hi8,h⟩:=cko h
   obtain⟨hi8a,hi8b⟩:=Qcb hi8
   obtain⟨x9,hg10,h⟩:=bno h
   obtain⟨hi11,h⟩:=cko h
   obtain⟨hi11a,hi11b⟩:=Qcb hi11
   obtain⟨x12,hg13,h⟩:=bno h
   obtain⟨hi14,h⟩:=cko h
   obtain⟨hi14a,hi14b⟩:=Qcb hi14
   obtain⟨x15,hg16,h⟩:=bno h
   obtain⟨hi17,h⟩:=cko h
   obtain⟨hi17a,hi17b⟩:=Qcb hi17
   obtain⟨x18,hg19,h⟩:=bno h
   refine wy1 tbk [(12,rb [(.tmp 24,(.own 0 3 (0) p0)),(.tmp 27,(I (w64 (p2+y2))))] [(0,(Qkd y3))] (.ref 0 3 ((w64 (p2+y2)).toNat) 0)),(13,rb [(.tmp 28,(.ref 0 3 ((w64 (p2+y2)).toNat) 0))] [(0,(Qkd y3))] (Q18 x9)),(18,rb [(.tmp 30,(.own 0 3 (0) p0)),(.tmp 33,(I (w64 (p1+y2))))] [(0,(Qkd y3))] (.ref 0 3 ((w64 (p1+y2)).toNat) 0)),(19,rb [(.tmp 34,(.ref 0 3 ((w64 (p1+y2)).toNat) 0))] [(0,(Qkd y3))] (Q17 x12)),(20,rb [(.tmp 16,(.own 0 3 (0) p0)),(.tmp 19,(I (w64 (p1+y2))))] [(0,(Qkd y3))] (.ref 0 3 ((w64 (p1+y2)).toNat) 0)),(21,⟨[(.tmp 36,(.ref 0 3 ((w64 (p1+y2)).toNat) 0)),(.tmp 29,(Q18 x9))],[(0,(Qkd y3))],.any,[(0,(Qvu y3 p1 y2 x9))],false⟩),(22,rb [(.tmp 20,(.own 0 3 (0) p0)),(.tmp 23,(I (w64 (p2+y2))))] [(0,(Qvu y3 p1 y2 x9))] (.ref 0 3 ((w64 (p2+y2)).toNat) 0)),(23,⟨[(.tmp 37,(.ref 0 3 ((w64 (p2+y2)).toNat) 0)),(.tmp 35,(Q17 x12))],[(0,(Qvu y3 p1 y2 x9))],.any,[(0,(Q16 y3 p1 y2 x9 p2 x12))],false⟩)] ⟨aio rfl underlying239 Qd1 (odt hi8a) (odt hi8b) (Nat.zero_add _),ald rfl Qd1 (by decide) (mgt Qac hg10) (nle rfl) rfl,aio rfl underlying239 Qd1 (odt hi11a) (odt hi11b) (Nat.zero_add _),ald rfl Qd1 (by decide) (mgt Qac hg13) (nle rfl) rfl,aio rfl underlying239 Qd1 (odt hi14a) (odt hi14b) (Nat.zero_add _),ast rfl Qd1 (by rfl) (mgt Qac hg16) (nle rfl) (Qf8 Qac rfl),aio rfl underlying239 Qd1 (odt hi17a) (odt hi17b) (Nat.zero_add _),ast rfl Qd1 (by rfl) (mgt Qac hg19) (nle rfl) (Qf8 Qac rfl),tv⟩<|bln<|thn<|wxz1<|thn ?_
   exact arm (mto (n:=38) [(0,(.own 0 3 (0) p0)),(1,I p1),(2,I p2),(3,I p3),(10,(I (w64 (y2+1))))] [0,1] [(Q16 y3 p1 y2 x9 p2 x12),Qld] hq (pc (.rn (Qal rfl)) (pw (pw (pw (pw pn))))) (qc (spr Qaf) (qb (lc (.rn (Qau rn0 rn0)) ln) qn))) (ih (w64 (y2+1),(y3.set ((w64 (p1+y2)).toNat) (⟨x9.unit,(⟨x9.Part.Width,x9.Part.Gain⟩:Qa8)⟩:Qaa)).set ((w64 (p2+y2)).toNat) (⟨x12.unit,(⟨x12.Part.Width,x12.Part.Gain⟩:Qa8)⟩:Qaa)) h)
  ·refine wfn hc7<|Qbi<|Qaw<|Qaw<|Qbh rfl ?_
   obtain rfl:=osi h
   exact⟨_,(mto (n:=38) (l':=[]) (own':=[(Qkd y3),Qld]) [] [0,1] [(Qkd y3),Qld] hq pn (qc (spr Qaf) (qb (lc (.rn (Qau rn0 rn0)) ln) qn))),fio [] tv⟩
def Qa1 (N p0:Nat) (p2:Int) (k4:Int×(List Qaa)→Option (List Qaa)):Nat→Int→Int→(List Qaa)→Option (List Qaa)
  |0,_,_,_=>none
  |n13+1,y7,y8,y9=>
    bif (y7 != y8) then
     bif (decide (y7>y8)) then
      (Qbc N p0 (w64 (p2-y7)) p2 y8 y9).bind fun x17=>
      Qa1 N p0 p2 k4 n13 (w64 (y7-y8)) y8 x17
     else
      (Qbc N p0 (w64 (p2-y7)) (w64 ((w64 (p2+y8))-y7)) y7 y9).bind fun x19=>
      Qa1 N p0 p2 k4 n13 y7 (w64 (y8-y7)) x19
    else
     k4 (y7,y9)
def Qbl (N p0:Nat) (p1 p2 p3:Int) (p4:List Qaa):Option (List Qaa):=
  Qb5 (fun ⟨y2,y3⟩=>
    (Qbc N p0 (w64 (p2-y2)) p2 y2 y3).bind fun x6=>
    some x6) fun k4:Int×(List Qaa)→Option (List Qaa)=>
  Qa1 N p0 p2 k4 N (w64 (p2-p1)) (w64 (p3-p2)) p4
abbrev Ql1:AV:=.fn (.func 190) [] [(.ref 1 1 (0) 0)]
abbrev Qis:Slot:=.own 1 [[(.fn (.func 138) [] [])]]
def Qr6 (y9:List Qaa):Slot:=.own 3 (y9.map Qac)
theorem Qfq (N p0:Nat) (p1 p2 p3:Int) (p4 r:List Qaa) (h:Qbl N p0 p1 p2 p3 p4=some r):Spec prog 243 [(.own 0 3 (0) p0),(I p1),(I p2),(I p3),Ql1] [(.own 3 (p4.map Qac)),Qis] (.tup []) [(.own 3 (r.map Qac)),Qis]:=by
  refine sF func243 2 fun _ _ _ hq hd0=>?_
  unfold Qbl at h
  refine wxz<|wxz ?_
  obtain⟨k4,hk_k4,h⟩:=jko h
  refine wjn (τ:=Int×(List Qaa)) (fun t=>k4 t=some r) (fun ⟨y2,y3⟩=>⟨mk 58 [(0,(.own 0 3 (0) p0)),(2,I p2),(4,Ql1),(10,I y2)],[(.own 3 (y3.map Qac)),Qis]⟩) (fun t h=>?_) ?_
  ·subst hk_k4
   obtain⟨y2,y3⟩:=t
   obtain⟨x6,hf5,h⟩:=bno h
   refine wx1 tbk [(7,⟨_,_,_,_,false⟩)] ⟨acq [(.own 0 3 (0) p0),(I (w64 (p2-y2))),I p2,I y2,Ql1] [(.own 3 (y3.map Qac)),Qis] [(.own 3 (x6.map Qac)),Qis] (.tup []) [0,1] Qo0 (Qcp N p0 (w64 (p2-y2)) p2 y2 y3 _ hf5) (Qco (rnc (Qfs rfl) (rncc (rnc (.plain _ nll) (rnc (Qau rn0 (rnc (Qby rfl) rn0)) rn0))))) (slc (Qcu Qaf) (slc (Qar (rnc (.plain _ (NLt.fn _ _ _ nl0 nl0)) rn0)) Qas)) (slc (Qcu Qaf) (slc (Qar (rnc (.plain _ (NLt.fn _ _ _ nl0 nl0)) rn0)) Qas)) (.plain _ (NLt.tup _ nl0)),tv⟩ ?_
   obtain rfl:=osi h
   exact⟨_,(mto (n:=58) (l':=[]) (own':=[(.own 3 (x6.map Qac)),Qis]) [] [0,1] [(.own 3 (x6.map Qac)),Qis] hq pn (qc (spr Qaf) (qb (lc (.rn (Qau rn0 rn0)) ln) qn))),fio [] tv⟩
  ·skip
   refine Qag<|wmr (mto (n:=58) (l':=[(0,(.own 0 3 (0) p0)),(2,I p2),(4,Ql1),(10,(I ((w64 (p2-p1))))),(11,(I ((w64 (p3-p2)))))]) (own':=[(.own 3 (p4.map Qac)),Qis]) [(0,(.own 0 3 (0) p0)),(2,I p2),(4,Ql1),(10,(I (w64 (p2-p1)))),(11,(I (w64 (p3-p2))))] [0,1] [(.own 3 (p4.map Qac)),Qis] hq (pc (.rn (Qal rfl)) (pw (pc (.rn (Qau rn0 (rnc (rqr rfl) rn0))) (pw (pw pn))))) (qc (spr Qaf) (qb (lc (.rn (Qau rn0 rn0)) ln) qn))) ?_
   refine Qb8 (τ:=Int×Int×(List Qaa)) (fun n t=>Qa1 N p0 p2 k4 n t.1 t.2.1 t.2.2=some r) (fun ⟨y7,y8,y9⟩=>⟨mk 58 [(0,(.own 0 3 (0) p0)),(2,I p2),(4,Ql1),(10,I y7),(11,I y8)],[(Qr6 y9),Qis]⟩) (fun t h=>by rw[Qa1] at h;cases h) (fun n13 ih t h=>?_) N (w64 (p2-p1),w64 (p3-p2),p4) h
   obtain⟨y7,y8,y9⟩:=t
   rw[Qa1] at h
   skip
   refine wsq<|wxz ?_
   refine bfe h (fun hc14 h=>?_) fun hc14 h=>?_
   ·refine wft hc14<|Qan<|thn<|Qag<|wxz ?_
    refine bfe h (fun hc15 h=>?_) fun hc15 h=>?_
    ·refine wft hc15 ?_
     obtain⟨x17,hf16,h⟩:=bno h
     refine wx tbk [(7,⟨_,_,_,_,false⟩)] ⟨acq [(.own 0 3 (0) p0),(I (w64 (p2-y7))),I p2,I y8,Ql1] [(Qr6 y9),Qis] [(.own 3 (x17.map Qac)),Qis] (.tup []) [0,1] Qo0 (Qcp N p0 (w64 (p2-y7)) p2 y8 y9 _ hf16) (Qco (rnc (Qfs rfl) (rncc (rnc (.plain _ nll) (rnc (Qau rn0 (rnc (Qby rfl) rn0)) rn0))))) (slc (Qcu Qaf) (slc (Qar (rnc (.plain _ (NLt.fn _ _ _ nl0 nl0)) rn0)) Qas)) (slc (Qcu Qaf) (slc (Qar (rnc (.plain _ (NLt.fn _ _ _ nl0 nl0)) rn0)) Qas)) (.plain _ (NLt.tup _ nl0)),tv⟩<|wxz1<|bln<|thn ?_
     exact arm (mto (n:=58) [(0,(.own 0 3 (0) p0)),(2,I p2),(4,Ql1),(10,(I (w64 (y7-y8)))),(11,I y8)] [0,1] [(.own 3 (x17.map Qac)),Qis] hq (pc (.rn (Qal rfl)) (pw (pc (.rn (Qau rn0 (rnc (rqr rfl) rn0))) (pw (pw pn))))) (qc (spr Qaf) (qb (lc (.rn (Qau rn0 rn0)) ln) qn))) (ih (w64 (y7-y8),y8,x17) h)
    ·refine wfn hc15 ?_
     obtain⟨x19,hf18,h⟩:=bno h
     refine wx tbk [(11,⟨_,_,_,_,false⟩)] ⟨acq [(.own 0 3 (0) p0),(I (w64 (p2-y7))),(I (w64 ((w64 (p2+y8))-y7))),I y7,Ql1] [(Qr6 y9),Qis] [(.own 3 (x19.map Qac)),Qis] (.tup []) [0,1] Qo0 (Qcp N p0 (w64 (p2-y7)) (w64 ((w64 (p2+y8))-y7)) y7 y9 _ hf18) (Qco (rnc (Qfs rfl) (rncc (rnc (.plain _ nll) (rnc (Qau rn0 (rnc (Qby rfl) rn0)) rn0))))) (slc (Qcu Qaf) (slc (Qar (rnc (.plain _ (NLt.fn _ _ _ nl0 nl0)) rn0)) Qas)) (slc (Qcu Qaf) (slc (Qar (rnc (.plain _ (NLt.fn _ _ _ nl0 nl0)) rn0)) Qas)) (.plain _ (NLt.tup _ nl0)),tv⟩<|wxz1<|bln<|thn ?_
     exact arm (mto (n:=58) [(0,(.own 0 3 (0) p0)),(2,I p2),(4,Ql1),(10,I y7),(11,(I (w64 (y8-y7))))] [0,1] [(.own 3 (x19.map Qac)),Qis] hq (pc (.rn (Qal rfl)) (pw (pc (.rn (Qau rn0 (rnc (rqr rfl) rn0))) (pw (pw pn))))) (qc (spr Qaf) (qb (lc (.rn (Qau rn0 rn0)) ln) qn))) (ih (y7,w64 (y8-y7),x19) h)
   ·exact wfn hc14<|Qbi<|Qaw<|Qaw<|Qbh rfl<|thn<|⟨(y7,y9),h,(mto (n:=58) [(0,(.own 0 3 (0) p0)),(2,I p2),(4,Ql1),(10,I y7)] [0,1] [(Qr6 y9),Qis] hq (pc (.rn (Qal rfl)) (pw (pc (.rn (Qau rn0 (rnc (rqr rfl) rn0))) (pw pn)))) (qc (spr Qaf) (qb (lc (.rn (Qau rn0 rn0)) ln) qn)))⟩
def slices_symMergeCmpFunc_plant_pieceX_1_loop1 (N p0:Nat) (p4:List Qaa) (x10:Int) (k13:Int→Option (List Qaa)):Nat→Int→Int→Option (List Qaa)
  |0,_,_=>none
  |n36+1,y32,y33=>
    bif (decide (y32<y33)) then
     (some (w64 ((IntKind.wrap .u64 (w64 (y32+y33)))/2))).bind fun x38=>
     chk (decide (0≤w64 (x10-x38))&&decide ((w64 (x10-x38)).toNat<p0))<|
     (p4[(w64 (x10-x38)).toNat]?).bind fun x41=>
     chk (decide (0≤x38)&&decide (x38.toNat<p0))<|
     (p4[x38.toNat]?).bind fun x44=>
     (Qbj N (⟨x41.unit,(⟨x41.Part.Width,x41.Part.Gain⟩:Qa8)⟩:Qaa) (⟨x44.unit,(⟨x44.Part.Width,x44.Part.Gain⟩:Qa8)⟩:Qaa)).bind fun x47=>
     bif (!(decide (x47<0))) then
      slices_symMergeCmpFunc_plant_pieceX_1_loop1 N p0 p4 x10 k13 n36 (w64 (x38+1)) y33
     else
      slices_symMergeCmpFunc_plant_pieceX_1_loop1 N p0 p4 x10 k13 n36 y32 x38
    else
     k13 (y32)
def Qa7 (N p0:Nat) (y53:Int) (k56:(List Qaa)→Option (List Qaa)):Nat→Int→(List Qaa)→Option (List Qaa)
  |0,_,_=>none
  |n61+1,y57,y58=>
    bif (decide (y57>y53)) then
     chk (decide (0≤w64 (y57-1))&&decide ((w64 (y57-1)).toNat<p0))<|
     (y58[(w64 (y57-1)).toNat]?).bind fun x64=>
     chk (decide (0≤y57)&&decide (y57.toNat<p0))<|
     (y58[y57.toNat]?).bind fun x67=>
     chk (decide (0≤y57)&&decide (y57.toNat<p0))<|
     (y58[y57.toNat]?).bind fun _=>
     chk (decide (0≤w64 (y57-1))&&decide ((w64 (y57-1)).toNat<p0))<|
     ((y58.set y57.toNat (⟨x64.unit,(⟨x64.Part.Width,x64.Part.Gain⟩:Qa8)⟩:Qaa))[(w64 (y57-1)).toNat]?).bind fun _=>
     Qa7 N p0 y53 k56 n61 (w64 (y57-1)) ((y58.set y57.toNat (⟨x64.unit,(⟨x64.Part.Width,x64.Part.Gain⟩:Qa8)⟩:Qaa)).set ((w64 (y57-1)).toNat) (⟨x67.unit,(⟨x67.Part.Width,x67.Part.Gain⟩:Qa8)⟩:Qaa))
    else
     k56 (y58)
def slices_symMergeCmpFunc_plant_pieceX_1_loop3 (N p0:Nat) (p2:Int) (p4:List Qaa) (k54:Int→Option (List Qaa)):Nat→Int→Int→Option (List Qaa)
  |0,_,_=>none
  |n79+1,y75,y76=>
    bif (decide (y75<y76)) then
     (some (w64 ((IntKind.wrap .u64 (w64 (y75+y76)))/2))).bind fun x81=>
     chk (decide (0≤p2)&&decide (p2.toNat<p0))<|
     (p4[p2.toNat]?).bind fun x84=>
     chk (decide (0≤x81)&&decide (x81.toNat<p0))<|
     (p4[x81.toNat]?).bind fun x87=>
     (Qbj N (⟨x84.unit,(⟨x84.Part.Width,x84.Part.Gain⟩:Qa8)⟩:Qaa) (⟨x87.unit,(⟨x87.Part.Width,x87.Part.Gain⟩:Qa8)⟩:Qaa)).bind fun x90=>
     bif (!(decide (x90<0))) then
      slices_symMergeCmpFunc_plant_pieceX_1_loop3 N p0 p2 p4 k54 n79 (w64 (x81+1)) y76
     else
      slices_symMergeCmpFunc_plant_pieceX_1_loop3 N p0 p2 p4 k54 n79 y75 x81
    else
     k54 (y75)
def Qa6 (N p0:Nat) (y93:Int) (k96:(List Qaa)→Option (List Qaa)):Nat→Int→(List Qaa)→Option (List Qaa)
  |0,_,_=>none
  |n101+1,y97,y98=>
    bif (decide (y97<(w64 (y93-1)))) then
     chk (decide (0≤w64 (y97+1))&&decide ((w64 (y97+1)).toNat<p0))<|
     (y98[(w64 (y97+1)).toNat]?).bind fun x104=>
     chk (decide (0≤y97)&&decide (y97.toNat<p0))<|
     (y98[y97.toNat]?).bind fun x107=>
     chk (decide (0≤y97)&&decide (y97.toNat<p0))<|
     (y98[y97.toNat]?).bind fun _=>
     chk (decide (0≤w64 (y97+1))&&decide ((w64 (y97+1)).toNat<p0))<|
     ((y98.set y97.toNat (⟨x104.unit,(⟨x104.Part.Width,x104.Part.Gain⟩:Qa8)⟩:Qaa))[(w64 (y97+1)).toNat]?).bind fun _=>
     Qa6 N p0 y93 k96 n101 (w64 (y97+1)) ((y98.set y97.toNat (⟨x104.unit,(⟨x104.Part.Width,x104.Part.Gain⟩:Qa8)⟩:Qaa)).set ((w64 (y97+1)).toNat) (⟨x107.unit,(⟨x107.Part.Width,x107.Part.Gain⟩:Qa8)⟩:Qaa))
    else
     k96 (y98)
def slices_symMergeCmpFunc_plant_pieceX_1_loop5 (N p0:Nat) (p1:Int) (p4:List Qaa) (k94:Int→Option (List Qaa)):Nat→Int→Int→Option (List Qaa)
  |0,_,_=>none
  |n119+1,y115,y116=>
    bif (decide (y115<y116)) then
     (some (w64 ((IntKind.wrap .u64 (w64 (y115+y116)))/2))).bind fun x121=>
     chk (decide (0≤x121)&&decide (x121.toNat<p0))<|
     (p4[x121.toNat]?).bind fun x124=>
     chk (decide (0≤p1)&&decide (p1.toNat<p0))<|
     (p4[p1.toNat]?).bind fun x127=>
     (Qbj N (⟨x124.unit,(⟨x124.Part.Width,x124.Part.Gain⟩:Qa8)⟩:Qaa) (⟨x127.unit,(⟨x127.Part.Width,x127.Part.Gain⟩:Qa8)⟩:Qaa)).bind fun x130=>
     bif (decide (x130<0)) then
      slices_symMergeCmpFunc_plant_pieceX_1_loop5 N p0 p1 p4 k94 n119 (w64 (x121+1)) y116
     else
      slices_symMergeCmpFunc_plant_pieceX_1_loop5 N p0 p1 p4 k94 n119 y115 x121
    else
     k94 (y115)
def Qbv (N:Nat) (rec_:Nat→Int→Int→Int→(List Qaa)→Option (List Qaa)) (p0:Nat) (p1 p2 p3:Int) (p4:List Qaa):Option (List Qaa):=
  Qb5 (fun _=>
    Qb5 (fun _=>
      (some (w64 ((IntKind.wrap .u64 (w64 (p1+p3)))/2))).bind fun x5=>
      Qb5 (fun ⟨y7,y8⟩=>
        (some (w64 ((w64 (x5+p2))-1))).bind fun x10=>
        Qb5 (fun y12=>
          (some (w64 ((w64 (x5+p2))-y12))).bind fun x14=>
          Qb5 (fun y16=>
            Qb5 (fun y18=>
              bif (decide (x5<x14)) then
               bif (decide (x14<p3)) then
                (rec_ p0 x5 x14 p3 y18).bind fun x23=>
                some x23
               else
                some y18
              else
               some y18) fun k19:(List Qaa)→Option (List Qaa)=>
            bif (decide (p1<y12)) then
             bif (decide (y12<x5)) then
              (rec_ p0 p1 y12 x5 y16).bind fun x27=>
              k19 (x27)
             else
              k19 (y16)
            else
             k19 y16) fun k17:(List Qaa)→Option (List Qaa)=>
          bif (decide (y12<p2)) then
           bif (decide (p2<x14)) then
            (Qbl N p0 y12 p2 x14 p4).bind fun x31=>
            k17 (x31)
           else
            k17 (p4)
          else
           k17 p4) fun k13:Int→Option (List Qaa)=>
        slices_symMergeCmpFunc_plant_pieceX_1_loop1 N p0 p4 x10 k13 N y7 y8) fun k9:Int×Int→Option (List Qaa)=>
      bif (decide (p2>x5)) then
       (some (w64 ((w64 (x5+p2))-p3))).bind fun x50=>
       k9 (x50,x5)
      else
       k9 (p1,p2)) fun k4:Unit→Option (List Qaa)=>
    bif ((w64 (p3-p2))==1) then
     Qb5 (fun y53=>
       Qb5 (fun y55=>
         some y55) fun k56:(List Qaa)→Option (List Qaa)=>
       Qa7 N p0 y53 k56 N p2 p4) fun k54:Int→Option (List Qaa)=>
     slices_symMergeCmpFunc_plant_pieceX_1_loop3 N p0 p2 p4 k54 N p1 p2
    else
     k4 ()) fun k3:Unit→Option (List Qaa)=>
  bif ((w64 (p2-p1))==1) then
   Qb5 (fun y93=>
     Qb5 (fun y95=>
       some y95) fun k96:(List Qaa)→Option (List Qaa)=>
     Qa6 N p0 y93 k96 N p1 p4) fun k94:Int→Option (List Qaa)=>
   slices_symMergeCmpFunc_plant_pieceX_1_loop5 N p0 p1 p4 k94 N p2 p3
  else
   k3 ()
def Qax:Nat→Nat→Int→Int→Int→(List Qaa)→Option (List Qaa)
  |0,_,_,_,_,_=>none
  |N+1,p0,p1,p2,p3,p4=>Qbv N (Qax N) p0 p1 p2 p3 p4
abbrev Qfm:AV:=.fn (.func 190) [] [(.ref 1 1 (0) 0)]
abbrev Qee (p4:List Qaa):Slot:=.own 3 (p4.map Qac)
abbrev Qcr:Slot:=.own 1 [[(.fn (.func 138) [] [])]]
def Qk2 (y18:List Qaa):Slot:=.own 3 (y18.map Qac)
def Q3n (x41:Qaa):AV:=.agg [(I x41.unit),(I x41.Part.Width),(I x41.Part.Gain)]
def Q3m (x44:Qaa):AV:=.agg [(I x44.unit),(I x44.Part.Width),(I x44.Part.Gain)]
def Qiu (y58:List Qaa):Slot:=.own 3 (y58.map Qac)
def Qv0 (x64:Qaa):AV:=.agg [(I x64.unit),(I x64.Part.Width),(I x64.Part.Gain)]
def Qvy (x67:Qaa):AV:=.agg [(I x67.unit),(I x67.Part.Width),(I x67.Part.Gain)]
def Qqt (y58:List Qaa) (y57:Int) (x64:Qaa):Slot:=.own 3 ((y58.set y57.toNat (⟨x64.unit,(⟨x64.Part.Width,x64.Part.Gain⟩:Qa8)⟩:Qaa):List Qaa).map Qac)
def Qvx (y58:List Qaa) (y57:Int) (x64 x67:Qaa):Slot:=.own 3 (((y58.set y57.toNat (⟨x64.unit,(⟨x64.Part.Width,x64.Part.Gain⟩:Qa8)⟩:Qaa)).set ((w64 (y57-1)).toNat) (⟨x67.unit,(⟨x67.Part.Width,x67.Part.Gain⟩:Qa8)⟩:Qaa):List Qaa).map Qac)
def Q3l (x84:Qaa):AV:=.agg [(I x84.unit),(I x84.Part.Width),(I x84.Part.Gain)]
def Q3k (x87:Qaa):AV:=.agg [(I x87.unit),(I x87.Part.Width),(I x87.Part.Gain)]
def Qit (y98:List Qaa):Slot:=.own 3 (y98.map Qac)
def Qvz (x104:Qaa):AV:=.agg [(I x104.unit),(I x104.Part.Width),(I x104.Part.Gain)]
def Qvw (x107:Qaa):AV:=.agg [(I x107.unit),(I x107.Part.Width),(I x107.Part.Gain)]
def Qqs (y98:List Qaa) (y97:Int) (x104:Qaa):Slot:=.own 3 ((y98.set y97.toNat (⟨x104.unit,(⟨x104.Part.Width,x104.Part.Gain⟩:Qa8)⟩:Qaa):List Qaa).map Qac)
def Qvv (y98:List Qaa) (y97:Int) (x104 x107:Qaa):Slot:=.own 3 (((y98.set y97.toNat (⟨x104.unit,(⟨x104.Part.Width,x104.Part.Gain⟩:Qa8)⟩:Qaa)).set ((w64 (y97+1)).toNat) (⟨x107.unit,(⟨x107.Part.Width,x107.Part.Gain⟩:Qa8)⟩:Qaa):List Qaa).map Qac)
def Q3j (x124:Qaa):AV:=.agg [(I x124.unit),(I x124.Part.Width),(I x124.Part.Gain)]
def Q3i (x127:Qaa):AV:=.agg [(I x127.unit),(I x127.Part.Width),(I x127.Part.Gain)]
theorem Qdy:∀(N p0:Nat) (p1 p2 p3:Int) (p4 r:List Qaa) (_:Qax N p0 p1 p2 p3 p4=some r),Spec prog 238 [(.own 0 3 (0) p0),(I p1),(I p2),(I p3),Qfm] [(Qee p4),Qcr] (.tup []) [(.own 3 (r.map Qac)),Qcr]:=by
  intro N
  induction N with
  |zero=>intro p0 p1 p2 p3 p4 r h;exact nomatch (show(none:Option (List Qaa))=some r from h)
  |succ N ihX=>
  intro p0 p1 p2 p3 p4 r h
  replace h:Qbv N (Qax N) p0 p1 p2 p3 p4=some r:=h
  refine sF func238 2 fun _ _ _ hq hd0=>?_
  unfold Qbv at h
  obtain⟨k3,hk_k3,h⟩:=jko h
  refine wjn (τ:=Unit) (fun t=>k3 t=some r) (fun _=>⟨mk 220 [(0,(.own 0 3 (0) p0)),(1,I p1),(2,I p2),(3,I p3),(4,Qfm)],[(Qee p4),Qcr]⟩) (fun t h=>?_) ?_
  ·subst hk_k3
   obtain⟨k4,hk_k4,h⟩:=jko h
   refine wjn (τ:=Unit) (fun t=>k4 t=some r) (fun _=>⟨mk 220 [(0,(.own 0 3 (0) p0)),(1,I p1),(2,I p2),(3,I p3),(4,Qfm)],[(Qee p4),Qcr]⟩) (fun t h=>?_) ?_
   ·subst hk_k4
    obtain⟨x5,hl6,h⟩:=bno h
    refine wx tbk [(3,rp [(.tmp 131,(I (w64 (p1+p3))))] (K .u64 (IntKind.wrap .u64 (w64 (p1+p3))))),(4,rp [(.tmp 132,(K .u64 (IntKind.wrap .u64 (w64 (p1+p3))))),(.const (.int .u64 1),(K .u64 (1)))] (K .u64 ((IntKind.wrap .u64 (w64 (p1+p3)))/2))),(5,rp [(.tmp 133,(K .u64 ((IntKind.wrap .u64 (w64 (p1+p3)))/2)))] (I (w64 ((IntKind.wrap .u64 (w64 (p1+p3)))/2)))),(6,rp [(.tmp 134,(I (w64 ((IntKind.wrap .u64 (w64 (p1+p3)))/2))))] (I x5))] ⟨acv rfl (by rw[underlying3];rfl) underlying76,Qkz rfl (by decide) (by decide),acv rfl (by rw[underlying76];rfl) underlying3,Qfh hl6 (aas rfl),tv⟩<|wxz<|wxz ?_
    obtain⟨k9,hk_k9,h⟩:=jko h
    refine wjn (τ:=Int×Int) (fun t=>k9 t=some r) (fun ⟨y7,y8⟩=>⟨mk 220 [(0,(.own 0 3 (0) p0)),(1,I p1),(2,I p2),(3,I p3),(4,Qfm),(18,I x5),(19,(I (w64 (x5+p2)))),(20,I y7),(21,I y8)],[(Qee p4),Qcr]⟩) (fun t h=>?_) ?_
    ·subst hk_k9
     obtain⟨y7,y8⟩:=t
     obtain⟨x10,hl11,h⟩:=bno h
     refine wx tbk [(2,rp [(.tmp 148,(I (w64 ((w64 (x5+p2))-1))))] (I x10))] ⟨Qfh hl11 (aas rfl),tv⟩ ?_
     obtain⟨k13,hk_k13,h⟩:=jko h
     refine wjn (τ:=Int) (fun t=>k13 t=some r) (fun y12=>⟨mk 220 [(0,(.own 0 3 (0) p0)),(1,I p1),(2,I p2),(3,I p3),(4,Qfm),(18,I x5),(19,(I (w64 (x5+p2)))),(20,I y12)],[(Qee p4),Qcr]⟩) (fun y12 h=>?_) ?_
     ·subst hk_k13
      obtain⟨x14,hl15,h⟩:=bno h
      refine wx tbk [(3,rp [(.tmp 177,(I (w64 ((w64 (x5+p2))-y12))))] (I x14))] ⟨Qfh hl15 (aas rfl),tv⟩ ?_
      obtain⟨k17,hk_k17,h⟩:=jko h
      refine wjn (τ:=(List Qaa)) (fun t=>k17 t=some r) (fun y16=>⟨mk 220 [(0,(.own 0 3 (0) p0)),(1,I p1),(3,I p3),(4,Qfm),(18,I x5),(20,I y12),(24,I x14)],[(.own 3 (y16.map Qac)),Qcr]⟩) (fun y16 h=>?_) ?_
      ·subst hk_k17
       obtain⟨k19,hk_k19,h⟩:=jko h
       refine wjn (τ:=(List Qaa)) (fun t=>k19 t=some r) (fun y18=>⟨mk 220 [(0,(.own 0 3 (0) p0)),(3,I p3),(4,Qfm),(18,I x5),(24,I x14)],[(Qk2 y18),Qcr]⟩) (fun y18 h=>?_) ?_
       ·subst hk_k19
        refine bfe h (fun hb20 h=>?_) fun hb20 h=>?_
        ·refine wx tbk [(3,rp [(.tmp 208,(B ((decide (x5<x14)))))] (B true))] ⟨asb hb20 (amv rfl),tv⟩ ?_
         refine bfe h (fun hc21 h=>?_) fun hc21 h=>?_
         ·refine wft hc21 ?_
          obtain⟨x23,hf22,h⟩:=bno h
          refine wx1 tbk [(5,⟨_,_,_,_,false⟩)] ⟨acq [(.own 0 3 (0) p0),I x5,I x14,I p3,Qfm] [(Qk2 y18),Qcr] [(.own 3 (x23.map Qac)),Qcr] (.tup []) [0,1] Qlw (ihX p0 x5 x14 p3 y18 _ hf22) (Qco (rnc (Qfs rfl) (rncc (rnc (.plain _ nll) (rnc (Qau rn0 (rnc (Qby rfl) rn0)) rn0))))) (slc (Qcu Qaf) (slc (Qar (rnc (.plain _ (NLt.fn _ _ _ nl0 nl0)) rn0)) Qas)) (slc (Qcu Qaf) (slc (Qar (rnc (.plain _ (NLt.fn _ _ _ nl0 nl0)) rn0)) Qas)) (.plain _ (NLt.tup _ nl0)),tv⟩ ?_
          obtain rfl:=osi h
          exact⟨_,(mto (n:=220) (l':=[]) (own':=[(.own 3 (x23.map Qac)),Qcr]) [] [0,1] [(.own 3 (x23.map Qac)),Qcr] hq pn (qc (spr Qaf) (qb (lc (.rn (Qau rn0 rn0)) ln) qn))),fio [] tv⟩
         ·refine wfn hc21<|Qan ?_
          obtain rfl:=osi h
          exact⟨_,(mto (n:=220) (l':=[]) (own':=[(Qk2 y18),Qcr]) [] [0,1] [(Qk2 y18),Qcr] hq pn (qc (spr Qaf) (qb (lc (.rn (Qau rn0 rn0)) ln) qn))),fio [] tv⟩
        ·refine wx tbk [(3,rp [(.tmp 208,(B ((decide (x5<x14)))))] (B false))] ⟨asb hb20 (amv rfl),tv⟩<|wfa<|Qan ?_
         obtain rfl:=osi h
         exact⟨_,(mto (n:=220) (l':=[]) (own':=[(Qk2 y18),Qcr]) [] [0,1] [(Qk2 y18),Qcr] hq pn (qc (spr Qaf) (qb (lc (.rn (Qau rn0 rn0)) ln) qn))),fio [] tv⟩
       ·skip
        refine bfe h (fun hb24 h=>?_) fun hb24 h=>?_
        ·refine wx tbk [(3,rp [(.tmp 194,(B ((decide (p1<y12)))))] (B true))] ⟨asb hb24 (amv rfl),tv⟩ ?_
         refine bfe h (fun hc25 h=>?_) fun hc25 h=>?_
         ·refine wft hc25 ?_
          obtain⟨x27,hf26,h⟩:=bno h
          refine wx1 tbk [(5,⟨_,_,_,_,false⟩)] ⟨acq [(.own 0 3 (0) p0),I p1,I y12,I x5,Qfm] [(.own 3 (y16.map Qac)),Qcr] [(.own 3 (x27.map Qac)),Qcr] (.tup []) [0,1] Qlw (ihX p0 p1 y12 x5 y16 _ hf26) (Qco (rnc (Qfs rfl) (rncc (rnc (.plain _ nll) (rnc (Qau rn0 (rnc (Qby rfl) rn0)) rn0))))) (slc (Qcu Qaf) (slc (Qar (rnc (.plain _ (NLt.fn _ _ _ nl0 nl0)) rn0)) Qas)) (slc (Qcu Qaf) (slc (Qar (rnc (.plain _ (NLt.fn _ _ _ nl0 nl0)) rn0)) Qas)) (.plain _ (NLt.tup _ nl0)),tv⟩<|thn ?_
          exact⟨(x27),h,(mto (n:=220) [(0,(.own 0 3 (0) p0)),(3,I p3),(4,Qfm),(18,I x5),(24,I x14)] [0,1] [(.own 3 (x27.map Qac)),Qcr] hq (pc (.rn (Qal rfl)) (pw (pc (.rn (Qau rn0 (rnc (rqr rfl) rn0))) (pw (pw pn))))) (qc (spr Qaf) (qb (lc (.rn (Qau rn0 rn0)) ln) qn)))⟩
         ·exact wfn hc25<|Qan<|thn<|⟨(y16),h,(mto (n:=220) [(0,(.own 0 3 (0) p0)),(3,I p3),(4,Qfm),(18,I x5),(24,I x14)] [0,1] [(.own 3 (y16.map Qac)),Qcr] hq (pc (.rn (Qal rfl)) (pw (pc (.rn (Qau rn0 (rnc (rqr rfl) rn0))) (pw (pw pn))))) (qc (spr Qaf) (qb (lc (.rn (Qau rn0 rn0)) ln) qn)))⟩
        ·exact wx tbk [(3,rp [(.tmp 194,(B ((decide (p1<y12)))))] (B false))] ⟨asb hb24 (amv rfl),tv⟩<|wfa<|Qan<|thn<|⟨(y16),h,(mto (n:=220) [(0,(.own 0 3 (0) p0)),(3,I p3),(4,Qfm),(18,I x5),(24,I x14)] [0,1] [(.own 3 (y16.map Qac)),Qcr] hq (pc (.rn (Qal rfl)) (pw (pc (.rn (Qau rn0 (rnc (rqr rfl) rn0))) (pw (pw pn))))) (qc (spr Qaf) (qb (lc (.rn (Qau rn0 rn0)) ln) qn)))⟩
      ·skip
       refine bfe h (fun hb28 h=>?_) fun hb28 h=>?_
       ·refine wx tbk [(3,rp [(.tmp 180,(B ((decide (y12<p2)))))] (B true))] ⟨asb hb28 (amv rfl),tv⟩ ?_
        refine bfe h (fun hc29 h=>?_) fun hc29 h=>?_
        ·refine wft hc29 ?_
         obtain⟨x31,hf30,h⟩:=bno h
         refine wx1 tbk [(5,⟨_,_,_,_,false⟩)] ⟨acq [(.own 0 3 (0) p0),I y12,I p2,I x14,Qfm] [(Qee p4),Qcr] [(.own 3 (x31.map Qac)),Qcr] (.tup []) [0,1] Q0b (Qfq N p0 y12 p2 x14 p4 _ hf30) (Qco (rnc (Qfs rfl) (rncc (rnc (.plain _ nll) (rnc (Qau rn0 (rnc (Qby rfl) rn0)) rn0))))) (slc (Qcu Qaf) (slc (Qar (rnc (.plain _ (NLt.fn _ _ _ nl0 nl0)) rn0)) Qas)) (slc (Qcu Qaf) (slc (Qar (rnc (.plain _ (NLt.fn _ _ _ nl0 nl0)) rn0)) Qas)) (.plain _ (NLt.tup _ nl0)),tv⟩<|thn ?_
         exact⟨(x31),h,(mto (n:=220) [(0,(.own 0 3 (0) p0)),(1,I p1),(3,I p3),(4,Qfm),(18,I x5),(20,I y12),(24,I x14)] [0,1] [(.own 3 (x31.map Qac)),Qcr] hq (pc (.rn (Qal rfl)) (pw (pw (pc (.rn (Qau rn0 (rnc (rqr rfl) rn0))) (pw (pw (pw pn))))))) (qc (spr Qaf) (qb (lc (.rn (Qau rn0 rn0)) ln) qn)))⟩
        ·exact wfn hc29<|Qan<|thn<|⟨(p4),h,(mto (n:=220) [(0,(.own 0 3 (0) p0)),(1,I p1),(3,I p3),(4,Qfm),(18,I x5),(20,I y12),(24,I x14)] [0,1] [(Qee p4),Qcr] hq (pc (.rn (Qal rfl)) (pw (pw (pc (.rn (Qau rn0 (rnc (rqr rfl) rn0))) (pw (pw (pw pn))))))) (qc (spr Qaf) (qb (lc (.rn (Qau rn0 rn0)) ln) qn)))⟩
       ·exact wx tbk [(3,rp [(.tmp 180,(B ((decide (y12<p2)))))] (B false))] ⟨asb hb28 (amv rfl),tv⟩<|wfa<|Qan<|thn<|⟨(p4),h,(mto (n:=220) [(0,(.own 0 3 (0) p0)),(1,I p1),(3,I p3),(4,Qfm),(18,I x5),(20,I y12),(24,I x14)] [0,1] [(Qee p4),Qcr] hq (pc (.rn (Qal rfl)) (pw (pw (pc (.rn (Qau rn0 (rnc (rqr rfl) rn0))) (pw (pw (pw pn))))))) (qc (spr Qaf) (qb (lc (.rn (Qau rn0 rn0)) ln) qn)))⟩
     ·skip
      refine Qag<|wmr (mto (n:=220) (l':=[(0,(.own 0 3 (0) p0)),(1,I p1),(2,I p2),(3,I p3),(4,Qfm),(18,I x5),(19,(I (w64 (x5+p2)))),(20,I y7),(21,I y8),(22,I x10)]) (own':=[(Qee p4),Qcr]) [(0,(.own 0 3 (0) p0)),(1,I p1),(2,I p2),(3,I p3),(4,Qfm),(18,I x5),(19,(I (w64 (x5+p2)))),(20,I y7),(21,I y8),(22,I x10)] [0,1] [(Qee p4),Qcr] hq (pc (.rn (Qal rfl)) (pw (pw (pw (pc (.rn (Qau rn0 (rnc (rqr rfl) rn0))) (pw (pw (pw (pw (pw pn)))))))))) (qc (spr Qaf) (qb (lc (.rn (Qau rn0 rn0)) ln) qn))) ?_
      refine Qb8 (τ:=Int×Int) (fun n t=>slices_symMergeCmpFunc_plant_pieceX_1_loop1 N p0 p4 x10 k13 n t.1 t.2=some r) (fun ⟨y32,y33⟩=>⟨mk 220 [(0,(.own 0 3 (0) p0)),(1,I p1),(2,I p2),(3,I p3),(4,Qfm),(18,I x5),(19,(I (w64 (x5+p2)))),(20,I y32),(21,I y33),(22,I x10)],[(Qee p4),Qcr]⟩) (fun t h=>by rw[slices_symMergeCmpFunc_plant_pieceX_1_loop1] at h;cases h) (fun n36 ih t h=>?_) N (y7,y8) h
      obtain⟨y32,y33⟩:=t
      rw[slices_symMergeCmpFunc_plant_pieceX_1_loop1] at h
      skip
      refine wsq<|wxz ?_
      refine bfe h (fun hc37 h=>?_) fun hc37 h=>?_
      ·refine wft hc37<|Qan<|thn<|Qag ?_
       obtain⟨x38,hl39,h⟩:=bno h
       refine wx tbk [(3,rp [(.tmp 154,(I (w64 (y32+y33))))] (K .u64 (IntKind.wrap .u64 (w64 (y32+y33))))),(4,rp [(.tmp 155,(K .u64 (IntKind.wrap .u64 (w64 (y32+y33))))),(.const (.int .u64 1),(K .u64 (1)))] (K .u64 ((IntKind.wrap .u64 (w64 (y32+y33)))/2))),(5,rp [(.tmp 156,(K .u64 ((IntKind.wrap .u64 (w64 (y32+y33)))/2)))] (I (w64 ((IntKind.wrap .u64 (w64 (y32+y33)))/2)))),(6,rp [(.tmp 157,(I (w64 ((IntKind.wrap .u64 (w64 (y32+y33)))/2))))] (I x38))] ⟨acv rfl (by rw[underlying3];rfl) underlying76,Qkz rfl (by decide) (by decide),acv rfl (by rw[underlying76];rfl) underlying3,Qfh hl39 (aas rfl),tv⟩ ?_
       obtain⟨hi40,h⟩:=cko h
       obtain⟨hi40a,hi40b⟩:=Qcb hi40
       obtain⟨x41,hg42,h⟩:=bno h
       obtain⟨hi43,h⟩:=cko h
       obtain⟨hi43a,hi43b⟩:=Qcb hi43
       obtain⟨x44,hg45,h⟩:=bno h
       obtain⟨x47,hf46,h⟩:=bno h
       refine wxd tbk [(5,rb [(.tmp 159,(.own 0 3 (0) p0)),(.tmp 162,(I (w64 (x10-x38))))] [(0,(Qee p4))] (.ref 0 3 ((w64 (x10-x38)).toNat) 0)),(6,rb [(.tmp 163,(.ref 0 3 ((w64 (x10-x38)).toNat) 0))] [(0,(Qee p4))] (Q3n x41)),(9,rb [(.tmp 165,(.own 0 3 (0) p0)),(.tmp 166,I x38)] [(0,(Qee p4))] (.ref 0 3 x38.toNat 0)),(10,rb [(.tmp 167,(.ref 0 3 x38.toNat 0))] [(0,(Qee p4))] (Q3m x44)),(11,⟨_,_,_,_,false⟩)] ⟨aio rfl underlying239 Qd1 (odt hi40a) (odt hi40b) (Nat.zero_add _),ald rfl Qd1 (by decide) (mgt Qac hg42) (nle rfl) rfl,aio rfl underlying239 Qd1 (odt hi43a) (odt hi43b) (Nat.zero_add _),ald rfl Qd1 (by decide) (mgt Qac hg45) (nle rfl) rfl,Qd5 (first:=[]) (cap:=[.ref 1 1 0 0]) (vs:=[(.agg [(I ((⟨x41.unit,(⟨x41.Part.Width,x41.Part.Gain⟩:Qa8)⟩:Qaa).unit)),(I ((⟨x41.unit,(⟨x41.Part.Width,x41.Part.Gain⟩:Qa8)⟩:Qaa).Part.Width)),(I ((⟨x41.unit,(⟨x41.Part.Width,x41.Part.Gain⟩:Qa8)⟩:Qaa).Part.Gain))]),(.agg [(I ((⟨x44.unit,(⟨x44.Part.Width,x44.Part.Gain⟩:Qa8)⟩:Qaa).unit)),(I ((⟨x44.unit,(⟨x44.Part.Width,x44.Part.Gain⟩:Qa8)⟩:Qaa).Part.Width)),(I ((⟨x44.unit,(⟨x44.Part.Width,x44.Part.Gain⟩:Qa8)⟩:Qaa).Part.Gain))])]) (σr:=[Qcr]) (σr':=[Qcr]) (res':=(I x47)) [1] rfl Qlx (Qcs N (⟨x41.unit,(⟨x41.Part.Width,x41.Part.Gain⟩:Qa8)⟩:Qaa) (⟨x44.unit,(⟨x44.Part.Width,x44.Part.Gain⟩:Qa8)⟩:Qaa) _ hf46) rfl (Qco (rnc (.plain _ (NLt.agg _ (nlcc (nlc nll nl0)))) (rnc (.plain _ (NLt.agg _ (nlcc (nlc nll nl0)))) (rnc (Qby rfl) rn0)))) (slc (Qar (rnc (.plain _ (NLt.fn _ _ _ nl0 nl0)) rn0)) Qas) (slc (Qar (rnc (.plain _ (NLt.fn _ _ _ nl0 nl0)) rn0)) Qas) (.plain _ nll) rfl rfl rfl,tv⟩ ?_
       refine bfe h (fun hc48 h=>?_) fun hc48 h=>?_
       ·exact wft hc48<|wxz1<|bln<|thn<|arm (mto (n:=220) [(0,(.own 0 3 (0) p0)),(1,I p1),(2,I p2),(3,I p3),(4,Qfm),(18,I x5),(19,(I (w64 (x5+p2)))),(20,(I (w64 (x38+1)))),(21,I y33),(22,I x10)] [0,1] [(Qee p4),Qcr] hq (pc (.rn (Qal rfl)) (pw (pw (pw (pc (.rn (Qau rn0 (rnc (rqr rfl) rn0))) (pw (pw (pw (pw (pw pn)))))))))) (qc (spr Qaf) (qb (lc (.rn (Qau rn0 rn0)) ln) qn))) (ih (w64 (x38+1),y33) h)
       ·exact wfn hc48<|wxz1<|bln<|thn<|arm (mto (n:=220) [(0,(.own 0 3 (0) p0)),(1,I p1),(2,I p2),(3,I p3),(4,Qfm),(18,I x5),(19,(I (w64 (x5+p2)))),(20,I y32),(21,I x38),(22,I x10)] [0,1] [(Qee p4),Qcr] hq (pc (.rn (Qal rfl)) (pw (pw (pw (pc (.rn (Qau rn0 (rnc (rqr rfl) rn0))) (pw (pw (pw (pw (pw pn)))))))))) (qc (spr Qaf) (qb (lc (.rn (Qau rn0 rn0)) ln) qn))) (ih (y32,x38) h)
      ·exact wfn hc37<|Qbi<|Qaw<|Qaw<|Qbh rfl<|thn<|⟨(y32),h,(mto (n:=220) [(0,(.own 0 3 (0) p0)),(1,I p1),(2,I p2),(3,I p3),(4,Qfm),(18,I x5),(19,(I (w64 (x5+p2)))),(20,I y32)] [0,1] [(Qee p4),Qcr] hq (pc (.rn (Qal rfl)) (pw (pw (pw (pc (.rn (Qau rn0 (rnc (rqr rfl) rn0))) (pw (pw (pw pn)))))))) (qc (spr Qaf) (qb (lc (.rn (Qau rn0 rn0)) ln) qn)))⟩
    ·skip
     refine wxz ?_
     refine bfe h (fun hc49 h=>?_) fun hc49 h=>?_
     ·refine wft hc49 ?_
      obtain⟨x50,hl51,h⟩:=bno h
      exact wx tbk [(3,rp [(.tmp 143,(I (w64 ((w64 (x5+p2))-p3))))] (I x50))] ⟨Qfh hl51 (aas rfl),tv⟩<|wxz1<|thn<|⟨(x50,x5),h,(mto (n:=220) [(0,(.own 0 3 (0) p0)),(1,I p1),(2,I p2),(3,I p3),(4,Qfm),(18,I x5),(19,(I (w64 (x5+p2)))),(20,I x50),(21,I x5)] [0,1] [(Qee p4),Qcr] hq (pc (.rn (Qal rfl)) (pw (pw (pw (pc (.rn (Qau rn0 (rnc (rqr rfl) rn0))) (pw (pw (pw (pw pn))))))))) (qc (spr Qaf) (qb (lc (.rn (Qau rn0 rn0)) ln) qn)))⟩
     ·exact wfn hc49<|wxz<|wxz1<|thn<|⟨(p1,p2),h,(mto (n:=220) [(0,(.own 0 3 (0) p0)),(1,I p1),(2,I p2),(3,I p3),(4,Qfm),(18,I x5),(19,(I (w64 (x5+p2)))),(20,I p1),(21,I p2)] [0,1] [(Qee p4),Qcr] hq (pc (.rn (Qal rfl)) (pw (pw (pw (pc (.rn (Qau rn0 (rnc (rqr rfl) rn0))) (pw (pw (pw (pw pn))))))))) (qc (spr Qaf) (qb (lc (.rn (Qau rn0 rn0)) ln) qn)))⟩
   ·skip
    refine wxz ?_
    refine bfe h (fun hc52 h=>?_) fun hc52 h=>?_
    ·refine wft hc52<|wxz<|wxz ?_
     obtain⟨k54,hk_k54,h⟩:=jko h
     refine wjn (τ:=Int) (fun t=>k54 t=some r) (fun y53=>⟨mk 220 [(0,(.own 0 3 (0) p0)),(2,I p2),(14,I y53)],[(Qee p4),Qcr]⟩) (fun y53 h=>?_) ?_
     ·subst hk_k54
      obtain⟨k56,hk_k56,h⟩:=jko h
      refine wjn (τ:=(List Qaa)) (fun t=>k56 t=some r) (fun y55=>⟨mk 220 [],[(.own 3 (y55.map Qac)),Qcr]⟩) (fun y55 h=>?_) ?_
      ·subst hk_k56
       refine wmr (mto (n:=220) (l':=[]) (own':=[(.own 3 (y55.map Qac)),Qcr]) [] [0,1] [(.own 3 (y55.map Qac)),Qcr] hq pn (qc (spr Qaf) (qb (lc (.rn (Qau rn0 rn0)) ln) qn)))<|Qae<|Qak ?_
       obtain rfl:=osi h
       exact⟨_,Mor.rfl,fio [] tv⟩
      ·skip
       refine wxz<|Qag ?_
       refine wmr (mto (n:=220) (l':=[(0,(.own 0 3 (0) p0)),(14,I y53),(17,I p2)]) (own':=[(Qee p4),Qcr]) [(0,(.own 0 3 (0) p0)),(14,I y53),(17,I p2)] [0,1] [(Qee p4),Qcr] hq (pc (.rn (Qal rfl)) (pw (pw pn))) (qc (spr Qaf) (qb (lc (.rn (Qau rn0 rn0)) ln) qn))) ?_
       refine Qb8 (τ:=Int×(List Qaa)) (fun n t=>Qa7 N p0 y53 k56 n t.1 t.2=some r) (fun ⟨y57,y58⟩=>⟨mk 220 [(0,(.own 0 3 (0) p0)),(14,I y53),(17,I y57)],[(Qiu y58),Qcr]⟩) (fun t h=>by rw[Qa7] at h;cases h) (fun n61 ih t h=>?_) N (p2,p4) h
       obtain⟨y57,y58⟩:=t
       rw[Qa7] at h
       skip
       refine wsq<|wxz ?_
       refine bfe h (fun hc62 h=>?_) fun hc62 h=>?_
       ·refine wft hc62<|Qan<|thn<|wsq<|Qag ?_
        obtain⟨hi63,h⟩:=cko h
        obtain⟨hi63a,hi63b⟩:=Qcb hi63
        obtain⟨x64,hg65,h⟩:=bno h
        obtain⟨hi66,h⟩:=cko h
        obtain⟨hi66a,hi66b⟩:=Qcb hi66
        obtain⟨x67,hg68,h⟩:=bno h
        obtain⟨hi69,h⟩:=cko h
        obtain⟨hi69a,hi69b⟩:=Qcb hi69
        obtain⟨x70,hg71,h⟩:=bno h
        obtain⟨hi72,h⟩:=cko h
        obtain⟨hi72a,hi72b⟩:=Qcb hi72
        obtain⟨x73,hg74,h⟩:=bno h
        refine wy1 tbk [(8,rb [(.tmp 118,(.own 0 3 (0) p0)),(.tmp 120,(I (w64 (y57-1))))] [(0,(Qiu y58))] (.ref 0 3 ((w64 (y57-1)).toNat) 0)),(9,rb [(.tmp 121,(.ref 0 3 ((w64 (y57-1)).toNat) 0))] [(0,(Qiu y58))] (Qv0 x64)),(12,rb [(.tmp 123,(.own 0 3 (0) p0)),(.tmp 124,I y57)] [(0,(Qiu y58))] (.ref 0 3 y57.toNat 0)),(13,rb [(.tmp 125,(.ref 0 3 y57.toNat 0))] [(0,(Qiu y58))] (Qvy x67)),(14,rb [(.tmp 113,(.own 0 3 (0) p0)),(.tmp 114,I y57)] [(0,(Qiu y58))] (.ref 0 3 y57.toNat 0)),(15,⟨[(.tmp 127,(.ref 0 3 y57.toNat 0)),(.tmp 122,(Qv0 x64))],[(0,(Qiu y58))],.any,[(0,(Qqt y58 y57 x64))],false⟩),(16,rb [(.tmp 115,(.own 0 3 (0) p0)),(.tmp 117,(I (w64 (y57-1))))] [(0,(Qqt y58 y57 x64))] (.ref 0 3 ((w64 (y57-1)).toNat) 0)),(17,⟨[(.tmp 128,(.ref 0 3 ((w64 (y57-1)).toNat) 0)),(.tmp 126,(Qvy x67))],[(0,(Qqt y58 y57 x64))],.any,[(0,(Qvx y58 y57 x64 x67))],false⟩)] ⟨aio rfl underlying239 Qd1 (odt hi63a) (odt hi63b) (Nat.zero_add _),ald rfl Qd1 (by decide) (mgt Qac hg65) (nle rfl) rfl,aio rfl underlying239 Qd1 (odt hi66a) (odt hi66b) (Nat.zero_add _),ald rfl Qd1 (by decide) (mgt Qac hg68) (nle rfl) rfl,aio rfl underlying239 Qd1 (odt hi69a) (odt hi69b) (Nat.zero_add _),ast rfl Qd1 (by rfl) (mgt Qac hg71) (nle rfl) (Qf8 Qac rfl),aio rfl underlying239 Qd1 (odt hi72a) (odt hi72b) (Nat.zero_add _),ast rfl Qd1 (by rfl) (mgt Qac hg74) (nle rfl) (Qf8 Qac rfl),tv⟩<|bln<|thn<|wxz1<|thn ?_
        exact arm (mto (n:=220) [(0,(.own 0 3 (0) p0)),(14,I y53),(17,(I (w64 (y57-1))))] [0,1] [(Qvx y58 y57 x64 x67),Qcr] hq (pc (.rn (Qal rfl)) (pw (pw pn))) (qc (spr Qaf) (qb (lc (.rn (Qau rn0 rn0)) ln) qn))) (ih (w64 (y57-1),(y58.set y57.toNat (⟨x64.unit,(⟨x64.Part.Width,x64.Part.Gain⟩:Qa8)⟩:Qaa)).set ((w64 (y57-1)).toNat) (⟨x67.unit,(⟨x67.Part.Width,x67.Part.Gain⟩:Qa8)⟩:Qaa)) h)
       ·exact wfn hc62<|Qbi<|Qaw<|Qaw<|Qbh rfl<|thn<|⟨(y58),h,(mto (n:=220) [] [0,1] [(Qiu y58),Qcr] hq pn (qc (spr Qaf) (qb (lc (.rn (Qau rn0 rn0)) ln) qn)))⟩
     ·skip
      refine Qag<|wmr (mto (n:=220) (l':=[(0,(.own 0 3 (0) p0)),(2,I p2),(4,Qfm),(14,I p1),(15,I p2)]) (own':=[(Qee p4),Qcr]) [(0,(.own 0 3 (0) p0)),(2,I p2),(4,Qfm),(14,I p1),(15,I p2)] [0,1] [(Qee p4),Qcr] hq (pc (.rn (Qal rfl)) (pw (pc (.rn (Qau rn0 (rnc (rqr rfl) rn0))) (pw (pw pn))))) (qc (spr Qaf) (qb (lc (.rn (Qau rn0 rn0)) ln) qn))) ?_
      refine Qb8 (τ:=Int×Int) (fun n t=>slices_symMergeCmpFunc_plant_pieceX_1_loop3 N p0 p2 p4 k54 n t.1 t.2=some r) (fun ⟨y75,y76⟩=>⟨mk 220 [(0,(.own 0 3 (0) p0)),(2,I p2),(4,Qfm),(14,I y75),(15,I y76)],[(Qee p4),Qcr]⟩) (fun t h=>by rw[slices_symMergeCmpFunc_plant_pieceX_1_loop3] at h;cases h) (fun n79 ih t h=>?_) N (p1,p2) h
      obtain⟨y75,y76⟩:=t
      rw[slices_symMergeCmpFunc_plant_pieceX_1_loop3] at h
      skip
      refine wsq<|wxz ?_
      refine bfe h (fun hc80 h=>?_) fun hc80 h=>?_
      ·refine wft hc80<|Qan<|thn<|Qag ?_
       obtain⟨x81,hl82,h⟩:=bno h
       refine wx tbk [(3,rp [(.tmp 88,(I (w64 (y75+y76))))] (K .u64 (IntKind.wrap .u64 (w64 (y75+y76))))),(4,rp [(.tmp 89,(K .u64 (IntKind.wrap .u64 (w64 (y75+y76))))),(.const (.int .u64 1),(K .u64 (1)))] (K .u64 ((IntKind.wrap .u64 (w64 (y75+y76)))/2))),(5,rp [(.tmp 90,(K .u64 ((IntKind.wrap .u64 (w64 (y75+y76)))/2)))] (I (w64 ((IntKind.wrap .u64 (w64 (y75+y76)))/2)))),(6,rp [(.tmp 91,(I (w64 ((IntKind.wrap .u64 (w64 (y75+y76)))/2))))] (I x81))] ⟨acv rfl (by rw[underlying3];rfl) underlying76,Qkz rfl (by decide) (by decide),acv rfl (by rw[underlying76];rfl) underlying3,Qfh hl82 (aas rfl),tv⟩ ?_
       obtain⟨hi83,h⟩:=cko h
       obtain⟨hi83a,hi83b⟩:=Qcb hi83
       obtain⟨x84,hg85,h⟩:=bno h
       obtain⟨hi86,h⟩:=cko h
       obtain⟨hi86a,hi86b⟩:=Qcb hi86
       obtain⟨x87,hg88,h⟩:=bno h
       obtain⟨x90,hf89,h⟩:=bno h
       refine wxd tbk [(3,rb [(.tmp 93,(.own 0 3 (0) p0)),(.tmp 94,I p2)] [(0,(Qee p4))] (.ref 0 3 p2.toNat 0)),(4,rb [(.tmp 95,(.ref 0 3 p2.toNat 0))] [(0,(Qee p4))] (Q3l x84)),(7,rb [(.tmp 97,(.own 0 3 (0) p0)),(.tmp 98,I x81)] [(0,(Qee p4))] (.ref 0 3 x81.toNat 0)),(8,rb [(.tmp 99,(.ref 0 3 x81.toNat 0))] [(0,(Qee p4))] (Q3k x87)),(9,⟨_,_,_,_,false⟩)] ⟨aio rfl underlying239 Qd1 (odt hi83a) (odt hi83b) (Nat.zero_add _),ald rfl Qd1 (by decide) (mgt Qac hg85) (nle rfl) rfl,aio rfl underlying239 Qd1 (odt hi86a) (odt hi86b) (Nat.zero_add _),ald rfl Qd1 (by decide) (mgt Qac hg88) (nle rfl) rfl,Qd5 (first:=[]) (cap:=[.ref 1 1 0 0]) (vs:=[(.agg [(I ((⟨x84.unit,(⟨x84.Part.Width,x84.Part.Gain⟩:Qa8)⟩:Qaa).unit)),(I ((⟨x84.unit,(⟨x84.Part.Width,x84.Part.Gain⟩:Qa8)⟩:Qaa).Part.Width)),(I ((⟨x84.unit,(⟨x84.Part.Width,x84.Part.Gain⟩:Qa8)⟩:Qaa).Part.Gain))]),(.agg [(I ((⟨x87.unit,(⟨x87.Part.Width,x87.Part.Gain⟩:Qa8)⟩:Qaa).unit)),(I ((⟨x87.unit,(⟨x87.Part.Width,x87.Part.Gain⟩:Qa8)⟩:Qaa).Part.Width)),(I ((⟨x87.unit,(⟨x87.Part.Width,x87.Part.Gain⟩:Qa8)⟩:Qaa).Part.Gain))])]) (σr:=[Qcr]) (σr':=[Qcr]) (res':=(I x90)) [1] rfl Qlx (Qcs N (⟨x84.unit,(⟨x84.Part.Width,x84.Part.Gain⟩:Qa8)⟩:Qaa) (⟨x87.unit,(⟨x87.Part.Width,x87.Part.Gain⟩:Qa8)⟩:Qaa) _ hf89) rfl (Qco (rnc (.plain _ (NLt.agg _ (nlcc (nlc nll nl0)))) (rnc (.plain _ (NLt.agg _ (nlcc (nlc nll nl0)))) (rnc (Qby rfl) rn0)))) (slc (Qar (rnc (.plain _ (NLt.fn _ _ _ nl0 nl0)) rn0)) Qas) (slc (Qar (rnc (.plain _ (NLt.fn _ _ _ nl0 nl0)) rn0)) Qas) (.plain _ nll) rfl rfl rfl,tv⟩ ?_
       refine bfe h (fun hc91 h=>?_) fun hc91 h=>?_
       ·exact wft hc91<|wxz1<|bln<|thn<|arm (mto (n:=220) [(0,(.own 0 3 (0) p0)),(2,I p2),(4,Qfm),(14,(I (w64 (x81+1)))),(15,I y76)] [0,1] [(Qee p4),Qcr] hq (pc (.rn (Qal rfl)) (pw (pc (.rn (Qau rn0 (rnc (rqr rfl) rn0))) (pw (pw pn))))) (qc (spr Qaf) (qb (lc (.rn (Qau rn0 rn0)) ln) qn))) (ih (w64 (x81+1),y76) h)
       ·exact wfn hc91<|wxz1<|bln<|thn<|arm (mto (n:=220) [(0,(.own 0 3 (0) p0)),(2,I p2),(4,Qfm),(14,I y75),(15,I x81)] [0,1] [(Qee p4),Qcr] hq (pc (.rn (Qal rfl)) (pw (pc (.rn (Qau rn0 (rnc (rqr rfl) rn0))) (pw (pw pn))))) (qc (spr Qaf) (qb (lc (.rn (Qau rn0 rn0)) ln) qn))) (ih (y75,x81) h)
      ·exact wfn hc80<|Qbi<|Qaw<|Qaw<|Qbh rfl<|thn<|⟨(y75),h,(mto (n:=220) [(0,(.own 0 3 (0) p0)),(2,I p2),(14,I y75)] [0,1] [(Qee p4),Qcr] hq (pc (.rn (Qal rfl)) (pw (pw pn))) (qc (spr Qaf) (qb (lc (.rn (Qau rn0 rn0)) ln) qn)))⟩
    ·exact wfn hc52<|Qan<|thn<|⟨(),h,(mto (n:=220) [(0,(.own 0 3 (0) p0)),(1,I p1),(2,I p2),(3,I p3),(4,Qfm)] [0,1] [(Qee p4),Qcr] hq (pc (.rn (Qal rfl)) (pw (pw (pw (pc (.rn (Qau rn0 (rnc (rqr rfl) rn0))) pn))))) (qc (spr Qaf) (qb (lc (.rn (Qau rn0 rn0)) ln) qn)))⟩
  ·skip
   refine wxz ?_
   refine bfe h (fun hc92 h=>?_) fun hc92 h=>?_
   ·refine wft hc92<|wxz<|wxz ?_
    obtain⟨k94,hk_k94,h⟩:=jko h
    refine wjn (τ:=Int) (fun t=>k94 t=some r) (fun y93=>⟨mk 220 [(0,(.own 0 3 (0) p0)),(1,I p1),(10,I y93)],[(Qee p4),Qcr]⟩) (fun y93 h=>?_) ?_
    ·subst hk_k94
     obtain⟨k96,hk_k96,h⟩:=jko h
     refine wjn (τ:=(List Qaa)) (fun t=>k96 t=some r) (fun y95=>⟨mk 220 [],[(.own 3 (y95.map Qac)),Qcr]⟩) (fun y95 h=>?_) ?_
     ·subst hk_k96
      refine wmr (mto (n:=220) (l':=[]) (own':=[(.own 3 (y95.map Qac)),Qcr]) [] [0,1] [(.own 3 (y95.map Qac)),Qcr] hq pn (qc (spr Qaf) (qb (lc (.rn (Qau rn0 rn0)) ln) qn)))<|Qae<|Qak ?_
      obtain rfl:=osi h
      exact⟨_,Mor.rfl,fio [] tv⟩
     ·skip
      refine wxz<|Qag ?_
      refine wmr (mto (n:=220) (l':=[(0,(.own 0 3 (0) p0)),(10,I y93),(13,I p1)]) (own':=[(Qee p4),Qcr]) [(0,(.own 0 3 (0) p0)),(10,I y93),(13,I p1)] [0,1] [(Qee p4),Qcr] hq (pc (.rn (Qal rfl)) (pw (pw pn))) (qc (spr Qaf) (qb (lc (.rn (Qau rn0 rn0)) ln) qn))) ?_
      refine Qb8 (τ:=Int×(List Qaa)) (fun n t=>Qa6 N p0 y93 k96 n t.1 t.2=some r) (fun ⟨y97,y98⟩=>⟨mk 220 [(0,(.own 0 3 (0) p0)),(10,I y93),(13,I y97)],[(Qit y98),Qcr]⟩) (fun t h=>by rw[Qa6] at h;cases h) (fun n101 ih t h=>?_) N (p1,p4) h
      obtain⟨y97,y98⟩:=t
      rw[Qa6] at h
      skip
      refine wsq<|wxz ?_
      refine bfe h (fun hc102 h=>?_) fun hc102 h=>?_
      ·refine wft hc102<|Qan<|thn<|wsq<|Qag ?_
       obtain⟨hi103,h⟩:=cko h
       obtain⟨hi103a,hi103b⟩:=Qcb hi103
       obtain⟨x104,hg105,h⟩:=bno h
       obtain⟨hi106,h⟩:=cko h
       obtain⟨hi106a,hi106b⟩:=Qcb hi106
       obtain⟨x107,hg108,h⟩:=bno h
       obtain⟨hi109,h⟩:=cko h
       obtain⟨hi109a,hi109b⟩:=Qcb hi109
       obtain⟨x110,hg111,h⟩:=bno h
       obtain⟨hi112,h⟩:=cko h
       obtain⟨hi112a,hi112b⟩:=Qcb hi112
       obtain⟨x113,hg114,h⟩:=bno h
       refine wy1 tbk [(8,rb [(.tmp 66,(.own 0 3 (0) p0)),(.tmp 68,(I (w64 (y97+1))))] [(0,(Qit y98))] (.ref 0 3 ((w64 (y97+1)).toNat) 0)),(9,rb [(.tmp 69,(.ref 0 3 ((w64 (y97+1)).toNat) 0))] [(0,(Qit y98))] (Qvz x104)),(12,rb [(.tmp 71,(.own 0 3 (0) p0)),(.tmp 72,I y97)] [(0,(Qit y98))] (.ref 0 3 y97.toNat 0)),(13,rb [(.tmp 73,(.ref 0 3 y97.toNat 0))] [(0,(Qit y98))] (Qvw x107)),(14,rb [(.tmp 61,(.own 0 3 (0) p0)),(.tmp 62,I y97)] [(0,(Qit y98))] (.ref 0 3 y97.toNat 0)),(15,⟨[(.tmp 75,(.ref 0 3 y97.toNat 0)),(.tmp 70,(Qvz x104))],[(0,(Qit y98))],.any,[(0,(Qqs y98 y97 x104))],false⟩),(16,rb [(.tmp 63,(.own 0 3 (0) p0)),(.tmp 65,(I (w64 (y97+1))))] [(0,(Qqs y98 y97 x104))] (.ref 0 3 ((w64 (y97+1)).toNat) 0)),(17,⟨[(.tmp 76,(.ref 0 3 ((w64 (y97+1)).toNat) 0)),(.tmp 74,(Qvw x107))],[(0,(Qqs y98 y97 x104))],.any,[(0,(Qvv y98 y97 x104 x107))],false⟩)] ⟨aio rfl underlying239 Qd1 (odt hi103a) (odt hi103b) (Nat.zero_add _),ald rfl Qd1 (by decide) (mgt Qac hg105) (nle rfl) rfl,aio rfl underlying239 Qd1 (odt hi106a) (odt hi106b) (Nat.zero_add _),ald rfl Qd1 (by decide) (mgt Qac hg108) (nle rfl) rfl,aio rfl underlying239 Qd1 (odt hi109a) (odt hi109b) (Nat.zero_add _),ast rfl Qd1 (by rfl) (mgt Qac hg111) (nle rfl) (Qf8 Qac rfl),aio rfl underlying239 Qd1 (odt hi112a) (odt hi112b) (Nat.zero_add _),ast rfl Qd1 (by rfl) (mgt Qac hg114) (nle rfl) (Qf8 Qac rfl),tv⟩<|bln<|thn<|wxz1<|thn ?_
       exact arm (mto (n:=220) [(0,(.own 0 3 (0) p0)),(10,I y93),(13,(I (w64 (y97+1))))] [0,1] [(Qvv y98 y97 x104 x107),Qcr] hq (pc (.rn (Qal rfl)) (pw (pw pn))) (qc (spr Qaf) (qb (lc (.rn (Qau rn0 rn0)) ln) qn))) (ih (w64 (y97+1),(y98.set y97.toNat (⟨x104.unit,(⟨x104.Part.Width,x104.Part.Gain⟩:Qa8)⟩:Qaa)).set ((w64 (y97+1)).toNat) (⟨x107.unit,(⟨x107.Part.Width,x107.Part.Gain⟩:Qa8)⟩:Qaa)) h)
      ·exact wfn hc102<|Qbi<|Qaw<|Qaw<|Qbh rfl<|thn<|⟨(y98),h,(mto (n:=220) [] [0,1] [(Qit y98),Qcr] hq pn (qc (spr Qaf) (qb (lc (.rn (Qau rn0 rn0)) ln) qn)))⟩
    ·skip
     refine Qag<|wmr (mto (n:=220) (l':=[(0,(.own 0 3 (0) p0)),(1,I p1),(4,Qfm),(10,I p2),(11,I p3)]) (own':=[(Qee p4),Qcr]) [(0,(.own 0 3 (0) p0)),(1,I p1),(4,Qfm),(10,I p2),(11,I p3)] [0,1] [(Qee p4),Qcr] hq (pc (.rn (Qal rfl)) (pw (pc (.rn (Qau rn0 (rnc (rqr rfl) rn0))) (pw (pw pn))))) (qc (spr Qaf) (qb (lc (.rn (Qau rn0 rn0)) ln) qn))) ?_
     refine Qb8 (τ:=Int×Int) (fun n t=>slices_symMergeCmpFunc_plant_pieceX_1_loop5 N p0 p1 p4 k94 n t.1 t.2=some r) (fun ⟨y115,y116⟩=>⟨mk 220 [(0,(.own 0 3 (0) p0)),(1,I p1),(4,Qfm),(10,I y115),(11,I y116)],[(Qee p4),Qcr]⟩) (fun t h=>by rw[slices_symMergeCmpFunc_plant_pieceX_1_loop5] at h;cases h) (fun n119 ih t h=>?_) N (p2,p3) h
     obtain⟨y115,y116⟩:=t
     rw[slices_symMergeCmpFunc_plant_pieceX_1_loop5] at h
     skip
     refine wsq<|wxz ?_
     refine bfe h (fun hc120 h=>?_) fun hc120 h=>?_
     ·refine wft hc120<|Qan<|thn<|Qag ?_
      obtain⟨x121,hl122,h⟩:=bno h
      refine wx tbk [(3,rp [(.tmp 36,(I (w64 (y115+y116))))] (K .u64 (IntKind.wrap .u64 (w64 (y115+y116))))),(4,rp [(.tmp 37,(K .u64 (IntKind.wrap .u64 (w64 (y115+y116))))),(.const (.int .u64 1),(K .u64 (1)))] (K .u64 ((IntKind.wrap .u64 (w64 (y115+y116)))/2))),(5,rp [(.tmp 38,(K .u64 ((IntKind.wrap .u64 (w64 (y115+y116)))/2)))] (I (w64 ((IntKind.wrap .u64 (w64 (y115+y116)))/2)))),(6,rp [(.tmp 39,(I (w64 ((IntKind.wrap .u64 (w64 (y115+y116)))/2))))] (I x121))] ⟨acv rfl (by rw[underlying3];rfl) underlying76,Qkz rfl (by decide) (by decide),acv rfl (by rw[underlying76];rfl) underlying3,Qfh hl122 (aas rfl),tv⟩ ?_
      obtain⟨hi123,h⟩:=cko h
      obtain⟨hi123a,hi123b⟩:=Qcb hi123
      obtain⟨x124,hg125,h⟩:=bno h
      obtain⟨hi126,h⟩:=cko h
      obtain⟨hi126a,hi126b⟩:=Qcb hi126
      obtain⟨x127,hg128,h⟩:=bno h
      obtain⟨x130,hf129,h⟩:=bno h
      refine wxd tbk [(3,rb [(.tmp 41,(.own 0 3 (0) p0)),(.tmp 42,I x121)] [(0,(Qee p4))] (.ref 0 3 x121.toNat 0)),(4,rb [(.tmp 43,(.ref 0 3 x121.toNat 0))] [(0,(Qee p4))] (Q3j x124)),(7,rb [(.tmp 45,(.own 0 3 (0) p0)),(.tmp 46,I p1)] [(0,(Qee p4))] (.ref 0 3 p1.toNat 0)),(8,rb [(.tmp 47,(.ref 0 3 p1.toNat 0))] [(0,(Qee p4))] (Q3i x127)),(9,⟨_,_,_,_,false⟩)] ⟨aio rfl underlying239 Qd1 (odt hi123a) (odt hi123b) (Nat.zero_add _),ald rfl Qd1 (by decide) (mgt Qac hg125) (nle rfl) rfl,aio rfl underlying239 Qd1 (odt hi126a) (odt hi126b) (Nat.zero_add _),ald rfl Qd1 (by decide) (mgt Qac hg128) (nle rfl) rfl,Qd5 (first:=[]) (cap:=[.ref 1 1 0 0]) (vs:=[(.agg [(I ((⟨x124.unit,(⟨x124.Part.Width,x124.Part.Gain⟩:Qa8)⟩:Qaa).unit)),(I ((⟨x124.unit,(⟨x124.Part.Width,x124.Part.Gain⟩:Qa8)⟩:Qaa).Part.Width)),(I ((⟨x124.unit,(⟨x124.Part.Width,x124.Part.Gain⟩:Qa8)⟩:Qaa).Part.Gain))]),(.agg [(I ((⟨x127.unit,(⟨x127.Part.Width,x127.Part.Gain⟩:Qa8)⟩:Qaa).unit)),(I ((⟨x127.unit,(⟨x127.Part.Width,x127.Part.Gain⟩:Qa8)⟩:Qaa).Part.Width)),(I ((⟨x127.unit,(⟨x127.Part.Width,x127.Part.Gain⟩:Qa8)⟩:Qaa).Part.Gain))])]) (σr:=[Qcr]) (σr':=[Qcr]) (res':=(I x130)) [1] rfl Qlx (Qcs N (⟨x124.unit,(⟨x124.Part.Width,x124.Part.Gain⟩:Qa8)⟩:Qaa) (⟨x127.unit,(⟨x127.Part.Width,x127.Part.Gain⟩:Qa8)⟩:Qaa) _ hf129) rfl (Qco (rnc (.plain _ (NLt.agg _ (nlcc (nlc nll nl0)))) (rnc (.plain _ (NLt.agg _ (nlcc (nlc nll nl0)))) (rnc (Qby rfl) rn0)))) (slc (Qar (rnc (.plain _ (NLt.fn _ _ _ nl0 nl0)) rn0)) Qas) (slc (Qar (rnc (.plain _ (NLt.fn _ _ _ nl0 nl0)) rn0)) Qas) (.plain _ nll) rfl rfl rfl,tv⟩ ?_
      refine bfe h (fun hc131 h=>?_) fun hc131 h=>?_
      ·exact wft hc131<|wxz1<|bln<|thn<|arm (mto (n:=220) [(0,(.own 0 3 (0) p0)),(1,I p1),(4,Qfm),(10,(I (w64 (x121+1)))),(11,I y116)] [0,1] [(Qee p4),Qcr] hq (pc (.rn (Qal rfl)) (pw (pc (.rn (Qau rn0 (rnc (rqr rfl) rn0))) (pw (pw pn))))) (qc (spr Qaf) (qb (lc (.rn (Qau rn0 rn0)) ln) qn))) (ih (w64 (x121+1),y116) h)
      ·exact wfn hc131<|wxz1<|bln<|thn<|arm (mto (n:=220) [(0,(.own 0 3 (0) p0)),(1,I p1),(4,Qfm),(10,I y115),(11,I x121)] [0,1] [(Qee p4),Qcr] hq (pc (.rn (Qal rfl)) (pw (pc (.rn (Qau rn0 (rnc (rqr rfl) rn0))) (pw (pw pn))))) (qc (spr Qaf) (qb (lc (.rn (Qau rn0 rn0)) ln) qn))) (ih (y115,x121) h)
     ·exact wfn hc120<|Qbi<|Qaw<|Qaw<|Qbh rfl<|thn<|⟨(y115),h,(mto (n:=220) [(0,(.own 0 3 (0) p0)),(1,I p1),(10,I y115)] [0,1] [(Qee p4),Qcr] hq (pc (.rn (Qal rfl)) (pw (pw pn))) (qc (spr Qaf) (qb (lc (.rn (Qau rn0 rn0)) ln) qn)))⟩
   ·exact wfn hc92<|Qan<|thn<|⟨(),h,(mto (n:=220) [(0,(.own 0 3 (0) p0)),(1,I p1),(2,I p2),(3,I p3),(4,Qfm)] [0,1] [(Qee p4),Qcr] hq (pc (.rn (Qal rfl)) (pw (pw (pw (pc (.rn (Qau rn0 (rnc (rqr rfl) rn0))) pn))))) (qc (spr Qaf) (qb (lc (.rn (Qau rn0 rn0)) ln) qn)))⟩
def Qbb (N p0:Nat) (p1 y7:Int) (k15:Int×(List Qaa)→Option (List Qaa)):Nat→Int→Int→(List Qaa)→Option (List Qaa)
  |0,_,_,_=>none
  |n25+1,y19,y20,y21=>
    bif (decide (y20≤p1)) then
     (Qax N p0 y19 (w64 (y19+y7)) y20 y21).bind fun x28=>
     (some (w64 (y20+(w64 (2*y7))))).bind fun x29=>
     Qbb N p0 p1 y7 k15 n25 y20 x29 x28
    else
     k15 (y19,y21)
def Qam (N p0:Nat) (p1:Int):Nat→Int→(List Qaa)→Option (List Qaa)
  |0,_,_=>none
  |n11+1,y7,y8=>
    bif (decide (y7<p1)) then
     Qb5 (fun ⟨y13,y14⟩=>
       bif (decide ((w64 (y13+y7))<p1)) then
        (Qax N p0 y13 (w64 (y13+y7)) p1 y14).bind fun x18=>
        Qam N p0 p1 n11 (w64 (y7*2)) x18
       else
        Qam N p0 p1 n11 (w64 (y7*2)) y14) fun k15:Int×(List Qaa)→Option (List Qaa)=>
     Qbb N p0 p1 y7 k15 N 0 (w64 (2*y7)) y8
    else
     some y8
def Qba (N p0:Nat) (p1:Int) (k4:Int×(List Qaa)→Option (List Qaa)):Nat→Int→Int→(List Qaa)→Option (List Qaa)
  |0,_,_,_=>none
  |n37+1,y31,y32,y33=>
    bif (decide (y32≤p1)) then
     (Qa9 N p0 y31 y32 y33).bind fun x40=>
     Qba N p0 p1 k4 n37 y32 (w64 (y32+20)) x40
    else
     k4 (y31,y33)
def Qcj (N p0:Nat) (p1:Int) (p2:List Qaa):Option (List Qaa):=
  Qb5 (fun ⟨y2,y3⟩=>
    (Qa9 N p0 y2 p1 y3).bind fun x6=>
    Qam N p0 p1 N 20 x6) fun k4:Int×(List Qaa)→Option (List Qaa)=>
  Qba N p0 p1 k4 N 0 20 p2
abbrev Qhh:AV:=.fn (.func 190) [] [(.ref 1 1 (0) 0)]
abbrev Qf4:Slot:=.own 1 [[(.fn (.func 138) [] [])]]
def Qpd (y8:List Qaa):Slot:=.own 3 (y8.map Qac)
theorem Qfp (N p0:Nat) (p1:Int) (p2 r:List Qaa) (h:Qcj N p0 p1 p2=some r):Spec prog 224 [(.own 0 3 (0) p0),(I p1),Qhh] [(.own 3 (p2.map Qac)),Qf4] (.tup []) [(.own 3 (r.map Qac)),Qf4]:=by
  refine sF func224 2 fun _ _ _ hq hd0=>?_
  unfold Qcj at h
  refine wxz<|wxz ?_
  obtain⟨k4,hk_k4,h⟩:=jko h
  refine wjn (τ:=Int×(List Qaa)) (fun t=>k4 t=some r) (fun ⟨y2,y3⟩=>⟨mk 63 [(0,(.own 0 3 (0) p0)),(1,I p1),(2,Qhh),(6,I 20),(7,I y2)],[(.own 3 (y3.map Qac)),Qf4]⟩) (fun t h=>?_) ?_
  ·subst hk_k4
   obtain⟨y2,y3⟩:=t
   obtain⟨x6,hf5,h⟩:=bno h
   refine wx tbk [(4,⟨_,_,_,_,false⟩)] ⟨acq [(.own 0 3 (0) p0),I y2,I p1,Qhh] [(.own 3 (y3.map Qac)),Qf4] [(.own 3 (x6.map Qac)),Qf4] (.tup []) [0,1] Qsx (Qde N p0 y2 p1 y3 _ hf5) (Qco (rnc (Qfs rfl) (rncc (rnc (Qau rn0 (rnc (Qby rfl) rn0)) rn0)))) (slc (Qcu Qaf) (slc (Qar (rnc (.plain _ (NLt.fn _ _ _ nl0 nl0)) rn0)) Qas)) (slc (Qcu Qaf) (slc (Qar (rnc (.plain _ (NLt.fn _ _ _ nl0 nl0)) rn0)) Qas)) (.plain _ (NLt.tup _ nl0)),tv⟩<|Qag ?_
   refine wmr (mto (n:=63) (l':=[(0,(.own 0 3 (0) p0)),(1,I p1),(2,Qhh),(6,I 20)]) (own':=[(.own 3 (x6.map Qac)),Qf4]) [(0,(.own 0 3 (0) p0)),(1,I p1),(2,Qhh),(6,I 20)] [0,1] [(.own 3 (x6.map Qac)),Qf4] hq (pc (.rn (Qal rfl)) (pw (pc (.rn (Qau rn0 (rnc (rqr rfl) rn0))) (pw pn)))) (qc (spr Qaf) (qb (lc (.rn (Qau rn0 rn0)) ln) qn))) ?_
   refine Qb8 (τ:=Int×(List Qaa)) (fun n t=>Qam N p0 p1 n t.1 t.2=some r) (fun ⟨y7,y8⟩=>⟨mk 63 [(0,(.own 0 3 (0) p0)),(1,I p1),(2,Qhh),(6,I y7)],[(Qpd y8),Qf4]⟩) (fun t h=>by rw[Qam] at h;cases h) (fun n11 ih t h=>?_) N (20,x6) h
   obtain⟨y7,y8⟩:=t
   rw[Qam] at h
   skip
   refine wsq<|wxz ?_
   refine bfe h (fun hc12 h=>?_) fun hc12 h=>?_
   ·refine wft hc12<|Qan<|thn<|Qag<|wxz ?_
    obtain⟨k15,hk_k15,h⟩:=jko h
    refine wjn (τ:=Int×(List Qaa)) (fun t=>k15 t=some r) (fun ⟨y13,y14⟩=>⟨mk 63 [(0,(.own 0 3 (0) p0)),(1,I p1),(2,Qhh),(6,I y7),(7,I y13)],[(.own 3 (y14.map Qac)),Qf4]⟩) (fun t h=>?_) ?_
    ·subst hk_k15
     obtain⟨y13,y14⟩:=t
     refine wsq<|wxz<|wxz ?_
     refine bfe h (fun hc16 h=>?_) fun hc16 h=>?_
     ·refine wft hc16 ?_
      obtain⟨x18,hf17,h⟩:=bno h
      refine wx1 tbk [(5,⟨_,_,_,_,false⟩)] ⟨acq [(.own 0 3 (0) p0),I y13,(I (w64 (y13+y7))),I p1,Qhh] [(.own 3 (y14.map Qac)),Qf4] [(.own 3 (x18.map Qac)),Qf4] (.tup []) [0,1] Qlw (Qdy N p0 y13 (w64 (y13+y7)) p1 y14 _ hf17) (Qco (rnc (Qfs rfl) (rncc (rnc (.plain _ nll) (rnc (Qau rn0 (rnc (Qby rfl) rn0)) rn0))))) (slc (Qcu Qaf) (slc (Qar (rnc (.plain _ (NLt.fn _ _ _ nl0 nl0)) rn0)) Qas)) (slc (Qcu Qaf) (slc (Qar (rnc (.plain _ (NLt.fn _ _ _ nl0 nl0)) rn0)) Qas)) (.plain _ (NLt.tup _ nl0)),tv⟩<|thn<|wxz1<|bln<|thn ?_
      exact arm (mto (n:=63) [(0,(.own 0 3 (0) p0)),(1,I p1),(2,Qhh),(6,(I (w64 (y7*2))))] [0,1] [(.own 3 (x18.map Qac)),Qf4] hq (pc (.rn (Qal rfl)) (pw (pc (.rn (Qau rn0 (rnc (rqr rfl) rn0))) (pw pn)))) (qc (spr Qaf) (qb (lc (.rn (Qau rn0 rn0)) ln) qn))) (ih (w64 (y7*2),x18) h)
     ·exact wfn hc16<|Qan<|thn<|wxz1<|bln<|thn<|arm (mto (n:=63) [(0,(.own 0 3 (0) p0)),(1,I p1),(2,Qhh),(6,(I (w64 (y7*2))))] [0,1] [(.own 3 (y14.map Qac)),Qf4] hq (pc (.rn (Qal rfl)) (pw (pc (.rn (Qau rn0 (rnc (rqr rfl) rn0))) (pw pn)))) (qc (spr Qaf) (qb (lc (.rn (Qau rn0 rn0)) ln) qn))) (ih (w64 (y7*2),y14) h)
    ·skip
     refine Qag<|wmr (mto (n:=63) (l':=[(0,(.own 0 3 (0) p0)),(1,I p1),(2,Qhh),(6,I y7),(7,I 0),(8,(I ((w64 (2*y7)))))]) (own':=[(Qpd y8),Qf4]) [(0,(.own 0 3 (0) p0)),(1,I p1),(2,Qhh),(6,I y7),(7,I 0),(8,(I (w64 (2*y7))))] [0,1] [(Qpd y8),Qf4] hq (pc (.rn (Qal rfl)) (pw (pc (.rn (Qau rn0 (rnc (rqr rfl) rn0))) (pw (pw (pw pn)))))) (qc (spr Qaf) (qb (lc (.rn (Qau rn0 rn0)) ln) qn))) ?_
     refine Qb8 (τ:=Int×Int×(List Qaa)) (fun n t=>Qbb N p0 p1 y7 k15 n t.1 t.2.1 t.2.2=some r) (fun ⟨y19,y20,y21⟩=>⟨mk 63 [(0,(.own 0 3 (0) p0)),(1,I p1),(2,Qhh),(6,I y7),(7,I y19),(8,I y20)],[(.own 3 (y21.map Qac)),Qf4]⟩) (fun t h=>by rw[Qbb] at h;cases h) (fun n25 ih t h=>?_) N (0,w64 (2*y7),y8) h
     obtain⟨y19,y20,y21⟩:=t
     rw[Qbb] at h
     skip
     refine wsq<|wxz ?_
     refine bfe h (fun hc26 h=>?_) fun hc26 h=>?_
     ·refine wft hc26<|Qan<|thn<|Qag ?_
      obtain⟨x28,hf27,h⟩:=bno h
      refine wx tbk [(7,⟨_,_,_,_,false⟩)] ⟨acq [(.own 0 3 (0) p0),I y19,(I (w64 (y19+y7))),I y20,Qhh] [(.own 3 (y21.map Qac)),Qf4] [(.own 3 (x28.map Qac)),Qf4] (.tup []) [0,1] Qlw (Qdy N p0 y19 (w64 (y19+y7)) y20 y21 _ hf27) (Qco (rnc (Qfs rfl) (rncc (rnc (.plain _ nll) (rnc (Qau rn0 (rnc (Qby rfl) rn0)) rn0))))) (slc (Qcu Qaf) (slc (Qar (rnc (.plain _ (NLt.fn _ _ _ nl0 nl0)) rn0)) Qas)) (slc (Qcu Qaf) (slc (Qar (rnc (.plain _ (NLt.fn _ _ _ nl0 nl0)) rn0)) Qas)) (.plain _ (NLt.tup _ nl0)),tv⟩<|wxz ?_
      obtain⟨x29,hl30,h⟩:=bno h
      exact wx1 tbk [(4,rp [(.tmp 48,(I (w64 (y20+(w64 (2*y7))))))] (I x29))] ⟨Qfh hl30 (aas rfl),tv⟩<|bln<|thn<|arm (mto (n:=63) [(0,(.own 0 3 (0) p0)),(1,I p1),(2,Qhh),(6,I y7),(7,I y20),(8,I x29)] [0,1] [(.own 3 (x28.map Qac)),Qf4] hq (pc (.rn (Qal rfl)) (pw (pc (.rn (Qau rn0 (rnc (rqr rfl) rn0))) (pw (pw (pw pn)))))) (qc (spr Qaf) (qb (lc (.rn (Qau rn0 rn0)) ln) qn))) (ih (y20,x29,x28) h)
     ·exact wfn hc26<|Qbi<|Qaw<|Qaw<|Qbh rfl<|thn<|⟨(y19,y21),h,(mto (n:=63) [(0,(.own 0 3 (0) p0)),(1,I p1),(2,Qhh),(6,I y7),(7,I y19)] [0,1] [(.own 3 (y21.map Qac)),Qf4] hq (pc (.rn (Qal rfl)) (pw (pc (.rn (Qau rn0 (rnc (rqr rfl) rn0))) (pw (pw pn))))) (qc (spr Qaf) (qb (lc (.rn (Qau rn0 rn0)) ln) qn)))⟩
   ·refine wfn hc12<|Qbi<|Qaw<|Qaw<|Qbh rfl ?_
    obtain rfl:=osi h
    exact⟨_,(mto (n:=63) (l':=[]) (own':=[(Qpd y8),Qf4]) [] [0,1] [(Qpd y8),Qf4] hq pn (qc (spr Qaf) (qb (lc (.rn (Qau rn0 rn0)) ln) qn))),fio [] tv⟩
  ·skip
   refine Qag<|wmr (mto (n:=63) (l':=[(0,(.own 0 3 (0) p0)),(1,I p1),(2,Qhh),(6,I 20),(7,I 0),(8,I 20)]) (own':=[(.own 3 (p2.map Qac)),Qf4]) [(0,(.own 0 3 (0) p0)),(1,I p1),(2,Qhh),(6,I 20),(7,I 0),(8,I 20)] [0,1] [(.own 3 (p2.map Qac)),Qf4] hq (pc (.rn (Qal rfl)) (pw (pc (.rn (Qau rn0 (rnc (rqr rfl) rn0))) (pw (pw (pw pn)))))) (qc (spr Qaf) (qb (lc (.rn (Qau rn0 rn0)) ln) qn))) ?_
   refine Qb8 (τ:=Int×Int×(List Qaa)) (fun n t=>Qba N p0 p1 k4 n t.1 t.2.1 t.2.2=some r) (fun ⟨y31,y32,y33⟩=>⟨mk 63 [(0,(.own 0 3 (0) p0)),(1,I p1),(2,Qhh),(6,I 20),(7,I y31),(8,I y32)],[(.own 3 (y33.map Qac)),Qf4]⟩) (fun t h=>by rw[Qba] at h;cases h) (fun n37 ih t h=>?_) N (0,20,p2) h
   obtain⟨y31,y32,y33⟩:=t
   rw[Qba] at h
   skip
   refine wsq<|wxz ?_
   refine bfe h (fun hc38 h=>?_) fun hc38 h=>?_
   ·refine wft hc38<|Qan<|thn<|Qag ?_
    obtain⟨x40,hf39,h⟩:=bno h
    refine wx tbk [(4,⟨_,_,_,_,false⟩)] ⟨acq [(.own 0 3 (0) p0),I y31,I y32,Qhh] [(.own 3 (y33.map Qac)),Qf4] [(.own 3 (x40.map Qac)),Qf4] (.tup []) [0,1] Qsx (Qde N p0 y31 y32 y33 _ hf39) (Qco (rnc (Qfs rfl) (rncc (rnc (Qau rn0 (rnc (Qby rfl) rn0)) rn0)))) (slc (Qcu Qaf) (slc (Qar (rnc (.plain _ (NLt.fn _ _ _ nl0 nl0)) rn0)) Qas)) (slc (Qcu Qaf) (slc (Qar (rnc (.plain _ (NLt.fn _ _ _ nl0 nl0)) rn0)) Qas)) (.plain _ (NLt.tup _ nl0)),tv⟩<|wxz<|wxz1<|bln<|thn ?_
    exact arm (mto (n:=63) [(0,(.own 0 3 (0) p0)),(1,I p1),(2,Qhh),(6,I 20),(7,I y32),(8,(I (w64 (y32+20))))] [0,1] [(.own 3 (x40.map Qac)),Qf4] hq (pc (.rn (Qal rfl)) (pw (pc (.rn (Qau rn0 (rnc (rqr rfl) rn0))) (pw (pw (pw pn)))))) (qc (spr Qaf) (qb (lc (.rn (Qau rn0 rn0)) ln) qn))) (ih (y32,w64 (y32+20),x40) h)
   ·exact wfn hc38<|Qbi<|Qaw<|Qaw<|Qbh rfl<|thn<|⟨(y31,y33),h,(mto (n:=63) [(0,(.own 0 3 (0) p0)),(1,I p1),(2,Qhh),(6,I 20),(7,I y31)] [0,1] [(.own 3 (y33.map Qac)),Qf4] hq (pc (.rn (Qal rfl)) (pw (pc (.rn (Qau rn0 (rnc (rqr rfl) rn0))) (pw (pw pn))))) (qc (spr Qaf) (qb (lc (.rn (Qau rn0 rn0)) ln) qn)))⟩
def Qbk (N p0:Nat) (p1:List Qaa):Option (List Qaa):=
  (Qcj N p0 ((p0:Nat):Int) p1).bind fun x3=>
  some x3
abbrev Q5z:AV:=.fn (.func 190) [] [(.ref 1 1 (0) 0)]
abbrev Qtp:Slot:=.own 1 [[(.fn (.func 138) [] [])]]
theorem Qeh (N p0:Nat) (p1 r:List Qaa) (h:Qbk N p0 p1=some r):Spec prog 189 [(.own 0 3 (0) p0),Q5z] [(.own 3 (p1.map Qac)),Qtp] (.tup []) [(.own 3 (r.map Qac)),Qtp]:=by
  refine sF func189 2 fun _ _ _ hq hd0=>?_
  unfold Qbk at h
  obtain⟨x3,hf2,h⟩:=bno h
  refine wx1 tbk [(2,rp [(.tmp 5,(.own 0 3 (0) p0))] (I (((p0:Nat):Int)))),(4,⟨_,_,_,_,false⟩)] ⟨aln rfl underlying239 rfl,acq [(.own 0 3 (0) p0),(I (((p0:Nat):Int))),Q5z] [(.own 3 (p1.map Qac)),Qtp] [(.own 3 (x3.map Qac)),Qtp] (.tup []) [0,1] Q0e (Qfp N p0 ((p0:Nat):Int) p1 _ hf2) (Qco (rnc (Qfs rfl) (rnc (.plain _ nll) (rnc (Qau rn0 (rnc (Qby rfl) rn0)) rn0)))) (slc (Qcu Qaf) (slc (Qar (rnc (.plain _ (NLt.fn _ _ _ nl0 nl0)) rn0)) Qas)) (slc (Qcu Qaf) (slc (Qar (rnc (.plain _ (NLt.fn _ _ _ nl0 nl0)) rn0)) Qas)) (.plain _ (NLt.tup _ nl0)),tv⟩ ?_
  obtain rfl:=osi h
  exact⟨_,(mto (n:=9) (l':=[]) (own':=[(.own 3 (x3.map Qac)),Qtp]) [] [0,1] [(.own 3 (x3.map Qac)),Qtp] hq pn (qc (spr Qaf) (qb (lc (.rn (Qau rn0 rn0)) ln) qn))),fio [] tv⟩
def Qcf (N p0:Nat) (p1:List Qaa):Option (List Qaa):=
  (Qbk N p0 p1).bind fun x3=>
  some x3
def Q50:AV:=.fn (.func 190) [] [(.ref 1 1 (0) 0)]
def Q51:Slot:=.own 1 [[(.fn (.func 138) [] [])]]
theorem Qgt (N p0:Nat) (p1 r:List Qaa) (h:Qcf N p0 p1=some r):Spec prog 137 [(.own 0 3 (0) p0),(.fn (.func 138) [] [])] [(.own 3 (p1.map Qac))] (.own 0 3 (0) p0) [(.own 3 (r.map Qac))]:=by
  refine sF func137 1 fun _ _ _ hq hd0=>?_
  unfold Qcf at h
  refine wxz ?_
  obtain⟨x3,hf2,h⟩:=bno h
  refine wx tbk [(1,rp [(.tmp 3,.ref 1 1 0 0)] Q50),(2,⟨_,_,_,_,false⟩)] ⟨Qe4 (fs:=[]) (cs:=[.ref 1 1 0 0]) rfl rfl rfl rfl,acq [(.own 0 3 (0) p0),Q50] [(.own 3 (p1.map Qac)),Q51] [(.own 3 (x3.map Qac)),Q51] (.tup []) [0,1] Q0m (Qeh N p0 p1 _ hf2) (Qco (rnc (Qfs rfl) (rnc (Qau rn0 (rnc (Qby rfl) rn0)) rn0))) (slc (Qcu Qaf) (slc (Qar (rnc (.plain _ (NLt.fn _ _ _ nl0 nl0)) rn0)) Qas)) (slc (Qcu Qaf) (slc (Qar (rnc (.plain _ (NLt.fn _ _ _ nl0 nl0)) rn0)) Qas)) (.plain _ (NLt.tup _ nl0)),tv⟩<|wxz ?_
  refine wmr (mto (n:=9) (l':=[(4,(.own 0 3 (0) p0))]) (own':=[(.own 3 (x3.map Qac))]) [(4,(.own 0 3 (0) p0))] [0] [(.own 3 (x3.map Qac))] hq (pc (.rn (Qal rfl)) pn) (qc (spr Qaf) qn))<|Qae ?_
  obtain rfl:=osi h
  exact⟨_,Mor.rfl,fio [(.own 0 3 (0) p0)] ⟨rot,tv⟩⟩
def Qbx (N p0:Nat) (p1:List Int) (k7:Int→Option Int):Nat→Int→Int→Option Int
  |0,_,_=>none
  |n12+1,y8,y9=>
    bif (decide (y9<((p0:Nat):Int))) then
     chk (decide (0≤y9)&&decide (y9.toNat<p0))<|
     (p1[y9.toNat]?).bind fun x15=>
     (some (if x15<y8 then x15 else y8)).bind fun x17=>
     Qbx N p0 p1 k7 n12 x17 (w64 (y9+1))
    else
     k7 (y8)
def Qdz (N p0:Nat) (p1:List Int):Option Int:=
  Qb5 (fun _=>
    chk (decide (0≤0)&&decide ((0:Int).toNat<p0))<|
    (p1[(0:Int).toNat]?).bind fun x4=>
    Qb5 (fun y6=>
      some y6) fun k7:Int→Option Int=>
    Qbx N p0 p1 k7 N x4 1) fun k2:Unit→Option Int=>
  bif (decide (((p0:Nat):Int)<1)) then
   none
  else
   k2 ()
theorem Qhw (N p0:Nat) (p1:List Int) (r:Int) (h:Qdz N p0 p1=some r):Spec prog 139 [(.own 0 1 (0) p0)] [(.own 1 (p1.map Qab))] (I r) [(.own 1 (p1.map Qab))]:=by
  refine sF func139 1 fun _ _ _ hq hd0=>?_
  unfold Qdz at h
  refine wxz ?_
  obtain⟨k2,hk_k2,h⟩:=jko h
  refine wjn (τ:=Unit) (fun t=>k2 t=some r) (fun _=>⟨mk 25 [(0,(.own 0 1 (0) p0))],[(.own 1 (p1.map Qab))]⟩) (fun t h=>?_) ?_
  ·subst hk_k2
   obtain⟨hi3,h⟩:=cko h
   obtain⟨hi3a,hi3b⟩:=Qcb hi3
   obtain⟨x4,hg5,h⟩:=bno h
   refine wx tbk [(1,rb [(.tmp 9,(.own 0 1 (0) p0)),ci 0] [(0,(.own 1 (p1.map Qab)))] (.ref 0 1 ((0:Int).toNat) 0)),(2,rb [(.tmp 10,(.ref 0 1 ((0:Int).toNat) 0))] [(0,(.own 1 (p1.map Qab)))] (I x4))] ⟨aio rfl underlying22 ti3 (odt hi3a) (odt hi3b) (Nat.zero_add _),ald rfl ti3 (by decide) (mgt Qab hg5) (nle rfl) rfl,tv⟩ ?_
   obtain⟨k7,hk_k7,h⟩:=jko h
   refine wjn (τ:=Int) (fun t=>k7 t=some r) (fun y6=>⟨mk 25 [(3,I y6)],[(.own 1 (p1.map Qab))]⟩) (fun y6 h=>?_) ?_
   ·subst hk_k7
    refine wxz<|wmr (mto (n:=25) (l':=[(2,I y6)]) (own':=[(.own 1 (p1.map Qab))]) [(2,I y6)] [0] [(.own 1 (p1.map Qab))] hq (pw pn) (qc (spr Qad) qn))<|Qae ?_
    obtain rfl:=osi h
    exact⟨_,Mor.rfl,fio [I y6] ⟨rot,tv⟩⟩
   ·skip
    refine wxz<|Qag ?_
    refine wmr (mto (n:=25) (l':=[(0,(.own 0 1 (0) p0)),(3,I x4),(4,I 1)]) (own':=[(.own 1 (p1.map Qab))]) [(0,(.own 0 1 (0) p0)),(3,I x4),(4,I 1)] [0] [(.own 1 (p1.map Qab))] hq (pc (.rn (Qal rfl)) (pw (pw pn))) (qc (spr Qad) qn)) ?_
    refine Qb8 (τ:=Int×Int) (fun n t=>Qbx N p0 p1 k7 n t.1 t.2=some r) (fun ⟨y8,y9⟩=>⟨mk 25 [(0,(.own 0 1 (0) p0)),(3,I y8),(4,I y9)],[(.own 1 (p1.map Qab))]⟩) (fun t h=>by rw[Qbx] at h;cases h) (fun n12 ih t h=>?_) N (x4,1) h
    obtain⟨y8,y9⟩:=t
    rw[Qbx] at h
    skip
    refine wsq<|wx tbk [(2,rp [(.tmp 13,(.own 0 1 (0) p0))] (I (((p0:Nat):Int))))] ⟨aln rfl underlying22 rfl,tv⟩ ?_
    refine bfe h (fun hc13 h=>?_) fun hc13 h=>?_
    ·refine wft hc13<|Qan<|thn<|wsq<|Qag ?_
     obtain⟨hi14,h⟩:=cko h
     obtain⟨hi14a,hi14b⟩:=Qcb hi14
     obtain⟨x15,hg16,h⟩:=bno h
     obtain⟨x17,hl18,h⟩:=bno h
     refine wx1 tbk [(3,rb [(.tmp 19,(.own 0 1 (0) p0)),(.tmp 20,I y9)] [(0,(.own 1 (p1.map Qab)))] (.ref 0 1 y9.toNat 0)),(4,rb [(.tmp 21,(.ref 0 1 y9.toNat 0))] [(0,(.own 1 (p1.map Qab)))] (I x15)),(5,rp [(.tmp 18,I y8),(.tmp 22,I x15)] (I ((if x15<y8 then x15 else y8)))),(6,rp [(.tmp 23,(I ((if x15<y8 then x15 else y8))))] (I x17))] ⟨aio rfl underlying22 ti3 (odt hi14a) (odt hi14b) (Nat.zero_add _),ald rfl ti3 (by decide) (mgt Qab hg16) (nle rfl) rfl,Qk0 rfl,Qfh hl18 (aas rfl),tv⟩<|bln<|thn<|wxz1<|thn ?_
     exact arm (mto (n:=25) [(0,(.own 0 1 (0) p0)),(3,I x17),(4,(I (w64 (y9+1))))] [0] [(.own 1 (p1.map Qab))] hq (pc (.rn (Qal rfl)) (pw (pw pn))) (qc (spr Qad) qn)) (ih (x17,w64 (y9+1)) h)
    ·exact wfn hc13<|Qbi<|Qaw<|Qaw<|Qbh rfl<|thn<|⟨(y8),h,(mto (n:=25) [(3,I y8)] [0] [(.own 1 (p1.map Qab))] hq (pw pn) (qc (spr Qad) qn))⟩
  ·skip
   refine wx tbk [(1,rp [(.tmp 5,(.own 0 1 (0) p0))] (I (((p0:Nat):Int))))] ⟨aln rfl underlying22 rfl,tv⟩ ?_
   refine bfe h (fun hc19 h=>?_) fun hc19 h=>?_
   ·refine wft hc19 ?_
    cases h
   ·exact wfn hc19<|Qan<|thn<|⟨(),h,(mto (n:=25) [(0,(.own 0 1 (0) p0))] [0] [(.own 1 (p1.map Qab))] hq (pc (.rn (Qal rfl)) pn) (qc (spr Qad) qn))⟩
def Qce (N:Nat) (x41:Qah) (x49:Int) (k52:(List Int)→Option ((List Int)×(List Int)×(List Int))) (x67:Int):Nat→Int→(List Int)→Option ((List Int)×(List Int)×(List Int))
  |0,_,_=>none
  |n73+1,y69,y70=>
    bif (decide (y69<x67)) then
     chk (decide (0≤y69)&&decide (y69.toNat<(w64 (x41.Inlet+1)).toNat-(0:Int).toNat))<|
     (y70[y69.toNat]?).bind fun x76=>
     chk (decide (0≤y69)&&decide (y69.toNat<(w64 (x41.Inlet+1)).toNat-(0:Int).toNat))<|
     (y70[y69.toNat]?).bind fun _=>
     Qce N x41 x49 k52 x67 n73 (w64 (y69+1)) (y70.set y69.toNat (w64 (x76-x49)))
    else
     k52 (y70)
def Qbd (N:Nat) (p0:Qc2) (y10:List Int) (y11:List Qaa) (k17:(List Int)×(List Int)×(List Int)→Option ((List Int)×(List Int)×(List Int))) (x23:List Qaa):Nat→Int→(List Int)→(List Int)→(List Int)→Option ((List Int)×(List Int)×(List Int))
  |0,_,_,_,_=>none
  |n32+1,y24,y25,y26,y27=>
    bif (decide (y24<((y11.length:Nat):Int))) then
     Qb5 (fun ⟨y34,y35,y36⟩=>
       Qbd N p0 y10 y11 k17 x23 n32 (w64 (y24+1)) y34 y35 y36) fun k37:(List Int)×(List Int)×(List Int)→Option ((List Int)×(List Int)×(List Int))=>
     chk (decide (0≤y24)&&decide (y24.toNat<y11.length))<|
     (x23[y24.toNat]?).bind fun x39=>
     (getI p0.units x39.unit).bind fun x41=>
     chk (decide ((0:Int)≤0)&&decide (0≤w64 (x41.Inlet+1))&&decide (w64 (x41.Inlet+1)≤((p0.heads.length:Nat):Int)))<|
     chk (decide ((0:Int)<((p0.heads.length:Nat):Int)))<|
     (Qdz N ((w64 (x41.Inlet+1)).toNat-(0:Int).toNat) y26).bind fun x48=>
     (some (if x48<x39.Part.Width then x48 else x39.Part.Width)).bind fun x49=>
     Qb5 (fun y51=>
       chk (decide (0≤x39.unit)&&decide (x39.unit.toNat<(p0.units.length:Int).toNat))<|
       (y25[x39.unit.toNat]?).bind fun x54=>
       chk (decide (0≤x39.unit)&&decide (x39.unit.toNat<(p0.units.length:Int).toNat))<|
       (y25[x39.unit.toNat]?).bind fun _=>
       bif (decide (x49<x39.Part.Width)) then
        chk (decide (0≤x39.unit)&&decide (x39.unit.toNat<y10.length))<|
        (y27[x39.unit.toNat]?).bind fun x61=>
        bif (decide (x61<0)) then
         chk (decide (0≤x39.unit)&&decide (x39.unit.toNat<y10.length))<|
         (y27[x39.unit.toNat]?).bind fun _=>
         k37 (y25.set x39.unit.toNat (w64 (x54+x49)),y51,y27.set x39.unit.toNat x39.Part.Gain)
        else
         k37 (y25.set x39.unit.toNat (w64 (x54+x49)),y51,y27)
       else
        k37 (y25.set x39.unit.toNat (w64 (x54+x49)),y51,y27)) fun k52:(List Int)→Option ((List Int)×(List Int)×(List Int))=>
     (some (((w64 (x41.Inlet+1)).toNat-(0:Int).toNat:Nat):Int)).bind fun x67=>
     Qce N x41 x49 k52 x67 N 0 y26
    else
     k17 (y25,y26,y27)
def Qbq (N:Nat) (y81:Int) (k91:(List Int)×(List Qaa)→Option ((List Int)×(List Int)×(List Int))) (x92:Qah):Nat→Int→(List Int)→(List Qaa)→Option ((List Int)×(List Int)×(List Int))
  |0,_,_,_=>none
  |n103+1,y97,y98,y99=>
    bif (decide (y97<(x92.Parts.length:Int))) then
     (getI x92.Parts y97).bind fun x105=>
     chk (decide ((y99.length+([(⟨y81,x105⟩:Qaa)]).length)*24≤140737488355328))<|
     Qbq N y81 k91 x92 n103 (w64 (y97+1)) y98 (y99++([(⟨y81,x105⟩:Qaa)]))
    else
     k91 (y98,y99)
def Qb3 (N:Nat) (p0:Qc2) (k12:(List Int)×(List Qaa)→Option ((List Int)×(List Int)×(List Int))):Nat→Int→(List Int)→(List Qaa)→Option ((List Int)×(List Int)×(List Int))
  |0,_,_,_=>none
  |n87+1,y81,y82,y83=>
    bif (decide (y81<(p0.units.length:Int))) then
     Qb5 (fun ⟨y89,y90⟩=>
       Qb3 N p0 k12 n87 (w64 (y81+1)) y89 y90) fun k91:(List Int)×(List Qaa)→Option ((List Int)×(List Int)×(List Int))=>
     (getI p0.units y81).bind fun x92=>
     chk (decide ((y82.length+([(-1)]).length)*8≤140737488355328))<|
     Qbq N y81 k91 x92 N 0 (y82++([(-1)])) y83
    else
     k12 (y82,y83)
def Qeq (N:Nat) (p0:Qc2):Option ((List Int)×(List Int)×(List Int)):=
  chk (decide (0≤(p0.units.length:Int))&&decide (8*(p0.units.length:Int)≤281474976710656)&&decide ((p0.units.length:Int)≤9223372036854775807))<|
  (Qd8 N p0).bind fun x9=>
  Qb5 (fun ⟨y10,y11⟩=>
    chk (!y10.isEmpty)<|
    Qb5 (fun ⟨y14,y15,y16⟩=>
      chk (decide ((p0.units.length:Int).toNat≤y14.length))<|
      chk (decide (p0.heads.length≤y15.length))<|
      chk (decide (y10.length≤y16.length))<|
      some (y14.take ((p0.units.length:Int).toNat),y15.take p0.heads.length,y16.take y10.length)) fun k17:(List Int)×(List Int)×(List Int)→Option ((List Int)×(List Int)×(List Int))=>
    chk (!y11.isEmpty)<|
    (Qcf N y11.length y11).bind fun x23=>
    Qbd N p0 y10 y11 k17 x23 N 0 (List.replicate (p0.units.length:Int).toNat 0) x9 y10) fun k12:(List Int)×(List Qaa)→Option ((List Int)×(List Int)×(List Int))=>
  Qb3 N p0 k12 N 0 ([]:List Int) ([]:List Qaa)
def Qln (p0:Qc2):AV:=.dat 2 (p0.units.map Qaj)
def Qke (p0:Qc2):Slot:=.own 1 ((List.replicate (p0.units.length:Int).toNat 0:List Int).map Qab)
def Qgm (p0:Qc2):Slot:=.own 2 [[(.dat 1 (p0.heads.map Qab)),(Qln p0)]]
def Qiv (y14:List Int) (p0:Qc2):AV:=.dat 1 ((y14.take ((p0.units.length:Int).toNat):List Int).map Qab)
def Qk4 (y15:List Int) (p0:Qc2):AV:=.dat 1 ((y15.take p0.heads.length:List Int).map Qab)
def Qn2 (y16 y10:List Int):AV:=.dat 1 ((y16.take y10.length:List Int).map Qab)
def Qfd (x23:List Qaa):Slot:=.own 3 (x23.map Qac)
def Qk3 (x39:Qaa):Slot:=.own 3 [[(I x39.unit),(I x39.Part.Width),(I x39.Part.Gain)]]
def Qn1 (y25:List Int) (x39:Qaa) (x54 x49:Int):Slot:=.own 1 ((y25.set x39.unit.toNat (w64 (x54+x49)):List Int).map Qab)
def Q2b:Slot:=.gro 1 ((([]:List Int):List Int).map Qab)
def Q2c:Slot:=.gro 3 ((([]:List Qaa):List Qaa).map Qac)
def Q54:AV:=.dat 1 (([(-1)]:List Int).map Qab)
def Qn0 (x92:Qah):AV:=.dat 2 (x92.Parts.map Qbe)
def Qqv (y81:Int) (x105:Qa8):AV:=.agg [(I y81),(I x105.Width),(I x105.Gain)]
theorem Qi5 (N:Nat) (p0:Qc2) (r:((List Int)×(List Int)×(List Int))) (h:Qeq N p0=some r):Spec prog 77 [(.agg (Qjc p0))] [] (.tup [(.dat 1 (r.1.map Qab)),(.dat 1 (r.2.1.map Qab)),(.dat 1 (r.2.2.map Qab))]) []:=by
  refine sF func77 0 fun _ _ _ hq hd0=>?_
  unfold Qeq at h
  refine wxz<|wxz ?_
  obtain⟨hm7,h⟩:=cko h
  obtain⟨x9,hf8,h⟩:=bno h
  refine wxd tbk [(2,rp _ _),(3,⟨[(.tmp 17,(I ((p0.units.length:Int)))),(.tmp 17,(I ((p0.units.length:Int))))],[(1,.unused)],(.own 1 1 (0) ((p0.units.length:Int).toNat)),[(1,(Qke p0))],false⟩),(5,⟨_,_,_,_,false⟩)] ⟨alq 2 Qaj p0.units underlying107,Qnu rfl underlying22 te3 tz3 rfl (Quv hm7) rfl (Quu hm7) (Q2t hm7) (Qwt Qab rfl),acq [(.agg [(.dat 1 (p0.heads.map Qab)),(Qln p0)])] [] [(.own 1 (x9.map Qab))] (.own 2 1 (0) p0.heads.length) [2] Q03 (Qh8 N p0 _ hf8) (Qco (rnc (.plain _ (NLt.agg _ (nlc (nld Qad _) (nlc (nld Qai _) nl0)))) rn0)) Qas (slc (Qcu Qad) Qas) (Qq5 rfl),tv⟩ ?_
  obtain⟨k12,hk_k12,h⟩:=jko h
  refine wjn (τ:=(List Int)×(List Qaa)) (fun t=>k12 t=some r) (fun ⟨y10,y11⟩=>⟨mk 115 [(1,.ref 0 2 0 0),(2,(.own 1 1 (0) ((p0.units.length:Int).toNat))),(3,(.own 2 1 (0) p0.heads.length)),(4,(.gro 3 3 1 y10.length)),(5,(.gro 4 242 3 y11.length))],[(Qgm p0),(Qke p0),(.own 1 (x9.map Qab)),(.gro 1 (y10.map Qab)),(.gro 3 (y11.map Qac))]⟩) (fun t h=>?_) ?_
  ·subst hk_k12
   obtain⟨y10,y11⟩:=t
   obtain⟨hz13,h⟩:=cko h
   refine wmr (Qz3 (n:=115) (m:=1) (xs:=y10.map Qab) (l':=[(1,.ref 0 2 0 0),(2,(.own 1 1 (0) ((p0.units.length:Int).toNat))),(3,(.own 2 1 (0) p0.heads.length)),(4,(.own 3 1 (0) y10.length)),(5,(.gro 4 242 3 y11.length))]) 3 [(1,.ref 0 2 0 0),(2,(.own 1 1 (0) ((p0.units.length:Int).toNat))),(3,(.own 2 1 (0) p0.heads.length)),(4,(.gro 3 3 1 y10.length)),(5,(.gro 4 242 3 y11.length))] (by kernel_rfl) (by kernel_rfl) (by kernel_rfl) (Qdc hz13) ⟨rfl,.same _,rfl,.same _,rfl,.same _,rfl,.own _ _ _,rfl,.same _,tv⟩ rfl) ?_
   obtain⟨k17,hk_k17,h⟩:=jko h
   refine wjn (τ:=(List Int)×(List Int)×(List Int)) (fun t=>k17 t=some r) (fun ⟨y14,y15,y16⟩=>⟨mk 115 [(2,(.own 0 1 (0) ((p0.units.length:Int).toNat))),(3,(.own 1 1 (0) p0.heads.length)),(4,(.own 2 1 (0) y10.length))],[(.own 1 (y14.map Qab)),(.own 1 (y15.map Qab)),(.own 1 (y16.map Qab))]⟩) (fun t h=>?_) ?_
   ·subst hk_k17
    obtain⟨y14,y15,y16⟩:=t
    refine wxz ?_
    obtain⟨hz18,h⟩:=cko h
    refine wmr (Qw5 (n:=115) (l':=[(2,(Qiv y14 p0)),(3,(.own 1 1 (0) p0.heads.length)),(4,(.own 2 1 (0) y10.length))]) 0 [(2,(.own 0 1 (0) ((p0.units.length:Int).toNat))),(3,(.own 1 1 (0) p0.heads.length)),(4,(.own 2 1 (0) y10.length))] (by kernel_rfl) (by kernel_rfl) (by kernel_rfl) ⟨rfl,(Qrf hz18),rfl,(.same _),rfl,(.same _),tv⟩ rfl) ?_
    obtain⟨hz19,h⟩:=cko h
    refine wmr (Qw5 (n:=115) (l':=[(2,(Qiv y14 p0)),(3,(Qk4 y15 p0)),(4,(.own 2 1 (0) y10.length))]) 1 [(2,(Qiv y14 p0)),(3,(.own 1 1 (0) p0.heads.length)),(4,(.own 2 1 (0) y10.length))] (by kernel_rfl) (by kernel_rfl) (by kernel_rfl) ⟨rfl,(.same _),rfl,(Qrf hz19),rfl,(.same _),tv⟩ rfl) ?_
    obtain⟨hz20,h⟩:=cko h
    refine wmr (Qw5 (n:=115) (l':=[(2,(Qiv y14 p0)),(3,(Qk4 y15 p0)),(4,(Qn2 y16 y10))]) 2 [(2,(Qiv y14 p0)),(3,(Qk4 y15 p0)),(4,(.own 2 1 (0) y10.length))] (by kernel_rfl) (by kernel_rfl) (by kernel_rfl) ⟨rfl,(.same _),rfl,(.same _),rfl,(Qrf hz20),tv⟩ rfl) ?_
    refine wmr (mto (n:=115) (l':=[(2,(Qiv y14 p0)),(3,(Qk4 y15 p0)),(4,(Qn2 y16 y10))]) (own':=[]) [(2,(Qiv y14 p0)),(3,(Qk4 y15 p0)),(4,(Qn2 y16 y10))] [] [] hq (pc (rnd Qad) (pc (rnd Qad) (pc (rnd Qad) pn))) qn)<|Qae ?_
    obtain rfl:=osi h
    exact⟨_,Mor.rfl,fio [(Qiv y14 p0),(Qk4 y15 p0),(Qn2 y16 y10)] ⟨rot,rot,rot,tv⟩⟩
   ·skip
    obtain⟨hz21,h⟩:=cko h
    obtain⟨x23,hf22,h⟩:=bno h
    refine wx tbk [(1,⟨[fu 137,(.tmp 47,(.gro 4 242 3 y11.length)),fu 138],[(4,(.gro 3 (y11.map Qac)))],(.own 4 3 (0) y11.length),[(4,(Qfd x23))],false⟩),(2,rp [(.tmp 48,(.own 4 3 (0) y11.length))] (I (((y11.length:Nat):Int))))] ⟨Qe7 (bl':=[(4,(.own 3 (y11.map Qac)))]) ⟨rfl,SLess.gro (Qdc hz21),tv⟩ (awk (rd':=[fu 137,(.tmp 47,(.own 4 3 (0) y11.length)),fu 138]) ⟨rfl,lrf,rfl,Less.gro,rfl,lrf,tv⟩ (acq [(.own 4 3 (0) y11.length),(.fn (.func 138) [] [])] [(.own 3 (y11.map Qac))] [(Qfd x23)] (.own 4 3 (0) y11.length) [4] Q02 (Qgt N y11.length y11 _ hf22) (Qco (rnc (Qfs rfl) (rnc (.plain _ (NLt.fn _ _ _ nl0 nl0)) rn0))) (slc (Qcu Qaf) Qas) (slc (Qcu Qaf) Qas) (Qq5 rfl))),aln rfl underlying239 rfl,tv⟩<|Qag ?_
    refine wmr (mto (n:=115) (l':=[(1,.ref 0 2 0 0),(2,(.own 1 1 (0) ((p0.units.length:Int).toNat))),(3,(.own 2 1 (0) p0.heads.length)),(4,(.own 3 1 (0) y10.length)),(48,(.own 4 3 (0) y11.length)),(49,(I (((y11.length:Nat):Int)))),(50,I 0)]) (own':=[(Qgm p0),(.own 1 (((List.replicate (p0.units.length:Int).toNat 0):List Int).map Qab)),(.own 1 (x9.map Qab)),(.own 1 (y10.map Qab)),(Qfd x23)]) [(1,.ref 0 2 0 0),(2,(.own 1 1 (0) ((p0.units.length:Int).toNat))),(3,(.own 2 1 (0) p0.heads.length)),(4,(.own 3 1 (0) y10.length)),(48,(.own 4 3 (0) y11.length)),(49,(I (((y11.length:Nat):Int)))),(50,I 0)] [0,1,2,3,4] [(Qgm p0),(Qke p0),(.own 1 (x9.map Qab)),(.own 1 (y10.map Qab)),(Qfd x23)] hq (prr (pc (.rn (Qal rfl)) (pc (.rn (Qal rfl)) (pc (.rn (Qal rfl)) (pc (.rn (Qal rfl)) (pw (pw pn))))))) (qb (lc (rnd Qad) (lc (rnd Qai) ln)) (qc (spr Qad) (qc (spr Qad) (qc (spr Qad) (qc (spr Qaf) qn)))))) ?_
    refine Qb8 (τ:=Int×(List Int)×(List Int)×(List Int)) (fun n t=>Qbd N p0 y10 y11 k17 x23 n t.1 t.2.1 t.2.2.1 t.2.2.2=some r) (fun ⟨y24,y25,y26,y27⟩=>⟨mk 115 [(1,.ref 0 2 0 0),(2,(.own 1 1 (0) ((p0.units.length:Int).toNat))),(3,(.own 2 1 (0) p0.heads.length)),(4,(.own 3 1 (0) y10.length)),(48,(.own 4 3 (0) y11.length)),(49,(I (((y11.length:Nat):Int)))),(50,I y24)],[(Qgm p0),(.own 1 (y25.map Qab)),(.own 1 (y26.map Qab)),(.own 1 (y27.map Qab)),(Qfd x23)]⟩) (fun t h=>by rw[Qbd] at h;cases h) (fun n32 ih t h=>?_) N (0,List.replicate (p0.units.length:Int).toNat 0,x9,y10) h
    obtain⟨y24,y25,y26,y27⟩:=t
    rw[Qbd] at h
    skip
    refine wxz<|wsq ?_
    refine bfe h (fun hc33 h=>?_) fun hc33 h=>?_
    ·refine wft hc33<|Qan<|thn ?_
     obtain⟨k37,hk_k37,h⟩:=jko h
     refine wjn (τ:=(List Int)×(List Int)×(List Int)) (fun t=>k37 t=some r) (fun ⟨y34,y35,y36⟩=>⟨mk 115 [(1,.ref 0 2 0 0),(2,(.own 1 1 (0) ((p0.units.length:Int).toNat))),(3,(.own 2 1 (0) p0.heads.length)),(4,(.own 3 1 (0) y10.length)),(48,(.own 4 3 (0) y11.length)),(49,(I (((y11.length:Nat):Int)))),(50,I y24)],[(Qgm p0),(.own 1 (y34.map Qab)),(.own 1 (y35.map Qab)),(.own 1 (y36.map Qab)),(Qfd x23)]⟩) (fun t h=>?_) ?_
     ·subst hk_k37
      obtain⟨y34,y35,y36⟩:=t
      exact wxz1<|thn<|arm (mto (n:=115) [(1,.ref 0 2 0 0),(2,(.own 1 1 (0) ((p0.units.length:Int).toNat))),(3,(.own 2 1 (0) p0.heads.length)),(4,(.own 3 1 (0) y10.length)),(48,(.own 4 3 (0) y11.length)),(49,(I (((y11.length:Nat):Int)))),(50,(I (w64 (y24+1))))] [0,1,2,3,4] [(Qgm p0),(.own 1 (y34.map Qab)),(.own 1 (y35.map Qab)),(.own 1 (y36.map Qab)),(Qfd x23)] hq (prr (pc (.rn (Qal rfl)) (pc (.rn (Qal rfl)) (pc (.rn (Qal rfl)) (pc (.rn (Qal rfl)) (pw (pw pn))))))) (qb (lc (rnd Qad) (lc (rnd Qai) ln)) (qc (spr Qad) (qc (spr Qad) (qc (spr Qad) (qc (spr Qaf) qn)))))) (ih (w64 (y24+1),y34,y35,y36) h)
     ·skip
      refine Qag ?_
      obtain⟨hi38,h⟩:=cko h
      obtain⟨hi38a,hi38b⟩:=Qcb hi38
      obtain⟨x39,hg40,h⟩:=bno h
      refine wx tbk [(0,rb [(.tmp 48,(.own 4 3 (0) y11.length)),(.tmp 50,I y24)] [(4,(Qfd x23))] (.ref 4 3 y24.toNat 0)),(1,rb [(.tmp 52,(.ref 4 3 y24.toNat 0))] [(4,(Qfd x23))] (.agg [I x39.unit,I x39.Part.Width,I x39.Part.Gain]))] ⟨aio rfl underlying239 Qd1 (odt hi38a) (odt hi38b) (Nat.zero_add _),ald rfl Qd1 (by decide) (mgt Qac hg40) (nle rfl) rfl,tv⟩ ?_
      obtain⟨x41,hg42,h⟩:=bno h
      obtain⟨hi43,hj44⟩:=gsm hg42
      obtain⟨hs45,h⟩:=cko h
      obtain⟨hs46,h⟩:=cko h
      refine wx tbk [(5,rp _ _),(9,rb [(.tmp 54,(.own 2 1 (0) p0.heads.length)),(.tmp 62,(I (w64 (x41.Inlet+1))))] [(2,(.own 1 (y26.map Qab)))] (.own 2 1 (0) ((w64 (x41.Inlet+1)).toNat-(0:Int).toNat)))] ⟨aiq underlying107 Qn6 Qaj hi43 hj44,Qqm (k:=.i64) (k':=.i64) (lo:=none) (hi:=some (.tmp 62)) (l:=0) (hh:=w64 (x41.Inlet+1)) rfl underlying22 ti3 (fun _=>rfl) (fun e=>nomatch e) (Quv hs45) (Quu hs45) (odt (Qcb hs45).2) (odt hs46) rfl rfl,tv⟩ ?_
      obtain⟨x48,hf47,h⟩:=bno h
      obtain⟨x49,hl50,h⟩:=bno h
      refine wxd tbk [(4,⟨_,_,_,_,false⟩),(5,rp [(.tmp 66,I x39.Part.Width),(.tmp 68,I x48)] (I ((if x48<x39.Part.Width then x48 else x39.Part.Width)))),(6,rp [(.tmp 69,(I ((if x48<x39.Part.Width then x48 else x39.Part.Width))))] (I x49))] ⟨acq [(.own 2 1 (0) (((w64 (x41.Inlet+1)).toNat-(0:Int).toNat)))] [(.own 1 (y26.map Qab))] [(.own 1 (y26.map Qab))] (I x48) [2] Q01 (Qhw N ((w64 (x41.Inlet+1)).toNat-(0:Int).toNat) y26 _ hf47) (Qco (rnc (Qfs rfl) rn0)) (slc (Qcu Qad) Qas) (slc (Qcu Qad) Qas) (.plain _ nll),Qk0 rfl,Qfh hl50 (aas rfl),tv⟩ ?_
      obtain⟨k52,hk_k52,h⟩:=jko h
      refine wjn (τ:=(List Int)) (fun t=>k52 t=some r) (fun y51=>⟨mk 115 [(1,.ref 0 2 0 0),(2,(.own 1 1 (0) ((p0.units.length:Int).toNat))),(3,(.own 2 1 (0) p0.heads.length)),(4,(.own 3 1 (0) y10.length)),(11,.ref 4 3 0 0),(13,I x49),(48,(.own 5 3 (0) y11.length)),(49,(I (((y11.length:Nat):Int)))),(50,I y24)],[(Qgm p0),(.own 1 (y25.map Qab)),(.own 1 (y51.map Qab)),(.own 1 (y27.map Qab)),(Qk3 x39),(Qfd x23)]⟩) (fun y51 h=>?_) ?_
      ·subst hk_k52
       obtain⟨hi53,h⟩:=cko h
       obtain⟨hi53a,hi53b⟩:=Qcb hi53
       obtain⟨x54,hg55,h⟩:=bno h
       obtain⟨hi56,h⟩:=cko h
       obtain⟨hi56a,hi56b⟩:=Qcb hi56
       obtain⟨x57,hg58,h⟩:=bno h
       refine wx tbk [(3,rb [(.tmp 83,(.own 1 1 (0) ((p0.units.length:Int).toNat))),(.tmp 85,I x39.unit)] [(1,(.own 1 (y25.map Qab)))] (.ref 1 1 x39.unit.toNat 0)),(4,rb [(.tmp 86,(.ref 1 1 x39.unit.toNat 0))] [(1,(.own 1 (y25.map Qab)))] (I x54)),(7,rb [(.tmp 83,(.own 1 1 (0) ((p0.units.length:Int).toNat))),(.tmp 85,I x39.unit)] [(1,(.own 1 (y25.map Qab)))] (.ref 1 1 x39.unit.toNat 0)),(8,⟨[(.tmp 90,(.ref 1 1 x39.unit.toNat 0)),(.tmp 89,(I (w64 (x54+x49))))],[(1,(.own 1 (y25.map Qab)))],.any,[(1,(Qn1 y25 x39 x54 x49))],false⟩)] ⟨aio rfl underlying22 ti3 (odt hi53a) (odt hi53b) (Nat.zero_add _),ald rfl ti3 (by decide) (mgt Qab hg55) (nle rfl) rfl,aio rfl underlying22 ti3 (odt hi56a) (odt hi56b) (Nat.zero_add _),ast rfl ti3 (by rfl) (mgt Qab hg58) (nle rfl) (Qf8 Qab rfl),tv⟩ ?_
       refine bfe h (fun hb59 h=>?_) fun hb59 h=>?_
       ·obtain⟨hi60,h⟩:=cko h
        obtain⟨hi60a,hi60b⟩:=Qcb hi60
        obtain⟨x61,hg62,h⟩:=bno h
        refine wx tbk [(5,rp [(.tmp 95,(B ((decide (x49<x39.Part.Width)))))] (B true)),(9,rb [(.tmp 96,B true),(.tmp 97,(.own 3 1 (0) y10.length)),(.tmp 99,I x39.unit)] [(3,(.own 1 (y27.map Qab)))] (.ref 3 1 x39.unit.toNat 0)),(10,rb [(.tmp 96,B true),(.tmp 100,(.ref 3 1 x39.unit.toNat 0))] [(3,(.own 1 (y27.map Qab)))] (I x61))] ⟨asb hb59 (amv rfl),ag_ (aio rfl underlying22 ti3 (odt hi60a) (odt hi60b) (Nat.zero_add _)),ag_ (ald rfl ti3 (by decide) (mgt Qab hg62) (nle rfl) rfl),tv⟩ ?_
        refine bfe h (fun hc63 h=>?_) fun hc63 h=>?_
        ·refine wft hc63 ?_
         obtain⟨hi64,h⟩:=cko h
         obtain⟨hi64a,hi64b⟩:=Qcb hi64
         obtain⟨x65,hg66,h⟩:=bno h
         refine wx1 tbk [(6,rb [(.tmp 104,(.own 3 1 (0) y10.length)),(.tmp 106,I x39.unit)] [(3,(.own 1 (y27.map Qab)))] (.ref 3 1 x39.unit.toNat 0)),(7,⟨[(.tmp 110,(.ref 3 1 x39.unit.toNat 0)),(.tmp 109,I x39.Part.Gain)],[(3,(.own 1 (y27.map Qab)))],.any,[(3,(.own 1 ((y27.set x39.unit.toNat x39.Part.Gain:List Int).map Qab)))],false⟩)] ⟨aio rfl underlying22 ti3 (odt hi64a) (odt hi64b) (Nat.zero_add _),ast rfl ti3 (by rfl) (mgt Qab hg66) (nle rfl) (Qf8 Qab rfl),tv⟩<|bln<|thn ?_
         exact⟨(y25.set x39.unit.toNat (w64 (x54+x49)),y51,y27.set x39.unit.toNat x39.Part.Gain),h,(mto (n:=115) [(1,.ref 0 2 0 0),(2,(.own 1 1 (0) ((p0.units.length:Int).toNat))),(3,(.own 2 1 (0) p0.heads.length)),(4,(.own 3 1 (0) y10.length)),(48,(.own 5 3 (0) y11.length)),(49,(I (((y11.length:Nat):Int)))),(50,I y24)] [0,1,2,3,5] [(Qgm p0),(Qn1 y25 x39 x54 x49),(.own 1 (y51.map Qab)),(.own 1 ((y27.set x39.unit.toNat x39.Part.Gain:List Int).map Qab)),(Qfd x23)] hq (prr (pc (.rn (Qal rfl)) (pc (.rn (Qal rfl)) (pc (.rn (Qal rfl)) (pc (.rn (Qal rfl)) (pw (pw pn))))))) (qb (lc (rnd Qad) (lc (rnd Qai) ln)) (qc (spr Qad) (qc (spr Qad) (qc (spr Qad) (qc (spr Qaf) qn))))))⟩
        ·exact wfn hc63<|Qan<|bln<|thn<|⟨(y25.set x39.unit.toNat (w64 (x54+x49)),y51,y27),h,(mto (n:=115) [(1,.ref 0 2 0 0),(2,(.own 1 1 (0) ((p0.units.length:Int).toNat))),(3,(.own 2 1 (0) p0.heads.length)),(4,(.own 3 1 (0) y10.length)),(48,(.own 5 3 (0) y11.length)),(49,(I (((y11.length:Nat):Int)))),(50,I y24)] [0,1,2,3,5] [(Qgm p0),(Qn1 y25 x39 x54 x49),(.own 1 (y51.map Qab)),(.own 1 (y27.map Qab)),(Qfd x23)] hq (prr (pc (.rn (Qal rfl)) (pc (.rn (Qal rfl)) (pc (.rn (Qal rfl)) (pc (.rn (Qal rfl)) (pw (pw pn))))))) (qb (lc (rnd Qad) (lc (rnd Qai) ln)) (qc (spr Qad) (qc (spr Qad) (qc (spr Qad) (qc (spr Qaf) qn))))))⟩
       ·exact wx tbk [(5,rp [(.tmp 95,(B ((decide (x49<x39.Part.Width)))))] (B false))] ⟨asb hb59 (amv rfl),tv⟩<|wfa<|Qan<|bln<|thn<|⟨(y25.set x39.unit.toNat (w64 (x54+x49)),y51,y27),h,(mto (n:=115) [(1,.ref 0 2 0 0),(2,(.own 1 1 (0) ((p0.units.length:Int).toNat))),(3,(.own 2 1 (0) p0.heads.length)),(4,(.own 3 1 (0) y10.length)),(48,(.own 5 3 (0) y11.length)),(49,(I (((y11.length:Nat):Int)))),(50,I y24)] [0,1,2,3,5] [(Qgm p0),(Qn1 y25 x39 x54 x49),(.own 1 (y51.map Qab)),(.own 1 (y27.map Qab)),(Qfd x23)] hq (prr (pc (.rn (Qal rfl)) (pc (.rn (Qal rfl)) (pc (.rn (Qal rfl)) (pc (.rn (Qal rfl)) (pw (pw pn))))))) (qb (lc (rnd Qad) (lc (rnd Qai) ln)) (qc (spr Qad) (qc (spr Qad) (qc (spr Qad) (qc (spr Qaf) qn))))))⟩
      ·skip
       obtain⟨x67,hl68,h⟩:=bno h
       refine wx tbk [(1,rp [(.tmp 70,(.own 2 1 (0) ((w64 (x41.Inlet+1)).toNat-(0:Int).toNat)))] (I x67))] ⟨Qfh hl68 (aln rfl underlying22 rfl),tv⟩<|Qag ?_
       refine wmr (mto (n:=115) (l':=[(1,.ref 0 2 0 0),(2,(.own 1 1 (0) ((p0.units.length:Int).toNat))),(3,(.own 2 1 (0) p0.heads.length)),(4,(.own 3 1 (0) y10.length)),(11,.ref 4 3 0 0),(12,(.own 2 1 (0) ((w64 (x41.Inlet+1)).toNat-(0:Int).toNat))),(13,I x49),(48,(.own 5 3 (0) y11.length)),(49,(I (((y11.length:Nat):Int)))),(50,I y24),(71,I x67),(72,I 0)]) (own':=[(Qgm p0),(.own 1 (y25.map Qab)),(.own 1 (y26.map Qab)),(.own 1 (y27.map Qab)),(Qk3 x39),(Qfd x23)]) [(1,.ref 0 2 0 0),(2,(.own 1 1 (0) ((p0.units.length:Int).toNat))),(3,(.own 2 1 (0) p0.heads.length)),(4,(.own 3 1 (0) y10.length)),(11,.ref 5 3 0 0),(12,(.own 2 1 (0) ((w64 (x41.Inlet+1)).toNat-(0:Int).toNat))),(13,I x49),(48,(.own 4 3 (0) y11.length)),(49,(I (((y11.length:Nat):Int)))),(50,I y24),(71,I x67),(72,I 0)] [0,1,2,3,5,4] [(Qgm p0),(.own 1 (y25.map Qab)),(.own 1 (y26.map Qab)),(.own 1 (y27.map Qab)),(Qk3 x39),(Qfd x23)] hq (prr (pc (.rn (Qal rfl)) (pc (.rn (Qal rfl)) (pc (.rn (Qal rfl)) (prr (pc (.rn (Qal rfl)) (pw (pc (.rn (Qal rfl)) (pw (pw (pw (pw pn)))))))))))) (qb (lc (rnd Qad) (lc (rnd Qai) ln)) (qc (spr Qad) (qc (spr Qad) (qc (spr Qad) (qb (lcc (lc rwl ln)) (qc (spr Qaf) qn))))))) ?_
       refine Qb8 (τ:=Int×(List Int)) (fun n t=>Qce N x41 x49 k52 x67 n t.1 t.2=some r) (fun ⟨y69,y70⟩=>⟨mk 115 [(1,.ref 0 2 0 0),(2,(.own 1 1 (0) ((p0.units.length:Int).toNat))),(3,(.own 2 1 (0) p0.heads.length)),(4,(.own 3 1 (0) y10.length)),(11,.ref 4 3 0 0),(12,(.own 2 1 (0) ((w64 (x41.Inlet+1)).toNat-(0:Int).toNat))),(13,I x49),(48,(.own 5 3 (0) y11.length)),(49,(I (((y11.length:Nat):Int)))),(50,I y24),(71,I x67),(72,I y69)],[(Qgm p0),(.own 1 (y25.map Qab)),(.own 1 (y70.map Qab)),(.own 1 (y27.map Qab)),(Qk3 x39),(Qfd x23)]⟩) (fun t h=>by rw[Qce] at h;cases h) (fun n73 ih t h=>?_) N (0,y26) h
       obtain⟨y69,y70⟩:=t
       rw[Qce] at h
       skip
       refine wxz<|wsq ?_
       refine bfe h (fun hc74 h=>?_) fun hc74 h=>?_
       ·refine wft hc74<|Qan<|thn<|wsq<|Qag<|wxz ?_
        obtain⟨hi75,h⟩:=cko h
        obtain⟨hi75a,hi75b⟩:=Qcb hi75
        obtain⟨x76,hg77,h⟩:=bno h
        obtain⟨hi78,h⟩:=cko h
        obtain⟨hi78a,hi78b⟩:=Qcb hi78
        obtain⟨x79,hg80,h⟩:=bno h
        refine wx1 tbk [(2,rb [(.tmp 75,(.own 2 1 (0) ((w64 (x41.Inlet+1)).toNat-(0:Int).toNat))),(.tmp 76,I y69)] [(2,(.own 1 (y70.map Qab)))] (.ref 2 1 y69.toNat 0)),(3,rb [(.tmp 77,(.ref 2 1 y69.toNat 0))] [(2,(.own 1 (y70.map Qab)))] (I x76)),(6,rb [(.tmp 75,(.own 2 1 (0) ((w64 (x41.Inlet+1)).toNat-(0:Int).toNat))),(.tmp 76,I y69)] [(2,(.own 1 (y70.map Qab)))] (.ref 2 1 y69.toNat 0)),(7,⟨[(.tmp 81,(.ref 2 1 y69.toNat 0)),(.tmp 80,(I (w64 (x76-x49))))],[(2,(.own 1 (y70.map Qab)))],.any,[(2,(.own 1 ((y70.set y69.toNat (w64 (x76-x49)):List Int).map Qab)))],false⟩)] ⟨aio rfl underlying22 ti3 (odt hi75a) (odt hi75b) (Nat.zero_add _),ald rfl ti3 (by decide) (mgt Qab hg77) (nle rfl) rfl,aio rfl underlying22 ti3 (odt hi78a) (odt hi78b) (Nat.zero_add _),ast rfl ti3 (by rfl) (mgt Qab hg80) (nle rfl) (Qf8 Qab rfl),tv⟩<|bln<|thn<|wxz1<|thn ?_
        exact arm (mto (n:=115) [(1,.ref 0 2 0 0),(2,(.own 1 1 (0) ((p0.units.length:Int).toNat))),(3,(.own 2 1 (0) p0.heads.length)),(4,(.own 3 1 (0) y10.length)),(11,.ref 4 3 0 0),(12,(.own 2 1 (0) ((w64 (x41.Inlet+1)).toNat-(0:Int).toNat))),(13,I x49),(48,(.own 5 3 (0) y11.length)),(49,(I (((y11.length:Nat):Int)))),(50,I y24),(71,I x67),(72,(I (w64 (y69+1))))] [0,1,2,3,4,5] [(Qgm p0),(.own 1 (y25.map Qab)),(.own 1 ((y70.set y69.toNat (w64 (x76-x49)):List Int).map Qab)),(.own 1 (y27.map Qab)),(Qk3 x39),(Qfd x23)] hq (prr (pc (.rn (Qal rfl)) (pc (.rn (Qal rfl)) (pc (.rn (Qal rfl)) (prr (pc (.rn (Qal rfl)) (pw (pc (.rn (Qal rfl)) (pw (pw (pw (pw pn)))))))))))) (qb (lc (rnd Qad) (lc (rnd Qai) ln)) (qc (spr Qad) (qc (spr Qad) (qc (spr Qad) (qb (lcc (lc rwl ln)) (qc (spr Qaf) qn))))))) (ih (w64 (y69+1),y70.set y69.toNat (w64 (x76-x49))) h)
       ·exact wfn hc74<|Qbi<|Qaw<|Qaw<|Qbh rfl<|thn<|⟨(y70),h,(mto (n:=115) [(1,.ref 0 2 0 0),(2,(.own 1 1 (0) ((p0.units.length:Int).toNat))),(3,(.own 2 1 (0) p0.heads.length)),(4,(.own 3 1 (0) y10.length)),(11,.ref 4 3 0 0),(13,I x49),(48,(.own 5 3 (0) y11.length)),(49,(I (((y11.length:Nat):Int)))),(50,I y24)] [0,1,2,3,4,5] [(Qgm p0),(.own 1 (y25.map Qab)),(.own 1 (y70.map Qab)),(.own 1 (y27.map Qab)),(Qk3 x39),(Qfd x23)] hq (prr (pc (.rn (Qal rfl)) (pc (.rn (Qal rfl)) (pc (.rn (Qal rfl)) (prr (pw (pc (.rn (Qal rfl)) (pw (pw pn))))))))) (qb (lc (rnd Qad) (lc (rnd Qai) ln)) (qc (spr Qad) (qc (spr Qad) (qc (spr Qad) (qb (lcc (lc rwl ln)) (qc (spr Qaf) qn)))))))⟩
    ·exact wfn hc33<|Qbi<|Qaw<|Qaw<|Qbh rfl<|thn<|⟨(y25,y26,y27),h,(mto (n:=115) [(2,(.own 1 1 (0) ((p0.units.length:Int).toNat))),(3,(.own 2 1 (0) p0.heads.length)),(4,(.own 3 1 (0) y10.length))] [1,2,3] [(.own 1 (y25.map Qab)),(.own 1 (y26.map Qab)),(.own 1 (y27.map Qab))] hq (pc (.rn (Qal rfl)) (pc (.rn (Qal rfl)) (pc (.rn (Qal rfl)) pn))) (qc (spr Qad) (qc (spr Qad) (qc (spr Qad) qn))))⟩
  ·skip
   refine wx tbk [(2,rp _ _)] ⟨alq 2 Qaj p0.units underlying107,tv⟩<|Qag ?_
   refine wmr (Mor.trans (Qsg 3 3 1 4 (by kernel_rfl) (by kernel_rfl)) (Mor.trans (Qsg 4 242 3 5 (by kernel_rfl) (by kernel_rfl)) (mto (n:=115) (l':=[(1,.ref 0 2 0 0),(2,(.own 1 1 (0) ((p0.units.length:Int).toNat))),(3,(.own 2 1 (0) p0.heads.length)),(4,(.gro 3 3 1 (([]:List Int).length))),(5,(.gro 4 242 3 (([]:List Qaa).length))),(22,(Qln p0)),(23,(I ((p0.units.length:Int)))),(24,I 0)]) (own':=[(Qgm p0),(Qke p0),(.own 1 (x9.map Qab)),Q2b,Q2c]) [(1,.ref 0 2 0 0),(2,(.own 1 1 (0) ((p0.units.length:Int).toNat))),(3,(.own 2 1 (0) p0.heads.length)),(4,(.gro 3 3 1 (([]:List Int).length))),(5,(.gro 4 242 3 (([]:List Qaa).length))),(22,(Qln p0)),(23,(I ((p0.units.length:Int)))),(24,I 0)] [0,1,2,3,4] [(Qgm p0),(Qke p0),(.own 1 (x9.map Qab)),Q2b,Q2c] hq (prr (pc (.rn (Qal rfl)) (pc (.rn (Qal rfl)) (pc (.rn (Qfe rfl)) (pc (.rn (Qfe rfl)) (pc (rnd Qai) (pw (pw pn)))))))) (qb (lc (rnd Qad) (lc (rnd Qai) ln)) (qc (spr Qad) (qc (spr Qad) (qc (Qej Qad) (qc (Qej Qaf) qn)))))))) ?_
   refine Qb8 (τ:=Int×(List Int)×(List Qaa)) (fun n t=>Qb3 N p0 k12 n t.1 t.2.1 t.2.2=some r) (fun ⟨y81,y82,y83⟩=>⟨mk 115 [(1,.ref 0 2 0 0),(2,(.own 1 1 (0) ((p0.units.length:Int).toNat))),(3,(.own 2 1 (0) p0.heads.length)),(4,(.gro 3 3 1 y82.length)),(5,(.gro 4 242 3 y83.length)),(22,(Qln p0)),(23,(I ((p0.units.length:Int)))),(24,I y81)],[(Qgm p0),(Qke p0),(.own 1 (x9.map Qab)),(.gro 1 (y82.map Qab)),(.gro 3 (y83.map Qac))]⟩) (fun t h=>by rw[Qb3] at h;cases h) (fun n87 ih t h=>?_) N (0,([]:List Int),([]:List Qaa)) h
   obtain⟨y81,y82,y83⟩:=t
   rw[Qb3] at h
   skip
   refine wxz<|wsq ?_
   refine bfe h (fun hc88 h=>?_) fun hc88 h=>?_
   ·refine wft hc88<|Qan<|thn ?_
    obtain⟨k91,hk_k91,h⟩:=jko h
    refine wjn (τ:=(List Int)×(List Qaa)) (fun t=>k91 t=some r) (fun ⟨y89,y90⟩=>⟨mk 115 [(1,.ref 0 2 0 0),(2,(.own 1 1 (0) ((p0.units.length:Int).toNat))),(3,(.own 2 1 (0) p0.heads.length)),(4,(.gro 3 3 1 y89.length)),(5,(.gro 4 242 3 y90.length)),(22,(Qln p0)),(23,(I ((p0.units.length:Int)))),(24,I y81)],[(Qgm p0),(Qke p0),(.own 1 (x9.map Qab)),(.gro 1 (y89.map Qab)),(.gro 3 (y90.map Qac))]⟩) (fun t h=>?_) ?_
    ·subst hk_k91
     obtain⟨y89,y90⟩:=t
     exact wxz1<|thn<|arm (mto (n:=115) [(1,.ref 0 2 0 0),(2,(.own 1 1 (0) ((p0.units.length:Int).toNat))),(3,(.own 2 1 (0) p0.heads.length)),(4,(.gro 3 3 1 y89.length)),(5,(.gro 4 242 3 y90.length)),(22,(Qln p0)),(23,(I ((p0.units.length:Int)))),(24,(I (w64 (y81+1))))] [0,1,2,3,4] [(Qgm p0),(Qke p0),(.own 1 (x9.map Qab)),(.gro 1 (y89.map Qab)),(.gro 3 (y90.map Qac))] hq (prr (pc (.rn (Qal rfl)) (pc (.rn (Qal rfl)) (pc (.rn (Qfe rfl)) (pc (.rn (Qfe rfl)) (pc (rnd Qai) (pw (pw pn)))))))) (qb (lc (rnd Qad) (lc (rnd Qai) ln)) (qc (spr Qad) (qc (spr Qad) (qc (Qej Qad) (qc (Qej Qaf) qn)))))) (ih (w64 (y81+1),y89,y90) h)
    ·skip
     refine Qag ?_
     obtain⟨x92,hg93,h⟩:=bno h
     obtain⟨hi94,hj95⟩:=gsm hg93
     refine wx tbk [(1,rp _ _)] ⟨aiq underlying107 Qn6 Qaj hi94 hj95,tv⟩ ?_
     obtain⟨ha96,h⟩:=cko h
     refine wx tbk [(1,rp [ci (-1)] Q54),(2,⟨[(.tmp 29,(.gro 3 3 1 y82.length)),(.tmp 30,Q54)],[(3,(.gro 1 (y82.map Qab))),(6,.unused)],(.gro 6 3 1 ((y82++([(-1)])).length)),[(3,.dead),(6,(.gro 1 ((y82++([(-1)]):List Int).map Qab)))],false⟩)] ?_ ?_
     ·exact⟨Qd0 (vs:=[(I ((-1)))]) rfl underlying22 ti3 tz3 rfl (by decide) rfl (by decide) (by rfl) (by rfl) (by rfl) rfl,Qii (c:=Qab) (a:=y82) (b:=[(-1)]) rfl underlying22 te3 rfl (Qdc rfl) (by rfl) ha96 (by decide),tv⟩
     refine wx tbk [(2,rp _ _)] ⟨alq 2 Qbe x92.Parts underlying171,tv⟩<|Qag ?_
     refine wmr (mto (n:=115) (l':=[(1,.ref 0 2 0 0),(2,(.own 1 1 (0) ((p0.units.length:Int).toNat))),(3,(.own 2 1 (0) p0.heads.length)),(4,(.gro 3 3 1 ((y82++([(-1)])).length))),(5,(.gro 4 242 3 y83.length)),(6,I y81),(22,(Qln p0)),(23,(I ((p0.units.length:Int)))),(24,I y81),(33,(Qn0 x92)),(34,(I ((x92.Parts.length:Int)))),(35,I 0)]) (own':=[(Qgm p0),(Qke p0),(.own 1 (x9.map Qab)),(.gro 1 (((y82++([(-1)])):List Int).map Qab)),(.gro 3 (y83.map Qac))]) [(1,.ref 0 2 0 0),(2,(.own 1 1 (0) ((p0.units.length:Int).toNat))),(3,(.own 2 1 (0) p0.heads.length)),(4,(.gro 6 3 1 ((y82++([(-1)])).length))),(5,(.gro 4 242 3 y83.length)),(6,I y81),(22,(Qln p0)),(23,(I ((p0.units.length:Int)))),(24,I y81),(33,(Qn0 x92)),(34,(I ((x92.Parts.length:Int)))),(35,I 0)] [0,1,2,6,4] [(Qgm p0),(Qke p0),(.own 1 (x9.map Qab)),(.gro 1 ((y82++([(-1)]):List Int).map Qab)),(.gro 3 (y83.map Qac))] hq (prr (pc (.rn (Qal rfl)) (pc (.rn (Qal rfl)) (pc (.rn (Qfe rfl)) (pc (.rn (Qfe rfl)) (pw (pc (rnd Qai) (pw (pw (pc (rnd Qbo) (pw (pw pn)))))))))))) (qb (lc (rnd Qad) (lc (rnd Qai) ln)) (qc (spr Qad) (qc (spr Qad) (qc (Qej Qad) (qc (Qej Qaf) qn)))))) ?_
     refine Qb8 (τ:=Int×(List Int)×(List Qaa)) (fun n t=>Qbq N y81 k91 x92 n t.1 t.2.1 t.2.2=some r) (fun ⟨y97,y98,y99⟩=>⟨mk 115 [(1,.ref 0 2 0 0),(2,(.own 1 1 (0) ((p0.units.length:Int).toNat))),(3,(.own 2 1 (0) p0.heads.length)),(4,(.gro 3 3 1 y98.length)),(5,(.gro 4 242 3 y99.length)),(6,I y81),(22,(Qln p0)),(23,(I ((p0.units.length:Int)))),(24,I y81),(33,(Qn0 x92)),(34,(I ((x92.Parts.length:Int)))),(35,I y97)],[(Qgm p0),(Qke p0),(.own 1 (x9.map Qab)),(.gro 1 (y98.map Qab)),(.gro 3 (y99.map Qac))]⟩) (fun t h=>by rw[Qbq] at h;cases h) (fun n103 ih t h=>?_) N (0,y82++([(-1)]),y83) h
     obtain⟨y97,y98,y99⟩:=t
     rw[Qbq] at h
     skip
     refine wxz<|wsq ?_
     refine bfe h (fun hc104 h=>?_) fun hc104 h=>?_
     ·refine wft hc104<|Qan<|thn<|wsq<|Qag ?_
      obtain⟨x105,hg106,h⟩:=bno h
      obtain⟨hi107,hj108⟩:=gsm hg106
      refine wx tbk [(0,rp _ _)] ⟨aiq underlying171 Ql5 Qbe hi107 hj108,tv⟩ ?_
      obtain⟨ha109,h⟩:=cko h
      refine wx1 tbk [(3,rp [(.tmp 40,I y81),(.tmp 41,(.agg [I x105.Width,I x105.Gain]))] (Qqv y81 x105)),(4,rp [(.tmp 42,(Qqv y81 x105))] (.dat 3 (([(⟨y81,x105⟩:Qaa)]:List Qaa).map Qac))),(5,⟨[(.tmp 39,(.gro 4 242 3 y99.length)),(.tmp 43,(.dat 3 (([(⟨y81,x105⟩:Qaa)]:List Qaa).map Qac)))],[(4,(.gro 3 (y99.map Qac))),(6,.unused)],(.gro 6 242 3 ((y99++([(⟨y81,x105⟩:Qaa)])).length)),[(4,.dead),(6,(.gro 3 ((y99++([(⟨y81,x105⟩:Qaa)]):List Qaa).map Qac)))],false⟩)] ?_ ?_
      ·exact⟨Qd6 (vs:=[I y81,(.agg [I x105.Width,I x105.Gain])]) rfl Q7g Q3w rfl (by rfl) rfl,Qd0 (vs:=[(Qqv y81 x105)]) rfl underlying239 Qd1 Q3w rfl (by decide) rfl (by decide) (by rfl) (by rfl) (by rfl) rfl,Qii (c:=Qac) (a:=y99) (b:=[(⟨y81,x105⟩:Qaa)]) rfl underlying239 Q7r rfl (Qdc rfl) (by rfl) ha109 (by decide),tv⟩
      exact bln<|thn<|wxz1<|thn<|arm (mto (n:=115) [(1,.ref 0 2 0 0),(2,(.own 1 1 (0) ((p0.units.length:Int).toNat))),(3,(.own 2 1 (0) p0.heads.length)),(4,(.gro 3 3 1 y98.length)),(5,(.gro 6 242 3 ((y99++([(⟨y81,x105⟩:Qaa)])).length))),(6,I y81),(22,(Qln p0)),(23,(I ((p0.units.length:Int)))),(24,I y81),(33,(Qn0 x92)),(34,(I ((x92.Parts.length:Int)))),(35,(I (w64 (y97+1))))] [0,1,2,3,6] [(Qgm p0),(Qke p0),(.own 1 (x9.map Qab)),(.gro 1 (y98.map Qab)),(.gro 3 ((y99++([(⟨y81,x105⟩:Qaa)]):List Qaa).map Qac))] hq (prr (pc (.rn (Qal rfl)) (pc (.rn (Qal rfl)) (pc (.rn (Qfe rfl)) (pc (.rn (Qfe rfl)) (pw (pc (rnd Qai) (pw (pw (pc (rnd Qbo) (pw (pw pn)))))))))))) (qb (lc (rnd Qad) (lc (rnd Qai) ln)) (qc (spr Qad) (qc (spr Qad) (qc (Qej Qad) (qc (Qej Qaf) qn)))))) (ih (w64 (y97+1),y98,y99++([(⟨y81,x105⟩:Qaa)])) h)
     ·exact wfn hc104<|Qbi<|Qaw<|Qaw<|Qbh rfl<|bln<|thn<|⟨(y98,y99),h,(mto (n:=115) [(1,.ref 0 2 0 0),(2,(.own 1 1 (0) ((p0.units.length:Int).toNat))),(3,(.own 2 1 (0) p0.heads.length)),(4,(.gro 3 3 1 y98.length)),(5,(.gro 4 242 3 y99.length)),(22,(Qln p0)),(23,(I ((p0.units.length:Int)))),(24,I y81)] [0,1,2,3,4] [(Qgm p0),(Qke p0),(.own 1 (x9.map Qab)),(.gro 1 (y98.map Qab)),(.gro 3 (y99.map Qac))] hq (prr (pc (.rn (Qal rfl)) (pc (.rn (Qal rfl)) (pc (.rn (Qfe rfl)) (pc (.rn (Qfe rfl)) (pc (rnd Qai) (pw (pw pn)))))))) (qb (lc (rnd Qad) (lc (rnd Qai) ln)) (qc (spr Qad) (qc (spr Qad) (qc (Qej Qad) (qc (Qej Qaf) qn))))))⟩
   ·exact wfn hc88<|Qbi<|Qaw<|Qaw<|Qbh rfl<|thn<|⟨(y82,y83),h,(mto (n:=115) [(1,.ref 0 2 0 0),(2,(.own 1 1 (0) ((p0.units.length:Int).toNat))),(3,(.own 2 1 (0) p0.heads.length)),(4,(.gro 3 3 1 y82.length)),(5,(.gro 4 242 3 y83.length))] [0,1,2,3,4] [(Qgm p0),(Qke p0),(.own 1 (x9.map Qab)),(.gro 1 (y82.map Qab)),(.gro 3 (y83.map Qac))] hq (prr (pc (.rn (Qal rfl)) (pc (.rn (Qal rfl)) (pc (.rn (Qfe rfl)) (pc (.rn (Qfe rfl)) pn))))) (qb (lc (rnd Qad) (lc (rnd Qai) ln)) (qc (spr Qad) (qc (spr Qad) (qc (Qej Qad) (qc (Qej Qaf) qn))))))⟩
end
section
def Qep (N:Nat) (p0:Int):Option Bool:=
  (Qdb N p0 0 1000000).bind fun x2=>
  some x2
theorem Qhx (N:Nat) (p0:Int) (r:Bool) (h:Qep N p0=some r):Spec prog 133 [(I p0)] [] (B r) []:=by
  refine sA func133 0 fun _ _ _ hq hd0=>?_
  unfold Qep at h
  refine wxz ?_
  obtain⟨x2,hf1,h⟩:=bno h
  exact wx tbk [(1,rp _ _)] ⟨apw Qhq (Qds N p0 0 1000000 _ hf1),tv⟩<|Qae<|frb h
def Qer (N:Nat) (p0:Int):Option Bool:=
  (Qep N p0).bind fun x3=>
  some (!x3)
abbrev Qy6:Slot:=.own 1 [[(.fn (.func 133) [] [])]]
theorem Qi6 (N:Nat) (p0:Int) (r:Bool) (h:Qer N p0=some r):Spec prog 186 [(I p0),(.ref 0 1 (0) 0)] [Qy6] (B r) [Qy6]:=by
  refine sF func186 1 fun _ _ _ hq hd0=>?_
  unfold Qer at h
  refine wxz ?_
  obtain⟨x3,hf2,h⟩:=bno h
  refine wx tbk [(2,rp _ _)] ⟨apw Q06 (Qhx N p0 _ hf2),tv⟩ ?_
  refine wmr (mto (n:=8) (l':=[(3,(B ((!x3))))]) (own':=[Qy6]) [(3,(B ((!x3))))] [0] [Qy6] hq (pw pn) (qb (lc (.rn (Qau rn0 rn0)) ln) qn))<|Qae ?_
  obtain rfl:=osi h
  exact⟨_,Mor.rfl,fio [(B ((!x3)))] ⟨rot,tv⟩⟩
def Qbg (N:Nat) (p0:List Int) (k2:Unit→Option Int):Nat→Int→Option Int
  |0,_=>none
  |n5+1,y3=>
    bif (decide (y3<(p0.length:Int))) then
     (getI p0 y3).bind fun x7=>
     (Qer N x7).bind fun x12=>
     bif x12 then
      some y3
     else
      Qbg N p0 k2 n5 (w64 (y3+1))
    else
     k2 ()
def Qdj (N:Nat) (p0:List Int):Option Int:=
  Qb5 (fun _=>
    some (-1)) fun k2:Unit→Option Int=>
  Qbg N p0 k2 N 0
abbrev Qvt:AV:=.fn (.func 186) [] [(.ref 0 1 (0) 0)]
abbrev Qkc:Slot:=.own 1 [[(.fn (.func 133) [] [])]]
theorem Qgr (N:Nat) (p0:List Int) (r:Int) (h:Qdj N p0=some r):Spec prog 48 [(.dat 1 (p0.map Qab)),Qvt] [Qkc] (I r) [Qkc]:=by
  refine sF func48 1 fun _ _ _ hq hd0=>?_
  unfold Qdj at h
  refine wxz ?_
  obtain⟨k2,hk_k2,h⟩:=jko h
  refine wjn (τ:=Unit) (fun t=>k2 t=some r) (fun _=>⟨mk 19 [],[Qkc]⟩) (fun t h=>?_) ?_
  ·subst hk_k2
   refine wxz<|wmr (mto (n:=19) (l':=[(4,(I ((-1))))]) (own':=[Qkc]) [(4,(I ((-1))))] [0] [Qkc] hq (pw pn) (qb (lc (.rn (Qau rn0 rn0)) ln) qn))<|Qae ?_
   obtain rfl:=osi h
   exact⟨_,Mor.rfl,fio [(I ((-1)))] ⟨rot,tv⟩⟩
  ·skip
   refine wx tbk [(1,rp _ _)] ⟨alq 1 Qab p0 underlying22,tv⟩<|Qag ?_
   refine wmr (mto (n:=19) (l':=[(0,(.dat 1 (p0.map Qab))),(1,Qvt),(7,(I ((p0.length:Int)))),(8,I 0)]) (own':=[Qkc]) [(0,(.dat 1 (p0.map Qab))),(1,Qvt),(7,(I ((p0.length:Int)))),(8,I 0)] [0] [Qkc] hq (pc (rnd Qad) (pc (.rn (Qau rn0 (rnc (rqr rfl) rn0))) (pw (pw pn)))) (qb (lc (.rn (Qau rn0 rn0)) ln) qn)) ?_
   refine Qb8 (τ:=Int) (fun n t=>Qbg N p0 k2 n t=some r) (fun y3=>⟨mk 19 [(0,(.dat 1 (p0.map Qab))),(1,Qvt),(7,(I ((p0.length:Int)))),(8,I y3)],[Qkc]⟩) (fun t h=>by rw[Qbg] at h;cases h) (fun n5 ih y3 h=>?_) N (0) h
   rw[Qbg] at h
   skip
   refine wxz<|wsq ?_
   refine bfe h (fun hc6 h=>?_) fun hc6 h=>?_
   ·refine wft hc6<|Qan<|thn<|wsq<|Qag<|wxz ?_
    obtain⟨x7,hg8,h⟩:=bno h
    obtain⟨hi9,hj10⟩:=gsm hg8
    obtain⟨x12,hf11,h⟩:=bno h
    refine wx tbk [(3,rp _ _),(5,⟨_,_,_,_,false⟩)] ⟨aiq underlying22 ti3 Qab hi9 hj10,Qd5 (first:=[]) (cap:=[.ref 0 1 0 0]) (vs:=[I x7]) (σr:=[Qkc]) (σr':=[Qkc]) (res':=(B x12)) [0] rfl Q0p (Qi6 N x7 _ hf11) rfl (Qco (rnc (.plain _ nll) (rnc (Qby rfl) rn0))) (slc (Qar (rnc (.plain _ (NLt.fn _ _ _ nl0 nl0)) rn0)) Qas) (slc (Qar (rnc (.plain _ (NLt.fn _ _ _ nl0 nl0)) rn0)) Qas) (.plain _ nll) rfl rfl rfl,tv⟩ ?_
    refine bfe h (fun hc13 h=>?_) fun hc13 h=>?_
    ·refine wft hc13<|wxz ?_
     refine wmr (mto (n:=19) (l':=[(4,I y3)]) (own':=[Qkc]) [(4,I y3)] [0] [Qkc] hq (pw pn) (qb (lc (.rn (Qau rn0 rn0)) ln) qn))<|Qae<|Qa3<|Qak<|Qak<|Qa3<|Qak ?_
     obtain rfl:=osi h
     exact⟨_,Mor.rfl,fio [I y3] ⟨rot,tv⟩⟩
    ·exact wfn hc13<|Qan<|bln<|thn<|wxz1<|thn<|arm (mto (n:=19) [(0,(.dat 1 (p0.map Qab))),(1,Qvt),(7,(I ((p0.length:Int)))),(8,(I (w64 (y3+1))))] [0] [Qkc] hq (pc (rnd Qad) (pc (.rn (Qau rn0 (rnc (rqr rfl) rn0))) (pw (pw pn)))) (qb (lc (.rn (Qau rn0 rn0)) ln) qn)) (ih (w64 (y3+1)) h)
   ·exact wfn hc6<|Qbi<|Qaw<|Qaw<|Qbh rfl<|thn<|⟨(),h,(mto (n:=19) [] [0] [Qkc] hq pn (qb (lc (.rn (Qau rn0 rn0)) ln) qn))⟩
def Qc4 (N:Nat) (p0:List Int):Option Bool:=
  (Qdj N p0).bind fun x3=>
  some (decide (x3≥0))
abbrev Q5u:AV:=.fn (.func 186) [] [(.ref 0 1 (0) 0)]
abbrev Qto:Slot:=.own 1 [[(.fn (.func 133) [] [])]]
theorem Qf7 (N:Nat) (p0:List Int) (r:Bool) (h:Qc4 N p0=some r):Spec prog 117 [(.dat 1 (p0.map Qab)),Q5u] [Qto] (B r) [Qto]:=by
  refine sF func117 1 fun _ _ _ hq hd0=>?_
  unfold Qc4 at h
  refine wxz ?_
  obtain⟨x3,hf2,h⟩:=bno h
  refine wx tbk [(2,⟨_,_,_,_,false⟩)] ⟨acq [(.dat 1 (p0.map Qab)),Q5u] [Qto] [Qto] (I x3) [0] Qxy (Qgr N p0 _ hf2) (Qco (rnc (pld Qad) (rnc (Qau rn0 (rnc (Qby rfl) rn0)) rn0))) (slc (Qar (rnc (.plain _ (NLt.fn _ _ _ nl0 nl0)) rn0)) Qas) (slc (Qar (rnc (.plain _ (NLt.fn _ _ _ nl0 nl0)) rn0)) Qas) (.plain _ nll),tv⟩ ?_
  refine wmr (mto (n:=9) (l':=[(4,(B ((decide (x3≥0)))))]) (own':=[Qto]) [(4,(B ((decide (x3≥0)))))] [0] [Qto] hq (pw pn) (qb (lc (.rn (Qau rn0 rn0)) ln) qn))<|Qae ?_
  obtain rfl:=osi h
  exact⟨_,Mor.rfl,fio [(B ((decide (x3≥0))))] ⟨rot,tv⟩⟩
def Qfb (N:Nat) (p0:List Int):Option Bool:=
  (Qc4 N p0).bind fun x2=>
  some (!x2)
def Q5v:AV:=.fn (.func 186) [] [(.ref 0 1 (0) 0)]
def Q5w:Slot:=.own 1 [[(.fn (.func 133) [] [])]]
theorem Qj0 (N:Nat) (p0:List Int) (r:Bool) (h:Qfb N p0=some r):Spec prog 132 [(.dat 1 (p0.map Qab)),(.fn (.func 133) [] [])] [] (B r) []:=by
  refine sA func132 0 fun _ _ _ hq hd0=>?_
  unfold Qfb at h
  refine wxz ?_
  obtain⟨x2,hf1,h⟩:=bno h
  refine wx tbk [(1,rp [(.tmp 3,.ref 0 1 0 0)] Q5v),(2,⟨_,_,_,_,false⟩)] ⟨Qe4 (fs:=[]) (cs:=[.ref 0 1 0 0]) rfl rfl rfl rfl,acq [(.dat 1 (p0.map Qab)),Q5v] [Q5w] [Q5w] (B x2) [0] Qs1 (Qf7 N p0 _ hf1) (Qco (rnc (pld Qad) (rnc (Qau rn0 (rnc (Qby rfl) rn0)) rn0))) (slc (Qar (rnc (.plain _ (NLt.fn _ _ _ nl0 nl0)) rn0)) Qas) (slc (Qar (rnc (.plain _ (NLt.fn _ _ _ nl0 nl0)) rn0)) Qas) (.plain _ nll),tv⟩<|Qae ?_
  obtain rfl:=osi h
  exact fend ⟨[(B ((!x2)))],⟨rot,tv⟩,rfl⟩ nll
def Qec (N:Nat) (p0:Qah) (p1:List Int) (_p2:List Qah):Option Bool:=
  (Qef N p0).bind fun x3=>
  bif x3 then
   some (decide (p0.Inlet<(p1.length:Int)))
  else
   some false
abbrev Q5q (p0:Qah):AV:=.agg [(I p0.Inlet),(.dat 2 (p0.Parts.map Qbe))]
abbrev Qtj (p1:List Int) (p2:List Qah):Slot:=.own 2 [[(.dat 1 (p1.map Qab)),(.dat 2 (p2.map Qaj))]]
def Q3c (p0:Qah) (x3:Bool):List (Nat×Rec):=[(1,rp [fu 121,((.tmp 4),(Q5q p0))] (B x3))]
theorem Qhl (N:Nat) (p0:Qah) (p1:List Int) (p2:List Qah) (r:Bool) (h:Qec N p0 p1 p2=some r):Spec prog 135 [(Q5q p0),(.ref 0 2 (0) 0)] [(Qtj p1 p2)] (B r) [(Qtj p1 p2)]:=by
  refine sF func135 1 fun _ _ _ hq hd0=>?_
  unfold Qec at h
  refine wxz ?_
  obtain⟨x3,hf2,h⟩:=bno h
  refine hpre (A:=(Q3c p0 x3)) ⟨apv Qs0 (Qgz N p0 _ hf2) (nlc (NLt.agg _ (nlc nll (nlc (nld Qbo _) nl0))) nl0) nll,tv⟩ fun q1_=>?_
  refine bfe h (fun hb4 h=>?_) fun hb4 h=>?_
  ·refine wx tbk (hcat (Q3c p0 x3) [(2,rp [(.tmp 5,B x3)] (B true)),(7,rp [(.tmp 6,B true),(.tmp 10,(.dat 1 (p1.map Qab)))] (I ((p1.length:Int))))]) (hap q1_ ⟨asb hb4 (amv rfl),ag_ (alq 1 Qab p1 underlying22),tv⟩) ?_
   refine wmr (mto (n:=14) (l':=[(3,(B ((decide (p0.Inlet<(p1.length:Int))))))]) (own':=[(Qtj p1 p2)]) [(3,(B ((decide (p0.Inlet<(p1.length:Int))))))] [0] [(Qtj p1 p2)] hq (pw pn) (qb (lc (rnd Qad) (lc (rnd Qai) ln)) qn))<|Qae ?_
   obtain rfl:=osi h
   exact⟨_,Mor.rfl,fio [(B ((decide (p0.Inlet<(p1.length:Int)))))] ⟨rot,tv⟩⟩
  ·refine wx tbk (hcat (Q3c p0 x3) [(2,rp [(.tmp 5,B x3)] (B false))]) (hap q1_ ⟨asb hb4 (amv rfl),tv⟩) ?_
   refine wmr (mto (n:=14) (l':=[(3,B false)]) (own':=[(Qtj p1 p2)]) [(3,B false)] [0] [(Qtj p1 p2)] hq (pw pn) (qb (lc (rnd Qad) (lc (rnd Qai) ln)) qn))<|Qae ?_
   obtain rfl:=osi h
   exact⟨_,Mor.rfl,fio [B false] ⟨rot,tv⟩⟩
def Qc8 (N:Nat) (p0:Qah) (p1:List Int) (p2:List Qah):Option Bool:=
  (Qec N p0 p1 p2).bind fun x3=>
  some (!x3)
abbrev Q5r (p0:Qah):AV:=.agg [(I p0.Inlet),(.dat 2 (p0.Parts.map Qbe))]
abbrev Qy5:AV:=.fn (.func 135) [] [(.ref 1 2 (0) 0)]
abbrev Qtk (p1:List Int) (p2:List Qah):Slot:=.own 2 [[(.dat 1 (p1.map Qab)),(.dat 2 (p2.map Qaj))]]
theorem Qg4 (N:Nat) (p0:Qah) (p1:List Int) (p2:List Qah) (r:Bool) (h:Qc8 N p0 p1 p2=some r):Spec prog 188 [(Q5r p0),(.ref 0 1 (0) 0)] [(.own 1 [[Qy5]]),(Qtk p1 p2)] (B r) [(.own 1 [[Qy5]]),(Qtk p1 p2)]:=by
  refine sF func188 2 fun _ _ _ hq hd0=>?_
  unfold Qc8 at h
  refine wxz ?_
  obtain⟨x3,hf2,h⟩:=bno h
  refine wx tbk [(2,⟨_,_,_,_,false⟩)] ⟨Qd5 (first:=[]) (cap:=[.ref 1 2 0 0]) (vs:=[(Q5r p0)]) (σr:=[(Qtk p1 p2)]) (σr':=[(Qtk p1 p2)]) (res':=(B x3)) [1] rfl Q04 (Qhl N p0 p1 p2 _ hf2) rfl (Qco (rnc (.plain _ (NLt.agg _ (nlc nll (nlc (nld Qbo _) nl0)))) (rnc (Qby rfl) rn0))) (slc (Qar (rnc (pld Qad) (rnc (pld Qai) rn0))) Qas) (slc (Qar (rnc (pld Qad) (rnc (pld Qai) rn0))) Qas) (.plain _ nll) rfl rfl rfl,tv⟩ ?_
  refine wmr (mto (n:=8) (l':=[(3,(B ((!x3))))]) (own':=[(.own 1 [[Qy5]]),(Qtk p1 p2)]) [(3,(B ((!x3))))] [0,1] [(.own 1 [[Qy5]]),(Qtk p1 p2)] hq (pw pn) (qb (lc (.rn (Qau rn0 (rnc (rqr rfl) rn0))) ln) (qb (lc (rnd Qad) (lc (rnd Qai) ln)) qn)))<|Qae ?_
  obtain rfl:=osi h
  exact⟨_,Mor.rfl,fio [(B ((!x3)))] ⟨rot,tv⟩⟩
def Qaz (N:Nat) (p0:List Qah) (p1:List Int) (k2:Unit→Option Int) (p2:List Qah):Nat→Int→Option Int
  |0,_=>none
  |n5+1,y3=>
    bif (decide (y3<(p0.length:Int))) then
     (getI p0 y3).bind fun x7=>
     (Qc8 N x7 p1 p2).bind fun x12=>
     bif x12 then
      some y3
     else
      Qaz N p0 p1 k2 p2 n5 (w64 (y3+1))
    else
     k2 ()
def Qbz (N:Nat) (p0:List Qah) (p1:List Int) (p2:List Qah):Option Int:=
  Qb5 (fun _=>
    some (-1)) fun k2:Unit→Option Int=>
  Qaz N p0 p1 k2 p2 N 0
abbrev Qvs (p0:List Qah):AV:=.dat 2 (p0.map Qaj)
abbrev Qvr:AV:=.fn (.func 188) [] [(.ref 0 1 (0) 0)]
abbrev Qkb:AV:=.fn (.func 135) [] [(.ref 1 2 (0) 0)]
abbrev Qka (p1:List Int) (p2:List Qah):Slot:=.own 2 [[(.dat 1 (p1.map Qab)),(.dat 2 (p2.map Qaj))]]
theorem Qe5 (N:Nat) (p0:List Qah) (p1:List Int) (p2:List Qah) (r:Int) (h:Qbz N p0 p1 p2=some r):Spec prog 223 [(Qvs p0),Qvr] [(.own 1 [[Qkb]]),(Qka p1 p2)] (I r) [(.own 1 [[Qkb]]),(Qka p1 p2)]:=by
  refine sF func223 2 fun _ _ _ hq hd0=>?_
  unfold Qbz at h
  refine wxz ?_
  obtain⟨k2,hk_k2,h⟩:=jko h
  refine wjn (τ:=Unit) (fun t=>k2 t=some r) (fun _=>⟨mk 19 [],[(.own 1 [[Qkb]]),(Qka p1 p2)]⟩) (fun t h=>?_) ?_
  ·subst hk_k2
   refine wxz<|wmr (mto (n:=19) (l':=[(4,(I ((-1))))]) (own':=[(.own 1 [[Qkb]]),(Qka p1 p2)]) [(4,(I ((-1))))] [0,1] [(.own 1 [[Qkb]]),(Qka p1 p2)] hq (pw pn) (qb (lc (.rn (Qau rn0 (rnc (rqr rfl) rn0))) ln) (qb (lc (rnd Qad) (lc (rnd Qai) ln)) qn)))<|Qae ?_
   obtain rfl:=osi h
   exact⟨_,Mor.rfl,fio [(I ((-1)))] ⟨rot,tv⟩⟩
  ·skip
   refine wx tbk [(1,rp _ _)] ⟨alq 2 Qaj p0 underlying107,tv⟩<|Qag ?_
   refine wmr (mto (n:=19) (l':=[(0,(Qvs p0)),(1,Qvr),(7,(I ((p0.length:Int)))),(8,I 0)]) (own':=[(.own 1 [[Qkb]]),(Qka p1 p2)]) [(0,(Qvs p0)),(1,Qvr),(7,(I ((p0.length:Int)))),(8,I 0)] [0,1] [(.own 1 [[Qkb]]),(Qka p1 p2)] hq (pc (rnd Qai) (pc (.rn (Qau rn0 (rnc (rqr rfl) rn0))) (pw (pw pn)))) (qb (lc (.rn (Qau rn0 (rnc (rqr rfl) rn0))) ln) (qb (lc (rnd Qad) (lc (rnd Qai) ln)) qn))) ?_
   refine Qb8 (τ:=Int) (fun n t=>Qaz N p0 p1 k2 p2 n t=some r) (fun y3=>⟨mk 19 [(0,(Qvs p0)),(1,Qvr),(7,(I ((p0.length:Int)))),(8,I y3)],[(.own 1 [[Qkb]]),(Qka p1 p2)]⟩) (fun t h=>by rw[Qaz] at h;cases h) (fun n5 ih y3 h=>?_) N (0) h
   rw[Qaz] at h
   skip
   refine wxz<|wsq ?_
   refine bfe h (fun hc6 h=>?_) fun hc6 h=>?_
   ·refine wft hc6<|Qan<|thn<|wsq<|Qag<|wxz ?_
    obtain⟨x7,hg8,h⟩:=bno h
    obtain⟨hi9,hj10⟩:=gsm hg8
    obtain⟨x12,hf11,h⟩:=bno h
    refine wx tbk [(3,rp _ _),(5,⟨_,_,_,_,false⟩)] ⟨aiq underlying107 Qn6 Qaj hi9 hj10,Qd5 (first:=[]) (cap:=[.ref 0 1 0 0]) (vs:=[(.agg [I x7.Inlet,(.dat 2 (x7.Parts.map Qbe))])]) (σr:=[(.own 1 [[Qkb]]),(Qka p1 p2)]) (σr':=[(.own 1 [[Qkb]]),(Qka p1 p2)]) (res':=(B x12)) [0,1] rfl Q0n (Qg4 N x7 p1 p2 _ hf11) rfl (Qco (rnc (.plain _ (NLt.agg _ (nlc nll (nlc (nld Qbo _) nl0)))) (rnc (Qby rfl) rn0))) (slc (Qar (rnc (Qau rn0 (rnc (Qby rfl) rn0)) rn0)) (slc (Qar (rnc (pld Qad) (rnc (pld Qai) rn0))) Qas)) (slc (Qar (rnc (Qau rn0 (rnc (Qft rfl) rn0)) rn0)) (slc (Qar (rnc (pld Qad) (rnc (pld Qai) rn0))) Qas)) (.plain _ nll) rfl rfl rfl,tv⟩ ?_
    refine bfe h (fun hc13 h=>?_) fun hc13 h=>?_
    ·refine wft hc13<|wxz ?_
     refine wmr (mto (n:=19) (l':=[(4,I y3)]) (own':=[(.own 1 [[Qkb]]),(Qka p1 p2)]) [(4,I y3)] [0,1] [(.own 1 [[Qkb]]),(Qka p1 p2)] hq (pw pn) (qb (lc (.rn (Qau rn0 (rnc (rqr rfl) rn0))) ln) (qb (lc (rnd Qad) (lc (rnd Qai) ln)) qn)))<|Qae<|Qa3<|Qak<|Qak<|Qa3<|Qak ?_
     obtain rfl:=osi h
     exact⟨_,Mor.rfl,fio [I y3] ⟨rot,tv⟩⟩
    ·exact wfn hc13<|Qan<|bln<|thn<|wxz1<|thn<|arm (mto (n:=19) [(0,(Qvs p0)),(1,Qvr),(7,(I ((p0.length:Int)))),(8,(I (w64 (y3+1))))] [0,1] [(.own 1 [[Qkb]]),(Qka p1 p2)] hq (pc (rnd Qai) (pc (.rn (Qau rn0 (rnc (rqr rfl) rn0))) (pw (pw pn)))) (qb (lc (.rn (Qau rn0 (rnc (rqr rfl) rn0))) ln) (qb (lc (rnd Qad) (lc (rnd Qai) ln)) qn))) (ih (w64 (y3+1)) h)
   ·exact wfn hc6<|Qbi<|Qaw<|Qaw<|Qbh rfl<|thn<|⟨(),h,(mto (n:=19) [] [0,1] [(.own 1 [[Qkb]]),(Qka p1 p2)] hq pn (qb (lc (.rn (Qau rn0 (rnc (rqr rfl) rn0))) ln) (qb (lc (rnd Qad) (lc (rnd Qai) ln)) qn)))⟩
def Qbr (N:Nat) (p0:List Qah) (p1:List Int) (p2:List Qah):Option Bool:=
  (Qbz N p0 p1 p2).bind fun x3=>
  some (decide (x3≥0))
abbrev Q5s:AV:=.fn (.func 188) [] [(.ref 0 1 (0) 0)]
abbrev Qtm:AV:=.fn (.func 135) [] [(.ref 1 2 (0) 0)]
abbrev Qtl (p1:List Int) (p2:List Qah):Slot:=.own 2 [[(.dat 1 (p1.map Qab)),(.dat 2 (p2.map Qaj))]]
theorem Qeu (N:Nat) (p0:List Qah) (p1:List Int) (p2:List Qah) (r:Bool) (h:Qbr N p0 p1 p2=some r):Spec prog 187 [(.dat 2 (p0.map Qaj)),Q5s] [(.own 1 [[Qtm]]),(Qtl p1 p2)] (B r) [(.own 1 [[Qtm]]),(Qtl p1 p2)]:=by
  refine sF func187 2 fun _ _ _ hq hd0=>?_
  unfold Qbr at h
  refine wxz ?_
  obtain⟨x3,hf2,h⟩:=bno h
  refine wx tbk [(2,⟨_,_,_,_,false⟩)] ⟨acq [(.dat 2 (p0.map Qaj)),Q5s] [(.own 1 [[Qtm]]),(Qtl p1 p2)] [(.own 1 [[Qtm]]),(Qtl p1 p2)] (I x3) [0,1] Q0f (Qe5 N p0 p1 p2 _ hf2) (Qco (rnc (pld Qai) (rnc (Qau rn0 (rnc (Qby rfl) rn0)) rn0))) (slc (Qar (rnc (Qau rn0 (rnc (Qby rfl) rn0)) rn0)) (slc (Qar (rnc (pld Qad) (rnc (pld Qai) rn0))) Qas)) (slc (Qar (rnc (Qau rn0 (rnc (Qft rfl) rn0)) rn0)) (slc (Qar (rnc (pld Qad) (rnc (pld Qai) rn0))) Qas)) (.plain _ nll),tv⟩ ?_
  refine wmr (mto (n:=9) (l':=[(4,(B ((decide (x3≥0)))))]) (own':=[(.own 1 [[Qtm]]),(Qtl p1 p2)]) [(4,(B ((decide (x3≥0)))))] [0,1] [(.own 1 [[Qtm]]),(Qtl p1 p2)] hq (pw pn) (qb (lc (.rn (Qau rn0 (rnc (rqr rfl) rn0))) ln) (qb (lc (rnd Qad) (lc (rnd Qai) ln)) qn)))<|Qae ?_
  obtain rfl:=osi h
  exact⟨_,Mor.rfl,fio [(B ((decide (x3≥0))))] ⟨rot,tv⟩⟩
def Qdl (N:Nat) (p0:List Qah) (p1:List Int) (p2:List Qah):Option Bool:=
  (Qbr N p0 p1 p2).bind fun x3=>
  some (!x3)
abbrev Q3d:AV:=.fn (.func 135) [] [(.ref 0 2 (0) 0)]
abbrev Qtn (p1:List Int) (p2:List Qah):Slot:=.own 2 [[(.dat 1 (p1.map Qab)),(.dat 2 (p2.map Qaj))]]
def Q5t:AV:=.fn (.func 188) [] [(.ref 1 1 (0) 0)]
theorem Qhm (N:Nat) (p0:List Qah) (p1:List Int) (p2:List Qah) (r:Bool) (h:Qdl N p0 p1 p2=some r):Spec prog 134 [(.dat 2 (p0.map Qaj)),Q3d] [(Qtn p1 p2)] (B r) [(Qtn p1 p2)]:=by
  refine sF func134 1 fun _ _ _ hq hd0=>?_
  unfold Qdl at h
  refine wxz ?_
  obtain⟨x3,hf2,h⟩:=bno h
  refine wx tbk [(1,rp [(.tmp 3,.ref 1 1 0 0)] Q5t),(2,⟨_,_,_,_,false⟩)] ⟨Qe4 (fs:=[]) (cs:=[.ref 1 1 0 0]) rfl rfl rfl rfl,acq [(.dat 2 (p0.map Qaj)),Q5t] [(.own 1 [[Q3d]]),(Qtn p1 p2)] [(.own 1 [[Q3d]]),(Qtn p1 p2)] (B x3) [1,0] Q0o (Qeu N p0 p1 p2 _ hf2) (Qco (rnc (pld Qai) (rnc (Qau rn0 (rnc (Qby rfl) rn0)) rn0))) (slc (Qar (rnc (Qau rn0 (rnc (Qby rfl) rn0)) rn0)) (slc (Qar (rnc (pld Qad) (rnc (pld Qai) rn0))) Qas)) (slc (Qar (rnc (Qau rn0 (rnc (Qft rfl) rn0)) rn0)) (slc (Qar (rnc (pld Qad) (rnc (pld Qai) rn0))) Qas)) (.plain _ nll),tv⟩ ?_
  refine wmr (mto (n:=9) (l':=[(4,(B ((!x3))))]) (own':=[(Qtn p1 p2)]) [(4,(B ((!x3))))] [0] [(Qtn p1 p2)] hq (pw pn) (qb (lc (rnd Qad) (lc (rnd Qai) ln)) qn))<|Qae ?_
  obtain rfl:=osi h
  exact⟨_,Mor.rfl,fio [(B ((!x3)))] ⟨rot,tv⟩⟩
def Qei (N:Nat) (p0:Qc2):Option Bool:=
  (Qdb N (p0.heads.length:Int) 1 6).bind fun x2=>
  bif x2 then
   (Qfb N p0.heads).bind fun x5=>
   bif x5 then
    (Qdb N (p0.units.length:Int) 1 10).bind fun x8=>
    bif x8 then
     (Qdl N p0.units p0.heads p0.units).bind fun x11=>
     some x11
    else
     some false
   else
    some false
  else
   some false
def Qy9 (p0:Qc2):AV:=.dat 1 (p0.heads.map Qab)
def Q3g (p0:Qc2) (x2:Bool):List (Nat×Rec):=[(2,rp [((.tmp 4),(Qy9 p0))] (I ((p0.heads.length:Int)))),(3,rp [fu 122,((.tmp 5),(I ((p0.heads.length:Int)))),ci 1,ci 6] (B x2))]
def Q3f p0 x2 (x5:Bool):=hcat (Q3g p0 x2) [(4,rp [((.tmp 6),(B x2))] (B true)),(7,rp [((.tmp 7),(B true)),fu 132,((.tmp 9),(Qy9 p0)),fu 133] (B x5))]
def Qy8 (p0:Qc2):AV:=.dat 2 (p0.units.map Qaj)
def Q3e p0 x2 x5 (x8:Bool):=hcat (Q3f p0 x2 x5) [(9,rp [((.tmp 11),(B x5))] (B true)),(12,rp [((.tmp 12),(B true)),((.tmp 14),(Qy8 p0))] (I ((p0.units.length:Int)))),(13,rp [((.tmp 12),(B true)),fu 122,((.tmp 15),(I ((p0.units.length:Int)))),ci 1,ci 10] (B x8))]
def Q3h:AV:=.fn (.func 135) [] [(.ref 0 2 (0) 0)]
def Qy7 (p0:Qc2):Slot:=.own 2 [[(Qy9 p0),(Qy8 p0)]]
theorem Qio (N:Nat) (p0:Qc2) (r:Bool) (h:Qei N p0=some r):Spec prog 76 [(.agg (Qjc p0))] [] (B r) []:=by
  refine sA func76 0 fun _ _ _ hq hd0=>?_
  unfold Qei at h
  refine wxz ?_
  obtain⟨x2,hf1,h⟩:=bno h
  refine hpre (A:=(Q3g p0 x2)) ⟨alq 1 Qab p0.heads underlying22,apv Qhq (Qds N (p0.heads.length:Int) 1 6 _ hf1) (nlcc (nlc nll nl0)) nll,tv⟩ fun q1_=>?_
  refine bfe h (fun hb3 h=>?_) fun hb3 h=>?_
  ·obtain⟨x5,hf4,h⟩:=bno h
   refine hpre (A:=(Q3f p0 x2 x5)) (hap q1_ ⟨asb hb3 (amv rfl),ag_ (acq [(Qy9 p0),(.fn (.func 133) [] [])] [] [] (B x5) [] Q07 (Qj0 N p0.heads _ hf4) (Qco (rnc (pld Qad) (rnc (.plain _ (NLt.fn _ _ _ nl0 nl0)) rn0))) Qas Qas (.plain _ nll)),tv⟩) fun q2_=>?_
   refine bfe h (fun hb6 h=>?_) fun hb6 h=>?_
   ·obtain⟨x8,hf7,h⟩:=bno h
    refine hpre (A:=(Q3e p0 x2 x5 x8)) (hap q2_ ⟨asb hb6 (amv rfl),ag_ (alq 2 Qaj p0.units underlying107),ag_ (apv Qhq (Qds N (p0.units.length:Int) 1 10 _ hf7) (nlcc (nlc nll nl0)) nll),tv⟩) fun q3_=>?_
    refine bfe h (fun hb9 h=>?_) fun hb9 h=>?_
    ·obtain⟨x11,hf10,h⟩:=bno h
     refine wx tbk (hcat (Q3e p0 x2 x5 x8) [(15,rp [(.tmp 17,B x8)] (B true)),(18,rp [(.tmp 18,B true),(.tmp 1,.ref 0 2 0 0)] Q3h),(19,⟨[(.tmp 18,B true),fu 134,(.tmp 20,(Qy8 p0)),(.tmp 21,Q3h)],[(0,(Qy7 p0))],B x11,[(0,(Qy7 p0))],false⟩)]) (hap q3_ ⟨asb hb9 (amv rfl),ag_ (Qe4 (fs:=[]) (cs:=[.ref 0 2 0 0]) rfl rfl rfl rfl),ag_ (acq [(Qy8 p0),Q3h] [(Qy7 p0)] [(Qy7 p0)] (B x11) [0] Q05 (Qhm N p0.units p0.heads p0.units _ hf10) (Qco (rnc (pld Qai) (rnc (Qau rn0 (rnc (Qby rfl) rn0)) rn0))) (slc (Qar (rnc (pld Qad) (rnc (pld Qai) rn0))) Qas) (slc (Qar (rnc (pld Qad) (rnc (pld Qai) rn0))) Qas) (.plain _ nll)),tv⟩)<|Qae ?_
     exact frb h
    ·exact wx tbk (hcat (Q3e p0 x2 x5 x8) [(15,rp [(.tmp 17,B x8)] (B false))]) (hap q3_ ⟨asb hb9 (amv rfl),tv⟩)<|Qae<|frb h
   ·exact wx tbk (hcat (Q3f p0 x2 x5) [(9,rp [(.tmp 11,B x5)] (B false))]) (hap q2_ ⟨asb hb6 (amv rfl),tv⟩)<|Qae<|frb h
  ·exact wx tbk (hcat (Q3g p0 x2) [(4,rp [(.tmp 6,B x2)] (B false))]) (hap q1_ ⟨asb hb3 (amv rfl),tv⟩)<|Qae<|frb h
def Qcd (N:Nat) (p0:Qc2) (p1:List Int) (k2:Int→Option Int):Nat→Int→Int→Option Int
  |0,_,_=>none
  |n7+1,y3,y4=>
    bif (decide (y4<(p1.length:Int))) then
     (getI p1 y4).bind fun x9=>
     (getI p0.units y4).bind fun x13=>
     (Qeg N x13 x9).bind fun x18=>
     Qcd N p0 p1 k2 n7 (w64 (y3+x18)) (w64 (y4+1))
    else
     k2 (y3)
def Qdk (N:Nat) (p0:Qc2) (p1:List Int):Option Int:=
  Qb5 (fun y1=>
    some y1) fun k2:Int→Option Int=>
  Qcd N p0 p1 k2 N 0 0
def Qy4 (p0:Qc2):Slot:=.own 2 [[(.dat 1 (p0.heads.map Qab)),(.dat 2 (p0.units.map Qaj))]]
theorem Qi4 (N:Nat) (p0:Qc2) (p1:List Int) (r:Int) (h:Qdk N p0 p1=some r):Spec prog 78 [(.agg (Qjc p0)),(.dat 1 (p1.map Qab))] [] (I r) []:=by
  refine sA func78 0 fun _ _ _ hq hd0=>?_
  unfold Qdk at h
  refine wxz ?_
  obtain⟨k2,hk_k2,h⟩:=jko h
  refine wjn (τ:=Int) (fun t=>k2 t=some r) (fun y1=>⟨mk 25 [(4,I y1)],[]⟩) (fun y1 h=>?_) ?_
  ·subst hk_k2
   refine wxz<|Qae ?_
   obtain rfl:=osi h
   exact fend ⟨[I y1],⟨rot,tv⟩,rfl⟩ nll
  ·skip
   refine wx tbk [(1,rp _ _)] ⟨alq 1 Qab p1 underlying22,tv⟩<|Qag ?_
   refine wmr (mto (n:=25) (l':=[(2,.ref 0 2 0 0),(4,I 0),(7,(.dat 1 (p1.map Qab))),(8,(I ((p1.length:Int)))),(9,I 0)]) (own':=[(Qy4 p0)]) [(2,.ref 0 2 0 0),(4,I 0),(7,(.dat 1 (p1.map Qab))),(8,(I ((p1.length:Int)))),(9,I 0)] [0] [(Qy4 p0)] hq (prr (pw (pc (rnd Qad) (pw (pw pn))))) (qb (lc (rnd Qad) (lc (rnd Qai) ln)) qn)) ?_
   refine Qb8 (τ:=Int×Int) (fun n t=>Qcd N p0 p1 k2 n t.1 t.2=some r) (fun ⟨y3,y4⟩=>⟨mk 25 [(2,.ref 0 2 0 0),(4,I y3),(7,(.dat 1 (p1.map Qab))),(8,(I ((p1.length:Int)))),(9,I y4)],[(Qy4 p0)]⟩) (fun t h=>by rw[Qcd] at h;cases h) (fun n7 ih t h=>?_) N (0,0) h
   obtain⟨y3,y4⟩:=t
   rw[Qcd] at h
   skip
   refine wxz<|wsq ?_
   refine bfe h (fun hc8 h=>?_) fun hc8 h=>?_
   ·refine wft hc8<|Qan<|thn<|wsq<|Qag ?_
    obtain⟨x9,hg10,h⟩:=bno h
    obtain⟨hi11,hj12⟩:=gsm hg10
    refine wx tbk [(1,rp _ _)] ⟨aiq underlying22 ti3 Qab hi11 hj12,tv⟩ ?_
    obtain⟨x13,hg14,h⟩:=bno h
    obtain⟨hi15,hj16⟩:=gsm hg14
    obtain⟨x18,hf17,h⟩:=bno h
    exact wx1 tbk [(4,rp _ _),(7,rp _ _)] ⟨aiq underlying107 Qn6 Qaj hi15 hj16,apw Qsz (Qg0 N x13 x9 _ hf17),tv⟩<|bln<|thn<|wxz1<|thn<|arm (mto (n:=25) [(2,.ref 0 2 0 0),(4,(I (w64 (y3+x18)))),(7,(.dat 1 (p1.map Qab))),(8,(I ((p1.length:Int)))),(9,(I (w64 (y4+1))))] [0] [(Qy4 p0)] hq (prr (pw (pc (rnd Qad) (pw (pw pn))))) (qb (lc (rnd Qad) (lc (rnd Qai) ln)) qn)) (ih (w64 (y3+x18),w64 (y4+1)) h)
   ·exact wfn hc8<|Qbi<|Qaw<|Qaw<|Qbh rfl<|thn<|⟨(y3),h,(mto (n:=25) [(4,I y3)] [] [] hq (pw pn) qn)⟩
def Qc7 (N:Nat) (p0 y7:List Int) (k10:(List Int)→Option ((List Int)×Int×(List Int)×Int)):Nat→(List Int)→Int→Int→Option ((List Int)×Int×(List Int)×Int)
  |0,_,_,_=>none
  |n19+1,y13,y14,y15=>
    bif (decide (y15<(((p0.length:Int).toNat:Nat):Int))) then
     chk (decide (0≤y15)&&decide (y15.toNat<(p0.length:Int).toNat))<|
     (y7[y15.toNat]?).bind fun x22=>
     chk (decide ((y13.length+([w64 (x22-y14)]).length)*8≤140737488355328))<|
     Qc7 N p0 y7 k10 n19 (y13++([w64 (x22-y14)])) x22 (w64 (y15+1))
    else
     k10 (y13)
def Qdn (N:Nat) (p0:List Int) (k32:(List Int)→Option ((List Int)×Int×(List Int)×Int)) (x37:Int):Nat→Int→(List Int)→Option ((List Int)×Int×(List Int)×Int)
  |0,_,_=>none
  |n48+1,y44,y45=>
    bif (decide (y44<(((p0.length:Int).toNat:Nat):Int))) then
     chk (decide (0≤y44)&&decide (y44.toNat<(p0.length:Int).toNat))<|
     (y45[y44.toNat]?).bind fun x51=>
     chk (decide (0≤y44)&&decide (y44.toNat<(p0.length:Int).toNat))<|
     (y45[y44.toNat]?).bind fun _=>
     Qdn N p0 k32 x37 n48 (w64 (y44+1)) (y45.set y44.toNat (if x37>x51 then x37 else x51))
    else
     k32 (y45)
def Qdm (N:Nat) (x5:((List Int)×(List Int)×(List Int))) (k43:Int→Option ((List Int)×Int×(List Int)×Int)):Nat→Int→Option ((List Int)×Int×(List Int)×Int)
  |0,_=>none
  |n58+1,y56=>
    (getI x5.2.1 y56).bind fun x59=>
    bif (decide (x59>0)) then
     Qdm N x5 k43 n58 (w64 (y56-1))
    else
     k43 (y56)
def Qdo (N:Nat) (p0:List Int) (p1:List Qah) (x5:((List Int)×(List Int)×(List Int))) (k8:(List Int)→Option ((List Int)×Int×(List Int)×Int)):Nat→Int→(List Int)→Option ((List Int)×Int×(List Int)×Int)
  |0,_,_=>none
  |n29+1,y25,y26=>
    bif (decide (y25<(p1.length:Int))) then
     Qb5 (fun y31=>
       Qdo N p0 p1 x5 k8 n29 (w64 (y25+1)) y31) fun k32:(List Int)→Option ((List Int)×Int×(List Int)×Int)=>
     (getI p1 y25).bind fun x33=>
     (getI x5.2.2 y25).bind fun x37=>
     bif (decide (x37≤0)) then
      k32 (y26)
     else
      Qb5 (fun y42=>
        Qdn N p0 k32 x37 N y42 y26) fun k43:Int→Option ((List Int)×Int×(List Int)×Int)=>
      Qdm N x5 k43 N x33.Inlet
    else
     k8 (y26)
def Qfn (N:Nat) (p0:List Int) (p1:List Qah):Option ((List Int)×Int×(List Int)×Int):=
  (Qei N (⟨p0,p1⟩:Qc2)).bind fun x2=>
  bif (!x2) then
   some ([],0,[],1)
  else
   (Qeq N (⟨p0,p1⟩:Qc2)).bind fun x5=>
   chk (decide (0≤(p0.length:Int))&&decide (8*(p0.length:Int)≤281474976710656)&&decide ((p0.length:Int)≤9223372036854775807))<|
   Qb5 (fun y7=>
     Qb5 (fun y9=>
       (Qdk N (⟨p0,p1⟩:Qc2) x5.1).bind fun x12=>
       some (x5.1,x12,y9,0)) fun k10:(List Int)→Option ((List Int)×Int×(List Int)×Int)=>
     Qc7 N p0 y7 k10 N ([]) 0 0) fun k8:(List Int)→Option ((List Int)×Int×(List Int)×Int)=>
   Qdo N p0 p1 x5 k8 N 0 (List.replicate (p0.length:Int).toNat 0)
def Qh1 (p1:List Qah):AV:=.dat 2 (p1.map Qaj)
def Q15:AV:=.dat 1 (([]:List Int).map Qab)
def Qgl (x5:((List Int)×(List Int)×(List Int))):AV:=.dat 1 (x5.1.map Qab)
def Qir (x5:((List Int)×(List Int)×(List Int))):AV:=.dat 1 (x5.2.1.map Qab)
def Qiq (x5:((List Int)×(List Int)×(List Int))):AV:=.dat 1 (x5.2.2.map Qab)
def Q5x (p0:List Int):Slot:=.own 1 ((List.replicate (p0.length:Int).toNat 0:List Int).map Qab)
def Qgv (p0:List Int) (p1:List Qah):Slot:=.own 2 [[(.dat 1 (p0.map Qab)),(Qh1 p1)]]
theorem Qhe (N:Nat) (p0:List Int) (p1:List Qah) (r:((List Int)×Int×(List Int)×Int)) (h:Qfn N p0 p1=some r):Spec prog 34 [(.dat 1 (p0.map Qab)),(.dat 2 (p1.map Qaj))] [] (.tup [(.dat 1 (r.1.map Qab)),(I r.2.1),(.dat 1 (r.2.2.1.map Qab)),(I r.2.2.2)]) []:=by
  refine sA func34 0 fun _ _ _ hq hd0=>?_
  unfold Qfn at h
  refine wxz<|wx tbk [(2,rp _ _)] ⟨Qd6 (vs:=[(.dat 1 (p0.map Qab)),(Qh1 p1)]) rfl Q7h Q59 rfl (by rfl) rfl,tv⟩<|wsq ?_
  obtain⟨x2,hf1,h⟩:=bno h
  refine wx tbk [(1,rp _ _)] ⟨apw Q4r (Qio N (⟨p0,p1⟩:Qc2) _ hf1),tv⟩ ?_
  refine bfe h (fun hc3 h=>?_) fun hc3 h=>?_
  ·refine wft hc3<|wxz<|Qae<|Qak ?_
   obtain rfl:=osi h
   exact fie [Q15,I 0,Q15,I 1] ⟨Qd3 (v:=nilS) rot Less.nil,rot,Qd3 (v:=nilS) rot Less.nil,rot,tv⟩
  ·refine wfn hc3<|Qan<|thn ?_
   obtain⟨x5,hf4,h⟩:=bno h
   refine wx tbk [(1,rp _ _)] ⟨apw Q4q (Qi5 N (⟨p0,p1⟩:Qc2) _ hf4),tv⟩ ?_
   obtain⟨hm6,h⟩:=cko h
   refine wx tbk [(1,rp _ _),(2,⟨[(.tmp 31,(I ((p0.length:Int)))),(.tmp 31,(I ((p0.length:Int))))],[(1,.unused)],(.own 1 1 (0) ((p0.length:Int).toNat)),[(1,(Q5x p0))],false⟩)] ⟨alq 1 Qab p0 underlying22,Qnu rfl underlying22 te3 tz3 rfl (Quv hm6) rfl (Quu hm6) (Q2t hm6) (Qwt Qab rfl),tv⟩ ?_
   obtain⟨k8,hk_k8,h⟩:=jko h
   refine wjn (τ:=(List Int)) (fun t=>k8 t=some r) (fun y7=>⟨mk 92 [(4,(Qgl x5)),(6,nilS),(8,.ref 0 2 0 0),(11,(.own 1 1 (0) ((p0.length:Int).toNat)))],[(Qgv p0 p1),(.own 1 (y7.map Qab))]⟩) (fun y7 h=>?_) ?_
   ·subst hk_k8
    refine wxz ?_
    obtain⟨k10,hk_k10,h⟩:=jko h
    refine wjn (τ:=(List Int)) (fun t=>k10 t=some r) (fun y9=>⟨mk 92 [(4,(Qgl x5)),(6,(.acc 0 3 1 (y9.map Qab))),(8,.ref 1 2 0 0)],[.tok,(Qgv p0 p1)]⟩) (fun y9 h=>?_) ?_
    ·subst hk_k10
     obtain⟨x12,hf11,h⟩:=bno h
     refine wx tbk [(3,rp _ _)] ⟨apw Q4p (Qi4 N (⟨p0,p1⟩:Qc2) x5.1 _ hf11),tv⟩<|Qae ?_
     obtain rfl:=osi h
     exact fie [(Qgl x5),I x12,(.dat 1 (y9.map Qab)),I 0] ⟨rot,rot,Qd3 (v:=(.acc 0 3 1 (y9.map Qab))) rot Less.acc,rot,tv⟩
    ·skip
     refine wx tbk [(1,rp [(.tmp 73,(.own 1 1 (0) ((p0.length:Int).toNat)))] (I ((((p0.length:Int).toNat:Nat):Int))))] ⟨aln rfl underlying22 rfl,tv⟩<|Qag ?_
     refine wmr (Mor.trans (Qml 2 3 1 6 (by kernel_rfl) (by kernel_rfl)) (mto (n:=92) (l':=[(4,(Qgl x5)),(6,(.acc 0 3 1 ((([]):List Int).map Qab))),(8,.ref 1 2 0 0),(15,I 0),(73,(.own 2 1 (0) ((p0.length:Int).toNat))),(74,(I ((((p0.length:Int).toNat:Nat):Int)))),(75,I 0)]) (own':=[.tok,(Qgv p0 p1),(.own 1 (y7.map Qab))]) [(4,(Qgl x5)),(6,(.acc 2 3 1 (([]:List Int).map Qab))),(8,.ref 0 2 0 0),(15,I 0),(73,(.own 1 1 (0) ((p0.length:Int).toNat))),(74,(I ((((p0.length:Int).toNat:Nat):Int)))),(75,I 0)] [2,0,1] [.tok,(Qgv p0 p1),(.own 1 (y7.map Qab))] hq (pc (rnd Qad) (pc (.rn (Qe1 rfl (Qdw Qad _))) (prr (pw (pc (.rn (Qal rfl)) (pw (pw pn))))))) (qc .tok (qb (lc (rnd Qad) (lc (rnd Qai) ln)) (qc (spr Qad) qn))))) ?_
     refine Qb8 (τ:=(List Int)×Int×Int) (fun n t=>Qc7 N p0 y7 k10 n t.1 t.2.1 t.2.2=some r) (fun ⟨y13,y14,y15⟩=>⟨mk 92 [(4,(Qgl x5)),(6,(.acc 0 3 1 (y13.map Qab))),(8,.ref 1 2 0 0),(15,I y14),(73,(.own 2 1 (0) ((p0.length:Int).toNat))),(74,(I ((((p0.length:Int).toNat:Nat):Int)))),(75,I y15)],[.tok,(Qgv p0 p1),(.own 1 (y7.map Qab))]⟩) (fun t h=>by rw[Qc7] at h;cases h) (fun n19 ih t h=>?_) N ([],0,0) h
     obtain⟨y13,y14,y15⟩:=t
     rw[Qc7] at h
     skip
     refine wxz<|wsq ?_
     refine bfe h (fun hc20 h=>?_) fun hc20 h=>?_
     ·refine wft hc20<|Qan<|thn<|wsq<|Qag ?_
      obtain⟨hi21,h⟩:=cko h
      obtain⟨hi21a,hi21b⟩:=Qcb hi21
      obtain⟨x22,hg23,h⟩:=bno h
      refine wx tbk [(0,rb [(.tmp 73,(.own 2 1 (0) ((p0.length:Int).toNat))),(.tmp 75,I y15)] [(2,(.own 1 (y7.map Qab)))] (.ref 2 1 y15.toNat 0)),(1,rb [(.tmp 77,(.ref 2 1 y15.toNat 0))] [(2,(.own 1 (y7.map Qab)))] (I x22))] ⟨aio rfl underlying22 ti3 (odt hi21a) (odt hi21b) (Nat.zero_add _),ald rfl ti3 (by decide) (mgt Qab hg23) (nle rfl) rfl,tv⟩ ?_
      obtain⟨ha24,h⟩:=cko h
      refine wx tbk [(4,rp [(.tmp 82,(I (w64 (x22-y14))))] (.dat 1 (([w64 (x22-y14)]:List Int).map Qab))),(5,⟨[(.tmp 79,(.acc 0 3 1 (y13.map Qab))),(.tmp 83,(.dat 1 (([w64 (x22-y14)]:List Int).map Qab)))],[(0,.tok),(3,.unused)],(.acc 3 3 1 ((y13++([w64 (x22-y14)]):List Int).map Qab)),[(0,.dead),(3,.tok)],false⟩)] ⟨Qd0 (vs:=[(I (w64 (x22-y14)))]) rfl underlying22 ti3 tz3 rfl (by decide) rfl (by decide) (by rfl) (by rfl) (by rfl) rfl,Qfv rfl underlying22 te3 (Base.acc _ _) rfl rfl (by rfl) (Qj5 Qab ha24) (Qj4 Qab ha24 (by decide)) (Qj3 Qab) rfl rfl,tv⟩<|wxz1<|bln<|thn<|wxz1<|thn ?_
      exact arm (mto (n:=92) [(4,(Qgl x5)),(6,(.acc 3 3 1 ((y13++([w64 (x22-y14)]):List Int).map Qab))),(8,.ref 1 2 0 0),(15,I x22),(73,(.own 2 1 (0) ((p0.length:Int).toNat))),(74,(I ((((p0.length:Int).toNat:Nat):Int)))),(75,(I (w64 (y15+1))))] [3,1,2] [.tok,(Qgv p0 p1),(.own 1 (y7.map Qab))] hq (pc (rnd Qad) (pc (.rn (Qe1 rfl (Qdw Qad _))) (prr (pw (pc (.rn (Qal rfl)) (pw (pw pn))))))) (qc .tok (qb (lc (rnd Qad) (lc (rnd Qai) ln)) (qc (spr Qad) qn)))) (ih (y13++([w64 (x22-y14)]),x22,w64 (y15+1)) h)
     ·exact wfn hc20<|Qbi<|Qaw<|Qaw<|Qbh rfl<|thn<|⟨(y13),h,(mto (n:=92) [(4,(Qgl x5)),(6,(.acc 0 3 1 (y13.map Qab))),(8,.ref 1 2 0 0)] [0,1] [.tok,(Qgv p0 p1)] hq (pc (rnd Qad) (pc (.rn (Qe1 rfl (Qdw Qad _))) (prr pn))) (qc .tok (qb (lc (rnd Qad) (lc (rnd Qai) ln)) qn)))⟩
   ·skip
    refine wx tbk [(1,rp _ _)] ⟨alq 2 Qaj p1 underlying107,tv⟩<|Qag ?_
    refine wmr (mto (n:=92) (l':=[(4,(Qgl x5)),(6,nilS),(8,.ref 0 2 0 0),(9,(Qir x5)),(10,(Qiq x5)),(11,(.own 1 1 (0) ((p0.length:Int).toNat))),(33,(Qh1 p1)),(34,(I ((p1.length:Int)))),(35,I 0)]) (own':=[(Qgv p0 p1),(.own 1 (((List.replicate (p0.length:Int).toNat 0):List Int).map Qab))]) [(4,(Qgl x5)),(6,nilS),(8,.ref 0 2 0 0),(9,(Qir x5)),(10,(Qiq x5)),(11,(.own 1 1 (0) ((p0.length:Int).toNat))),(33,(Qh1 p1)),(34,(I ((p1.length:Int)))),(35,I 0)] [0,1] [(Qgv p0 p1),(Q5x p0)] hq (pc (rnd Qad) (pw (prr (pc (rnd Qad) (pc (rnd Qad) (pc (.rn (Qal rfl)) (pc (rnd Qai) (pw (pw pn))))))))) (qb (lc (rnd Qad) (lc (rnd Qai) ln)) (qc (spr Qad) qn))) ?_
    refine Qb8 (τ:=Int×(List Int)) (fun n t=>Qdo N p0 p1 x5 k8 n t.1 t.2=some r) (fun ⟨y25,y26⟩=>⟨mk 92 [(4,(Qgl x5)),(6,nilS),(8,.ref 0 2 0 0),(9,(Qir x5)),(10,(Qiq x5)),(11,(.own 1 1 (0) ((p0.length:Int).toNat))),(33,(Qh1 p1)),(34,(I ((p1.length:Int)))),(35,I y25)],[(Qgv p0 p1),(.own 1 (y26.map Qab))]⟩) (fun t h=>by rw[Qdo] at h;cases h) (fun n29 ih t h=>?_) N (0,List.replicate (p0.length:Int).toNat 0) h
    obtain⟨y25,y26⟩:=t
    rw[Qdo] at h
    skip
    refine wxz<|wsq ?_
    refine bfe h (fun hc30 h=>?_) fun hc30 h=>?_
    ·refine wft hc30<|Qan<|thn ?_
     obtain⟨k32,hk_k32,h⟩:=jko h
     refine wjn (τ:=(List Int)) (fun t=>k32 t=some r) (fun y31=>⟨mk 92 [(4,(Qgl x5)),(6,nilS),(8,.ref 0 2 0 0),(9,(Qir x5)),(10,(Qiq x5)),(11,(.own 1 1 (0) ((p0.length:Int).toNat))),(33,(Qh1 p1)),(34,(I ((p1.length:Int)))),(35,I y25)],[(Qgv p0 p1),(.own 1 (y31.map Qab))]⟩) (fun y31 h=>?_) ?_
     ·subst hk_k32
      exact wxz1<|thn<|arm (mto (n:=92) [(4,(Qgl x5)),(6,nilS),(8,.ref 0 2 0 0),(9,(Qir x5)),(10,(Qiq x5)),(11,(.own 1 1 (0) ((p0.length:Int).toNat))),(33,(Qh1 p1)),(34,(I ((p1.length:Int)))),(35,(I (w64 (y25+1))))] [0,1] [(Qgv p0 p1),(.own 1 (y31.map Qab))] hq (pc (rnd Qad) (pw (prr (pc (rnd Qad) (pc (rnd Qad) (pc (.rn (Qal rfl)) (pc (rnd Qai) (pw (pw pn))))))))) (qb (lc (rnd Qad) (lc (rnd Qai) ln)) (qc (spr Qad) qn))) (ih (w64 (y25+1),y31) h)
     ·skip
      refine Qag ?_
      obtain⟨x33,hg34,h⟩:=bno h
      obtain⟨hi35,hj36⟩:=gsm hg34
      refine wx tbk [(1,rp _ _)] ⟨aiq underlying107 Qn6 Qaj hi35 hj36,tv⟩<|wsq ?_
      obtain⟨x37,hg38,h⟩:=bno h
      obtain⟨hi39,hj40⟩:=gsm hg38
      refine wx tbk [(2,rp _ _)] ⟨aiq underlying22 ti3 Qab hi39 hj40,tv⟩ ?_
      refine bfe h (fun hc41 h=>?_) fun hc41 h=>?_
      ·exact wft hc41<|Qbi<|Qaw<|Qbh rfl<|thn<|⟨(y26),h,(mto (n:=92) [(4,(Qgl x5)),(6,nilS),(8,.ref 0 2 0 0),(9,(Qir x5)),(10,(Qiq x5)),(11,(.own 1 1 (0) ((p0.length:Int).toNat))),(33,(Qh1 p1)),(34,(I ((p1.length:Int)))),(35,I y25)] [0,1] [(Qgv p0 p1),(.own 1 (y26.map Qab))] hq (pc (rnd Qad) (pw (prr (pc (rnd Qad) (pc (rnd Qad) (pc (.rn (Qal rfl)) (pc (rnd Qai) (pw (pw pn))))))))) (qb (lc (rnd Qad) (lc (rnd Qai) ln)) (qc (spr Qad) qn)))⟩
      ·refine wfn hc41<|Qan<|thn<|wxz ?_
       obtain⟨k43,hk_k43,h⟩:=jko h
       refine wjn (τ:=Int) (fun t=>k43 t=some r) (fun y42=>⟨mk 92 [(4,(Qgl x5)),(6,nilS),(8,.ref 0 2 0 0),(9,(Qir x5)),(10,(Qiq x5)),(11,(.own 1 1 (0) ((p0.length:Int).toNat))),(12,I y25),(14,I y42),(33,(Qh1 p1)),(34,(I ((p1.length:Int)))),(35,I y25)],[(Qgv p0 p1),(.own 1 (y26.map Qab))]⟩) (fun y42 h=>?_) ?_
       ·subst hk_k43
        refine Qag<|wmr (mto (n:=92) (l':=[(4,(Qgl x5)),(6,nilS),(8,.ref 0 2 0 0),(9,(Qir x5)),(10,(Qiq x5)),(11,(.own 1 1 (0) ((p0.length:Int).toNat))),(12,I y25),(14,I y42),(33,(Qh1 p1)),(34,(I ((p1.length:Int)))),(35,I y25)]) (own':=[(Qgv p0 p1),(.own 1 (y26.map Qab))]) [(4,(Qgl x5)),(6,nilS),(8,.ref 0 2 0 0),(9,(Qir x5)),(10,(Qiq x5)),(11,(.own 1 1 (0) ((p0.length:Int).toNat))),(12,I y25),(14,I y42),(33,(Qh1 p1)),(34,(I ((p1.length:Int)))),(35,I y25)] [0,1] [(Qgv p0 p1),(.own 1 (y26.map Qab))] hq (pc (rnd Qad) (pw (prr (pc (rnd Qad) (pc (rnd Qad) (pc (.rn (Qal rfl)) (pw (pw (pc (rnd Qai) (pw (pw pn))))))))))) (qb (lc (rnd Qad) (lc (rnd Qai) ln)) (qc (spr Qad) qn))) ?_
        refine Qb8 (τ:=Int×(List Int)) (fun n t=>Qdn N p0 k32 x37 n t.1 t.2=some r) (fun ⟨y44,y45⟩=>⟨mk 92 [(4,(Qgl x5)),(6,nilS),(8,.ref 0 2 0 0),(9,(Qir x5)),(10,(Qiq x5)),(11,(.own 1 1 (0) ((p0.length:Int).toNat))),(12,I y25),(14,I y44),(33,(Qh1 p1)),(34,(I ((p1.length:Int)))),(35,I y25)],[(Qgv p0 p1),(.own 1 (y45.map Qab))]⟩) (fun t h=>by rw[Qdn] at h;cases h) (fun n48 ih t h=>?_) N (y42,y26) h
        obtain⟨y44,y45⟩:=t
        rw[Qdn] at h
        skip
        refine wsq<|wx tbk [(2,rp [(.tmp 55,(.own 1 1 (0) ((p0.length:Int).toNat)))] (I ((((p0.length:Int).toNat:Nat):Int))))] ⟨aln rfl underlying22 rfl,tv⟩ ?_
        refine bfe h (fun hc49 h=>?_) fun hc49 h=>?_
        ·refine wft hc49<|Qan<|thn<|wsq<|Qag ?_
         obtain⟨hi50,h⟩:=cko h
         obtain⟨hi50a,hi50b⟩:=Qcb hi50
         obtain⟨x51,hg52,h⟩:=bno h
         obtain⟨hi53,h⟩:=cko h
         obtain⟨hi53a,hi53b⟩:=Qcb hi53
         obtain⟨x54,hg55,h⟩:=bno h
         refine wy1 tbk [(4,rb [(.tmp 62,(.own 1 1 (0) ((p0.length:Int).toNat))),(.tmp 63,I y44)] [(1,(.own 1 (y45.map Qab)))] (.ref 1 1 y44.toNat 0)),(5,rb [(.tmp 64,(.ref 1 1 y44.toNat 0))] [(1,(.own 1 (y45.map Qab)))] (I x51)),(8,rp _ _),(10,rp [(.tmp 65,I x51),(.tmp 69,I x37)] (I ((if x37>x51 then x37 else x51)))),(11,rb [(.tmp 60,(.own 1 1 (0) ((p0.length:Int).toNat))),(.tmp 61,I y44)] [(1,(.own 1 (y45.map Qab)))] (.ref 1 1 y44.toNat 0)),(12,⟨[(.tmp 71,(.ref 1 1 y44.toNat 0)),(.tmp 70,(I ((if x37>x51 then x37 else x51))))],[(1,(.own 1 (y45.map Qab)))],.any,[(1,(.own 1 ((y45.set y44.toNat (if x37>x51 then x37 else x51):List Int).map Qab)))],false⟩)] ⟨aio rfl underlying22 ti3 (odt hi50a) (odt hi50b) (Nat.zero_add _),ald rfl ti3 (by decide) (mgt Qab hg52) (nle rfl) rfl,aiq underlying22 ti3 Qab hi39 hj40,Qqn rfl,aio rfl underlying22 ti3 (odt hi53a) (odt hi53b) (Nat.zero_add _),ast rfl ti3 (by rfl) (mgt Qab hg55) (nle rfl) (Qf8 Qab rfl),tv⟩<|bln<|thn<|wxz1<|thn ?_
         exact arm (mto (n:=92) [(4,(Qgl x5)),(6,nilS),(8,.ref 0 2 0 0),(9,(Qir x5)),(10,(Qiq x5)),(11,(.own 1 1 (0) ((p0.length:Int).toNat))),(12,I y25),(14,(I (w64 (y44+1)))),(33,(Qh1 p1)),(34,(I ((p1.length:Int)))),(35,I y25)] [0,1] [(Qgv p0 p1),(.own 1 ((y45.set y44.toNat (if x37>x51 then x37 else x51):List Int).map Qab))] hq (pc (rnd Qad) (pw (prr (pc (rnd Qad) (pc (rnd Qad) (pc (.rn (Qal rfl)) (pw (pw (pc (rnd Qai) (pw (pw pn))))))))))) (qb (lc (rnd Qad) (lc (rnd Qai) ln)) (qc (spr Qad) qn))) (ih (w64 (y44+1),y45.set y44.toNat (if x37>x51 then x37 else x51)) h)
        ·exact wfn hc49<|Qbi<|Qaw<|Qaw<|Qbh rfl<|bln<|thn<|⟨(y45),h,(mto (n:=92) [(4,(Qgl x5)),(6,nilS),(8,.ref 0 2 0 0),(9,(Qir x5)),(10,(Qiq x5)),(11,(.own 1 1 (0) ((p0.length:Int).toNat))),(33,(Qh1 p1)),(34,(I ((p1.length:Int)))),(35,I y25)] [0,1] [(Qgv p0 p1),(.own 1 (y45.map Qab))] hq (pc (rnd Qad) (pw (prr (pc (rnd Qad) (pc (rnd Qad) (pc (.rn (Qal rfl)) (pc (rnd Qai) (pw (pw pn))))))))) (qb (lc (rnd Qad) (lc (rnd Qai) ln)) (qc (spr Qad) qn)))⟩
       ·skip
        refine Qag<|wmr (mto (n:=92) (l':=[(4,(Qgl x5)),(6,nilS),(8,.ref 0 2 0 0),(9,(Qir x5)),(10,(Qiq x5)),(11,(.own 1 1 (0) ((p0.length:Int).toNat))),(12,I y25),(14,I x33.Inlet),(33,(Qh1 p1)),(34,(I ((p1.length:Int)))),(35,I y25)]) (own':=[(Qgv p0 p1),(.own 1 (y26.map Qab))]) [(4,(Qgl x5)),(6,nilS),(8,.ref 0 2 0 0),(9,(Qir x5)),(10,(Qiq x5)),(11,(.own 1 1 (0) ((p0.length:Int).toNat))),(12,I y25),(14,I x33.Inlet),(33,(Qh1 p1)),(34,(I ((p1.length:Int)))),(35,I y25)] [0,1] [(Qgv p0 p1),(.own 1 (y26.map Qab))] hq (pc (rnd Qad) (pw (prr (pc (rnd Qad) (pc (rnd Qad) (pc (.rn (Qal rfl)) (pw (pw (pc (rnd Qai) (pw (pw pn))))))))))) (qb (lc (rnd Qad) (lc (rnd Qai) ln)) (qc (spr Qad) qn))) ?_
        refine Qb8 (τ:=Int) (fun n t=>Qdm N x5 k43 n t=some r) (fun y56=>⟨mk 92 [(4,(Qgl x5)),(6,nilS),(8,.ref 0 2 0 0),(9,(Qir x5)),(10,(Qiq x5)),(11,(.own 1 1 (0) ((p0.length:Int).toNat))),(12,I y25),(14,I y56),(33,(Qh1 p1)),(34,(I ((p1.length:Int)))),(35,I y25)],[(Qgv p0 p1),(.own 1 (y26.map Qab))]⟩) (fun t h=>by rw[Qdm] at h;cases h) (fun n58 ih y56 h=>?_) N x33.Inlet h
        rw[Qdm] at h
        skip
        refine wsq ?_
        obtain⟨x59,hg60,h⟩:=bno h
        obtain⟨hi61,hj62⟩:=gsm hg60
        refine wx tbk [(2,rp _ _)] ⟨aiq underlying22 ti3 Qab hi61 hj62,tv⟩ ?_
        refine bfe h (fun hc63 h=>?_) fun hc63 h=>?_
        ·exact wft hc63<|Qan<|thn<|Qag<|wxz1<|bln<|thn<|arm (mto (n:=92) [(4,(Qgl x5)),(6,nilS),(8,.ref 0 2 0 0),(9,(Qir x5)),(10,(Qiq x5)),(11,(.own 1 1 (0) ((p0.length:Int).toNat))),(12,I y25),(14,(I (w64 (y56-1)))),(33,(Qh1 p1)),(34,(I ((p1.length:Int)))),(35,I y25)] [0,1] [(Qgv p0 p1),(.own 1 (y26.map Qab))] hq (pc (rnd Qad) (pw (prr (pc (rnd Qad) (pc (rnd Qad) (pc (.rn (Qal rfl)) (pw (pw (pc (rnd Qai) (pw (pw pn))))))))))) (qb (lc (rnd Qad) (lc (rnd Qai) ln)) (qc (spr Qad) qn))) (ih (w64 (y56-1)) h)
        ·exact wfn hc63<|Qbi<|Qaw<|Qaw<|Qbh rfl<|thn<|⟨(y56),h,(mto (n:=92) [(4,(Qgl x5)),(6,nilS),(8,.ref 0 2 0 0),(9,(Qir x5)),(10,(Qiq x5)),(11,(.own 1 1 (0) ((p0.length:Int).toNat))),(12,I y25),(14,I y56),(33,(Qh1 p1)),(34,(I ((p1.length:Int)))),(35,I y25)] [0,1] [(Qgv p0 p1),(.own 1 (y26.map Qab))] hq (pc (rnd Qad) (pw (prr (pc (rnd Qad) (pc (rnd Qad) (pc (.rn (Qal rfl)) (pw (pw (pc (rnd Qai) (pw (pw pn))))))))))) (qb (lc (rnd Qad) (lc (rnd Qai) ln)) (qc (spr Qad) qn)))⟩
    ·exact wfn hc30<|Qbi<|Qaw<|Qaw<|Qbh rfl<|thn<|⟨(y26),h,(mto (n:=92) [(4,(Qgl x5)),(6,nilS),(8,.ref 0 2 0 0),(11,(.own 1 1 (0) ((p0.length:Int).toNat)))] [0,1] [(Qgv p0 p1),(.own 1 (y26.map Qab))] hq (pc (rnd Qad) (pw (prr (pc (.rn (Qal rfl)) pn)))) (qb (lc (rnd Qad) (lc (rnd Qai) ln)) (qc (spr Qad) qn)))⟩
def Qek (N:Nat):Option Bool:=
  (Qi9 N (⟨0,[(⟨2,7⟩:Qa8)]⟩:Qah) 1).bind fun x2=>
  bif (x2.2==0) then
   some (x2.1==7)
  else
   some false
def Q5p:AV:=.agg [(I (2)),(I (7))]
def Q5o:AV:=.dat 2 (([(⟨2,7⟩:Qa8)]:List Qa8).map Qbe)
theorem Qea (N:Nat) (r:Bool) (h:Qek N=some r):Spec prog 29 [] [] (B r) []:=by
  refine sA func29 0 fun _ _ _ hq hd0=>?_
  unfold Qek at h
  refine wxz ?_
  obtain⟨x2,hf1,h⟩:=bno h
  refine wx tbk [(0,rp _ _),(1,rp [(.tmp 4,Q5p)] Q5o),(2,rp _ _),(3,rp _ _)] ⟨Qd6 (vs:=[I 2,I 7]) rfl Q6c Qwc rfl (by rfl) rfl,Qd0 (vs:=[Q5p]) rfl underlying171 Ql5 Qwc rfl (by decide) rfl (by decide) (by rfl) (by rfl) (by rfl) rfl,Qd6 (vs:=[Q5o]) rfl Q6b Qwb rfl (by rfl) rfl,apw Q4t (Qmg N (⟨0,[(⟨2,7⟩:Qa8)]⟩:Qah) 1 _ hf1),tv⟩ ?_
  refine bfe h (fun hb3 h=>?_) fun hb3 h=>?_
  ·refine wx tbk [(2,rp [(.tmp 11,(B ((x2.2==0))))] (B true))] ⟨asb hb3 (amv rfl),tv⟩<|Qae ?_
   obtain rfl:=osi h
   exact fend ⟨[(B ((x2.1==7)))],⟨rot,tv⟩,rfl⟩ nll
  ·exact wx tbk [(2,rp [(.tmp 11,(B ((x2.2==0))))] (B false))] ⟨asb hb3 (amv rfl),tv⟩<|Qae<|frb h
end
section
def Qdu (_N:Nat) (p0 p1 p2:Int):Option Bool:=
  bif (decide (p0≥p1)) then
   some (decide (p0≤p2))
  else
   some false
theorem Qdf (N:Nat) (p0 p1 p2:Int) (r:Bool) (h:Qdu N p0 p1 p2=some r):Spec prog 73 [(I p0),(I p1),(I p2)] [] (B r) []:=by
  refine sA func73 0 fun _ _ _ hq hd0=>?_
  unfold Qdu at h
  refine wxz ?_
  refine bfe h (fun hb1 h=>?_) fun hb1 h=>?_
  ·refine wx tbk [(3,rp [(.tmp 9,(B ((decide (p0≥p1)))))] (B true))] ⟨asb hb1 (amv rfl),tv⟩<|Qae ?_
   obtain rfl:=osi h
   exact fend ⟨[(B ((decide (p0≤p2))))],⟨rot,tv⟩,rfl⟩ nll
  ·exact wx tbk [(3,rp [(.tmp 9,(B ((decide (p0≥p1)))))] (B false))] ⟨asb hb1 (amv rfl),tv⟩<|Qae<|frb h
def Qc6 (N:Nat) (p0:List GRow) (k1:Unit→Option Bool):Nat→Int→Option Bool
  |0,_=>none
  |n5+1,y3=>
    bif (decide (y3<(p0.length:Int))) then
     (getI p0 y3).bind fun x7=>
     Qb5 (fun _=>
       bif (decide (y3>0)) then
        (getI p0 (w64 (y3-1))).bind fun x13=>
        bif (decide (x7.T≤x13.T)) then
         some false
        else
         bif (decide (x7.P≤x13.P)) then
          some false
         else
          bif (decide (x7.Liquid≤x13.Liquid)) then
           some false
          else
           bif (decide (x7.Silica<x13.Silica)) then
            some false
           else
            Qc6 N p0 k1 n5 (w64 (y3+1))
       else
        Qc6 N p0 k1 n5 (w64 (y3+1))) fun k11:Unit→Option Bool=>
     (Qdu N x7.T 0 400).bind fun x22=>
     bif (!x22) then
      some false
     else
      (Qdu N x7.P 1 10000).bind fun x25=>
      bif (!x25) then
       some false
      else
       (Qdu N x7.Liquid 0 4000).bind fun x28=>
       bif (!x28) then
        some false
       else
        (Qdu N x7.Silica 0 2000).bind fun x31=>
        bif (!x31) then
         some false
        else
         bif (decide (x7.Vapour≤x7.Liquid)) then
          some false
         else
          bif (decide (x7.Vapour>4000)) then
           some false
          else
           k11 ()
    else
     k1 ()
def Qgs (N:Nat) (p0:List GRow):Option Bool:=
  Qb5 (fun _=>
    bif (decide ((p0.length:Int)≥2)) then
     some (decide ((p0.length:Int)≤20))
    else
     some false) fun k1:Unit→Option Bool=>
  Qc6 N p0 k1 N 0
def Q14 (x7:GRow):Slot:=.own 5 [[(I x7.T),(I x7.P),(I x7.Liquid),(I x7.Vapour),(I x7.Silica)]]
def Qvq (y3:Int) (p0:List GRow) (x13:GRow):List (Nat×Rec):=[(2,rp [((.tmp 50),(B ((decide (y3>0)))))] (B true)),(8,rp [((.tmp 51),(B true)),((.tmp 54),(.dat 5 (p0.map Qat))),((.tmp 56),(I (w64 (y3-1))))] (.dptr (Qat x13) 0))]
def Qvp y3 p0 x13 (x7:GRow):=hcat (Qvq y3 p0 x13) [(12,rp [((.tmp 51),(B true)),((.tmp 60),(B ((decide (x7.T≤x13.T)))))] (B false)),(18,rp [((.tmp 61),(B false)),((.tmp 64),(.dat 5 (p0.map Qat))),((.tmp 66),(I (w64 (y3-1))))] (.dptr (Qat x13) 0))]
def Qvo y3 p0 x13 x7:=hcat (Qvp y3 p0 x13 x7) [(23,rp [((.tmp 51),(B true)),((.tmp 71),(B ((decide (x7.P≤x13.P)))))] (B false)),(29,rp [((.tmp 72),(B false)),((.tmp 75),(.dat 5 (p0.map Qat))),((.tmp 77),(I (w64 (y3-1))))] (.dptr (Qat x13) 0))]
def Qvn (x7:GRow) (x22:Bool):List (Nat×Rec):=[(2,rp [fu 73,((.tmp 16),(I x7.T)),ci 0,ci 400] (B x22))]
def Qvm x7 x22 (x25:Bool):=hcat (Qvn x7 x22) [(4,rp [((.tmp 18),(B ((!x22))))] (B false)),(7,rp [((.tmp 19),(B false)),fu 73,((.tmp 21),(I x7.P)),ci 1,ci 10000] (B x25))]
def Qvl x7 x22 x25 (x28:Bool):=hcat (Qvm x7 x22 x25) [(10,rp [((.tmp 24),(B ((!x25))))] (B false)),(13,rp [((.tmp 25),(B false)),fu 73,((.tmp 27),(I x7.Liquid)),ci 0,ci 4000] (B x28))]
def Qr5 x7 x22 x25 x28 (x31:Bool):=hcat (Qvl x7 x22 x25 x28) [(16,rp [((.tmp 30),(B ((!x28))))] (B false)),(19,rp [((.tmp 31),(B false)),fu 73,((.tmp 33),(I x7.Silica)),ci 0,ci 2000] (B x31))]
theorem Qme (N:Nat) (p0:List GRow) (r:Bool) (h:Qgs N p0=some r):Spec prog 25 [(.dat 5 (p0.map Qat))] [] (B r) []:=by
  refine sA func25 0 fun _ _ _ hq hd0=>?_
  unfold Qgs at h
  refine wxz ?_
  obtain⟨k1,hk_k1,h⟩:=jko h
  refine wjn (τ:=Unit) (fun t=>k1 t=some r) (fun _=>⟨mk 103 [(0,(.dat 5 (p0.map Qat)))],[]⟩) (fun t h=>?_) ?_
  ·subst hk_k1
   refine bfe h (fun hb2 h=>?_) fun hb2 h=>?_
   ·refine wx tbk [(1,rp _ _),(3,rp [(.tmp 97,(B ((decide ((p0.length:Int)≥2)))))] (B true)),(5,rp [(.tmp 98,B true),(.tmp 99,(.dat 5 (p0.map Qat)))] (I ((p0.length:Int))))] ⟨alq 5 Qat p0 underlying86,asb hb2 (amv rfl),ag_ (alq 5 Qat p0 underlying86),tv⟩<|Qae ?_
    obtain rfl:=osi h
    exact fend ⟨[(B ((decide ((p0.length:Int)≤20))))],⟨rot,tv⟩,rfl⟩ nll
   ·exact wx tbk [(1,rp _ _),(3,rp [(.tmp 97,(B ((decide ((p0.length:Int)≥2)))))] (B false))] ⟨alq 5 Qat p0 underlying86,asb hb2 (amv rfl),tv⟩<|Qae<|frb h
  ·skip
   refine wxz<|Qag ?_
   refine wmr (mto (n:=103) (l':=[(0,(.dat 5 (p0.map Qat))),(3,I 0)]) (own':=[]) [(0,(.dat 5 (p0.map Qat))),(3,I 0)] [] [] hq (pc (rnd Qbn) (pw pn)) qn) ?_
   refine Qb8 (τ:=Int) (fun n t=>Qc6 N p0 k1 n t=some r) (fun y3=>⟨mk 103 [(0,(.dat 5 (p0.map Qat))),(3,I y3)],[]⟩) (fun t h=>by rw[Qc6] at h;cases h) (fun n5 ih y3 h=>?_) N (0) h
   rw[Qc6] at h
   skip
   refine wsq<|wx tbk [(2,rp _ _)] ⟨alq 5 Qat p0 underlying86,tv⟩ ?_
   refine bfe h (fun hc6 h=>?_) fun hc6 h=>?_
   ·refine wft hc6<|Qan<|thn<|wsq<|Qag ?_
    obtain⟨x7,hg8,h⟩:=bno h
    obtain⟨hi9,hj10⟩:=gsm hg8
    refine wx tbk [(2,rp _ _)] ⟨aiq underlying86 Ql6 Qat hi9 hj10,tv⟩ ?_
    obtain⟨k11,hk_k11,h⟩:=jko h
    refine wjn (τ:=Unit) (fun t=>k11 t=some r) (fun _=>⟨mk 103 [(0,(.dat 5 (p0.map Qat))),(3,I y3),(4,.ref 0 5 0 0)],[(Q14 x7)]⟩) (fun t h=>?_) ?_
    ·subst hk_k11
     refine bfe h (fun hb12 h=>?_) fun hb12 h=>?_
     ·obtain⟨x13,hg14,h⟩:=bno h
      obtain⟨hi15,hj16⟩:=gsm hg14
      refine hpre (A:=(Qvq y3 p0 x13)) ⟨asb hb12 (amv rfl),ag_ (aiq underlying86 Ql6 Qat hi15 hj16),tv⟩ fun q1_=>?_
      refine bfe h (fun hb17 h=>?_) fun hb17 h=>?_
      ·exact wxd tbk (hcat (Qvq y3 p0 x13) [(12,rp [(.tmp 51,B true),(.tmp 60,(B ((decide (x7.T≤x13.T)))))] (B true))]) (hap q1_ ⟨asb hb17 (ag_ (amv rfl)),tv⟩)<|wtr<|wxz<|Qae<|Qa3<|Qak<|Qak<|Qa3<|Qak<|frb h
      ·refine hpre (A:=(Qvp y3 p0 x13 x7)) (hap q1_ ⟨asb hb17 (ag_ (amv rfl)),ag_ (aiq underlying86 Ql6 Qat hi15 hj16),tv⟩) fun q2_=>?_
       refine bfe h (fun hb18 h=>?_) fun hb18 h=>?_
       ·exact wxd tbk (hcat (Qvp y3 p0 x13 x7) [(23,rp [(.tmp 51,B true),(.tmp 71,(B ((decide (x7.P≤x13.P)))))] (B true))]) (hap q2_ ⟨asb hb18 (ag_ (amv rfl)),tv⟩)<|wtr<|wxz<|Qae<|Qa3<|Qak<|Qak<|Qa3<|Qak<|frb h
       ·refine hpre (A:=(Qvo y3 p0 x13 x7)) (hap q2_ ⟨asb hb18 (ag_ (amv rfl)),ag_ (aiq underlying86 Ql6 Qat hi15 hj16),tv⟩) fun q3_=>?_
        refine bfe h (fun hb19 h=>?_) fun hb19 h=>?_
        ·exact wxd tbk (hcat (Qvo y3 p0 x13 x7) [(34,rp [(.tmp 51,B true),(.tmp 82,(B ((decide (x7.Liquid≤x13.Liquid)))))] (B true))]) (hap q3_ ⟨asb hb19 (ag_ (amv rfl)),tv⟩)<|wtr<|wxz<|Qae<|Qa3<|Qak<|Qak<|Qa3<|Qak<|frb h
        ·refine wxd tbk (hcat (Qvo y3 p0 x13 x7) [(34,rp [(.tmp 51,B true),(.tmp 82,(B ((decide (x7.Liquid≤x13.Liquid)))))] (B false)),(40,rp [(.tmp 83,B false),(.tmp 86,(.dat 5 (p0.map Qat))),(.tmp 88,(I (w64 (y3-1))))] (.dptr (Qat x13) 0))]) (hap q3_ ⟨asb hb19 (ag_ (amv rfl)),ag_ (aiq underlying86 Ql6 Qat hi15 hj16),tv⟩) ?_
         refine bfe h (fun hc20 h=>?_) fun hc20 h=>?_
         ·exact wft hc20<|wxz<|Qae<|Qa3<|Qak<|Qak<|Qa3<|Qak<|frb h
         ·exact wfn hc20<|Qan<|bln<|thn<|wxz1<|thn<|arm (mto (n:=103) [(0,(.dat 5 (p0.map Qat))),(3,(I (w64 (y3+1))))] [] [] hq (pc (rnd Qbn) (pw pn)) qn) (ih (w64 (y3+1)) h)
     ·exact wxd tbk [(2,rp [(.tmp 50,(B ((decide (y3>0)))))] (B false))] ⟨asb hb12 (amv rfl),tv⟩<|wfa<|Qan<|bln<|thn<|wxz1<|thn<|arm (mto (n:=103) [(0,(.dat 5 (p0.map Qat))),(3,(I (w64 (y3+1))))] [] [] hq (pc (rnd Qbn) (pw pn)) qn) (ih (w64 (y3+1)) h)
    ·skip
     obtain⟨x22,hf21,h⟩:=bno h
     refine hpre (A:=(Qvn x7 x22)) ⟨apv Qgh (Qdf N x7.T 0 400 _ hf21) (nlcc (nlc nll nl0)) nll,tv⟩ fun q4_=>?_
     refine bfe h (fun hb23 h=>?_) fun hb23 h=>?_
     ·refine wx tbk (hcat (Qvn x7 x22) [(4,rp [(.tmp 18,(B ((!x22))))] (B true))]) (hap q4_ ⟨asb hb23 (amv rfl),tv⟩)<|wtr<|wxz<|Qae<|Qak<|Qa3<|Qak<|Qak<|Qa3<|Qak ?_
      exact frb h
     ·obtain⟨x25,hf24,h⟩:=bno h
      refine hpre (A:=(Qvm x7 x22 x25)) (hap q4_ ⟨asb hb23 (amv rfl),ag_ (apv Qgh (Qdf N x7.P 1 10000 _ hf24) (nlcc (nlc nll nl0)) nll),tv⟩) fun q5_=>?_
      refine bfe h (fun hb26 h=>?_) fun hb26 h=>?_
      ·refine wx tbk (hcat (Qvm x7 x22 x25) [(10,rp [(.tmp 24,(B ((!x25))))] (B true))]) (hap q5_ ⟨asb hb26 (amv rfl),tv⟩)<|wtr<|wxz<|Qae<|Qak<|Qa3<|Qak<|Qak<|Qa3<|Qak ?_
       exact frb h
      ·obtain⟨x28,hf27,h⟩:=bno h
       refine hpre (A:=(Qvl x7 x22 x25 x28)) (hap q5_ ⟨asb hb26 (amv rfl),ag_ (apv Qgh (Qdf N x7.Liquid 0 4000 _ hf27) (nlcc (nlc nll nl0)) nll),tv⟩) fun q6_=>?_
       refine bfe h (fun hb29 h=>?_) fun hb29 h=>?_
       ·refine wx tbk (hcat (Qvl x7 x22 x25 x28) [(16,rp [(.tmp 30,(B ((!x28))))] (B true))]) (hap q6_ ⟨asb hb29 (amv rfl),tv⟩)<|wtr<|wxz<|Qae<|Qak<|Qa3<|Qak<|Qak<|Qa3<|Qak ?_
        exact frb h
       ·obtain⟨x31,hf30,h⟩:=bno h
        refine hpre (A:=(Qr5 x7 x22 x25 x28 x31)) (hap q6_ ⟨asb hb29 (amv rfl),ag_ (apv Qgh (Qdf N x7.Silica 0 2000 _ hf30) (nlcc (nlc nll nl0)) nll),tv⟩) fun q7_=>?_
        refine bfe h (fun hb32 h=>?_) fun hb32 h=>?_
        ·refine wx tbk (hcat (Qr5 x7 x22 x25 x28 x31) [(22,rp [(.tmp 36,(B ((!x31))))] (B true))]) (hap q7_ ⟨asb hb32 (amv rfl),tv⟩)<|wtr<|wxz<|Qae<|Qak<|Qa3<|Qak<|Qak<|Qa3<|Qak ?_
         exact frb h
        ·refine bfe h (fun hb33 h=>?_) fun hb33 h=>?_
         ·refine wx tbk (hcat (Qr5 x7 x22 x25 x28 x31) [(22,rp [(.tmp 36,(B ((!x31))))] (B false)),(29,rp [(.tmp 43,(B ((decide (x7.Vapour≤x7.Liquid)))))] (B true))]) (hap q7_ ⟨asb hb32 (amv rfl),asb hb33 (amv rfl),tv⟩)<|wtr<|wxz<|Qae<|Qak<|Qa3<|Qak<|Qak<|Qa3<|Qak ?_
          exact frb h
         ·refine wx tbk (hcat (Qr5 x7 x22 x25 x28 x31) [(22,rp [(.tmp 36,(B ((!x31))))] (B false)),(29,rp [(.tmp 43,(B ((decide (x7.Vapour≤x7.Liquid)))))] (B false))]) (hap q7_ ⟨asb hb32 (amv rfl),asb hb33 (amv rfl),tv⟩) ?_
          refine bfe h (fun hc34 h=>?_) fun hc34 h=>?_
          ·exact wft hc34<|wxz<|Qae<|Qak<|Qa3<|Qak<|Qak<|Qa3<|Qak<|frb h
          ·exact wfn hc34<|Qan<|thn<|⟨(),h,(mto (n:=103) [(0,(.dat 5 (p0.map Qat))),(3,I y3),(4,.ref 0 5 0 0)] [0] [(Q14 x7)] hq (pc (rnd Qbn) (pw (prr pn))) (qb (lcc (lcc (lc rwl ln))) qn))⟩
   ·exact wfn hc6<|Qbi<|Qaw<|Qaw<|Qbh rfl<|thn<|⟨(),h,(mto (n:=103) [(0,(.dat 5 (p0.map Qat)))] [] [] hq (pc (rnd Qbn) pn) qn)⟩
def Qdq (N:Nat) (p0:List GRow) (k2:(List GRow)→Option (List GRow)):Nat→(List GRow)→Int→Option (List GRow)
  |0,_,_=>none
  |n7+1,y3,y4=>
    bif (decide (y4<(p0.length:Int))) then
     (getI p0 y4).bind fun x9=>
     chk (decide ((y3.length+([x9]).length)*40≤140737488355328))<|
     Qdq N p0 k2 n7 (y3++([x9])) (w64 (y4+1))
    else
     k2 (y3)
def Qf3 (N:Nat) (p0:List GRow):Option (List GRow):=
  Qb5 (fun y1=>
    some y1) fun k2:(List GRow)→Option (List GRow)=>
  Qdq N p0 k2 N ([]) 0
def Q13 (x9:GRow):AV:=.agg [(I x9.T),(I x9.P),(I x9.Liquid),(I x9.Vapour),(I x9.Silica)]
theorem Qja (N:Nat) (p0 r:List GRow) (h:Qf3 N p0=some r):Spec prog 31 [(.dat 5 (p0.map Qat))] [] (.dat 5 (r.map Qat)) []:=by
  refine sA func31 0 fun _ _ _ hq hd0=>?_
  unfold Qf3 at h
  refine wxz<|wxz ?_
  obtain⟨k2,hk_k2,h⟩:=jko h
  refine wjn (τ:=(List GRow)) (fun t=>k2 t=some r) (fun y1=>⟨mk 41 [(3,(.acc 0 179 5 (y1.map Qat)))],[.tok]⟩) (fun y1 h=>?_) ?_
  ·subst hk_k2
   refine wxz<|Qae ?_
   obtain rfl:=osi h
   exact fie [(.dat 5 (y1.map Qat))] ⟨Qd3 (v:=(.acc 0 179 5 (y1.map Qat))) rot Less.acc,tv⟩
  ·skip
   refine wxz<|Qag ?_
   refine wmr (Mor.trans (Qml 0 179 5 3 (by kernel_rfl) (by kernel_rfl)) (mto (n:=41) (l':=[(0,(.dat 5 (p0.map Qat))),(3,(.acc 0 179 5 ((([]):List GRow).map Qat))),(4,I 0)]) (own':=[.tok]) [(0,(.dat 5 (p0.map Qat))),(3,(.acc 0 179 5 (([]:List GRow).map Qat))),(4,I 0)] [0] [.tok] hq (pc (rnd Qbn) (pc (.rn (Qe1 rfl (Qdw Qbn _))) (pw pn))) (qc .tok qn))) ?_
   refine Qb8 (τ:=(List GRow)×Int) (fun n t=>Qdq N p0 k2 n t.1 t.2=some r) (fun ⟨y3,y4⟩=>⟨mk 41 [(0,(.dat 5 (p0.map Qat))),(3,(.acc 0 179 5 (y3.map Qat))),(4,I y4)],[.tok]⟩) (fun t h=>by rw[Qdq] at h;cases h) (fun n7 ih t h=>?_) N ([],0) h
   obtain⟨y3,y4⟩:=t
   rw[Qdq] at h
   skip
   refine wsq<|wx tbk [(2,rp _ _)] ⟨alq 5 Qat p0 underlying86,tv⟩ ?_
   refine bfe h (fun hc8 h=>?_) fun hc8 h=>?_
   ·refine wft hc8<|Qan<|thn<|wsq<|Qag ?_
    obtain⟨x9,hg10,h⟩:=bno h
    obtain⟨hi11,hj12⟩:=gsm hg10
    obtain⟨ha13,h⟩:=cko h
    refine wy1 tbk [(3,rp _ _),(8,rp _ _),(13,rp _ _),(18,rp _ _),(23,rp _ _),(26,rp _ _),(27,rp [(.tmp 37,(Q13 x9))] (.dat 5 (([x9]:List GRow).map Qat))),(28,⟨[(.tmp 11,(.acc 0 179 5 (y3.map Qat))),(.tmp 38,(.dat 5 (([x9]:List GRow).map Qat)))],[(0,.tok),(1,.unused)],(.acc 1 179 5 ((y3++([x9]):List GRow).map Qat)),[(0,.dead),(1,.tok)],false⟩)] ⟨aiq underlying86 Ql6 Qat hi11 hj12,aiq underlying86 Ql6 Qat hi11 hj12,aiq underlying86 Ql6 Qat hi11 hj12,aiq underlying86 Ql6 Qat hi11 hj12,aiq underlying86 Ql6 Qat hi11 hj12,Qd6 (vs:=[I x9.T,I x9.P,I x9.Liquid,I x9.Vapour,I x9.Silica]) rfl Q7i Q3x rfl (by rfl) rfl,Qd0 (vs:=[(Q13 x9)]) rfl underlying100 Qn5 Q3x rfl (by decide) rfl (by decide) (by rfl) (by rfl) (by rfl) rfl,Qfv rfl underlying100 Q7s (Base.acc _ _) rfl rfl (by rfl) (Qj5 Qat ha13) (Qj4 Qat ha13 (by decide)) (Qj3 Qat) rfl rfl,tv⟩<|bln<|thn<|wxz1<|thn ?_
    exact arm (mto (n:=41) [(0,(.dat 5 (p0.map Qat))),(3,(.acc 1 179 5 ((y3++([x9]):List GRow).map Qat))),(4,(I (w64 (y4+1))))] [1] [.tok] hq (pc (rnd Qbn) (pc (.rn (Qe1 rfl (Qdw Qbn _))) (pw pn))) (qc .tok qn)) (ih (y3++([x9]),w64 (y4+1)) h)
   ·exact wfn hc8<|Qbi<|Qaw<|Qaw<|Qbh rfl<|thn<|⟨(y3),h,(mto (n:=41) [(3,(.acc 0 179 5 (y3.map Qat)))] [0] [.tok] hq (pc (.rn (Qe1 rfl (Qdw Qbn _))) pn) (qc .tok qn))⟩
def Qct (N:Nat) (p0:Int) (k1:Unit→Option Bool) (p1:List Int):Nat→Int→Option Bool
  |0,_=>none
  |n5+1,y3=>
    bif (decide (y3<(p1.length:Int))) then
     (getI p1 y3).bind fun x7=>
     (Qdu N x7 0 (w64 (p0-1))).bind fun x12=>
     bif (!x12) then
      some false
     else
      bif (decide (y3>0)) then
       (getI p1 (w64 (y3-1))).bind fun x15=>
       bif (decide (x7≥x15)) then
        some false
       else
        Qct N p0 k1 p1 n5 (w64 (y3+1))
      else
       Qct N p0 k1 p1 n5 (w64 (y3+1))
    else
     k1 ()
def Qf9 (N:Nat) (p0:Int) (p1:List Int):Option Bool:=
  Qb5 (fun _=>
    bif (decide ((p1.length:Int)≥1)) then
     some (decide ((p1.length:Int)≤20))
    else
     some false) fun k1:Unit→Option Bool=>
  Qct N p0 k1 p1 N 0
def Qy3 (p1:List Int) (y3 x7 p0:Int) (x12:Bool):List (Nat×Rec):=[(2,rp [((.tmp 12),(.dat 1 (p1.map Qab))),((.tmp 13),(I y3))] (.dptr (Qab x7) 0)),(6,rp [fu 73,((.tmp 15),(I x7)),ci 0,((.tmp 17),(I (w64 (p0-1))))] (B x12))]
theorem Qlp (N:Nat) (p0:Int) (p1:List Int) (r:Bool) (h:Qf9 N p0 p1=some r):Spec prog 26 [(I p0),(.dat 1 (p1.map Qab))] [] (B r) []:=by
  refine sA func26 0 fun _ _ _ hq hd0=>?_
  unfold Qf9 at h
  refine wxz ?_
  obtain⟨k1,hk_k1,h⟩:=jko h
  refine wjn (τ:=Unit) (fun t=>k1 t=some r) (fun _=>⟨mk 44 [(1,(.dat 1 (p1.map Qab)))],[]⟩) (fun t h=>?_) ?_
  ·subst hk_k1
   refine bfe h (fun hb2 h=>?_) fun hb2 h=>?_
   ·refine wx tbk [(1,rp _ _),(3,rp [(.tmp 38,(B ((decide ((p1.length:Int)≥1)))))] (B true)),(5,rp [(.tmp 39,B true),(.tmp 40,(.dat 1 (p1.map Qab)))] (I ((p1.length:Int))))] ⟨alq 1 Qab p1 underlying22,asb hb2 (amv rfl),ag_ (alq 1 Qab p1 underlying22),tv⟩<|Qae ?_
    obtain rfl:=osi h
    exact fend ⟨[(B ((decide ((p1.length:Int)≤20))))],⟨rot,tv⟩,rfl⟩ nll
   ·exact wx tbk [(1,rp _ _),(3,rp [(.tmp 38,(B ((decide ((p1.length:Int)≥1)))))] (B false))] ⟨alq 1 Qab p1 underlying22,asb hb2 (amv rfl),tv⟩<|Qae<|frb h
  ·skip
   refine wxz<|Qag ?_
   refine wmr (mto (n:=44) (l':=[(0,I p0),(1,(.dat 1 (p1.map Qab))),(5,I 0)]) (own':=[]) [(0,I p0),(1,(.dat 1 (p1.map Qab))),(5,I 0)] [] [] hq (pw (pc (rnd Qad) (pw pn))) qn) ?_
   refine Qb8 (τ:=Int) (fun n t=>Qct N p0 k1 p1 n t=some r) (fun y3=>⟨mk 44 [(0,I p0),(1,(.dat 1 (p1.map Qab))),(5,I y3)],[]⟩) (fun t h=>by rw[Qct] at h;cases h) (fun n5 ih y3 h=>?_) N (0) h
   rw[Qct] at h
   skip
   refine wsq<|wx tbk [(2,rp _ _)] ⟨alq 1 Qab p1 underlying22,tv⟩ ?_
   refine bfe h (fun hc6 h=>?_) fun hc6 h=>?_
   ·refine wft hc6<|Qan<|thn<|wsq<|Qag ?_
    obtain⟨x7,hg8,h⟩:=bno h
    obtain⟨hi9,hj10⟩:=gsm hg8
    obtain⟨x12,hf11,h⟩:=bno h
    refine hpre (A:=(Qy3 p1 y3 x7 p0 x12)) ⟨aiq underlying22 ti3 Qab hi9 hj10,apv Qgh (Qdf N x7 0 (w64 (p0-1)) _ hf11) (nlcc (nlc nll nl0)) nll,tv⟩ fun q1_=>?_
    refine bfe h (fun hb13 h=>?_) fun hb13 h=>?_
    ·exact wxd tbk (hcat (Qy3 p1 y3 x7 p0 x12) [(8,rp [(.tmp 19,(B ((!x12))))] (B true))]) (hap q1_ ⟨asb hb13 (amv rfl),tv⟩)<|wtr<|wxz<|Qae<|Qa3<|Qak<|Qak<|Qa3<|Qak<|frb h
    ·refine bfe h (fun hb14 h=>?_) fun hb14 h=>?_
     ·obtain⟨x15,hg16,h⟩:=bno h
      obtain⟨hi17,hj18⟩:=gsm hg16
      refine wxd tbk (hcat (Qy3 p1 y3 x7 p0 x12) [(8,rp [(.tmp 19,(B ((!x12))))] (B false)),(11,rp [(.tmp 20,B false),(.tmp 22,(B ((decide (y3>0)))))] (B true)),(14,rp [(.tmp 23,B true),(.tmp 24,(.dat 1 (p1.map Qab))),(.tmp 25,I y3)] (.dptr (Qab x7) 0)),(19,rp [(.tmp 23,B true),(.tmp 28,(.dat 1 (p1.map Qab))),(.tmp 30,(I (w64 (y3-1))))] (.dptr (Qab x15) 0))]) (hap q1_ ⟨asb hb13 (amv rfl),asb hb14 (ag_ (amv rfl)),ag_ (aiq underlying22 ti3 Qab hi9 hj10),ag_ (aiq underlying22 ti3 Qab hi17 hj18),tv⟩) ?_
      refine bfe h (fun hc19 h=>?_) fun hc19 h=>?_
      ·exact wft hc19<|wxz<|Qae<|Qa3<|Qak<|Qak<|Qa3<|Qak<|frb h
      ·exact wfn hc19<|Qan<|bln<|thn<|wxz1<|thn<|arm (mto (n:=44) [(0,I p0),(1,(.dat 1 (p1.map Qab))),(5,(I (w64 (y3+1))))] [] [] hq (pw (pc (rnd Qad) (pw pn))) qn) (ih (w64 (y3+1)) h)
     ·exact wxd tbk (hcat (Qy3 p1 y3 x7 p0 x12) [(8,rp [(.tmp 19,(B ((!x12))))] (B false)),(11,rp [(.tmp 20,B false),(.tmp 22,(B ((decide (y3>0)))))] (B false))]) (hap q1_ ⟨asb hb13 (amv rfl),asb hb14 (ag_ (amv rfl)),tv⟩)<|wfa<|Qan<|bln<|thn<|wxz1<|thn<|arm (mto (n:=44) [(0,I p0),(1,(.dat 1 (p1.map Qab))),(5,(I (w64 (y3+1))))] [] [] hq (pw (pc (rnd Qad) (pw pn))) qn) (ih (w64 (y3+1)) h)
   ·exact wfn hc6<|Qbi<|Qaw<|Qaw<|Qbh rfl<|thn<|⟨(),h,(mto (n:=44) [(1,(.dat 1 (p1.map Qab)))] [] [] hq (pc (rnd Qad) pn) qn)⟩
def Qeo (N:Nat) (p0:Qap):Option Bool:=
  (Qdu N p0.Mass 0 1000000).bind fun x2=>
  bif x2 then
   (Qdu N p0.Heat 0 (w64 (4000*p0.Mass))).bind fun x5=>
   bif x5 then
    (Qdu N p0.Silica 0 (w64 (10000*p0.Mass))).bind fun x8=>
    bif x8 then
     (Qdu N p0.Gas 0 1000000000).bind fun x11=>
     some x11
    else
     some false
   else
    some false
  else
   some false
def Q3b (p0:Qap) (x2:Bool):List (Nat×Rec):=[(2,rp [fu 73,((.tmp 4),(I p0.Mass)),ci 0,ci 1000000] (B x2))]
def Q3a p0 x2 (x5:Bool):=hcat (Q3b p0 x2) [(3,rp [((.tmp 5),(B x2))] (B true)),(9,rp [((.tmp 6),(B true)),fu 73,((.tmp 8),(I p0.Heat)),ci 0,((.tmp 11),(I (w64 (4000*p0.Mass))))] (B x5))]
def Q29 p0 x2 x5 (x8:Bool):=hcat (Q3a p0 x2 x5) [(11,rp [((.tmp 13),(B x5))] (B true)),(17,rp [((.tmp 14),(B true)),fu 73,((.tmp 16),(I p0.Silica)),ci 0,((.tmp 19),(I (w64 (10000*p0.Mass))))] (B x8))]
theorem Qi3 (N:Nat) (p0:Qap) (r:Bool) (h:Qeo N p0=some r):Spec prog 27 [(.agg (Qet p0))] [] (B r) []:=by
  refine sA func27 0 fun _ _ _ hq hd0=>?_
  unfold Qeo at h
  refine wxz ?_
  obtain⟨x2,hf1,h⟩:=bno h
  refine hpre (A:=(Q3b p0 x2)) ⟨apv Qgh (Qdf N p0.Mass 0 1000000 _ hf1) (nlcc (nlc nll nl0)) nll,tv⟩ fun q1_=>?_
  refine bfe h (fun hb3 h=>?_) fun hb3 h=>?_
  ·obtain⟨x5,hf4,h⟩:=bno h
   refine hpre (A:=(Q3a p0 x2 x5)) (hap q1_ ⟨asb hb3 (amv rfl),ag_ (apv Qgh (Qdf N p0.Heat 0 (w64 (4000*p0.Mass)) _ hf4) (nlcc (nlc nll nl0)) nll),tv⟩) fun q2_=>?_
   refine bfe h (fun hb6 h=>?_) fun hb6 h=>?_
   ·obtain⟨x8,hf7,h⟩:=bno h
    refine hpre (A:=(Q29 p0 x2 x5 x8)) (hap q2_ ⟨asb hb6 (amv rfl),ag_ (apv Qgh (Qdf N p0.Silica 0 (w64 (10000*p0.Mass)) _ hf7) (nlcc (nlc nll nl0)) nll),tv⟩) fun q3_=>?_
    refine bfe h (fun hb9 h=>?_) fun hb9 h=>?_
    ·obtain⟨x11,hf10,h⟩:=bno h
     exact wx tbk (hcat (Q29 p0 x2 x5 x8) [(19,rp [(.tmp 21,B x8)] (B true)),(22,rp [(.tmp 22,B true),fu 73,(.tmp 24,I p0.Gas),ci 0,ci 1000000000] (B x11))]) (hap q3_ ⟨asb hb9 (amv rfl),ag_ (apv Qgh (Qdf N p0.Gas 0 1000000000 _ hf10) (nlcc (nlc nll nl0)) nll),tv⟩)<|Qae<|frb h
    ·exact wx tbk (hcat (Q29 p0 x2 x5 x8) [(19,rp [(.tmp 21,B x8)] (B false))]) (hap q3_ ⟨asb hb9 (amv rfl),tv⟩)<|Qae<|frb h
   ·exact wx tbk (hcat (Q3a p0 x2 x5) [(11,rp [(.tmp 13,B x5)] (B false))]) (hap q2_ ⟨asb hb6 (amv rfl),tv⟩)<|Qae<|frb h
  ·exact wx tbk (hcat (Q3b p0 x2) [(3,rp [(.tmp 5,B x2)] (B false))]) (hap q1_ ⟨asb hb3 (amv rfl),tv⟩)<|Qae<|frb h
def Qgb (_N:Nat) (p0:Qap):Option Qap:=
  some p0
def Q7a (p0:Qap):AV:=.agg [(I p0.Mass),(I p0.Heat),(I p0.Silica),(I p0.Gas)]
theorem Qil (N:Nat) (p0 r:Qap) (h:Qgb N p0=some r):Spec prog 32 [(.agg (Qet p0))] [] (.agg (Qet r)) []:=by
  refine sA func32 0 fun _ _ _ hq hd0=>?_
  unfold Qgb at h
  refine wxz<|wx tbk [(8,rp _ _)] ⟨Qd6 (vs:=[I p0.Mass,I p0.Heat,I p0.Silica,I p0.Gas]) rfl Qzi Qwd rfl (by rfl) rfl,tv⟩<|Qae ?_
  obtain rfl:=osi h
  exact fie [(Q7a p0)] ⟨Qg9 (n:=1) (m:=4) (j:=0) (i:=0) (xs:=[[I p0.Mass,I p0.Heat,I p0.Silica,I p0.Gas]]) (by kernel_rfl) (by kernel_rfl) Qzl (by decide) rfl (nle rfl) rfl,tv⟩
def Qci (_N:Nat) (p0 p1 p2:Int):Option Bool:=
  bif (decide (p1≤p0)) then
   some (decide (p0≤p2))
  else
   some false
theorem Qcn (N:Nat) (p0 p1 p2:Int) (r:Bool) (h:Qci N p0 p1 p2=some r):Spec prog 127 [(I p0),(I p1),(I p2)] [] (B r) []:=by
  refine sA func127 0 fun _ _ _ hq hd0=>?_
  unfold Qci at h
  refine wxz ?_
  refine bfe h (fun hb1 h=>?_) fun hb1 h=>?_
  ·refine wx tbk [(3,rp [(.tmp 9,(B ((decide (p1≤p0)))))] (B true))] ⟨asb hb1 (amv rfl),tv⟩<|Qae ?_
   obtain rfl:=osi h
   exact fend ⟨[(B ((decide (p0≤p2))))],⟨rot,tv⟩,rfl⟩ nll
  ·exact wx tbk [(3,rp [(.tmp 9,(B ((decide (p1≤p0)))))] (B false))] ⟨asb hb1 (amv rfl),tv⟩<|Qae<|frb h
def Qe9 (N:Nat) (p0:GRow):Option Bool:=
  (Qci N p0.T 0 400).bind fun x2=>
  bif x2 then
   (Qci N p0.P 1 10000).bind fun x5=>
   bif x5 then
    (Qci N p0.Liquid 0 4000).bind fun x8=>
    bif x8 then
     (Qci N p0.Silica 0 2000).bind fun x11=>
     bif x11 then
      bif (decide (p0.Liquid<p0.Vapour)) then
       some (decide (p0.Vapour≤4000))
      else
       some false
     else
      some false
    else
     some false
   else
    some false
  else
   some false
def Q26 (p0:GRow) (x2:Bool):List (Nat×Rec):=[(2,rp [fu 127,((.tmp 4),(I p0.T)),ci 0,ci 400] (B x2))]
def Q25 p0 x2 (x5:Bool):=hcat (Q26 p0 x2) [(3,rp [((.tmp 5),(B x2))] (B true)),(6,rp [((.tmp 6),(B true)),fu 127,((.tmp 8),(I p0.P)),ci 1,ci 10000] (B x5))]
def Q24 p0 x2 x5 (x8:Bool):=hcat (Q25 p0 x2 x5) [(8,rp [((.tmp 10),(B x5))] (B true)),(11,rp [((.tmp 11),(B true)),fu 127,((.tmp 13),(I p0.Liquid)),ci 0,ci 4000] (B x8))]
def Qy1 p0 x2 x5 x8 (x11:Bool):=hcat (Q24 p0 x2 x5 x8) [(13,rp [((.tmp 15),(B x8))] (B true)),(16,rp [((.tmp 16),(B true)),fu 127,((.tmp 18),(I p0.Silica)),ci 0,ci 2000] (B x11))]
theorem Qjw (N:Nat) (p0:GRow) (r:Bool) (h:Qe9 N p0=some r):Spec prog 180 [(.agg (Qat p0))] [] (B r) []:=by
  refine sA func180 0 fun _ _ _ hq hd0=>?_
  unfold Qe9 at h
  refine wxz ?_
  obtain⟨x2,hf1,h⟩:=bno h
  refine hpre (A:=(Q26 p0 x2)) ⟨apv Qgc (Qcn N p0.T 0 400 _ hf1) (nlcc (nlc nll nl0)) nll,tv⟩ fun q1_=>?_
  refine bfe h (fun hb3 h=>?_) fun hb3 h=>?_
  ·obtain⟨x5,hf4,h⟩:=bno h
   refine hpre (A:=(Q25 p0 x2 x5)) (hap q1_ ⟨asb hb3 (amv rfl),ag_ (apv Qgc (Qcn N p0.P 1 10000 _ hf4) (nlcc (nlc nll nl0)) nll),tv⟩) fun q2_=>?_
   refine bfe h (fun hb6 h=>?_) fun hb6 h=>?_
   ·obtain⟨x8,hf7,h⟩:=bno h
    refine hpre (A:=(Q24 p0 x2 x5 x8)) (hap q2_ ⟨asb hb6 (amv rfl),ag_ (apv Qgc (Qcn N p0.Liquid 0 4000 _ hf7) (nlcc (nlc nll nl0)) nll),tv⟩) fun q3_=>?_
    refine bfe h (fun hb9 h=>?_) fun hb9 h=>?_
    ·obtain⟨x11,hf10,h⟩:=bno h
     refine hpre (A:=(Qy1 p0 x2 x5 x8 x11)) (hap q3_ ⟨asb hb9 (amv rfl),ag_ (apv Qgc (Qcn N p0.Silica 0 2000 _ hf10) (nlcc (nlc nll nl0)) nll),tv⟩) fun q4_=>?_
     refine bfe h (fun hb12 h=>?_) fun hb12 h=>?_
     ·refine bfe h (fun hb13 h=>?_) fun hb13 h=>?_
      ·refine wx tbk (hcat (Qy1 p0 x2 x5 x8 x11) [(18,rp [(.tmp 20,B x11)] (B true)),(25,rp [(.tmp 27,(B ((decide (p0.Liquid<p0.Vapour)))))] (B true))]) (hap q4_ ⟨asb hb12 (amv rfl),asb hb13 (amv rfl),tv⟩)<|Qae ?_
       obtain rfl:=osi h
       exact fend ⟨[(B ((decide (p0.Vapour≤4000))))],⟨rot,tv⟩,rfl⟩ nll
      ·exact wx tbk (hcat (Qy1 p0 x2 x5 x8 x11) [(18,rp [(.tmp 20,B x11)] (B true)),(25,rp [(.tmp 27,(B ((decide (p0.Liquid<p0.Vapour)))))] (B false))]) (hap q4_ ⟨asb hb12 (amv rfl),asb hb13 (amv rfl),tv⟩)<|Qae<|frb h
     ·exact wx tbk (hcat (Qy1 p0 x2 x5 x8 x11) [(18,rp [(.tmp 20,B x11)] (B false))]) (hap q4_ ⟨asb hb12 (amv rfl),tv⟩)<|Qae<|frb h
    ·exact wx tbk (hcat (Q24 p0 x2 x5 x8) [(13,rp [(.tmp 15,B x8)] (B false))]) (hap q3_ ⟨asb hb9 (amv rfl),tv⟩)<|Qae<|frb h
   ·exact wx tbk (hcat (Q25 p0 x2 x5) [(8,rp [(.tmp 10,B x5)] (B false))]) (hap q2_ ⟨asb hb6 (amv rfl),tv⟩)<|Qae<|frb h
  ·exact wx tbk (hcat (Q26 p0 x2) [(3,rp [(.tmp 5,B x2)] (B false))]) (hap q1_ ⟨asb hb3 (amv rfl),tv⟩)<|Qae<|frb h
def Qd2 (N:Nat) (p0:GRow):Option Bool:=
  (Qe9 N p0).bind fun x3=>
  some (!x3)
abbrev Q66 (p0:GRow):AV:=.agg [(I p0.T),(I p0.P),(I p0.Liquid),(I p0.Vapour),(I p0.Silica)]
abbrev Qy2:Slot:=.own 1 [[(.fn (.func 180) [] [])]]
theorem Qhb (N:Nat) (p0:GRow) (r:Bool) (h:Qd2 N p0=some r):Spec prog 221 [(Q66 p0),(.ref 0 1 (0) 0)] [Qy2] (B r) [Qy2]:=by
  refine sF func221 1 fun _ _ _ hq hd0=>?_
  unfold Qd2 at h
  refine wxz ?_
  obtain⟨x3,hf2,h⟩:=bno h
  refine wx tbk [(2,rp _ _)] ⟨apw Q0v (Qjw N p0 _ hf2),tv⟩ ?_
  refine wmr (mto (n:=8) (l':=[(3,(B ((!x3))))]) (own':=[Qy2]) [(3,(B ((!x3))))] [0] [Qy2] hq (pw pn) (qb (lc (.rn (Qau rn0 rn0)) ln) qn))<|Qae ?_
  obtain rfl:=osi h
  exact⟨_,Mor.rfl,fio [(B ((!x3)))] ⟨rot,tv⟩⟩
def Qa2 (N:Nat) (p0:List GRow) (k2:Unit→Option Int):Nat→Int→Option Int
  |0,_=>none
  |n5+1,y3=>
    bif (decide (y3<(p0.length:Int))) then
     (getI p0 y3).bind fun x7=>
     (Qd2 N x7).bind fun x12=>
     bif x12 then
      some y3
     else
      Qa2 N p0 k2 n5 (w64 (y3+1))
    else
     k2 ()
def Qca (N:Nat) (p0:List GRow):Option Int:=
  Qb5 (fun _=>
    some (-1)) fun k2:Unit→Option Int=>
  Qa2 N p0 k2 N 0
abbrev Qvh:AV:=.fn (.func 221) [] [(.ref 0 1 (0) 0)]
abbrev Qj9:Slot:=.own 1 [[(.fn (.func 180) [] [])]]
def Q67 (x7:GRow):AV:=.agg [(I x7.T),(I x7.P),(I x7.Liquid),(I x7.Vapour),(I x7.Silica)]
theorem Qfa (N:Nat) (p0:List GRow) (r:Int) (h:Qca N p0=some r):Spec prog 236 [(.dat 5 (p0.map Qat)),Qvh] [Qj9] (I r) [Qj9]:=by
  refine sF func236 1 fun _ _ _ hq hd0=>?_
  unfold Qca at h
  refine wxz ?_
  obtain⟨k2,hk_k2,h⟩:=jko h
  refine wjn (τ:=Unit) (fun t=>k2 t=some r) (fun _=>⟨mk 19 [],[Qj9]⟩) (fun t h=>?_) ?_
  ·subst hk_k2
   refine wxz<|wmr (mto (n:=19) (l':=[(4,(I ((-1))))]) (own':=[Qj9]) [(4,(I ((-1))))] [0] [Qj9] hq (pw pn) (qb (lc (.rn (Qau rn0 rn0)) ln) qn))<|Qae ?_
   obtain rfl:=osi h
   exact⟨_,Mor.rfl,fio [(I ((-1)))] ⟨rot,tv⟩⟩
  ·skip
   refine wx tbk [(1,rp _ _)] ⟨alq 5 Qat p0 underlying99,tv⟩<|Qag ?_
   refine wmr (mto (n:=19) (l':=[(0,(.dat 5 (p0.map Qat))),(1,Qvh),(7,(I ((p0.length:Int)))),(8,I 0)]) (own':=[Qj9]) [(0,(.dat 5 (p0.map Qat))),(1,Qvh),(7,(I ((p0.length:Int)))),(8,I 0)] [0] [Qj9] hq (pc (rnd Qbn) (pc (.rn (Qau rn0 (rnc (rqr rfl) rn0))) (pw (pw pn)))) (qb (lc (.rn (Qau rn0 rn0)) ln) qn)) ?_
   refine Qb8 (τ:=Int) (fun n t=>Qa2 N p0 k2 n t=some r) (fun y3=>⟨mk 19 [(0,(.dat 5 (p0.map Qat))),(1,Qvh),(7,(I ((p0.length:Int)))),(8,I y3)],[Qj9]⟩) (fun t h=>by rw[Qa2] at h;cases h) (fun n5 ih y3 h=>?_) N (0) h
   rw[Qa2] at h
   skip
   refine wxz<|wsq ?_
   refine bfe h (fun hc6 h=>?_) fun hc6 h=>?_
   ·refine wft hc6<|Qan<|thn<|wsq<|Qag<|wxz ?_
    obtain⟨x7,hg8,h⟩:=bno h
    obtain⟨hi9,hj10⟩:=gsm hg8
    obtain⟨x12,hf11,h⟩:=bno h
    refine wx tbk [(3,rp _ _),(5,⟨_,_,_,_,false⟩)] ⟨aiq underlying99 Qn5 Qat hi9 hj10,Qd5 (first:=[]) (cap:=[.ref 0 1 0 0]) (vs:=[(Q67 x7)]) (σr:=[Qj9]) (σr':=[Qj9]) (res':=(B x12)) [0] rfl Q0h (Qhb N x7 _ hf11) rfl (Qco (rnc (.plain _ (NLt.agg _ (nlcc (nlcc (nlc nll nl0))))) (rnc (Qby rfl) rn0))) (slc (Qar (rnc (.plain _ (NLt.fn _ _ _ nl0 nl0)) rn0)) Qas) (slc (Qar (rnc (.plain _ (NLt.fn _ _ _ nl0 nl0)) rn0)) Qas) (.plain _ nll) rfl rfl rfl,tv⟩ ?_
    refine bfe h (fun hc13 h=>?_) fun hc13 h=>?_
    ·refine wft hc13<|wxz ?_
     refine wmr (mto (n:=19) (l':=[(4,I y3)]) (own':=[Qj9]) [(4,I y3)] [0] [Qj9] hq (pw pn) (qb (lc (.rn (Qau rn0 rn0)) ln) qn))<|Qae<|Qa3<|Qak<|Qak<|Qa3<|Qak ?_
     obtain rfl:=osi h
     exact⟨_,Mor.rfl,fio [I y3] ⟨rot,tv⟩⟩
    ·exact wfn hc13<|Qan<|bln<|thn<|wxz1<|thn<|arm (mto (n:=19) [(0,(.dat 5 (p0.map Qat))),(1,Qvh),(7,(I ((p0.length:Int)))),(8,(I (w64 (y3+1))))] [0] [Qj9] hq (pc (rnd Qbn) (pc (.rn (Qau rn0 (rnc (rqr rfl) rn0))) (pw (pw pn)))) (qb (lc (.rn (Qau rn0 rn0)) ln) qn)) (ih (w64 (y3+1)) h)
   ·exact wfn hc6<|Qbi<|Qaw<|Qaw<|Qbh rfl<|thn<|⟨(),h,(mto (n:=19) [] [0] [Qj9] hq pn (qb (lc (.rn (Qau rn0 rn0)) ln) qn))⟩
def Qbw (N:Nat) (p0:List GRow):Option Bool:=
  (Qca N p0).bind fun x3=>
  some (decide (x3≥0))
abbrev Q5i:AV:=.fn (.func 221) [] [(.ref 0 1 (0) 0)]
abbrev Qti:Slot:=.own 1 [[(.fn (.func 180) [] [])]]
theorem Qe0 (N:Nat) (p0:List GRow) (r:Bool) (h:Qbw N p0=some r):Spec prog 220 [(.dat 5 (p0.map Qat)),Q5i] [Qti] (B r) [Qti]:=by
  refine sF func220 1 fun _ _ _ hq hd0=>?_
  unfold Qbw at h
  refine wxz ?_
  obtain⟨x3,hf2,h⟩:=bno h
  refine wx tbk [(2,⟨_,_,_,_,false⟩)] ⟨acq [(.dat 5 (p0.map Qat)),Q5i] [Qti] [Qti] (I x3) [0] Q0c (Qfa N p0 _ hf2) (Qco (rnc (pld Qbn) (rnc (Qau rn0 (rnc (Qby rfl) rn0)) rn0))) (slc (Qar (rnc (.plain _ (NLt.fn _ _ _ nl0 nl0)) rn0)) Qas) (slc (Qar (rnc (.plain _ (NLt.fn _ _ _ nl0 nl0)) rn0)) Qas) (.plain _ nll),tv⟩ ?_
  refine wmr (mto (n:=9) (l':=[(4,(B ((decide (x3≥0)))))]) (own':=[Qti]) [(4,(B ((decide (x3≥0)))))] [0] [Qti] hq (pw pn) (qb (lc (.rn (Qau rn0 rn0)) ln) qn))<|Qae ?_
  obtain rfl:=osi h
  exact⟨_,Mor.rfl,fio [(B ((decide (x3≥0))))] ⟨rot,tv⟩⟩
def Qdt (N:Nat) (p0:List GRow):Option Bool:=
  (Qbw N p0).bind fun x2=>
  some (!x2)
def Q5j:AV:=.fn (.func 221) [] [(.ref 0 1 (0) 0)]
def Q5k:Slot:=.own 1 [[(.fn (.func 180) [] [])]]
theorem Qht (N:Nat) (p0:List GRow) (r:Bool) (h:Qdt N p0=some r):Spec prog 179 [(.dat 5 (p0.map Qat)),(.fn (.func 180) [] [])] [] (B r) []:=by
  refine sA func179 0 fun _ _ _ hq hd0=>?_
  unfold Qdt at h
  refine wxz ?_
  obtain⟨x2,hf1,h⟩:=bno h
  refine wx tbk [(1,rp [(.tmp 3,.ref 0 1 0 0)] Q5j),(2,⟨_,_,_,_,false⟩)] ⟨Qe4 (fs:=[]) (cs:=[.ref 0 1 0 0]) rfl rfl rfl rfl,acq [(.dat 5 (p0.map Qat)),Q5j] [Q5k] [Q5k] (B x2) [0] Q0i (Qe0 N p0 _ hf1) (Qco (rnc (pld Qbn) (rnc (Qau rn0 (rnc (Qby rfl) rn0)) rn0))) (slc (Qar (rnc (.plain _ (NLt.fn _ _ _ nl0 nl0)) rn0)) Qas) (slc (Qar (rnc (.plain _ (NLt.fn _ _ _ nl0 nl0)) rn0)) Qas) (.plain _ nll),tv⟩<|Qae ?_
  obtain rfl:=osi h
  exact fend ⟨[(B ((!x2)))],⟨rot,tv⟩,rfl⟩ nll
def Qcc (N:Nat) (p0:List GRow) (k2:Unit→Option Bool):Nat→Int→Option Bool
  |0,_=>none
  |n6+1,y4=>
    bif (decide (y4<((p0.drop (1:Int).toNat).length:Int))) then
     (getI (p0.drop (1:Int).toNat) y4).bind fun x8=>
     (getI p0 y4).bind fun x12=>
     bif (decide (x8.T≤x12.T)) then
      some false
     else
      bif (decide (x8.P≤x12.P)) then
       some false
      else
       bif (decide (x8.Liquid≤x12.Liquid)) then
        some false
       else
        bif (decide (x8.Silica<x12.Silica)) then
         some false
        else
         Qcc N p0 k2 n6 (w64 (y4+1))
    else
     k2 ()
def Qen (N:Nat) (p0:List GRow):Option Bool:=
  Qb5 (fun _=>
    Qb5 (fun _=>
      some true) fun k2:Unit→Option Bool=>
    chk (decide (0≤1)&&decide (1≤(p0.length:Int))&&decide ((p0.length:Int)≤(p0.length:Int)))<|
    Qcc N p0 k2 N 0) fun k1:Unit→Option Bool=>
  (Qci N (p0.length:Int) 2 20).bind fun x21=>
  bif (!x21) then
   some false
  else
   (Qdt N p0).bind fun x24=>
   bif (!x24) then
    some false
   else
    k1 ()
def Qvj (p0:List GRow):AV:=.dat 5 ((p0.drop (1:Int).toNat:List GRow).map Qat)
def Qr4 (x8 x12:GRow):List (Nat×Rec):=[(5,rp [((.tmp 31),(B ((decide (x8.T≤x12.T)))))] (B false))]
def Qvi (p0:List GRow) (x21:Bool):List (Nat×Rec):=[(1,rp [((.tmp 6),(.dat 5 (p0.map Qat)))] (I ((p0.length:Int)))),(2,rp [fu 127,((.tmp 7),(I ((p0.length:Int)))),ci 2,ci 20] (B x21))]
theorem Qi0 (N:Nat) (p0:List GRow) (r:Bool) (h:Qen N p0=some r):Spec prog 125 [(.dat 5 (p0.map Qat))] [] (B r) []:=by
  refine sA func125 0 fun _ _ _ hq hd0=>?_
  unfold Qen at h
  refine wxz ?_
  obtain⟨k1,hk_k1,h⟩:=jko h
  refine wjn (τ:=Unit) (fun t=>k1 t=some r) (fun _=>⟨mk 54 [(0,(.dat 5 (p0.map Qat)))],[]⟩) (fun t h=>?_) ?_
  ·subst hk_k1
   obtain⟨k2,hk_k2,h⟩:=jko h
   refine wjn (τ:=Unit) (fun t=>k2 t=some r) (fun _=>⟨mk 54 [],[]⟩) (fun t h=>?_) ?_
   ·subst hk_k2
    exact wxz<|Qae<|frb h
   ·skip
    obtain⟨hs3,h⟩:=cko h
    refine wx tbk [(1,rp [(.tmp 15,(.dat 5 (p0.map Qat))),ci 1] (Qvj p0)),(2,rp _ _)] ⟨Qje (k:=.i64) (k':=.i64) (lo:=some (.const (.int .i64 1))) (hi:=none) (l:=1) (hh:=((p0.length:Nat):Int)) rfl underlying100 Qn5 rfl (fun e=>nomatch e) (fun _=>by simp) (Quv hs3) (Quu hs3) (Q48 Qat hs3) (Q6f Qat),alq 5 Qat (p0.drop (1:Int).toNat) underlying100,tv⟩<|Qag ?_
    refine wmr (mto (n:=54) (l':=[(0,(.dat 5 (p0.map Qat))),(16,(Qvj p0)),(17,(I (((p0.drop (1:Int).toNat).length:Int)))),(18,I 0)]) (own':=[]) [(0,(.dat 5 (p0.map Qat))),(16,(Qvj p0)),(17,(I (((p0.drop (1:Int).toNat).length:Int)))),(18,I 0)] [] [] hq (pc (rnd Qbn) (pc (rnd Qbn) (pw (pw pn)))) qn) ?_
    refine Qb8 (τ:=Int) (fun n t=>Qcc N p0 k2 n t=some r) (fun y4=>⟨mk 54 [(0,(.dat 5 (p0.map Qat))),(16,(Qvj p0)),(17,(I (((p0.drop (1:Int).toNat).length:Int)))),(18,I y4)],[]⟩) (fun t h=>by rw[Qcc] at h;cases h) (fun n6 ih y4 h=>?_) N (0) h
    rw[Qcc] at h
    skip
    refine wxz<|wsq ?_
    refine bfe h (fun hc7 h=>?_) fun hc7 h=>?_
    ·refine wft hc7<|Qan<|thn<|wsq<|Qag ?_
     obtain⟨x8,hg9,h⟩:=bno h
     obtain⟨hi10,hj11⟩:=gsm hg9
     refine wx tbk [(1,rp _ _)] ⟨aiq underlying100 Qn5 Qat hi10 hj11,tv⟩ ?_
     obtain⟨x12,hg13,h⟩:=bno h
     obtain⟨hi14,hj15⟩:=gsm hg13
     refine wx tbk [(2,rp _ _)] ⟨aiq underlying100 Qn5 Qat hi14 hj15,tv⟩ ?_
     refine bfe h (fun hb16 h=>?_) fun hb16 h=>?_
     ·exact wx tbk [(5,rp [(.tmp 31,(B ((decide (x8.T≤x12.T)))))] (B true))] ⟨asb hb16 (amv rfl),tv⟩<|wtr<|wxz<|Qae<|Qa3<|Qak<|Qak<|Qa3<|Qak<|frb h
     ·refine hpre (A:=(Qr4 x8 x12)) ⟨asb hb16 (amv rfl),tv⟩ fun q1_=>?_
      refine bfe h (fun hb17 h=>?_) fun hb17 h=>?_
      ·exact wx tbk (hcat (Qr4 x8 x12) [(12,rp [(.tmp 38,(B ((decide (x8.P≤x12.P)))))] (B true))]) (hap q1_ ⟨asb hb17 (amv rfl),tv⟩)<|wtr<|wxz<|Qae<|Qa3<|Qak<|Qak<|Qa3<|Qak<|frb h
      ·refine bfe h (fun hb18 h=>?_) fun hb18 h=>?_
       ·exact wx tbk (hcat (Qr4 x8 x12) [(12,rp [(.tmp 38,(B ((decide (x8.P≤x12.P)))))] (B false)),(19,rp [(.tmp 45,(B ((decide (x8.Liquid≤x12.Liquid)))))] (B true))]) (hap q1_ ⟨asb hb17 (amv rfl),asb hb18 (amv rfl),tv⟩)<|wtr<|wxz<|Qae<|Qa3<|Qak<|Qak<|Qa3<|Qak<|frb h
       ·refine wx tbk (hcat (Qr4 x8 x12) [(12,rp [(.tmp 38,(B ((decide (x8.P≤x12.P)))))] (B false)),(19,rp [(.tmp 45,(B ((decide (x8.Liquid≤x12.Liquid)))))] (B false))]) (hap q1_ ⟨asb hb17 (amv rfl),asb hb18 (amv rfl),tv⟩) ?_
        refine bfe h (fun hc19 h=>?_) fun hc19 h=>?_
        ·exact wft hc19<|wxz<|Qae<|Qa3<|Qak<|Qak<|Qa3<|Qak<|frb h
        ·exact wfn hc19<|Qan<|bln<|thn<|wxz1<|thn<|arm (mto (n:=54) [(0,(.dat 5 (p0.map Qat))),(16,(Qvj p0)),(17,(I (((p0.drop (1:Int).toNat).length:Int)))),(18,(I (w64 (y4+1))))] [] [] hq (pc (rnd Qbn) (pc (rnd Qbn) (pw (pw pn)))) qn) (ih (w64 (y4+1)) h)
    ·exact wfn hc7<|Qbi<|Qaw<|Qaw<|Qbh rfl<|thn<|⟨(),h,(mto (n:=54) [] [] [] hq pn qn)⟩
  ·skip
   obtain⟨x21,hf20,h⟩:=bno h
   refine hpre (A:=(Qvi p0 x21)) ⟨alq 5 Qat p0 underlying100,apv Qgc (Qcn N (p0.length:Int) 2 20 _ hf20) (nlcc (nlc nll nl0)) nll,tv⟩ fun q2_=>?_
   refine bfe h (fun hb22 h=>?_) fun hb22 h=>?_
   ·exact wx tbk (hcat (Qvi p0 x21) [(4,rp [(.tmp 9,(B ((!x21))))] (B true))]) (hap q2_ ⟨asb hb22 (amv rfl),tv⟩)<|wtr<|wxz<|Qae<|Qak<|frb h
   ·obtain⟨x24,hf23,h⟩:=bno h
    refine wx tbk (hcat (Qvi p0 x21) [(4,rp [(.tmp 9,(B ((!x21))))] (B false)),(6,rp [(.tmp 10,B false),fu 179,(.tmp 11,(.dat 5 (p0.map Qat))),fu 180] (B x24))]) (hap q2_ ⟨asb hb22 (amv rfl),ag_ (acq [(.dat 5 (p0.map Qat)),(.fn (.func 180) [] [])] [] [] (B x24) [] Q0w (Qht N p0 _ hf23) (Qco (rnc (pld Qbn) (rnc (.plain _ (NLt.fn _ _ _ nl0 nl0)) rn0))) Qas Qas (.plain _ nll)),tv⟩) ?_
    refine bfe h (fun hc25 h=>?_) fun hc25 h=>?_
    ·exact wft hc25<|wxz<|Qae<|Qak<|frb h
    ·exact wfn hc25<|Qan<|thn<|⟨(),h,(mto (n:=54) [(0,(.dat 5 (p0.map Qat)))] [] [] hq (pc (rnd Qbn) pn) qn)⟩
def Qfx (N:Nat) (p0:List GRow) (p1:Int):Option Bool:=
  (Qci N p1 0 (w64 ((p0.length:Int)-1))).bind fun x2=>
  some x2
theorem Qjv (N:Nat) (p0:List GRow) (p1:Int) (r:Bool) (h:Qfx N p0 p1=some r):Spec prog 126 [(.dat 5 (p0.map Qat)),(I p1)] [] (B r) []:=by
  refine sA func126 0 fun _ _ _ hq hd0=>?_
  unfold Qfx at h
  refine wxz ?_
  obtain⟨x2,hf1,h⟩:=bno h
  exact wx tbk [(2,rp _ _),(4,rp _ _)] ⟨alq 5 Qat p0 underlying100,apw Qgc (Qcn N p1 0 (w64 ((p0.length:Int)-1)) _ hf1),tv⟩<|Qae<|frb h
def Qfi (N:Nat) (p0:Int) (p1:List GRow):Option Bool:=
  (Qfx N p1 p0).bind fun x3=>
  some (!x3)
abbrev Qvf (p1:List GRow):AV:=.fn (.func 126) [(.dat 5 (p1.map Qat))] []
theorem Qiz (N:Nat) (p0:Int) (p1:List GRow) (r:Bool) (h:Qfi N p0 p1=some r):Spec prog 181 [(I p0),(.ref 0 1 (0) 0)] [(.own 1 [[(Qvf p1)]])] (B r) [(.own 1 [[(Qvf p1)]])]:=by
  refine sF func181 1 fun _ _ _ hq hd0=>?_
  unfold Qfi at h
  refine wxz ?_
  obtain⟨x3,hf2,h⟩:=bno h
  refine wx tbk [(2,rp [(.tmp 4,(Qvf p1)),(.tmp 5,I p0)] (B x3))] ⟨apc (first:=[(.dat 5 (p1.map Qat))]) (cap:=[]) (vs:=[I p0]) rfl Q1c (Qjv N p1 p0 _ hf2) rfl rfl (nlc (nld Qbn _) (nlc nll nl0)) nll rfl,tv⟩ ?_
  refine wmr (mto (n:=8) (l':=[(3,(B ((!x3))))]) (own':=[(.own 1 [[(Qvf p1)]])]) [(3,(B ((!x3))))] [0] [(.own 1 [[(Qvf p1)]])] hq (pw pn) (qb (lc (.rn (Qau (rnc (pld Qbn) rn0) rn0)) ln) qn))<|Qae ?_
  obtain rfl:=osi h
  exact⟨_,Mor.rfl,fio [(B ((!x3)))] ⟨rot,tv⟩⟩
def Qbf (N:Nat) (p0:List Int) (p1:List GRow) (k2:Unit→Option Int):Nat→Int→Option Int
  |0,_=>none
  |n5+1,y3=>
    bif (decide (y3<(p0.length:Int))) then
     (getI p0 y3).bind fun x7=>
     (Qfi N x7 p1).bind fun x12=>
     bif x12 then
      some y3
     else
      Qbf N p0 p1 k2 n5 (w64 (y3+1))
    else
     k2 ()
def Qdi (N:Nat) (p0:List Int) (p1:List GRow):Option Int:=
  Qb5 (fun _=>
    some (-1)) fun k2:Unit→Option Int=>
  Qbf N p0 p1 k2 N 0
abbrev Qvg:AV:=.fn (.func 181) [] [(.ref 0 1 (0) 0)]
abbrev Qj8 (p1:List GRow):AV:=.fn (.func 126) [(.dat 5 (p1.map Qat))] []
theorem Qgq (N:Nat) (p0:List Int) (p1:List GRow) (r:Int) (h:Qdi N p0 p1=some r):Spec prog 48 [(.dat 1 (p0.map Qab)),Qvg] [(.own 1 [[(Qj8 p1)]])] (I r) [(.own 1 [[(Qj8 p1)]])]:=by
  refine sF func48 1 fun _ _ _ hq hd0=>?_
  unfold Qdi at h
  refine wxz ?_
  obtain⟨k2,hk_k2,h⟩:=jko h
  refine wjn (τ:=Unit) (fun t=>k2 t=some r) (fun _=>⟨mk 19 [],[(.own 1 [[(Qj8 p1)]])]⟩) (fun t h=>?_) ?_
  ·subst hk_k2
   refine wxz<|wmr (mto (n:=19) (l':=[(4,(I ((-1))))]) (own':=[(.own 1 [[(Qj8 p1)]])]) [(4,(I ((-1))))] [0] [(.own 1 [[(Qj8 p1)]])] hq (pw pn) (qb (lc (.rn (Qau (rnc (pld Qbn) rn0) rn0)) ln) qn))<|Qae ?_
   obtain rfl:=osi h
   exact⟨_,Mor.rfl,fio [(I ((-1)))] ⟨rot,tv⟩⟩
  ·skip
   refine wx tbk [(1,rp _ _)] ⟨alq 1 Qab p0 underlying22,tv⟩<|Qag ?_
   refine wmr (mto (n:=19) (l':=[(0,(.dat 1 (p0.map Qab))),(1,Qvg),(7,(I ((p0.length:Int)))),(8,I 0)]) (own':=[(.own 1 [[(Qj8 p1)]])]) [(0,(.dat 1 (p0.map Qab))),(1,Qvg),(7,(I ((p0.length:Int)))),(8,I 0)] [0] [(.own 1 [[(Qj8 p1)]])] hq (pc (rnd Qad) (pc (.rn (Qau rn0 (rnc (rqr rfl) rn0))) (pw (pw pn)))) (qb (lc (.rn (Qau (rnc (pld Qbn) rn0) rn0)) ln) qn)) ?_
   refine Qb8 (τ:=Int) (fun n t=>Qbf N p0 p1 k2 n t=some r) (fun y3=>⟨mk 19 [(0,(.dat 1 (p0.map Qab))),(1,Qvg),(7,(I ((p0.length:Int)))),(8,I y3)],[(.own 1 [[(Qj8 p1)]])]⟩) (fun t h=>by rw[Qbf] at h;cases h) (fun n5 ih y3 h=>?_) N (0) h
   rw[Qbf] at h
   skip
   refine wxz<|wsq ?_
   refine bfe h (fun hc6 h=>?_) fun hc6 h=>?_
   ·refine wft hc6<|Qan<|thn<|wsq<|Qag<|wxz ?_
    obtain⟨x7,hg8,h⟩:=bno h
    obtain⟨hi9,hj10⟩:=gsm hg8
    obtain⟨x12,hf11,h⟩:=bno h
    refine wx tbk [(3,rp _ _),(5,⟨_,_,_,_,false⟩)] ⟨aiq underlying22 ti3 Qab hi9 hj10,Qd5 (first:=[]) (cap:=[.ref 0 1 0 0]) (vs:=[I x7]) (σr:=[(.own 1 [[(Qj8 p1)]])]) (σr':=[(.own 1 [[(Qj8 p1)]])]) (res':=(B x12)) [0] rfl Q0u (Qiz N x7 p1 _ hf11) rfl (Qco (rnc (.plain _ nll) (rnc (Qby rfl) rn0))) (slc (Qar (rnc (.plain _ (NLt.fn _ _ _ (nlc (nld Qbn _) nl0) nl0)) rn0)) Qas) (slc (Qar (rnc (.plain _ (NLt.fn _ _ _ (nlc (nld Qbn _) nl0) nl0)) rn0)) Qas) (.plain _ nll) rfl rfl rfl,tv⟩ ?_
    refine bfe h (fun hc13 h=>?_) fun hc13 h=>?_
    ·refine wft hc13<|wxz ?_
     refine wmr (mto (n:=19) (l':=[(4,I y3)]) (own':=[(.own 1 [[(Qj8 p1)]])]) [(4,I y3)] [0] [(.own 1 [[(Qj8 p1)]])] hq (pw pn) (qb (lc (.rn (Qau (rnc (pld Qbn) rn0) rn0)) ln) qn))<|Qae<|Qa3<|Qak<|Qak<|Qa3<|Qak ?_
     obtain rfl:=osi h
     exact⟨_,Mor.rfl,fio [I y3] ⟨rot,tv⟩⟩
    ·exact wfn hc13<|Qan<|bln<|thn<|wxz1<|thn<|arm (mto (n:=19) [(0,(.dat 1 (p0.map Qab))),(1,Qvg),(7,(I ((p0.length:Int)))),(8,(I (w64 (y3+1))))] [0] [(.own 1 [[(Qj8 p1)]])] hq (pc (rnd Qad) (pc (.rn (Qau rn0 (rnc (rqr rfl) rn0))) (pw (pw pn)))) (qb (lc (.rn (Qau (rnc (pld Qbn) rn0) rn0)) ln) qn)) (ih (w64 (y3+1)) h)
   ·exact wfn hc6<|Qbi<|Qaw<|Qaw<|Qbh rfl<|thn<|⟨(),h,(mto (n:=19) [] [0] [(.own 1 [[(Qj8 p1)]])] hq pn (qb (lc (.rn (Qau (rnc (pld Qbn) rn0) rn0)) ln) qn))⟩
def Qc3 (N:Nat) (p0:List Int) (p1:List GRow):Option Bool:=
  (Qdi N p0 p1).bind fun x3=>
  some (decide (x3≥0))
abbrev Q5g:AV:=.fn (.func 181) [] [(.ref 0 1 (0) 0)]
abbrev Qth (p1:List GRow):AV:=.fn (.func 126) [(.dat 5 (p1.map Qat))] []
theorem Qf6 (N:Nat) (p0:List Int) (p1:List GRow) (r:Bool) (h:Qc3 N p0 p1=some r):Spec prog 117 [(.dat 1 (p0.map Qab)),Q5g] [(.own 1 [[(Qth p1)]])] (B r) [(.own 1 [[(Qth p1)]])]:=by
  refine sF func117 1 fun _ _ _ hq hd0=>?_
  unfold Qc3 at h
  refine wxz ?_
  obtain⟨x3,hf2,h⟩:=bno h
  refine wx tbk [(2,⟨_,_,_,_,false⟩)] ⟨acq [(.dat 1 (p0.map Qab)),Q5g] [(.own 1 [[(Qth p1)]])] [(.own 1 [[(Qth p1)]])] (I x3) [0] Qxy (Qgq N p0 p1 _ hf2) (Qco (rnc (pld Qad) (rnc (Qau rn0 (rnc (Qby rfl) rn0)) rn0))) (slc (Qar (rnc (.plain _ (NLt.fn _ _ _ (nlc (nld Qbn _) nl0) nl0)) rn0)) Qas) (slc (Qar (rnc (.plain _ (NLt.fn _ _ _ (nlc (nld Qbn _) nl0) nl0)) rn0)) Qas) (.plain _ nll),tv⟩ ?_
  refine wmr (mto (n:=9) (l':=[(4,(B ((decide (x3≥0)))))]) (own':=[(.own 1 [[(Qth p1)]])]) [(4,(B ((decide (x3≥0)))))] [0] [(.own 1 [[(Qth p1)]])] hq (pw pn) (qb (lc (.rn (Qau (rnc (pld Qbn) rn0) rn0)) ln) qn))<|Qae ?_
  obtain rfl:=osi h
  exact⟨_,Mor.rfl,fio [(B ((decide (x3≥0))))] ⟨rot,tv⟩⟩
def Qe8 (N:Nat) (p0:List Int) (p1:List GRow):Option Bool:=
  (Qc3 N p0 p1).bind fun x2=>
  some (!x2)
abbrev Q23 (p1:List GRow):AV:=.fn (.func 126) [(.dat 5 (p1.map Qat))] []
def Q5h:AV:=.fn (.func 181) [] [(.ref 0 1 (0) 0)]
theorem Qju (N:Nat) (p0:List Int) (p1:List GRow) (r:Bool) (h:Qe8 N p0 p1=some r):Spec prog 128 [(.dat 1 (p0.map Qab)),(Q23 p1)] [] (B r) []:=by
  refine sA func128 0 fun _ _ _ hq hd0=>?_
  unfold Qe8 at h
  refine wxz ?_
  obtain⟨x2,hf1,h⟩:=bno h
  refine wx tbk [(1,rp [(.tmp 3,.ref 0 1 0 0)] Q5h),(2,⟨_,_,_,_,false⟩)] ⟨Qe4 (fs:=[]) (cs:=[.ref 0 1 0 0]) rfl rfl rfl rfl,acq [(.dat 1 (p0.map Qab)),Q5h] [(.own 1 [[(Q23 p1)]])] [(.own 1 [[(Q23 p1)]])] (B x2) [0] Qs1 (Qf6 N p0 p1 _ hf1) (Qco (rnc (pld Qad) (rnc (Qau rn0 (rnc (Qby rfl) rn0)) rn0))) (slc (Qar (rnc (.plain _ (NLt.fn _ _ _ (nlc (nld Qbn _) nl0) nl0)) rn0)) Qas) (slc (Qar (rnc (.plain _ (NLt.fn _ _ _ (nlc (nld Qbn _) nl0) nl0)) rn0)) Qas) (.plain _ nll),tv⟩<|Qae ?_
  obtain rfl:=osi h
  exact fend ⟨[(B ((!x2)))],⟨rot,tv⟩,rfl⟩ nll
def Qdv (N:Nat) (p0:Qap):Option Bool:=
  (Qci N p0.Mass 0 1000000).bind fun x2=>
  bif x2 then
   (Qci N p0.Heat 0 (w64 (4000*p0.Mass))).bind fun x5=>
   bif x5 then
    (Qci N p0.Silica 0 (w64 (10000*p0.Mass))).bind fun x8=>
    bif x8 then
     (Qci N p0.Gas 0 1000000000).bind fun x11=>
     some x11
    else
     some false
   else
    some false
  else
   some false
def Q22 (p0:Qap) (x2:Bool):List (Nat×Rec):=[(2,rp [fu 127,((.tmp 4),(I p0.Mass)),ci 0,ci 1000000] (B x2))]
def Q21 p0 x2 (x5:Bool):=hcat (Q22 p0 x2) [(3,rp [((.tmp 5),(B x2))] (B true)),(9,rp [((.tmp 6),(B true)),fu 127,((.tmp 8),(I p0.Heat)),ci 0,((.tmp 11),(I (w64 (4000*p0.Mass))))] (B x5))]
def Q20 p0 x2 x5 (x8:Bool):=hcat (Q21 p0 x2 x5) [(11,rp [((.tmp 13),(B x5))] (B true)),(17,rp [((.tmp 14),(B true)),fu 127,((.tmp 16),(I p0.Silica)),ci 0,((.tmp 19),(I (w64 (10000*p0.Mass))))] (B x8))]
theorem Qin (N:Nat) (p0:Qap) (r:Bool) (h:Qdv N p0=some r):Spec prog 129 [(.agg (Qet p0))] [] (B r) []:=by
  refine sA func129 0 fun _ _ _ hq hd0=>?_
  unfold Qdv at h
  refine wxz ?_
  obtain⟨x2,hf1,h⟩:=bno h
  refine hpre (A:=(Q22 p0 x2)) ⟨apv Qgc (Qcn N p0.Mass 0 1000000 _ hf1) (nlcc (nlc nll nl0)) nll,tv⟩ fun q1_=>?_
  refine bfe h (fun hb3 h=>?_) fun hb3 h=>?_
  ·obtain⟨x5,hf4,h⟩:=bno h
   refine hpre (A:=(Q21 p0 x2 x5)) (hap q1_ ⟨asb hb3 (amv rfl),ag_ (apv Qgc (Qcn N p0.Heat 0 (w64 (4000*p0.Mass)) _ hf4) (nlcc (nlc nll nl0)) nll),tv⟩) fun q2_=>?_
   refine bfe h (fun hb6 h=>?_) fun hb6 h=>?_
   ·obtain⟨x8,hf7,h⟩:=bno h
    refine hpre (A:=(Q20 p0 x2 x5 x8)) (hap q2_ ⟨asb hb6 (amv rfl),ag_ (apv Qgc (Qcn N p0.Silica 0 (w64 (10000*p0.Mass)) _ hf7) (nlcc (nlc nll nl0)) nll),tv⟩) fun q3_=>?_
    refine bfe h (fun hb9 h=>?_) fun hb9 h=>?_
    ·obtain⟨x11,hf10,h⟩:=bno h
     exact wx tbk (hcat (Q20 p0 x2 x5 x8) [(19,rp [(.tmp 21,B x8)] (B true)),(22,rp [(.tmp 22,B true),fu 127,(.tmp 24,I p0.Gas),ci 0,ci 1000000000] (B x11))]) (hap q3_ ⟨asb hb9 (amv rfl),ag_ (apv Qgc (Qcn N p0.Gas 0 1000000000 _ hf10) (nlcc (nlc nll nl0)) nll),tv⟩)<|Qae<|frb h
    ·exact wx tbk (hcat (Q20 p0 x2 x5 x8) [(19,rp [(.tmp 21,B x8)] (B false))]) (hap q3_ ⟨asb hb9 (amv rfl),tv⟩)<|Qae<|frb h
   ·exact wx tbk (hcat (Q21 p0 x2 x5) [(11,rp [(.tmp 13,B x5)] (B false))]) (hap q2_ ⟨asb hb6 (amv rfl),tv⟩)<|Qae<|frb h
  ·exact wx tbk (hcat (Q22 p0 x2) [(3,rp [(.tmp 5,B x2)] (B false))]) (hap q1_ ⟨asb hb3 (amv rfl),tv⟩)<|Qae<|frb h
def Qd7 (_N:Nat) (_p0:List GRow) (_p1:List Int) (_p2:Qap):Option Unit:=
  some ()
abbrev Q2w:AV:=.fn (.func 183) [] [(.ref 0 1 (0) 0),(.ref 1 1 (0) 0),(.ref 2 4 (0) 0)]
abbrev Q2y (p1:List Int):Slot:=.own 1 [[(.dat 1 (p1.map Qab))]]
abbrev Q2z (p0:List GRow):Slot:=.own 1 [[(.dat 5 (p0.map Qat))]]
abbrev Q2x (p2:Qap):Slot:=.own 4 [[(I p2.Mass),(I p2.Heat),(I p2.Silica),(I p2.Gas)]]
def Q5f:AV:=.fn (.func 183) [] [(.ref 1 1 (0) 0),(.ref 0 1 (0) 0),(.ref 2 4 (0) 0)]
theorem Qh5 (N:Nat) (p0:List GRow) (p1:List Int) (p2:Qap) (r:Unit) (h:Qd7 N p0 p1 p2=some r):Spec prog 131 [(.dat 5 (p0.map Qat)),(.dat 1 (p1.map Qab)),(.agg [(I p2.Mass),(I p2.Heat),(I p2.Silica),(I p2.Gas)])] [] Q2w [(Q2y p1),(Q2z p0),(Q2x p2)]:=by
  refine sF func131 3 fun _ _ _ hq hd0=>?_
  unfold Qd7 at h
  refine wxz<|wx tbk [(0,rp [(.tmp 4,.ref 1 1 0 0),(.tmp 3,.ref 0 1 0 0),(.tmp 5,.ref 2 4 0 0)] Q5f)] ⟨Qe4 (fs:=[]) (cs:=[.ref 1 1 0 0,.ref 0 1 0 0,.ref 2 4 0 0]) rfl rfl rfl rfl,tv⟩ ?_
  refine wmr (mto (n:=8) (l':=[(6,Q2w)]) (own':=[(Q2y p1),(Q2z p0),(Q2x p2)]) [(6,Q5f)] [1,0,2] [(Q2y p1),(Q2z p0),(Q2x p2)] hq (pc (.rn (Qau rn0 (rnc (rqr rfl) (rnc (rqr rfl) (rnc (rqr rfl) rn0))))) pn) (qb (lc (rnd Qad) ln) (qb (lc (rnd Qbn) ln) (qb (lcc (lcc ln)) qn))))<|Qae ?_
  obtain rfl:=osi h
  exact⟨_,Mor.rfl,fio [Q2w] ⟨rot,tv⟩⟩
def Qf5 (_N:Nat) (p0:List GRow) (p1:Int):Option Qhr:=
  (getI p0 p1).bind fun x1=>
  some (⟨x1⟩:Qhr)
def Q2u (x1:GRow):AV:=.agg [(I x1.T),(I x1.P),(I x1.Liquid),(I x1.Vapour),(I x1.Silica)]
theorem Qkk (N:Nat) (p0:List GRow) (p1:Int) (r:Qhr) (h:Qf5 N p0 p1=some r):Spec prog 184 [(.dat 5 (p0.map Qat)),(I p1)] [] (.agg (Qky r)) []:=by
  refine sA func184 0 fun _ _ _ hq hd0=>?_
  unfold Qf5 at h
  refine wxz ?_
  obtain⟨x1,hg2,h⟩:=bno h
  obtain⟨hi3,hj4⟩:=gsm hg2
  refine wx tbk [(2,rp _ _),(4,mv 8 (Q2u x1))] ⟨aiq underlying100 Qn5 Qat hi3 hj4,Qd6 (vs:=[(Q2u x1)]) rfl Q7f Q58 rfl (by rfl) rfl,tv⟩<|Qae ?_
  obtain rfl:=osi h
  exact fie [(Q2u x1)] ⟨Qg9 (n:=0) (m:=5) (j:=0) (i:=0) (xs:=[[I x1.T,I x1.P,I x1.Liquid,I x1.Vapour,I x1.Silica]]) (by kernel_rfl) (by kernel_rfl) Q6d (by decide) rfl (nle rfl) rfl,tv⟩
def Qem (_N:Nat) (p0:Qhr) (p1:Qap):Option Int:=
  (some (w64 (p1.Heat-(w64 (p1.Mass*p0.Row.Liquid))))).bind fun x1=>
  bif (decide (x1≤0)) then
   some 0
  else
   bif (decide (p1.Heat≥(w64 (p1.Mass*p0.Row.Vapour)))) then
    some p1.Mass
   else
    chk ((w64 (p0.Row.Vapour-p0.Row.Liquid)) != 0)<|
    (some (w64 (x1.tdiv (w64 (p0.Row.Vapour-p0.Row.Liquid))))).bind fun x6=>
    some x6
theorem Qiy (N:Nat) (p0:Qhr) (p1:Qap) (r:Int) (h:Qem N p0 p1=some r):Spec prog 222 [(.agg (Qky p0)),(.agg (Qet p1))] [] (I r) []:=by
  refine sA func222 0 fun _ _ _ hq hd0=>?_
  unfold Qem at h
  refine wxz ?_
  obtain⟨x1,hl2,h⟩:=bno h
  refine wx tbk [(9,rp [(.tmp 14,(I (w64 (p1.Heat-(w64 (p1.Mass*p0.Row.Liquid))))))] (I x1))] ⟨Qfh hl2 (aas rfl),tv⟩<|wsq<|Qag<|wxz ?_
  refine bfe h (fun hc3 h=>?_) fun hc3 h=>?_
  ·refine wft hc3<|wxz<|Qae<|Qa3<|Qak ?_
   obtain rfl:=osi h
   exact fend ⟨[I 0],⟨rot,tv⟩,rfl⟩ nll
  ·refine wfn hc3<|wxz ?_
   refine bfe h (fun hc4 h=>?_) fun hc4 h=>?_
   ·refine wft hc4<|wxz<|Qae<|Qa3<|Qak ?_
    obtain rfl:=osi h
    exact fend ⟨[I p1.Mass],⟨rot,tv⟩,rfl⟩ nll
   ·refine wfn hc4<|Qan<|bln<|thn ?_
    obtain⟨hz5,h⟩:=cko h
    obtain⟨x6,hl7,h⟩:=bno h
    refine wx tbk [(8,rp [(.tmp 30,I x1),(.tmp 37,(I (w64 (p0.Row.Vapour-p0.Row.Liquid))))] (I (w64 (x1.tdiv (w64 (p0.Row.Vapour-p0.Row.Liquid)))))),(9,rp [(.tmp 38,(I (w64 (x1.tdiv (w64 (p0.Row.Vapour-p0.Row.Liquid))))))] (I x6))] ⟨Qyi rfl (Q4z hz5),Qfh hl7 (aas rfl),tv⟩<|Qae ?_
    obtain rfl:=osi h
    exact fend ⟨[I x6],⟨rot,tv⟩,rfl⟩ nll
def Qez (N:Nat) (p0:Qhr) (p1:Qap):Option Qbm:=
  (Qem N (⟨(⟨p0.Row.T,p0.Row.P,p0.Row.Liquid,p0.Row.Vapour,p0.Row.Silica⟩:GRow)⟩:Qhr) p1).bind fun x2=>
  Qb5 (fun ⟨y3,y4,y5,y6,y7,_,y9⟩=>
    (some (if (w64 (y6*p0.Row.Silica))<p1.Silica then w64 (y6*p0.Row.Silica) else p1.Silica)).bind fun x11=>
    bif (decide (y6>0)) then
     (some (if (w64 (y7-(w64 (y6*p0.Row.Liquid))))>0 then w64 (y7-(w64 (y6*p0.Row.Liquid))) else 0)).bind fun x14=>
     some (⟨(⟨y3,y4,0,y5⟩:Qap),(⟨y6,y7,x11,y9⟩:Qap),x14,w64 (p1.Silica-x11)⟩:Qbm)
    else
     some (⟨(⟨y3,y4,0,y5⟩:Qap),(⟨y6,y7,x11,y9⟩:Qap),0,w64 (p1.Silica-x11)⟩:Qbm)) fun k10:Int×Int×Int×Int×Int×Int×Int→Option Qbm=>
  bif (x2==0) then
   k10 (0,0,0,p1.Mass,p1.Heat,p1.Silica,p1.Gas)
  else
   bif (x2==p1.Mass) then
    k10 (x2,p1.Heat,p1.Gas,0,0,0,0)
   else
    k10 (x2,w64 (x2*p0.Row.Vapour),p1.Gas,w64 (p1.Mass-x2),w64 (p1.Heat-(w64 (x2*p0.Row.Vapour))),0,0)
def Qyw (p0:Qhr):Slot:=.own 5 [[(I p0.Row.T),(I p0.Row.P),(I p0.Row.Liquid),(I p0.Row.Vapour),(I p0.Row.Silica)]]
def Qyv (p1:Qap):Slot:=.own 4 [[(I p1.Mass),(I p1.Heat),(I p1.Silica),(I p1.Gas)]]
theorem Qkj (N:Nat) (p0:Qhr) (p1:Qap) (r:Qbm) (h:Qez N p0 p1=some r):Spec prog 185 [(.agg (Qky p0)),(.agg (Qet p1))] [] (.agg (Qcw r)) []:=by
  refine sA func185 0 fun _ _ _ hq hd0=>?_
  unfold Qez at h
  refine wxz ?_
  obtain⟨x2,hf1,h⟩:=bno h
  refine wx tbk [(2,rp _ _)] ⟨apw Q0g (Qiy N (⟨(⟨p0.Row.T,p0.Row.P,p0.Row.Liquid,p0.Row.Vapour,p0.Row.Silica⟩:GRow)⟩:Qhr) p1 _ hf1),tv⟩ ?_
  obtain⟨k10,hk_k10,h⟩:=jko h
  refine wjn (τ:=Int×Int×Int×Int×Int×Int×Int) (fun t=>k10 t=some r) (fun ⟨y3,y4,y5,y6,y7,y8,y9⟩=>⟨mk 87 [(2,.ref 0 5 0 0),(3,.ref 1 4 0 0),(4,.ref 2 10 0 0)],[(Qyw p0),(Qyv p1),(.own 10 [[I y3,I y4,I 0,I y5,I y6,I y7,I y8,I y9,I 0,I 0]])]⟩) (fun t h=>?_) ?_
  ·subst hk_k10
   obtain⟨y3,y4,y5,y6,y7,y8,y9⟩:=t
   obtain⟨x11,hl12,h⟩:=bno h
   refine wx tbk [(9,rp [(.tmp 52,I p1.Silica),(.tmp 59,(I (w64 (y6*p0.Row.Silica))))] (I x11))] ⟨Qfh hl12 (Qk0 rfl),tv⟩<|wxe<|wsq<|wxz ?_
   refine bfe h (fun hc13 h=>?_) fun hc13 h=>?_
   ·refine wft hc13 ?_
    obtain⟨x14,hl15,h⟩:=bno h
    refine wx1 tbk [(11,rp [ci 0,(.tmp 83,(I (w64 (y7-(w64 (y6*p0.Row.Liquid))))))] (I x14))] ⟨Qfh hl15 (Qqn rfl),tv⟩<|thn<|wxz<|Qae ?_
    obtain rfl:=osi h
    exact fie [(.agg [I y3,I y4,I 0,I y5,I y6,I y7,I x11,I y9,I x14,(I (w64 (p1.Silica-x11)))])] ⟨Qg9 (n:=2) (m:=10) (j:=0) (i:=0) (xs:=[[I y3,I y4,I 0,I y5,I y6,I y7,I x11,I y9,I x14,(I (w64 (p1.Silica-x11)))]]) (by kernel_rfl) (by kernel_rfl) Qq1 (by decide) rfl (nle rfl) rfl,tv⟩
   ·refine wfn hc13<|Qan<|thn<|wxz<|Qae ?_
    obtain rfl:=osi h
    exact fie [(.agg [I y3,I y4,I 0,I y5,I y6,I y7,I x11,I y9,I 0,(I (w64 (p1.Silica-x11)))])] ⟨Qg9 (n:=2) (m:=10) (j:=0) (i:=0) (xs:=[[I y3,I y4,I 0,I y5,I y6,I y7,I x11,I y9,I 0,(I (w64 (p1.Silica-x11)))]]) (by kernel_rfl) (by kernel_rfl) Qq1 (by decide) rfl (nle rfl) rfl,tv⟩
  ·skip
   refine Qag<|wxz ?_
   refine bfe h (fun hc16 h=>?_) fun hc16 h=>?_
   ·exact wft hc16<|wxz1<|bln<|thn<|⟨(0,0,0,p1.Mass,p1.Heat,p1.Silica,p1.Gas),h,(mto (n:=87) [(2,.ref 0 5 0 0),(3,.ref 1 4 0 0),(4,.ref 2 10 0 0)] [0,1,2] [(Qyw p0),(Qyv p1),(.own 10 [[I 0,I 0,I 0,I 0,I p1.Mass,I p1.Heat,I p1.Silica,I p1.Gas,I 0,I 0]])] hq (prr (prr (prr pn))) (qb (lcc (lcc (lc rwl ln))) (qb (lcc (lcc ln)) (qb (lcc (lcc (lcc (lcc (lcc ln))))) qn))))⟩
   ·refine wfn hc16<|wxz ?_
    refine bfe h (fun hc17 h=>?_) fun hc17 h=>?_
    ·exact wft hc17<|wx1 tbk [(5,rp _ _)] ⟨Qd6 (vs:=[I x2,I p1.Heat,I p1.Gas]) rfl Qzi Qwd rfl (by rfl) rfl,tv⟩<|bln<|thn<|⟨(x2,p1.Heat,p1.Gas,0,0,0,0),h,(mto (n:=87) [(2,.ref 0 5 0 0),(3,.ref 1 4 0 0),(4,.ref 2 10 0 0)] [0,1,2] [(Qyw p0),(Qyv p1),(.own 10 [[I x2,I p1.Heat,I 0,I p1.Gas,I 0,I 0,I 0,I 0,I 0,I 0]])] hq (prr (prr (prr pn))) (qb (lcc (lcc (lc rwl ln))) (qb (lcc (lcc ln)) (qb (lcc (lcc (lcc (lcc (lcc ln))))) qn))))⟩
    ·refine wfn hc17<|wx tbk [(8,rp _ _)] ⟨Qd6 (vs:=[I x2,(I (w64 (x2*p0.Row.Vapour))),I p1.Gas]) rfl Qzi Qwd rfl (by rfl) rfl,tv⟩ ?_
     exact wx1 tbk [(12,rp _ _)] ⟨Qd6 (vs:=[(I (w64 (p1.Mass-x2))),(I (w64 (p1.Heat-(w64 (x2*p0.Row.Vapour)))))]) rfl Qzi Qwd rfl (by rfl) rfl,tv⟩<|bln<|thn<|⟨(x2,w64 (x2*p0.Row.Vapour),p1.Gas,w64 (p1.Mass-x2),w64 (p1.Heat-(w64 (x2*p0.Row.Vapour))),0,0),h,(mto (n:=87) [(2,.ref 0 5 0 0),(3,.ref 1 4 0 0),(4,.ref 2 10 0 0)] [0,1,2] [(Qyw p0),(Qyv p1),(.own 10 [[I x2,(I (w64 (x2*p0.Row.Vapour))),I 0,I p1.Gas,(I (w64 (p1.Mass-x2))),(I (w64 (p1.Heat-(w64 (x2*p0.Row.Vapour))))),I 0,I 0,I 0,I 0]])] hq (prr (prr (prr pn))) (qb (lcc (lcc (lc rwl ln))) (qb (lcc (lcc ln)) (qb (lcc (lcc (lcc (lcc (lcc ln))))) qn))))⟩
def Qb6 (N:Nat) (p0:List Int) (p1:List GRow):Nat→Int→Int→Int→Int→Int→Option (List Qbm)
  |0,_,_,_,_,_=>none
  |n13+1,y1,y2,y3,y4,y5=>
    bif (decide (y1<(p0.length:Int))) then
     (getI p0 y1).bind fun x15=>
     (Qf5 N p1 x15).bind fun x20=>
     (Qez N (⟨(⟨x20.Row.T,x20.Row.P,x20.Row.Liquid,x20.Row.Vapour,x20.Row.Silica⟩:GRow)⟩:Qhr) (⟨y2,y3,y4,y5⟩:Qap)).bind fun x22=>
     yld (⟨(⟨x22.Steam.Mass,x22.Steam.Heat,x22.Steam.Silica,x22.Steam.Gas⟩:Qap),(⟨x22.Water.Mass,x22.Water.Heat,x22.Water.Silica,x22.Water.Gas⟩:Qap),x22.Rest,x22.Scale⟩:Qbm)<|
     Qb6 N p0 p1 n13 (w64 (y1+1)) x22.Water.Mass x22.Water.Heat x22.Water.Silica x22.Water.Gas
    else
     some ([])
def Qex (N:Nat) (p0:List Int) (p1:List GRow) (p2 p3:Int) (p4 p5:Int):Option (List Qbm):=
  Qb6 N p0 p1 N 0 p2 p3 p4 p5
abbrev Qve (p0:List Int):Slot:=.own 1 [[(.dat 1 (p0.map Qab))]]
abbrev Qvd (p1:List GRow):Slot:=.own 1 [[(.dat 5 (p1.map Qat))]]
def Qr3 (x22:Qbm):AV:=.agg [(I x22.Steam.Mass),(I x22.Steam.Heat),(I x22.Steam.Silica),(I x22.Steam.Gas),(I x22.Water.Mass),(I x22.Water.Heat),(I x22.Water.Silica),(I x22.Water.Gas),(I x22.Rest),(I x22.Scale)]
def Q1z (x22:Qbm):Slot:=.own 10 [[(I x22.Steam.Mass),(I x22.Steam.Heat),(I x22.Steam.Silica),(I x22.Steam.Gas),(I x22.Water.Mass),(I x22.Water.Heat),(I x22.Water.Silica),(I x22.Water.Gas),(I x22.Rest),(I x22.Scale)]]
theorem Qh4 (N:Nat) (p0:List Int) (p1:List GRow) (p2 p3:Int) (p4 p5:Int) (r:List Qbm) (h:Qex N p0 p1 p2 p3 p4 p5=some r):Qm2 prog 183 [(.ref 0 1 (0) 0),(.ref 1 1 (0) 0),(.ref 2 4 (0) 0)] [(Qve p0),(Qvd p1),(.own 4 [[(I p2),(I p3),(I p4),(I p5)]])] (fun x=>[(.agg #[(.int .i64 x.Steam.Mass),(.int .i64 x.Steam.Heat),(.int .i64 x.Steam.Silica),(.int .i64 x.Steam.Gas),(.int .i64 x.Water.Mass),(.int .i64 x.Water.Heat),(.int .i64 x.Water.Silica),(.int .i64 x.Water.Gas),(.int .i64 x.Rest),(.int .i64 x.Scale)])]) r:=by
  refine Qnc func183 rfl rfl (fun X φ0 w0 l J hq hy=>?_)
  unfold Qex at h
  refine wx tbk [(1,rp _ _)] ⟨alq 1 Qab p0 underlying22,tv⟩<|Qag ?_
  refine wmr (mto (n:=26) (l':=[(0,(.lit (.func (.yield l) #[] #[]))),(2,.ref 1 1 0 0),(3,.ref 2 4 0 0),(8,(.dat 1 (p0.map Qab))),(9,(I ((p0.length:Int)))),(10,I 0)]) (own':=[(Qve p0),(Qvd p1),(.own 4 [[I p2,I p3,I p4,I p5]]),(.far (J (some r)))]) [(0,(.lit (.func (.yield l) #[] #[]))),(2,.ref 1 1 0 0),(3,.ref 2 4 0 0),(8,(.dat 1 (p0.map Qab))),(9,(I ((p0.length:Int)))),(10,I 0)] [0,1,2,3] [(Qve p0),(Qvd p1),(.own 4 [[I p2,I p3,I p4,I p5]]),(.far (J (some r)))] hq (pw (prr (prr (pc (rnd Qad) (pw (pw pn)))))) (qb (lc (rnd Qad) ln) (qb (lc (rnd Qbn) ln) (qb (lcc (lcc ln)) (qc (.far _) qn))))) ?_
  refine Qb8 (τ:=(Int×Int×Int×Int×Int)×List Qbm) (fun n t=>Qb6 N p0 p1 n t.1.1 t.1.2.1 t.1.2.2.1 t.1.2.2.2.1 t.1.2.2.2.2=some t.2) (fun ⟨⟨y1,y2,y3,y4,y5⟩,q6⟩=>⟨mk 26 [(0,(.lit (.func (.yield l) #[] #[]))),(2,.ref 1 1 0 0),(3,.ref 2 4 0 0),(8,(.dat 1 (p0.map Qab))),(9,(I ((p0.length:Int)))),(10,I y1)],[(Qve p0),(Qvd p1),(.own 4 [[I y2,I y3,I y4,I y5]]),(.far (J (some q6)))]⟩) (fun t h=>by rw[Qb6] at h;cases h) (fun n13 ih t h=>?_) N ((0,p2,p3,p4,p5),r) h
  obtain⟨⟨y1,y2,y3,y4,y5⟩,q6⟩:=t
  rw[Qb6] at h
  try dsimp only at h
  refine wxz<|wsq ?_
  refine bfe h (fun hc14 h=>?_) fun hc14 h=>?_
  ·refine wft hc14<|Qan<|thn<|wsq<|Qag ?_
   obtain⟨x15,hg16,h⟩:=bno h
   obtain⟨hi17,hj18⟩:=gsm hg16
   refine wx tbk [(0,rp _ _)] ⟨aiq underlying22 ti3 Qab hi17 hj18,tv⟩ ?_
   obtain⟨x20,hf19,h⟩:=bno h
   obtain⟨x22,hf21,h⟩:=bno h
   refine wxd tbk [(2,rp _ _),(4,rp _ _)] ⟨apw Q0r (Qkk N p1 x15 _ hf19),apw Q0q (Qkj N (⟨(⟨x20.Row.T,x20.Row.P,x20.Row.Liquid,x20.Row.Vapour,x20.Row.Silica⟩:GRow)⟩:Qhr) (⟨y2,y3,y4,y5⟩:Qap) _ hf21),tv⟩<|wsq ?_
   obtain⟨q23,hy_,hq_⟩:=Qv6 h
   clear h
   subst hq_
   have h:=hy_
   clear hy_
   refine Qtb 2 [mv 0 (.lit (.func (.yield l) #[] #[])),rb [(.tmp 7,.ref 4 10 0 0)] [(4,(Q1z x22))] (Qr3 x22),⟨[(.tmp 19,(.lit (.func (.yield l) #[] #[]))),(.tmp 20,(Qr3 x22))],[(3,(.far (J (some ((⟨(⟨x22.Steam.Mass,x22.Steam.Heat,x22.Steam.Silica,x22.Steam.Gas⟩:Qap),(⟨x22.Water.Mass,x22.Water.Heat,x22.Water.Silica,x22.Water.Gas⟩:Qap),x22.Rest,x22.Scale⟩:Qbm)::q23)))))],B true,[(3,(.far (J (some q23))))],false⟩,rp [(.tmp 21,B true)] (B false)] [mv 0 (.lit (.func (.yield l) #[] #[])),rb [(.tmp 7,.ref 4 10 0 0)] [(4,(Q1z x22))] (Qr3 x22),⟨[(.tmp 19,(.lit (.func (.yield l) #[] #[]))),(.tmp 20,(Qr3 x22))],[(3,(.far (J (some ((⟨(⟨x22.Steam.Mass,x22.Steam.Heat,x22.Steam.Silica,x22.Steam.Gas⟩:Qap),(⟨x22.Water.Mass,x22.Water.Heat,x22.Water.Silica,x22.Water.Gas⟩:Qap),x22.Rest,x22.Scale⟩:Qbm)::q23)))))],B false,[(3,(.far (J none)))],false⟩,rp [(.tmp 21,B false)] (B true)] (by exact⟨by kernel_rfl,by kernel_rfl⟩) (by exact⟨by kernel_rfl,by kernel_rfl⟩) rfl rfl rfl rfl (Qmz (rd':=(.tmp 19,.lit (.func (.yield l) #[] #[]))::[(.tmp 20,.lit (.agg #[(.int .i64 (((⟨(⟨x22.Steam.Mass,x22.Steam.Heat,x22.Steam.Silica,x22.Steam.Gas⟩:Qap),(⟨x22.Water.Mass,x22.Water.Heat,x22.Water.Silica,x22.Water.Gas⟩:Qap),x22.Rest,x22.Scale⟩:Qbm).Steam).Mass)),(.int .i64 (((⟨(⟨x22.Steam.Mass,x22.Steam.Heat,x22.Steam.Silica,x22.Steam.Gas⟩:Qap),(⟨x22.Water.Mass,x22.Water.Heat,x22.Water.Silica,x22.Water.Gas⟩:Qap),x22.Rest,x22.Scale⟩:Qbm).Steam).Heat)),(.int .i64 (((⟨(⟨x22.Steam.Mass,x22.Steam.Heat,x22.Steam.Silica,x22.Steam.Gas⟩:Qap),(⟨x22.Water.Mass,x22.Water.Heat,x22.Water.Silica,x22.Water.Gas⟩:Qap),x22.Rest,x22.Scale⟩:Qbm).Steam).Silica)),(.int .i64 (((⟨(⟨x22.Steam.Mass,x22.Steam.Heat,x22.Steam.Silica,x22.Steam.Gas⟩:Qap),(⟨x22.Water.Mass,x22.Water.Heat,x22.Water.Silica,x22.Water.Gas⟩:Qap),x22.Rest,x22.Scale⟩:Qbm).Steam).Gas)),(.int .i64 (((⟨(⟨x22.Steam.Mass,x22.Steam.Heat,x22.Steam.Silica,x22.Steam.Gas⟩:Qap),(⟨x22.Water.Mass,x22.Water.Heat,x22.Water.Silica,x22.Water.Gas⟩:Qap),x22.Rest,x22.Scale⟩:Qbm).Water).Mass)),(.int .i64 (((⟨(⟨x22.Steam.Mass,x22.Steam.Heat,x22.Steam.Silica,x22.Steam.Gas⟩:Qap),(⟨x22.Water.Mass,x22.Water.Heat,x22.Water.Silica,x22.Water.Gas⟩:Qap),x22.Rest,x22.Scale⟩:Qbm).Water).Heat)),(.int .i64 (((⟨(⟨x22.Steam.Mass,x22.Steam.Heat,x22.Steam.Silica,x22.Steam.Gas⟩:Qap),(⟨x22.Water.Mass,x22.Water.Heat,x22.Water.Silica,x22.Water.Gas⟩:Qap),x22.Rest,x22.Scale⟩:Qbm).Water).Silica)),(.int .i64 (((⟨(⟨x22.Steam.Mass,x22.Steam.Heat,x22.Steam.Silica,x22.Steam.Gas⟩:Qap),(⟨x22.Water.Mass,x22.Water.Heat,x22.Water.Silica,x22.Water.Gas⟩:Qap),x22.Rest,x22.Scale⟩:Qbm).Water).Gas)),(.int .i64 ((⟨(⟨x22.Steam.Mass,x22.Steam.Heat,x22.Steam.Silica,x22.Steam.Gas⟩:Qap),(⟨x22.Water.Mass,x22.Water.Heat,x22.Water.Silica,x22.Water.Gas⟩:Qap),x22.Rest,x22.Scale⟩:Qbm).Rest)),(.int .i64 ((⟨(⟨x22.Steam.Mass,x22.Steam.Heat,x22.Steam.Silica,x22.Steam.Gas⟩:Qap),(⟨x22.Water.Mass,x22.Water.Heat,x22.Water.Silica,x22.Water.Gas⟩:Qap),x22.Rest,x22.Scale⟩:Qbm).Scale))]))]) ⟨rfl,lrf,rfl,(Less.lits [(.int .i64 x22.Steam.Mass),(.int .i64 x22.Steam.Heat),(.int .i64 x22.Steam.Silica),(.int .i64 x22.Steam.Gas),(.int .i64 x22.Water.Mass),(.int .i64 x22.Water.Heat),(.int .i64 x22.Water.Silica),(.int .i64 x22.Water.Gas),(.int .i64 x22.Rest),(.int .i64 x22.Scale)]),tv⟩ (Qlj (x:=(⟨(⟨x22.Steam.Mass,x22.Steam.Heat,x22.Steam.Silica,x22.Steam.Gas⟩:Qap),(⟨x22.Water.Mass,x22.Water.Heat,x22.Water.Silica,x22.Water.Gas⟩:Qap),x22.Rest,x22.Scale⟩:Qbm)) (rest:=q23) rfl rfl hy rfl)) (⟨fun _ _=>amv rfl,fun _ _=>ald rfl Qq1 (by decide) rfl (nle rfl) rfl,fun _ h=>absurd rfl h,fun _ _=>Qjf rfl,tv⟩) (⟨fun _ _=>amv rfl,fun _ _=>ald rfl Qq1 (by decide) rfl (nle rfl) rfl,fun _ h=>absurd rfl h,fun _ _=>Qjf rfl,tv⟩) ?_ ?_
   ·skip
    exact wfa<|Qan<|thn<|wxz1<|bln<|thn<|wxz1<|thn<|arm (mto (n:=26) [(0,(.lit (.func (.yield l) #[] #[]))),(2,.ref 1 1 0 0),(3,.ref 2 4 0 0),(8,(.dat 1 (p0.map Qab))),(9,(I ((p0.length:Int)))),(10,(I (w64 (y1+1))))] [0,1,2,3] [(Qve p0),(Qvd p1),(.own 4 [[I x22.Water.Mass,I x22.Water.Heat,I x22.Water.Silica,I x22.Water.Gas]]),(.far (J (some q23)))] hq (pw (prr (prr (pc (rnd Qad) (pw (pw pn)))))) (qb (lc (rnd Qad) ln) (qb (lc (rnd Qbn) ln) (qb (lcc (lcc ln)) (qc (.far _) qn))))) (ih ((w64 (y1+1),x22.Water.Mass,x22.Water.Heat,x22.Water.Silica,x22.Water.Gas),q23) h)
   ·clear h
    exact wtr<|Qae<|Qak<|Qa3<|Qak<|Qak<|Qa3<|Or.inr (by kernel_rfl)
  ·refine wfn hc14<|Qbi<|Qaw<|Qaw<|Qbh rfl ?_
   obtain rfl:=osi h
   exact Or.inl rfl
def Qaq (N:Nat) (k3:(List Qbm)→Option (List Qbm)):(List Qbm)→(List Qbm)→Option (List Qbm)
  |[],y6=>
    k3 (y6)
  |x9::q10,y6=>
    chk (decide ((y6.length+([(⟨(⟨x9.Steam.Mass,x9.Steam.Heat,x9.Steam.Silica,x9.Steam.Gas⟩:Qap),(⟨x9.Water.Mass,x9.Water.Heat,x9.Water.Silica,x9.Water.Gas⟩:Qap),x9.Rest,x9.Scale⟩:Qbm)]).length)*80≤140737488355328))<|
    Qaq N k3 q10 (y6++([(⟨(⟨x9.Steam.Mass,x9.Steam.Heat,x9.Steam.Silica,x9.Steam.Gas⟩:Qap),(⟨x9.Water.Mass,x9.Water.Heat,x9.Water.Silica,x9.Water.Gas⟩:Qap),x9.Rest,x9.Scale⟩:Qbm)]))
def Qbt (N:Nat) (p0:List Int) (p1:List GRow) (p2 p3:Int) (p4 p5:Int):Option (List Qbm):=
  Qb5 (fun y2=>
    some y2) fun k3:(List Qbm)→Option (List Qbm)=>
  (Qex N p0 p1 p2 p3 p4 p5).bind fun q4=>
  Qaq N k3 q4 ([])
abbrev Q2v:AV:=.fn (.func 183) [] [(.ref 0 1 (0) 0),(.ref 1 1 (0) 0),(.ref 2 4 (0) 0)]
abbrev Qyz (p0:List Int):Slot:=.own 1 [[(.dat 1 (p0.map Qab))]]
abbrev Qyy (p1:List GRow):Slot:=.own 1 [[(.dat 5 (p1.map Qat))]]
abbrev Qyx (p2 p3:Int) (p4 p5:Int):Slot:=.own 4 [[(I p2),(I p3),(I p4),(I p5)]]
def Q12 (x9:Qbm):AV:=.agg [(I x9.Steam.Mass),(I x9.Steam.Heat),(I x9.Steam.Silica),(I x9.Steam.Gas),(I x9.Water.Mass),(I x9.Water.Heat),(I x9.Water.Silica),(I x9.Water.Gas),(I x9.Rest),(I x9.Scale)]
def Q11 (x9:Qbm):AV:=.dat 10 (([(⟨(⟨x9.Steam.Mass,x9.Steam.Heat,x9.Steam.Silica,x9.Steam.Gas⟩:Qap),(⟨x9.Water.Mass,x9.Water.Heat,x9.Water.Silica,x9.Water.Gas⟩:Qap),x9.Rest,x9.Scale⟩:Qbm)]:List Qbm).map Qcw)
def Q10 (y6:List Qbm) (x9:Qbm):AV:=.acc 7 178 10 ((y6++([(⟨(⟨x9.Steam.Mass,x9.Steam.Heat,x9.Steam.Silica,x9.Steam.Gas⟩:Qap),(⟨x9.Water.Mass,x9.Water.Heat,x9.Water.Silica,x9.Water.Gas⟩:Qap),x9.Rest,x9.Scale⟩:Qbm)]):List Qbm).map Qcw)
theorem Qew (N:Nat) (p0:List Int) (p1:List GRow) (p2 p3:Int) (p4 p5:Int) (r:List Qbm) (h:Qbt N p0 p1 p2 p3 p4 p5=some r):Spec prog 182 [nilS,Q2v] [(Qyz p0),(Qyy p1),(Qyx p2 p3 p4 p5)] (.dat 10 (r.map Qcw)) [.dead,.dead,.dead]:=by
  refine sF func182 3 fun _ _ _ hq hd0=>?_
  unfold Qbt at h
  refine wxz ?_
  obtain⟨k3,hk_k3,h⟩:=jko h
  refine wjn (τ:=(List Qbm)) (fun t=>k3 t=some r) (fun y2=>⟨mk 13 [(2,.ref 3 1 0 0)],[.dead,.dead,.dead,(.own 1 [[(.acc 4 178 10 (y2.map Qcw))]]),.tok]⟩) (fun y2 h=>?_) ?_
  ·subst hk_k3
   refine wxz<|wmr (mto (n:=13) (l':=[(4,(.dat 10 (y2.map Qcw)))]) (own':=[.dead,.dead,.dead]) [(4,(.acc 4 178 10 (y2.map Qcw)))] [0,1,2] [.dead,.dead,.dead] hq (pc (.dat _ _ _ _ (Qdw Qfo _)) pn) (qc .dead (qc .dead (qc .dead qn))))<|Qae ?_
   obtain rfl:=osi h
   exact⟨_,Mor.rfl,fio [(.dat 10 (y2.map Qcw))] ⟨rot,tv⟩⟩
  ·skip
   refine wxz<|Qag ?_
   obtain⟨q4,hL5,h⟩:=bno h
   refine wmr (mto (n:=13) (l':=[(2,.ref 3 1 0 0),(6,Q2v)]) (own':=[(Qyz p0),(Qyy p1),(Qyx p2 p3 p4 p5),(.own 1 [[nilS]])]) [(2,.ref 3 1 0 0),(6,Q2v)] [0,1,2,3] [(Qyz p0),(Qyy p1),(Qyx p2 p3 p4 p5),(.own 1 [[nilS]])] hq (prr (pc (.rn (Qau rn0 (rnc (rqr rfl) (rnc (rqr rfl) (rnc (rqr rfl) rn0))))) pn)) (qb (lc (rnd Qad) ln) (qb (lc (rnd Qbn) ln) (qb (lcc (lcc ln)) (qb (lc rwl ln) qn))))) ?_
   refine wmr (Qsf (n:=4) (ty:=178) (m:=10) (q:=3) (mq:=1) (c:=[nilS]) 0 (by kernel_rfl) (by kernel_rfl) (by kernel_rfl) (by decide)) ?_
   refine Qnr (τ:=((List Qbm))) (kb:=4) (caps:=[.ref 0 1 0 0,.ref 1 1 0 0,.ref 2 4 0 0]) (σr:=[(Qyz p0),(Qyy p1),(Qyx p2 p3 p4 p5)]) (encs:=fun x=>[(.agg #[(.int .i64 x.Steam.Mass),(.int .i64 x.Steam.Heat),(.int .i64 x.Steam.Silica),(.int .i64 x.Steam.Gas),(.int .i64 x.Water.Mass),(.int .i64 x.Water.Heat),(.int .i64 x.Water.Silica),(.int .i64 x.Water.Gas),(.int .i64 x.Rest),(.int .i64 x.Scale)])]) (fun x=>[(.agg [I x.Steam.Mass,I x.Steam.Heat,I x.Steam.Silica,I x.Steam.Gas,I x.Water.Mass,I x.Water.Heat,I x.Water.Silica,I x.Water.Gas,I x.Rest,I x.Scale])]) [0,1,2] (fun n hn=>hq n (Nat.le_trans (nle rfl) hn)) hd0 (Qh4 N p0 p1 p2 p3 p4 p5 _ hL5) Q0s (by kernel_rfl) (by kernel_rfl) (Qco (rnc (Qft rfl) (rnc (Qft rfl) (rnc (Qft rfl) rn0)))) (slc (Qar (rnc (pld Qad) rn0)) (slc (Qar (rnc (pld Qbn) rn0)) (slc (Qar (rncc (rncc rn0))) Qas))) (by kernel_rfl) (fun _=>rfl) (fun x=>⟨(Less.unlits [(.int .i64 x.Steam.Mass),(.int .i64 x.Steam.Heat),(.int .i64 x.Steam.Silica),(.int .i64 x.Steam.Gas),(.int .i64 x.Water.Mass),(.int .i64 x.Water.Heat),(.int .i64 x.Water.Silica),(.int .i64 x.Water.Gas),(.int .i64 x.Rest),(.int .i64 x.Scale)]),tv⟩) (Q2l (Qlu (NLt.ref _ _ _ _ (by decide)) (Qlu (NLt.fn _ _ _ nl0 (nlc (NLt.ref _ _ _ _ (by decide)) (nlc (NLt.ref _ _ _ _ (by decide)) (nlc (NLt.ref _ _ _ _ (by decide)) nl0)))) Qw0))) (fun y6=>[.dead,.dead,.dead,(.own 1 [[(.acc 4 178 10 (y6.map Qcw))]]),.tok]) (fun _=>rfl) (fun _=>rfl) (fun l t=>Qaq N k3 l t=some r) ([]) h (by kernel_rfl) ?_ ?_
   ·intro l11 o12 X15 φ16 w17 hφ14 x9 q10 y6 h
    rw[Qaq] at h
    refine wxz1 ?_
    refine⟨by kernel_rfl,fun o13=>?_⟩
    refine Qag ?_
    obtain⟨ha18,h⟩:=cko h
    refine wx1 tbk [(2,rp [(.tmp 9,(Q12 x9))] (Q11 x9)),(3,⟨[(.tmp 8,(.acc 4 178 10 (y6.map Qcw))),(.tmp 10,(Q11 x9))],[(4,.tok),(7,.unused)],(Q10 y6 x9),[(4,.dead),(7,.tok)],false⟩)] ⟨Qd0 (vs:=[(Q12 x9)]) rfl underlying174 Qq1 Q6a rfl (by decide) rfl (by decide) (by rfl) (by rfl) (by rfl) rfl,Qfv rfl underlying174 Q7t (Base.acc _ _) rfl rfl (by rfl) (Qj5 Qcw ha18) (Qj4 Qcw ha18 (by decide)) (Qj3 Qcw) rfl rfl,tv⟩<|bln ?_
    exact⟨(y6++([(⟨(⟨x9.Steam.Mass,x9.Steam.Heat,x9.Steam.Silica,x9.Steam.Gas⟩:Qap),(⟨x9.Water.Mass,x9.Water.Heat,x9.Water.Silica,x9.Water.Gas⟩:Qap),x9.Rest,x9.Scale⟩:Qbm)])),h,Q2j (own':=[.dead,.dead,.dead,(.own 1 [[(.acc 4 178 10 (((y6++([(⟨(⟨x9.Steam.Mass,x9.Steam.Heat,x9.Steam.Silica,x9.Steam.Gas⟩:Qap),(⟨x9.Water.Mass,x9.Water.Heat,x9.Water.Silica,x9.Water.Gas⟩:Qap),x9.Rest,x9.Scale⟩:Qbm)])):List Qbm).map Qcw))]]),.tok,(.far (farL l11 o13))]) [0,1,2,3,7,5] [.dead,.dead,.dead,(.own 1 [[(Q10 y6 x9)]]),.tok,(.far (farL l11 o13))] (by kernel_rfl) (by kernel_rfl) ⟨.dead,.dead,.dead,(spb (lc (.rn (Qe1 rfl (Qdw Qfo _))) ln)),.tok,.far _,tv⟩⟩
   ·intro y6 h
    rw[Qaq] at h
    exact bln<|thn<|⟨(y6),h,(mto (n:=13) [(2,.ref 3 1 0 0)] [0,1,2,3,4] [.dead,.dead,.dead,(.own 1 [[(.acc 4 178 10 (y6.map Qcw))]]),.tok] hq (prr pn) (qc .dead (qc .dead (qc .dead (qb (lc (.rn (Qe1 rfl (Qdw Qfo _))) ln) (qc .tok qn))))))⟩
def Qb9 (N:Nat) (p0:List Int) (p1:List GRow) (p2 p3:Int) (p4 p5:Int):Option (List Qbm):=
  (Qbt N p0 p1 p2 p3 p4 p5).bind fun x3=>
  some x3
abbrev Q5e:AV:=.fn (.func 183) [] [(.ref 0 1 (0) 0),(.ref 1 1 (0) 0),(.ref 2 4 (0) 0)]
abbrev Q5d (p0:List Int):Slot:=.own 1 [[(.dat 1 (p0.map Qab))]]
abbrev Q5c (p1:List GRow):Slot:=.own 1 [[(.dat 5 (p1.map Qat))]]
def Qy0 (x3:List Qbm):AV:=.dat 10 (x3.map Qcw)
theorem Qge (N:Nat) (p0:List Int) (p1:List GRow) (p2 p3:Int) (p4 p5:Int) (r:List Qbm) (h:Qb9 N p0 p1 p2 p3 p4 p5=some r):Spec prog 130 [Q5e] [(Q5d p0),(Q5c p1),(.own 4 [[(I p2),(I p3),(I p4),(I p5)]])] (.dat 10 (r.map Qcw)) [.dead,.dead,.dead]:=by
  refine sF func130 3 fun _ _ _ hq hd0=>?_
  unfold Qb9 at h
  refine wxz ?_
  obtain⟨x3,hf2,h⟩:=bno h
  refine wx tbk [(1,⟨_,_,_,_,false⟩)] ⟨acq [nilS,Q5e] [(Q5d p0),(Q5c p1),(.own 4 [[I p2,I p3,I p4,I p5]])] [.dead,.dead,.dead] (Qy0 x3) [0,1,2] Q0t (Qew N p0 p1 p2 p3 p4 p5 _ hf2) (Qco (rnc (.plain _ nll) (rnc (Qau rn0 (rnc (Qby rfl) (rnc (Qby rfl) (rnc (Qby rfl) rn0)))) rn0))) (slc (Qar (rnc (pld Qad) rn0)) (slc (Qar (rnc (pld Qbn) rn0)) (slc (Qar (rncc (rncc rn0))) Qas))) (slc .dead (slc .dead (slc .dead Qas))) (pld Qfo),tv⟩ ?_
  refine wmr (mto (n:=5) (l':=[(2,(Qy0 x3))]) (own':=[.dead,.dead,.dead]) [(2,(Qy0 x3))] [0,1,2] [.dead,.dead,.dead] hq (pc (rnd Qfo) pn) (qc .dead (qc .dead (qc .dead qn))))<|Qae ?_
  obtain rfl:=osi h
  exact⟨_,Mor.rfl,fio [(Qy0 x3)] ⟨rot,tv⟩⟩
def Qdh (N:Nat) (p1:List Int) (k5:Unit→Option ((List Qbm)×Int)):Nat→Int→Option ((List Qbm)×Int)
  |0,_=>none
  |n16+1,y14=>
    bif (decide (y14<((p1.drop (1:Int).toNat).length:Int))) then
     (getI p1 (w64 (y14+1))).bind fun x18=>
     (getI p1 y14).bind fun x22=>
     bif (decide (x18≥x22)) then
      some ([],2)
     else
      Qdh N p1 k5 n16 (w64 (y14+1))
    else
     k5 ()
def Qgn (N:Nat) (p0:List GRow) (p1:List Int) (p2:Qap):Option ((List Qbm)×Int):=
  (Qen N p0).bind fun x2=>
  bif (!x2) then
   some ([],1)
  else
   Qb5 (fun _=>
     Qb5 (fun _=>
       (Qdv N p2).bind fun x7=>
       bif (!x7) then
        some ([],1)
       else
        (Qd7 N p0 p1 p2).bind fun _=>
        (Qb9 N p1 p0 p2.Mass p2.Heat p2.Silica p2.Gas).bind fun x12=>
        some (x12,0)) fun k5:Unit→Option ((List Qbm)×Int)=>
     chk (decide (0≤1)&&decide (1≤(p1.length:Int))&&decide ((p1.length:Int)≤(p1.length:Int)))<|
     Qdh N p1 k5 N 0) fun k4:Unit→Option ((List Qbm)×Int)=>
   (Qci N (p1.length:Int) 1 20).bind fun x28=>
   bif (!x28) then
    some ([],2)
   else
    (Qe8 N p1 p0).bind fun x31=>
    bif (!x31) then
     some ([],2)
    else
     k4 ()
def Qvk:AV:=.dat 10 (([]:List Qbm).map Qcw)
def Q28 (p0:List GRow):AV:=.fn (.func 126) [(.dat 5 (p0.map Qat))] []
def Qm3 (p2:Qap):Slot:=.own 4 [[(I p2.Mass),(I p2.Heat),(I p2.Silica),(I p2.Gas)]]
def Q69 (p2:Qap):AV:=.agg [(I p2.Mass),(I p2.Heat),(I p2.Silica),(I p2.Gas)]
def Q5l:AV:=.fn (.func 183) [] [(.ref 1 1 (0) 0),(.ref 2 1 (0) 0),(.ref 3 4 (0) 0)]
def Q5n (p1:List Int):Slot:=.own 1 [[(.dat 1 (p1.map Qab))]]
def Q5m (p0:List GRow):Slot:=.own 1 [[(.dat 5 (p0.map Qat))]]
def Q68 (p1:List Int):AV:=.dat 1 ((p1.drop (1:Int).toNat:List Int).map Qab)
def Q27 (p1:List Int) (x28:Bool):List (Nat×Rec):=[(1,rp [((.tmp 15),(.dat 1 (p1.map Qab)))] (I ((p1.length:Int)))),(2,rp [fu 127,((.tmp 16),(I ((p1.length:Int)))),ci 1,ci 20] (B x28))]
theorem Ql8 (N:Nat) (p0:List GRow) (p1:List Int) (p2:Qap) (r:((List Qbm)×Int)) (h:Qgn N p0 p1 p2=some r):Spec prog 75 [(.dat 5 (p0.map Qat)),(.dat 1 (p1.map Qab)),(.agg (Qet p2))] [] (.tup [(.dat 10 (r.1.map Qcw)),(I r.2)]) []:=by
  refine sA func75 0 fun _ _ _ hq hd0=>?_
  unfold Qgn at h
  refine wxz<|wsq ?_
  obtain⟨x2,hf1,h⟩:=bno h
  refine wx tbk [(1,rp _ _)] ⟨apw Q1d (Qi0 N p0 _ hf1),tv⟩ ?_
  refine bfe h (fun hc3 h=>?_) fun hc3 h=>?_
  ·refine wft hc3<|wxz<|Qae<|Qak ?_
   obtain rfl:=osi h
   exact fie [Qvk,I 1] ⟨Qd3 (v:=nilS) rot Less.nil,rot,tv⟩
  ·refine wfn hc3<|Qan<|thn ?_
   refine wx tbk [(1,rp [(.tmp 13,(.dat 5 (p0.map Qat)))] (Q28 p0))] ⟨Qe4 (fs:=[(.dat 5 (p0.map Qat))]) (cs:=[]) rfl rfl rfl rfl,tv⟩ ?_
   obtain⟨k4,hk_k4,h⟩:=jko h
   refine wjn (τ:=Unit) (fun t=>k4 t=some r) (fun _=>⟨mk 50 [(0,(.dat 5 (p0.map Qat))),(1,(.dat 1 (p1.map Qab))),(5,.ref 0 4 0 0)],[(Qm3 p2)]⟩) (fun t h=>?_) ?_
   ·subst hk_k4
    obtain⟨k5,hk_k5,h⟩:=jko h
    refine wjn (τ:=Unit) (fun t=>k5 t=some r) (fun _=>⟨mk 50 [(0,(.dat 5 (p0.map Qat))),(1,(.dat 1 (p1.map Qab))),(5,.ref 0 4 0 0)],[(Qm3 p2)]⟩) (fun t h=>?_) ?_
    ·subst hk_k5
     refine wsq ?_
     obtain⟨x7,hf6,h⟩:=bno h
     refine wx tbk [(1,rp _ _)] ⟨apw Q1a (Qin N p2 _ hf6),tv⟩ ?_
     refine bfe h (fun hc8 h=>?_) fun hc8 h=>?_
     ·refine wft hc8<|wxz<|Qae<|Qak ?_
      obtain rfl:=osi h
      exact fie [Qvk,I 1] ⟨Qd3 (v:=nilS) rot Less.nil,rot,tv⟩
     ·refine wfn hc8<|Qan<|thn ?_
      obtain⟨x10,hf9,h⟩:=bno h
      obtain⟨x12,hf11,h⟩:=bno h
      refine wx tbk [(3,⟨_,_,_,_,false⟩),(4,⟨_,_,_,_,false⟩)] ⟨acq [(.dat 5 (p0.map Qat)),(.dat 1 (p1.map Qab)),(Q69 p2)] [] [(Q5n p1),(Q5m p0),(Qm3 p2)] Q5l [1,2,3] Q08 (Qh5 N p0 p1 p2 _ hf9) (Qco (rnc (pld Qbn) (rnc (pld Qad) (rnc (.plain _ (NLt.agg _ (nlcc (nlcc nl0)))) rn0)))) Qas (slc (Qar (rnc (pld Qad) rn0)) (slc (Qar (rnc (pld Qbn) rn0)) (slc (Qar (rncc (rncc rn0))) Qas))) (Qau rn0 (rnc (Qft rfl) (rnc (Qft rfl) (rnc (Qft rfl) rn0)))),acq [Q5l] [(Q5n p1),(Q5m p0),(Qm3 p2)] [.dead,.dead,.dead] (.dat 10 (x12.map Qcw)) [1,2,3] Q09 (Qge N p1 p0 p2.Mass p2.Heat p2.Silica p2.Gas _ hf11) (Qco (rnc (Qau rn0 (rnc (Qby rfl) (rnc (Qby rfl) (rnc (Qby rfl) rn0)))) rn0)) (slc (Qar (rnc (pld Qad) rn0)) (slc (Qar (rnc (pld Qbn) rn0)) (slc (Qar (rncc (rncc rn0))) Qas))) (slc .dead (slc .dead (slc .dead Qas))) (pld Qfo),tv⟩<|Qae ?_
      obtain rfl:=osi h
      exact fie [(.dat 10 (x12.map Qcw)),I 0] ⟨rot,rot,tv⟩
    ·skip
     obtain⟨hs13,h⟩:=cko h
     refine wx tbk [(1,rp [(.tmp 25,(.dat 1 (p1.map Qab))),ci 1] (Q68 p1)),(2,rp _ _)] ⟨Qje (k:=.i64) (k':=.i64) (lo:=some (.const (.int .i64 1))) (hi:=none) (l:=1) (hh:=((p1.length:Nat):Int)) rfl underlying22 ti3 rfl (fun e=>nomatch e) (fun _=>by simp) (Quv hs13) (Quu hs13) (Q48 Qab hs13) (Q6f Qab),alq 1 Qab (p1.drop (1:Int).toNat) underlying22,tv⟩<|Qag ?_
     refine wmr (mto (n:=50) (l':=[(0,(.dat 5 (p0.map Qat))),(1,(.dat 1 (p1.map Qab))),(5,.ref 0 4 0 0),(27,(I (((p1.drop (1:Int).toNat).length:Int)))),(28,I 0)]) (own':=[(Qm3 p2)]) [(0,(.dat 5 (p0.map Qat))),(1,(.dat 1 (p1.map Qab))),(5,.ref 0 4 0 0),(27,(I (((p1.drop (1:Int).toNat).length:Int)))),(28,I 0)] [0] [(Qm3 p2)] hq (pc (rnd Qbn) (pc (rnd Qad) (prr (pw (pw pn))))) (qb (lcc (lcc ln)) qn)) ?_
     refine Qb8 (τ:=Int) (fun n t=>Qdh N p1 k5 n t=some r) (fun y14=>⟨mk 50 [(0,(.dat 5 (p0.map Qat))),(1,(.dat 1 (p1.map Qab))),(5,.ref 0 4 0 0),(27,(I (((p1.drop (1:Int).toNat).length:Int)))),(28,I y14)],[(Qm3 p2)]⟩) (fun t h=>by rw[Qdh] at h;cases h) (fun n16 ih y14 h=>?_) N (0) h
     rw[Qdh] at h
     skip
     refine wxz<|wsq ?_
     refine bfe h (fun hc17 h=>?_) fun hc17 h=>?_
     ·refine wft hc17<|Qan<|thn<|wsq<|Qag<|wxz ?_
      obtain⟨x18,hg19,h⟩:=bno h
      obtain⟨hi20,hj21⟩:=gsm hg19
      obtain⟨x22,hg23,h⟩:=bno h
      obtain⟨hi24,hj25⟩:=gsm hg23
      refine wxd tbk [(3,rp _ _),(7,rp _ _)] ⟨aiq underlying22 ti3 Qab hi20 hj21,aiq underlying22 ti3 Qab hi24 hj25,tv⟩ ?_
      refine bfe h (fun hc26 h=>?_) fun hc26 h=>?_
      ·refine wft hc26<|wxz<|Qae<|Qa3<|Qak<|Qak<|Qa3<|Qak ?_
       obtain rfl:=osi h
       exact fie [Qvk,I 2] ⟨Qd3 (v:=nilS) rot Less.nil,rot,tv⟩
      ·exact wfn hc26<|Qan<|bln<|thn<|wxz1<|thn<|arm (mto (n:=50) [(0,(.dat 5 (p0.map Qat))),(1,(.dat 1 (p1.map Qab))),(5,.ref 0 4 0 0),(27,(I (((p1.drop (1:Int).toNat).length:Int)))),(28,(I (w64 (y14+1))))] [0] [(Qm3 p2)] hq (pc (rnd Qbn) (pc (rnd Qad) (prr (pw (pw pn))))) (qb (lcc (lcc ln)) qn)) (ih (w64 (y14+1)) h)
     ·exact wfn hc17<|Qbi<|Qaw<|Qaw<|Qbh rfl<|thn<|⟨(),h,(mto (n:=50) [(0,(.dat 5 (p0.map Qat))),(1,(.dat 1 (p1.map Qab))),(5,.ref 0 4 0 0)] [0] [(Qm3 p2)] hq (pc (rnd Qbn) (pc (rnd Qad) (prr pn))) (qb (lcc (lcc ln)) qn))⟩
   ·skip
    obtain⟨x28,hf27,h⟩:=bno h
    refine hpre (A:=(Q27 p1 x28)) ⟨alq 1 Qab p1 underlying22,apv Qgc (Qcn N (p1.length:Int) 1 20 _ hf27) (nlcc (nlc nll nl0)) nll,tv⟩ fun q1_=>?_
    refine bfe h (fun hb29 h=>?_) fun hb29 h=>?_
    ·refine wx tbk (hcat (Q27 p1 x28) [(4,rp [(.tmp 18,(B ((!x28))))] (B true))]) (hap q1_ ⟨asb hb29 (amv rfl),tv⟩)<|wtr<|wxz<|Qae<|Qak ?_
     obtain rfl:=osi h
     exact fie [Qvk,I 2] ⟨Qd3 (v:=nilS) rot Less.nil,rot,tv⟩
    ·obtain⟨x31,hf30,h⟩:=bno h
     refine wx tbk (hcat (Q27 p1 x28) [(4,rp [(.tmp 18,(B ((!x28))))] (B false)),(7,rp [(.tmp 19,B false),fu 128,(.tmp 20,(.dat 1 (p1.map Qab))),(.tmp 21,(Q28 p0))] (B x31))]) (hap q1_ ⟨asb hb29 (amv rfl),ag_ (acq [(.dat 1 (p1.map Qab)),(Q28 p0)] [] [] (B x31) [] Q1b (Qju N p1 p0 _ hf30) (Qco (rnc (pld Qad) (rnc (.plain _ (NLt.fn _ _ _ (nlc (nld Qbn _) nl0) nl0)) rn0))) Qas Qas (.plain _ nll)),tv⟩) ?_
     refine bfe h (fun hc32 h=>?_) fun hc32 h=>?_
     ·refine wft hc32<|wxz<|Qae<|Qak ?_
      obtain rfl:=osi h
      exact fie [Qvk,I 2] ⟨Qd3 (v:=nilS) rot Less.nil,rot,tv⟩
     ·exact wfn hc32<|Qan<|thn<|⟨(),h,(mto (n:=50) [(0,(.dat 5 (p0.map Qat))),(1,(.dat 1 (p1.map Qab))),(5,.ref 0 4 0 0)] [0] [(Qm3 p2)] hq (pc (rnd Qbn) (pc (rnd Qad) (prr pn))) (qb (lcc (lcc ln)) qn))⟩
end
end Go.Proofs.Ytflmombnmnblnaa
