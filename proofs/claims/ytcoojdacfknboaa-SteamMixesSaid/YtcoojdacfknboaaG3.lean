/-
  The texts X2, X3, X4, X5, PB6 of the proof, one behind the other. No conditions.
-/
import Derived.Test.YtcoojdacfknboaaG2
namespace Go.Proofs.Ytcoojdacfknboaa
open _root_.Go.Proofs.Try
open Go.RowKit
set_option maxRecDepth 100000
set_option maxHeartbeats 4000000
set_option synthInstance.maxSize 4000
set_option synthInstance.maxHeartbeats 400000
section
def Qeh (N:Nat) (p0:Int):Option Bool:=
  (Qbq N p0 0 1000).bind fun x2=>
  some x2
theorem Qit (N:Nat) (p0:Int) (r:Bool) (h:Qeh N p0=some r):Spec prog 22 [(I p0)] [] (B r) []:=by
  refine sA func22 0 fun _ _ _ hq hd0=>?_
  unfold Qeh at h
  refine wxz ?_
  obtain⟨x2,hf1,h⟩:=bno h
  exact wx tbk [(1,rp _ _)] ⟨apw Qfv (Qbs N p0 0 1000 _ hf1),tv⟩<|Qaf<|frb h
def Qcq (N:Nat) (p0:Int):Option Bool:=
  (Qeh N p0).bind fun x3=>
  some (!x3)
abbrev Qt7:Slot:=.own 1 [[(.fn (.func 22) [] [])]]
theorem Qg9 (N:Nat) (p0:Int) (r:Bool) (h:Qcq N p0=some r):Spec prog 43 [(I p0),(.ref 0 1 (0) 0)] [Qt7] (B r) [Qt7]:=by
  refine sF func43 1 fun _ _ _ hq hd0=>?_
  unfold Qcq at h
  refine wxz ?_
  obtain⟨x3,hf2,h⟩:=bno h
  refine wx tbk [(2,rp _ _)] ⟨apw Qxf (Qit N p0 _ hf2),tv⟩ ?_
  refine wmr (mto (n:=8) (l':=[(3,(B ((!x3))))]) (own':=[Qt7]) [(3,(B ((!x3))))] [0] [Qt7] hq (pw pn) (qb (lc (.rn (Qaj rn0 rn0)) ln) qn))<|Qaf ?_
  obtain rfl:=osi h
  exact⟨_,Mor.rfl,fio [(B ((!x3)))] ⟨rot,tv⟩⟩
def Qa3 (N:Nat) (p0:List Int) (k2:Unit→Option Int):Nat→Int→Option Int
  |0,_=>none
  |n5+1,y3=>
    bif (decide (y3<(p0.length:Int))) then
     (getI p0 y3).bind fun x7=>
     (Qcq N x7).bind fun x12=>
     bif x12 then
      some y3
     else
      Qa3 N p0 k2 n5 (w64 (y3+1))
    else
     k2 ()
def Qca (N:Nat) (p0:List Int):Option Int:=
  Qcd (fun _=>
    some (-1)) fun k2:Unit→Option Int=>
  Qa3 N p0 k2 N 0
abbrev Qrb:AV:=.fn (.func 43) [] [(.ref 0 1 (0) 0)]
abbrev Qh9:Slot:=.own 1 [[(.fn (.func 22) [] [])]]
theorem Qfk (N:Nat) (p0:List Int) (r:Int) (h:Qca N p0=some r):Spec prog 44 [(.dat 1 (p0.map Qab)),Qrb] [Qh9] (I r) [Qh9]:=by
  refine sF func44 1 fun _ _ _ hq hd0=>?_
  unfold Qca at h
  refine wxz ?_
  obtain⟨k2,hk_k2,h⟩:=jko h
  refine wjn (τ:=Unit) (fun t=>k2 t=some r) (fun _=>⟨mk 19 [],[Qh9]⟩) (fun t h=>?_) ?_
  ·subst hk_k2
   refine wxz<|wmr (mto (n:=19) (l':=[(4,(I ((-1))))]) (own':=[Qh9]) [(4,(I ((-1))))] [0] [Qh9] hq (pw pn) (qb (lc (.rn (Qaj rn0 rn0)) ln) qn))<|Qaf ?_
   obtain rfl:=osi h
   exact⟨_,Mor.rfl,fio [(I ((-1)))] ⟨rot,tv⟩⟩
  ·skip
   refine wx tbk [(1,rp _ _)] ⟨alq 1 Qab p0 underlying25,tv⟩<|Qag ?_
   refine wmr (mto (n:=19) (l':=[(0,(.dat 1 (p0.map Qab))),(1,Qrb),(7,(I ((p0.length:Int)))),(8,I 0)]) (own':=[Qh9]) [(0,(.dat 1 (p0.map Qab))),(1,Qrb),(7,(I ((p0.length:Int)))),(8,I 0)] [0] [Qh9] hq (pc (rnd Qac) (pc (.rn (Qaj rn0 (rnc (rqr rfl) rn0))) (pw (pw pn)))) (qb (lc (.rn (Qaj rn0 rn0)) ln) qn)) ?_
   refine Qb2 (τ:=Int) (fun n t=>Qa3 N p0 k2 n t=some r) (fun y3=>⟨mk 19 [(0,(.dat 1 (p0.map Qab))),(1,Qrb),(7,(I ((p0.length:Int)))),(8,I y3)],[Qh9]⟩) (fun t h=>by rw[Qa3] at h;cases h) (fun n5 ih y3 h=>?_) N (0) h
   rw[Qa3] at h
   skip
   refine wxz<|wsq ?_
   refine bfe h (fun hc6 h=>?_) fun hc6 h=>?_
   ·refine wft hc6<|Qah<|thn<|wsq<|Qag<|wxz ?_
    obtain⟨x7,hg8,h⟩:=bno h
    obtain⟨hi9,hj10⟩:=gsm hg8
    obtain⟨x12,hf11,h⟩:=bno h
    refine wx tbk [(3,rp _ _),(5,⟨_,_,_,_,false⟩)] ⟨aiq underlying25 ti3 Qab hi9 hj10,Qcb (first:=[]) (cap:=[.ref 0 1 0 0]) (vs:=[I x7]) (σr:=[Qh9]) (σr':=[Qh9]) (res':=(B x12)) [0] rfl Qw5 (Qg9 N x7 _ hf11) rfl (Qbu (rnc (.plain _ nll) (rnc (Qak rfl) rn0))) (slc (Qad (rnc (.plain _ (NLt.fn _ _ _ nl0 nl0)) rn0)) Qal) (slc (Qad (rnc (.plain _ (NLt.fn _ _ _ nl0 nl0)) rn0)) Qal) (.plain _ nll) rfl rfl rfl,tv⟩ ?_
    refine bfe h (fun hc13 h=>?_) fun hc13 h=>?_
    ·refine wft hc13<|wxz ?_
     refine wmr (mto (n:=19) (l':=[(4,I y3)]) (own':=[Qh9]) [(4,I y3)] [0] [Qh9] hq (pw pn) (qb (lc (.rn (Qaj rn0 rn0)) ln) qn))<|Qaf<|Qbr<|Qao<|Qao<|Qbr<|Qao ?_
     obtain rfl:=osi h
     exact⟨_,Mor.rfl,fio [I y3] ⟨rot,tv⟩⟩
    ·exact wfn hc13<|Qah<|bln<|thn<|wxz1<|thn<|arm (mto (n:=19) [(0,(.dat 1 (p0.map Qab))),(1,Qrb),(7,(I ((p0.length:Int)))),(8,(I (w64 (y3+1))))] [0] [Qh9] hq (pc (rnd Qac) (pc (.rn (Qaj rn0 (rnc (rqr rfl) rn0))) (pw (pw pn)))) (qb (lc (.rn (Qaj rn0 rn0)) ln) qn)) (ih (w64 (y3+1)) h)
   ·exact wfn hc6<|Qbc<|Qaq<|Qaq<|Qbb rfl<|thn<|⟨(),h,(mto (n:=19) [] [0] [Qh9] hq pn (qb (lc (.rn (Qaj rn0 rn0)) ln) qn))⟩
def Qa8 (N:Nat) (p0:List Int):Option Bool:=
  (Qca N p0).bind fun x3=>
  some (decide (x3≥0))
abbrev Qyk:AV:=.fn (.func 43) [] [(.ref 0 1 (0) 0)]
abbrev Qpm:Slot:=.own 1 [[(.fn (.func 22) [] [])]]
theorem Qe0 (N:Nat) (p0:List Int) (r:Bool) (h:Qa8 N p0=some r):Spec prog 26 [(.dat 1 (p0.map Qab)),Qyk] [Qpm] (B r) [Qpm]:=by
  refine sF func26 1 fun _ _ _ hq hd0=>?_
  unfold Qa8 at h
  refine wxz ?_
  obtain⟨x3,hf2,h⟩:=bno h
  refine wx tbk [(2,⟨_,_,_,_,false⟩)] ⟨acq [(.dat 1 (p0.map Qab)),Qyk] [Qpm] [Qpm] (I x3) [0] Qs0 (Qfk N p0 _ hf2) (Qbu (rnc (pld Qac) (rnc (Qaj rn0 (rnc (Qak rfl) rn0)) rn0))) (slc (Qad (rnc (.plain _ (NLt.fn _ _ _ nl0 nl0)) rn0)) Qal) (slc (Qad (rnc (.plain _ (NLt.fn _ _ _ nl0 nl0)) rn0)) Qal) (.plain _ nll),tv⟩ ?_
  refine wmr (mto (n:=9) (l':=[(4,(B ((decide (x3≥0)))))]) (own':=[Qpm]) [(4,(B ((decide (x3≥0)))))] [0] [Qpm] hq (pw pn) (qb (lc (.rn (Qaj rn0 rn0)) ln) qn))<|Qaf ?_
  obtain rfl:=osi h
  exact⟨_,Mor.rfl,fio [(B ((decide (x3≥0))))] ⟨rot,tv⟩⟩
def Qc7 (N:Nat) (p0:List Int):Option Bool:=
  (Qa8 N p0).bind fun x2=>
  some (!x2)
def Qyl:AV:=.fn (.func 43) [] [(.ref 0 1 (0) 0)]
def Qym:Slot:=.own 1 [[(.fn (.func 22) [] [])]]
theorem Qhx (N:Nat) (p0:List Int) (r:Bool) (h:Qc7 N p0=some r):Spec prog 25 [(.dat 1 (p0.map Qab)),(.fn (.func 22) [] [])] [] (B r) []:=by
  refine sA func25 0 fun _ _ _ hq hd0=>?_
  unfold Qc7 at h
  refine wxz ?_
  obtain⟨x2,hf1,h⟩:=bno h
  refine wx tbk [(1,rp [(.tmp 3,.ref 0 1 0 0)] Qyl),(2,⟨_,_,_,_,false⟩)] ⟨Qd1 (fs:=[]) (cs:=[.ref 0 1 0 0]) rfl rfl rfl rfl,acq [(.dat 1 (p0.map Qab)),Qyl] [Qym] [Qym] (B x2) [0] Qs4 (Qe0 N p0 _ hf1) (Qbu (rnc (pld Qac) (rnc (Qaj rn0 (rnc (Qak rfl) rn0)) rn0))) (slc (Qad (rnc (.plain _ (NLt.fn _ _ _ nl0 nl0)) rn0)) Qal) (slc (Qad (rnc (.plain _ (NLt.fn _ _ _ nl0 nl0)) rn0)) Qal) (.plain _ nll),tv⟩<|Qaf ?_
  obtain rfl:=osi h
  exact fend ⟨[(B ((!x2)))],⟨rot,tv⟩,rfl⟩ nll
def Qeg (_N:Nat) (p0:Int):Option Bool:=
  some (decide (p0>0))
theorem Qis (N:Nat) (p0:Int) (r:Bool) (h:Qeg N p0=some r):Spec prog 27 [(I p0)] [] (B r) []:=by
  refine sA func27 0 fun _ _ _ hq hd0=>?_
  unfold Qeg at h
  refine wxz<|wxz<|Qaf ?_
  obtain rfl:=osi h
  exact fend ⟨[(B ((decide (p0>0))))],⟨rot,tv⟩,rfl⟩ nll
def Qa2 (N:Nat) (p0:List Int) (k1:Unit→Option Int):Nat→Int→Option Int
  |0,_=>none
  |n4+1,y2=>
    bif (decide (y2<(p0.length:Int))) then
     (getI p0 y2).bind fun x6=>
     (Qeg N x6).bind fun x11=>
     bif x11 then
      some y2
     else
      Qa2 N p0 k1 n4 (w64 (y2+1))
    else
     k1 ()
def Qb9 (N:Nat) (p0:List Int):Option Int:=
  Qcd (fun _=>
    some (-1)) fun k1:Unit→Option Int=>
  Qa2 N p0 k1 N 0
theorem Qfj (N:Nat) (p0:List Int) (r:Int) (h:Qb9 N p0=some r):Spec prog 44 [(.dat 1 (p0.map Qab)),(.fn (.func 27) [] [])] [] (I r) []:=by
  refine sA func44 0 fun _ _ _ hq hd0=>?_
  unfold Qb9 at h
  refine wxz ?_
  obtain⟨k1,hk_k1,h⟩:=jko h
  refine wjn (τ:=Unit) (fun t=>k1 t=some r) (fun _=>⟨mk 19 [],[]⟩) (fun t h=>?_) ?_
  ·subst hk_k1
   refine wxz<|Qaf ?_
   obtain rfl:=osi h
   exact fend ⟨[(I ((-1)))],⟨rot,tv⟩,rfl⟩ nll
  ·skip
   refine wx tbk [(1,rp _ _)] ⟨alq 1 Qab p0 underlying25,tv⟩<|Qag ?_
   refine wmr (mto (n:=19) (l':=[(0,(.dat 1 (p0.map Qab))),(1,(.fn (.func 27) [] [])),(7,(I ((p0.length:Int)))),(8,I 0)]) (own':=[]) [(0,(.dat 1 (p0.map Qab))),(1,(.fn (.func 27) [] [])),(7,(I ((p0.length:Int)))),(8,I 0)] [] [] hq (pc (rnd Qac) (pc (.rn (Qaj rn0 rn0)) (pw (pw pn)))) qn) ?_
   refine Qb2 (τ:=Int) (fun n t=>Qa2 N p0 k1 n t=some r) (fun y2=>⟨mk 19 [(0,(.dat 1 (p0.map Qab))),(1,(.fn (.func 27) [] [])),(7,(I ((p0.length:Int)))),(8,I y2)],[]⟩) (fun t h=>by rw[Qa2] at h;cases h) (fun n4 ih y2 h=>?_) N (0) h
   rw[Qa2] at h
   skip
   refine wxz<|wsq ?_
   refine bfe h (fun hc5 h=>?_) fun hc5 h=>?_
   ·refine wft hc5<|Qah<|thn<|wsq<|Qag<|wxz ?_
    obtain⟨x6,hg7,h⟩:=bno h
    obtain⟨hi8,hj9⟩:=gsm hg7
    obtain⟨x11,hf10,h⟩:=bno h
    refine wx tbk [(3,rp _ _),(5,rp _ _)] ⟨aiq underlying25 ti3 Qab hi8 hj9,apw Qxd (Qis N x6 _ hf10),tv⟩ ?_
    refine bfe h (fun hc12 h=>?_) fun hc12 h=>?_
    ·refine wft hc12<|wxz<|Qaf<|Qbr<|Qao<|Qao<|Qbr<|Qao ?_
     obtain rfl:=osi h
     exact fend ⟨[I y2],⟨rot,tv⟩,rfl⟩ nll
    ·exact wfn hc12<|Qah<|bln<|thn<|wxz1<|thn<|arm (mto (n:=19) [(0,(.dat 1 (p0.map Qab))),(1,(.fn (.func 27) [] [])),(7,(I ((p0.length:Int)))),(8,(I (w64 (y2+1))))] [] [] hq (pc (rnd Qac) (pc (.rn (Qaj rn0 rn0)) (pw (pw pn)))) qn) (ih (w64 (y2+1)) h)
   ·exact wfn hc5<|Qbc<|Qaq<|Qaq<|Qbb rfl<|thn<|⟨(),h,(mto (n:=19) [] [] [] hq pn qn)⟩
def Qa0 (N:Nat) (p0:List Int):Option Bool:=
  (Qb9 N p0).bind fun x2=>
  some (decide (x2≥0))
theorem Qez (N:Nat) (p0:List Int) (r:Bool) (h:Qa0 N p0=some r):Spec prog 26 [(.dat 1 (p0.map Qab)),(.fn (.func 27) [] [])] [] (B r) []:=by
  refine sA func26 0 fun _ _ _ hq hd0=>?_
  unfold Qa0 at h
  refine wxz ?_
  obtain⟨x2,hf1,h⟩:=bno h
  refine wx tbk [(2,rp _ _)] ⟨acq [(.dat 1 (p0.map Qab)),(.fn (.func 27) [] [])] [] [] (I x2) [] Qs0 (Qfj N p0 _ hf1) (Qbu (rnc (pld Qac) (rnc (.plain _ (NLt.fn _ _ _ nl0 nl0)) rn0))) Qal Qal (.plain _ nll),tv⟩<|Qaf ?_
  obtain rfl:=osi h
  exact fend ⟨[(B ((decide (x2≥0))))],⟨rot,tv⟩,rfl⟩ nll
def Qdd (_N:Nat) (p0 p1 p2:Int):Option Int:=
  chk (p2 != 0)<|
  some ((w64 (p1*p0)).tmod p2)
theorem Qfw (N:Nat) (p0 p1:Int) (p2 r:Int) (h:Qdd N p0 p1 p2=some r):Spec prog 46 [(I p0),(.ref 0 1 (0) 0),(.ref 1 1 (0) 0)] [(.own 1 [[(I p1)]]),(.own 1 [[(I p2)]])] (I r) [(.own 1 [[(I p1)]]),(.own 1 [[(I p2)]])]:=by
  refine sF func46 2 fun _ _ _ hq hd0=>?_
  unfold Qdd at h
  refine wxz ?_
  obtain⟨hz2,h⟩:=cko h
  refine wx tbk [(4,rp [(.tmp 7,(I (w64 (p1*p0)))),(.tmp 8,I p2)] (I ((w64 (p1*p0)).tmod p2)))] ⟨Qil rfl (Qf7 hz2),tv⟩ ?_
  refine wmr (mto (n:=10) (l':=[(4,(I ((w64 (p1*p0)).tmod p2)))]) (own':=[(.own 1 [[I p1]]),(.own 1 [[I p2]])]) [(4,(I ((w64 (p1*p0)).tmod p2)))] [0,1] [(.own 1 [[I p1]]),(.own 1 [[I p2]])] hq (pw pn) (qb (lc rwl ln) (qb (lc rwl ln) qn)))<|Qaf ?_
  obtain rfl:=osi h
  exact⟨_,Mor.rfl,fio [(I ((w64 (p1*p0)).tmod p2))] ⟨rot,tv⟩⟩
def Qbw (N:Nat) (p0 p1:Int) (p2:List Int) (p3 p4:Int):Option Int:=
  (getI p2 p1).bind fun x2=>
  (Qdd N x2 p3 p4).bind fun x7=>
  (getI p2 p0).bind fun x8=>
  (Qdd N x8 p3 p4).bind fun x13=>
  some (w64 (x7-x13))
abbrev Qt5:AV:=.fn (.func 46) [] [(.ref 2 1 (0) 0),(.ref 3 1 (0) 0)]
abbrev Qt4 (p2:List Int):Slot:=.own 1 [[(.dat 1 (p2.map Qab))]]
theorem Qc4 (N:Nat) (p0 p1:Int) (p2:List Int) (p3 p4 r:Int) (h:Qbw N p0 p1 p2 p3 p4=some r):Spec prog 53 [(I p0),(I p1),(.ref 0 1 (0) 0),(.ref 1 1 (0) 0)] [(.own 1 [[Qt5]]),(Qt4 p2),(.own 1 [[(I p3)]]),(.own 1 [[(I p4)]])] (I r) [(.own 1 [[Qt5]]),(Qt4 p2),(.own 1 [[(I p3)]]),(.own 1 [[(I p4)]])]:=by
  refine sF func53 4 fun _ _ _ hq hd0=>?_
  unfold Qbw at h
  refine wxz ?_
  obtain⟨x2,hg3,h⟩:=bno h
  obtain⟨hi4,hj5⟩:=gsm hg3
  obtain⟨x7,hf6,h⟩:=bno h
  obtain⟨x8,hg9,h⟩:=bno h
  obtain⟨hi10,hj11⟩:=gsm hg9
  obtain⟨x13,hf12,h⟩:=bno h
  refine wxd tbk [(3,rp _ _),(5,⟨_,_,_,_,false⟩),(9,rp _ _),(11,⟨_,_,_,_,false⟩)] ⟨aiq underlying25 ti3 Qab hi4 hj5,Qcb (first:=[]) (cap:=[.ref 2 1 0 0,.ref 3 1 0 0]) (vs:=[I x2]) (σr:=[(.own 1 [[I p3]]),(.own 1 [[I p4]])]) (σr':=[(.own 1 [[I p3]]),(.own 1 [[I p4]])]) (res':=(I x7)) [2,3] rfl Qsz (Qfw N x2 p3 p4 _ hf6) rfl (Qbu (rnc (.plain _ nll) (rnc (Qak rfl) (rnc (Qak rfl) rn0)))) (slc (Qad (rnc (.plain _ nll) rn0)) (slc (Qad (rnc (.plain _ nll) rn0)) Qal)) (slc (Qad (rnc (.plain _ nll) rn0)) (slc (Qad (rnc (.plain _ nll) rn0)) Qal)) (.plain _ nll) rfl rfl rfl,aiq underlying25 ti3 Qab hi10 hj11,Qcb (first:=[]) (cap:=[.ref 2 1 0 0,.ref 3 1 0 0]) (vs:=[I x8]) (σr:=[(.own 1 [[I p3]]),(.own 1 [[I p4]])]) (σr':=[(.own 1 [[I p3]]),(.own 1 [[I p4]])]) (res':=(I x13)) [2,3] rfl Qsz (Qfw N x8 p3 p4 _ hf12) rfl (Qbu (rnc (.plain _ nll) (rnc (Qak rfl) (rnc (Qak rfl) rn0)))) (slc (Qad (rnc (.plain _ nll) rn0)) (slc (Qad (rnc (.plain _ nll) rn0)) Qal)) (slc (Qad (rnc (.plain _ nll) rn0)) (slc (Qad (rnc (.plain _ nll) rn0)) Qal)) (.plain _ nll) rfl rfl rfl,tv⟩ ?_
  refine wmr (mto (n:=20) (l':=[(6,(I (w64 (x7-x13))))]) (own':=[(.own 1 [[Qt5]]),(Qt4 p2),(.own 1 [[I p3]]),(.own 1 [[I p4]])]) [(6,(I (w64 (x7-x13))))] [0,1,2,3] [(.own 1 [[Qt5]]),(Qt4 p2),(.own 1 [[I p3]]),(.own 1 [[I p4]])] hq (pw pn) (qb (lc (.rn (Qaj rn0 (rnc (rqr rfl) (rnc (rqr rfl) rn0)))) ln) (qb (lc (rnd Qac) ln) (qb (lc rwl ln) (qb (lc rwl ln) qn)))))<|Qaf ?_
  obtain rfl:=osi h
  exact⟨_,Mor.rfl,fio [(I (w64 (x7-x13)))] ⟨rot,tv⟩⟩
def Qat (N p0:Nat) (p1:Int) (p4:List Int) (p5 p6:Int) (k9:(List Int)→Option (List Int)):Nat→Int→(List Int)→Option (List Int)
  |0,_,_=>none
  |n14+1,y10,y11=>
    Qcd (fun _=>
      chk (decide (0≤w64 (y10-1))&&decide ((w64 (y10-1)).toNat<p0))<|
      (y11[(w64 (y10-1)).toNat]?).bind fun x17=>
      chk (decide (0≤y10)&&decide (y10.toNat<p0))<|
      (y11[y10.toNat]?).bind fun x20=>
      chk (decide (0≤y10)&&decide (y10.toNat<p0))<|
      (y11[y10.toNat]?).bind fun _=>
      chk (decide (0≤w64 (y10-1))&&decide ((w64 (y10-1)).toNat<p0))<|
      ((y11.set y10.toNat x17)[(w64 (y10-1)).toNat]?).bind fun _=>
      Qat N p0 p1 p4 p5 p6 k9 n14 (w64 (y10-1)) ((y11.set y10.toNat x17).set ((w64 (y10-1)).toNat) x20)) fun k15:Unit→Option (List Int)=>
    bif (decide (y10>p1)) then
     chk (decide (0≤y10)&&decide (y10.toNat<p0))<|
     (y11[y10.toNat]?).bind fun x30=>
     chk (decide (0≤w64 (y10-1))&&decide ((w64 (y10-1)).toNat<p0))<|
     (y11[(w64 (y10-1)).toNat]?).bind fun x33=>
     (Qbw N x30 x33 p4 p5 p6).bind fun x36=>
     bif (decide (x36<0)) then
      k15 ()
     else
      k9 (y11)
    else
     k9 (y11)
def Qam (N p0:Nat) (p1 p2:Int) (p4:List Int) (p5 p6:Int):Nat→Int→(List Int)→Option (List Int)
  |0,_,_=>none
  |n6+1,y2,y3=>
    bif (decide (y2<p2)) then
     Qcd (fun y8=>
       Qam N p0 p1 p2 p4 p5 p6 n6 (w64 (y2+1)) y8) fun k9:(List Int)→Option (List Int)=>
     Qat N p0 p1 p4 p5 p6 k9 N y2 y3
    else
     some y3
def Qav (N p0:Nat) (p1 p2:Int) (p3 p4:List Int) (p5 p6:Int):Option (List Int):=
  Qam N p0 p1 p2 p4 p5 p6 N (w64 (p1+1)) p3
abbrev Qhw:AV:=.fn (.func 53) [] [(.ref 1 1 (0) 0),(.ref 2 1 (0) 0)]
abbrev Qgj:AV:=.fn (.func 46) [] [(.ref 3 1 (0) 0),(.ref 4 1 (0) 0)]
abbrev Qgi (p4:List Int):Slot:=.own 1 [[(.dat 1 (p4.map Qab))]]
theorem Qdb (N p0:Nat) (p1 p2:Int) (p3 p4:List Int) (p5 p6:Int) (r:List Int) (h:Qav N p0 p1 p2 p3 p4 p5 p6=some r):Spec prog 59 [(.own 0 1 (0) p0),(I p1),(I p2),Qhw] [(.own 1 (p3.map Qab)),(.own 1 [[Qgj]]),(Qgi p4),(.own 1 [[(I p5)]]),(.own 1 [[(I p6)]])] (.tup []) [(.own 1 (r.map Qab)),(.own 1 [[Qgj]]),(Qgi p4),(.own 1 [[(I p5)]]),(.own 1 [[(I p6)]])]:=by
  refine sF func59 5 fun _ _ _ hq hd0=>?_
  unfold Qav at h
  refine wxz<|Qag ?_
  refine wmr (mto (n:=53) (l':=[(0,(.own 0 1 (0) p0)),(1,I p1),(2,I p2),(3,Qhw),(8,(I ((w64 (p1+1)))))]) (own':=[(.own 1 (p3.map Qab)),(.own 1 [[Qgj]]),(Qgi p4),(.own 1 [[I p5]]),(.own 1 [[I p6]])]) [(0,(.own 0 1 (0) p0)),(1,I p1),(2,I p2),(3,Qhw),(8,(I (w64 (p1+1))))] [0,1,2,3,4] [(.own 1 (p3.map Qab)),(.own 1 [[Qgj]]),(Qgi p4),(.own 1 [[I p5]]),(.own 1 [[I p6]])] hq (pc (.rn (Qas rfl)) (pw (pw (pc (.rn (Qaj rn0 (rnc (rqr rfl) (rnc (rqr rfl) rn0)))) (pw pn))))) (qc (spr Qac) (qb (lc (.rn (Qaj rn0 (rnc (rqr rfl) (rnc (rqr rfl) rn0)))) ln) (qb (lc (rnd Qac) ln) (qb (lc rwl ln) (qb (lc rwl ln) qn)))))) ?_
  refine Qb2 (τ:=Int×(List Int)) (fun n t=>Qam N p0 p1 p2 p4 p5 p6 n t.1 t.2=some r) (fun ⟨y2,y3⟩=>⟨mk 53 [(0,(.own 0 1 (0) p0)),(1,I p1),(2,I p2),(3,Qhw),(8,I y2)],[(.own 1 (y3.map Qab)),(.own 1 [[Qgj]]),(Qgi p4),(.own 1 [[I p5]]),(.own 1 [[I p6]])]⟩) (fun t h=>by rw[Qam] at h;cases h) (fun n6 ih t h=>?_) N (w64 (p1+1),p3) h
  obtain⟨y2,y3⟩:=t
  rw[Qam] at h
  skip
  refine wsq<|wxz ?_
  refine bfe h (fun hc7 h=>?_) fun hc7 h=>?_
  ·refine wft hc7<|Qah<|thn ?_
   obtain⟨k9,hk_k9,h⟩:=jko h
   refine wjn (τ:=(List Int)) (fun t=>k9 t=some r) (fun y8=>⟨mk 53 [(0,(.own 0 1 (0) p0)),(1,I p1),(2,I p2),(3,Qhw),(8,I y2)],[(.own 1 (y8.map Qab)),(.own 1 [[Qgj]]),(Qgi p4),(.own 1 [[I p5]]),(.own 1 [[I p6]])]⟩) (fun y8 h=>?_) ?_
   ·subst hk_k9
    exact wxz1<|thn<|arm (mto (n:=53) [(0,(.own 0 1 (0) p0)),(1,I p1),(2,I p2),(3,Qhw),(8,(I (w64 (y2+1))))] [0,1,2,3,4] [(.own 1 (y8.map Qab)),(.own 1 [[Qgj]]),(Qgi p4),(.own 1 [[I p5]]),(.own 1 [[I p6]])] hq (pc (.rn (Qas rfl)) (pw (pw (pc (.rn (Qaj rn0 (rnc (rqr rfl) (rnc (rqr rfl) rn0)))) (pw pn))))) (qc (spr Qac) (qb (lc (.rn (Qaj rn0 (rnc (rqr rfl) (rnc (rqr rfl) rn0)))) ln) (qb (lc (rnd Qac) ln) (qb (lc rwl ln) (qb (lc rwl ln) qn)))))) (ih (w64 (y2+1),y8) h)
   ·skip
    refine Qag<|wxz<|Qag ?_
    refine wmr (mto (n:=53) (l':=[(0,(.own 0 1 (0) p0)),(1,I p1),(2,I p2),(3,Qhw),(8,I y2),(9,I y2)]) (own':=[(.own 1 (y3.map Qab)),(.own 1 [[Qgj]]),(Qgi p4),(.own 1 [[I p5]]),(.own 1 [[I p6]])]) [(0,(.own 0 1 (0) p0)),(1,I p1),(2,I p2),(3,Qhw),(8,I y2),(9,I y2)] [0,1,2,3,4] [(.own 1 (y3.map Qab)),(.own 1 [[Qgj]]),(Qgi p4),(.own 1 [[I p5]]),(.own 1 [[I p6]])] hq (pc (.rn (Qas rfl)) (pw (pw (pc (.rn (Qaj rn0 (rnc (rqr rfl) (rnc (rqr rfl) rn0)))) (pw (pw pn)))))) (qc (spr Qac) (qb (lc (.rn (Qaj rn0 (rnc (rqr rfl) (rnc (rqr rfl) rn0)))) ln) (qb (lc (rnd Qac) ln) (qb (lc rwl ln) (qb (lc rwl ln) qn)))))) ?_
    refine Qb2 (τ:=Int×(List Int)) (fun n t=>Qat N p0 p1 p4 p5 p6 k9 n t.1 t.2=some r) (fun ⟨y10,y11⟩=>⟨mk 53 [(0,(.own 0 1 (0) p0)),(1,I p1),(2,I p2),(3,Qhw),(8,I y2),(9,I y10)],[(.own 1 (y11.map Qab)),(.own 1 [[Qgj]]),(Qgi p4),(.own 1 [[I p5]]),(.own 1 [[I p6]])]⟩) (fun t h=>by rw[Qat] at h;cases h) (fun n14 ih t h=>?_) N (y2,y3) h
    obtain⟨y10,y11⟩:=t
    rw[Qat] at h
    skip
    obtain⟨k15,hk_k15,h⟩:=jko h
    refine wjn (τ:=Unit) (fun t=>k15 t=some r) (fun _=>⟨mk 53 [(0,(.own 0 1 (0) p0)),(1,I p1),(2,I p2),(3,Qhw),(8,I y2),(9,I y10)],[(.own 1 (y11.map Qab)),(.own 1 [[Qgj]]),(Qgi p4),(.own 1 [[I p5]]),(.own 1 [[I p6]])]⟩) (fun t h=>?_) ?_
    ·subst hk_k15
     refine wsq<|Qag ?_
     obtain⟨hi16,h⟩:=cko h
     obtain⟨hi16a,hi16b⟩:=Qcc hi16
     obtain⟨x17,hg18,h⟩:=bno h
     obtain⟨hi19,h⟩:=cko h
     obtain⟨hi19a,hi19b⟩:=Qcc hi19
     obtain⟨x20,hg21,h⟩:=bno h
     obtain⟨hi22,h⟩:=cko h
     obtain⟨hi22a,hi22b⟩:=Qcc hi22
     obtain⟨x23,hg24,h⟩:=bno h
     obtain⟨hi25,h⟩:=cko h
     obtain⟨hi25a,hi25b⟩:=Qcc hi25
     obtain⟨x26,hg27,h⟩:=bno h
     refine wy1 tbk [(8,rb [(.tmp 42,(.own 0 1 (0) p0)),(.tmp 44,(I (w64 (y10-1))))] [(0,(.own 1 (y11.map Qab)))] (.ref 0 1 ((w64 (y10-1)).toNat) 0)),(9,rb [(.tmp 45,(.ref 0 1 ((w64 (y10-1)).toNat) 0))] [(0,(.own 1 (y11.map Qab)))] (I x17)),(12,rb [(.tmp 47,(.own 0 1 (0) p0)),(.tmp 48,I y10)] [(0,(.own 1 (y11.map Qab)))] (.ref 0 1 y10.toNat 0)),(13,rb [(.tmp 49,(.ref 0 1 y10.toNat 0))] [(0,(.own 1 (y11.map Qab)))] (I x20)),(14,rb [(.tmp 37,(.own 0 1 (0) p0)),(.tmp 38,I y10)] [(0,(.own 1 (y11.map Qab)))] (.ref 0 1 y10.toNat 0)),(15,⟨[(.tmp 51,(.ref 0 1 y10.toNat 0)),(.tmp 46,I x17)],[(0,(.own 1 (y11.map Qab)))],.any,[(0,(.own 1 ((y11.set y10.toNat x17:List Int).map Qab)))],false⟩),(16,rb [(.tmp 39,(.own 0 1 (0) p0)),(.tmp 41,(I (w64 (y10-1))))] [(0,(.own 1 ((y11.set y10.toNat x17:List Int).map Qab)))] (.ref 0 1 ((w64 (y10-1)).toNat) 0)),(17,⟨[(.tmp 52,(.ref 0 1 ((w64 (y10-1)).toNat) 0)),(.tmp 50,I x20)],[(0,(.own 1 ((y11.set y10.toNat x17:List Int).map Qab)))],.any,[(0,(.own 1 (((y11.set y10.toNat x17).set ((w64 (y10-1)).toNat) x20:List Int).map Qab)))],false⟩)] ⟨aio rfl underlying25 ti3 (odt hi16a) (odt hi16b) (Nat.zero_add _),ald rfl ti3 (by decide) (mgt Qab hg18) (nle rfl) rfl,aio rfl underlying25 ti3 (odt hi19a) (odt hi19b) (Nat.zero_add _),ald rfl ti3 (by decide) (mgt Qab hg21) (nle rfl) rfl,aio rfl underlying25 ti3 (odt hi22a) (odt hi22b) (Nat.zero_add _),ast rfl ti3 (by rfl) (mgt Qab hg24) (nle rfl) (Qe9 Qab rfl),aio rfl underlying25 ti3 (odt hi25a) (odt hi25b) (Nat.zero_add _),ast rfl ti3 (by rfl) (mgt Qab hg27) (nle rfl) (Qe9 Qab rfl),tv⟩<|bln<|thn<|wxz1<|thn ?_
     exact arm (mto (n:=53) [(0,(.own 0 1 (0) p0)),(1,I p1),(2,I p2),(3,Qhw),(8,I y2),(9,(I (w64 (y10-1))))] [0,1,2,3,4] [(.own 1 (((y11.set y10.toNat x17).set ((w64 (y10-1)).toNat) x20:List Int).map Qab)),(.own 1 [[Qgj]]),(Qgi p4),(.own 1 [[I p5]]),(.own 1 [[I p6]])] hq (pc (.rn (Qas rfl)) (pw (pw (pc (.rn (Qaj rn0 (rnc (rqr rfl) (rnc (rqr rfl) rn0)))) (pw (pw pn)))))) (qc (spr Qac) (qb (lc (.rn (Qaj rn0 (rnc (rqr rfl) (rnc (rqr rfl) rn0)))) ln) (qb (lc (rnd Qac) ln) (qb (lc rwl ln) (qb (lc rwl ln) qn)))))) (ih (w64 (y10-1),(y11.set y10.toNat x17).set ((w64 (y10-1)).toNat) x20) h)
    ·skip
     refine bfe h (fun hb28 h=>?_) fun hb28 h=>?_
     ·obtain⟨hi29,h⟩:=cko h
      obtain⟨hi29a,hi29b⟩:=Qcc hi29
      obtain⟨x30,hg31,h⟩:=bno h
      obtain⟨hi32,h⟩:=cko h
      obtain⟨hi32a,hi32b⟩:=Qcc hi32
      obtain⟨x33,hg34,h⟩:=bno h
      obtain⟨x36,hf35,h⟩:=bno h
      refine wxd tbk [(3,rp [(.tmp 20,(B ((decide (y10>p1)))))] (B true)),(7,rb [(.tmp 21,B true),(.tmp 23,(.own 0 1 (0) p0)),(.tmp 24,I y10)] [(0,(.own 1 (y11.map Qab)))] (.ref 0 1 y10.toNat 0)),(8,rb [(.tmp 21,B true),(.tmp 25,(.ref 0 1 y10.toNat 0))] [(0,(.own 1 (y11.map Qab)))] (I x30)),(12,rb [(.tmp 21,B true),(.tmp 27,(.own 0 1 (0) p0)),(.tmp 29,(I (w64 (y10-1))))] [(0,(.own 1 (y11.map Qab)))] (.ref 0 1 ((w64 (y10-1)).toNat) 0)),(13,rb [(.tmp 21,B true),(.tmp 30,(.ref 0 1 ((w64 (y10-1)).toNat) 0))] [(0,(.own 1 (y11.map Qab)))] (I x33)),(14,⟨[(.tmp 21,B true),(.tmp 22,Qhw),(.tmp 26,I x30),(.tmp 31,I x33)],[(1,.own 1 [[Qgj]]),(2,(Qgi p4)),(3,.own 1 [[I p5]]),(4,.own 1 [[I p6]])],I x36,[(1,.own 1 [[Qgj]]),(2,(Qgi p4)),(3,.own 1 [[I p5]]),(4,.own 1 [[I p6]])],false⟩)] ⟨asb hb28 (amv rfl),ag_ (aio rfl underlying25 ti3 (odt hi29a) (odt hi29b) (Nat.zero_add _)),ag_ (ald rfl ti3 (by decide) (mgt Qab hg31) (nle rfl) rfl),ag_ (aio rfl underlying25 ti3 (odt hi32a) (odt hi32b) (Nat.zero_add _)),ag_ (ald rfl ti3 (by decide) (mgt Qab hg34) (nle rfl) rfl),ag_ (Qcb (first:=[]) (cap:=[.ref 1 1 0 0,.ref 2 1 0 0]) (vs:=[I x30,I x33]) (σr:=[(.own 1 [[Qgj]]),(Qgi p4),(.own 1 [[I p5]]),(.own 1 [[I p6]])]) (σr':=[(.own 1 [[Qgj]]),(Qgi p4),(.own 1 [[I p5]]),(.own 1 [[I p6]])]) (res':=(I x36)) [1,2,3,4] rfl Qlq (Qc4 N x30 x33 p4 p5 p6 _ hf35) rfl (Qbu (rncc (rnc (Qak rfl) (rnc (Qak rfl) rn0)))) (slc (Qad (rnc (Qaj rn0 (rnc (Qak rfl) (rnc (Qak rfl) rn0))) rn0)) (slc (Qad (rnc (pld Qac) rn0)) (slc (Qad (rnc (.plain _ nll) rn0)) (slc (Qad (rnc (.plain _ nll) rn0)) Qal)))) (slc (Qad (rnc (Qaj rn0 (rnc (Qar rfl) (rnc (Qar rfl) rn0))) rn0)) (slc (Qad (rnc (pld Qac) rn0)) (slc (Qad (rnc (.plain _ nll) rn0)) (slc (Qad (rnc (.plain _ nll) rn0)) Qal)))) (.plain _ nll) rfl rfl rfl),tv⟩ ?_
      refine bfe h (fun hc37 h=>?_) fun hc37 h=>?_
      ·exact wft hc37<|Qah<|thn<|⟨(),h,(mto (n:=53) [(0,(.own 0 1 (0) p0)),(1,I p1),(2,I p2),(3,Qhw),(8,I y2),(9,I y10)] [0,1,2,3,4] [(.own 1 (y11.map Qab)),(.own 1 [[Qgj]]),(Qgi p4),(.own 1 [[I p5]]),(.own 1 [[I p6]])] hq (pc (.rn (Qas rfl)) (pw (pw (pc (.rn (Qaj rn0 (rnc (rqr rfl) (rnc (rqr rfl) rn0)))) (pw (pw pn)))))) (qc (spr Qac) (qb (lc (.rn (Qaj rn0 (rnc (rqr rfl) (rnc (rqr rfl) rn0)))) ln) (qb (lc (rnd Qac) ln) (qb (lc rwl ln) (qb (lc rwl ln) qn))))))⟩
      ·exact wfn hc37<|Qbc<|Qaq<|Qaq<|Qbb rfl<|bln<|thn<|⟨(y11),h,(mto (n:=53) [(0,(.own 0 1 (0) p0)),(1,I p1),(2,I p2),(3,Qhw),(8,I y2)] [0,1,2,3,4] [(.own 1 (y11.map Qab)),(.own 1 [[Qgj]]),(Qgi p4),(.own 1 [[I p5]]),(.own 1 [[I p6]])] hq (pc (.rn (Qas rfl)) (pw (pw (pc (.rn (Qaj rn0 (rnc (rqr rfl) (rnc (rqr rfl) rn0)))) (pw pn))))) (qc (spr Qac) (qb (lc (.rn (Qaj rn0 (rnc (rqr rfl) (rnc (rqr rfl) rn0)))) ln) (qb (lc (rnd Qac) ln) (qb (lc rwl ln) (qb (lc rwl ln) qn))))))⟩
     ·exact wxd tbk [(3,rp [(.tmp 20,(B ((decide (y10>p1)))))] (B false))] ⟨asb hb28 (amv rfl),tv⟩<|wfa<|Qbc<|Qaq<|Qaq<|Qbb rfl<|bln<|thn<|⟨(y11),h,(mto (n:=53) [(0,(.own 0 1 (0) p0)),(1,I p1),(2,I p2),(3,Qhw),(8,I y2)] [0,1,2,3,4] [(.own 1 (y11.map Qab)),(.own 1 [[Qgj]]),(Qgi p4),(.own 1 [[I p5]]),(.own 1 [[I p6]])] hq (pc (.rn (Qas rfl)) (pw (pw (pc (.rn (Qaj rn0 (rnc (rqr rfl) (rnc (rqr rfl) rn0)))) (pw pn))))) (qc (spr Qac) (qb (lc (.rn (Qaj rn0 (rnc (rqr rfl) (rnc (rqr rfl) rn0)))) ln) (qb (lc (rnd Qac) ln) (qb (lc rwl ln) (qb (lc rwl ln) qn))))))⟩
  ·refine wfn hc7<|Qbc<|Qaq<|Qaq<|Qbb rfl ?_
   obtain rfl:=osi h
   exact⟨_,(mto (n:=53) (l':=[]) (own':=[(.own 1 (y3.map Qab)),(.own 1 [[Qgj]]),(Qgi p4),(.own 1 [[I p5]]),(.own 1 [[I p6]])]) [] [0,1,2,3,4] [(.own 1 (y3.map Qab)),(.own 1 [[Qgj]]),(Qgi p4),(.own 1 [[I p5]]),(.own 1 [[I p6]])] hq pn (qc (spr Qac) (qb (lc (.rn (Qaj rn0 (rnc (rqr rfl) (rnc (rqr rfl) rn0)))) ln) (qb (lc (rnd Qac) ln) (qb (lc rwl ln) (qb (lc rwl ln) qn)))))),fio [] tv⟩
def Qbf (N p0:Nat) (p1 p2 p3:Int):Nat→Int→(List Int)→Option (List Int)
  |0,_,_=>none
  |n6+1,y2,y3=>
    bif (decide (y2<p3)) then
     chk (decide (0≤w64 (p2+y2))&&decide ((w64 (p2+y2)).toNat<p0))<|
     (y3[(w64 (p2+y2)).toNat]?).bind fun x9=>
     chk (decide (0≤w64 (p1+y2))&&decide ((w64 (p1+y2)).toNat<p0))<|
     (y3[(w64 (p1+y2)).toNat]?).bind fun x12=>
     chk (decide (0≤w64 (p1+y2))&&decide ((w64 (p1+y2)).toNat<p0))<|
     (y3[(w64 (p1+y2)).toNat]?).bind fun _=>
     chk (decide (0≤w64 (p2+y2))&&decide ((w64 (p2+y2)).toNat<p0))<|
     ((y3.set ((w64 (p1+y2)).toNat) x9)[(w64 (p2+y2)).toNat]?).bind fun _=>
     Qbf N p0 p1 p2 p3 n6 (w64 (y2+1)) ((y3.set ((w64 (p1+y2)).toNat) x9).set ((w64 (p2+y2)).toNat) x12)
    else
     some y3
def Qbx (N p0:Nat) (p1 p2 p3:Int) (p4 _p5:List Int) (_p6 _p7:Int):Option (List Int):=
  Qbf N p0 p1 p2 p3 N 0 p4
abbrev Ql3:AV:=.fn (.func 46) [] [(.ref 3 1 (0) 0),(.ref 4 1 (0) 0)]
abbrev Ql2 (p5:List Int):Slot:=.own 1 [[(.dat 1 (p5.map Qab))]]
def Qra (y3:List Int) (p1 y2 x9:Int):Slot:=.own 1 ((y3.set ((w64 (p1+y2)).toNat) x9:List Int).map Qab)
theorem Qcs (N p0:Nat) (p1 p2 p3:Int) (p4 p5:List Int) (p6 p7:Int) (r:List Int) (h:Qbx N p0 p1 p2 p3 p4 p5 p6 p7=some r):Spec prog 62 [(.own 0 1 (0) p0),(I p1),(I p2),(I p3),(.fn (.func 53) [] [(.ref 1 1 (0) 0),(.ref 2 1 (0) 0)])] [(.own 1 (p4.map Qab)),(.own 1 [[Ql3]]),(Ql2 p5),(.own 1 [[(I p6)]]),(.own 1 [[(I p7)]])] (.tup []) [(.own 1 (r.map Qab)),(.own 1 [[Ql3]]),(Ql2 p5),(.own 1 [[(I p6)]]),(.own 1 [[(I p7)]])]:=by
  refine sF func62 5 fun _ _ _ hq hd0=>?_
  unfold Qbx at h
  refine wxz<|Qag ?_
  refine wmr (mto (n:=38) (l':=[(0,(.own 0 1 (0) p0)),(1,I p1),(2,I p2),(3,I p3),(10,I 0)]) (own':=[(.own 1 (p4.map Qab)),(.own 1 [[Ql3]]),(Ql2 p5),(.own 1 [[I p6]]),(.own 1 [[I p7]])]) [(0,(.own 0 1 (0) p0)),(1,I p1),(2,I p2),(3,I p3),(10,I 0)] [0,1,2,3,4] [(.own 1 (p4.map Qab)),(.own 1 [[Ql3]]),(Ql2 p5),(.own 1 [[I p6]]),(.own 1 [[I p7]])] hq (pc (.rn (Qas rfl)) (pw (pw (pw (pw pn))))) (qc (spr Qac) (qb (lc (.rn (Qaj rn0 (rnc (rqr rfl) (rnc (rqr rfl) rn0)))) ln) (qb (lc (rnd Qac) ln) (qb (lc rwl ln) (qb (lc rwl ln) qn)))))) ?_
  refine Qb2 (τ:=Int×(List Int)) (fun n t=>Qbf N p0 p1 p2 p3 n t.1 t.2=some r) (fun ⟨y2,y3⟩=>⟨mk 38 [(0,(.own 0 1 (0) p0)),(1,I p1),(2,I p2),(3,I p3),(10,I y2)],[(.own 1 (y3.map Qab)),(.own 1 [[Ql3]]),(Ql2 p5),(.own 1 [[I p6]]),(.own 1 [[I p7]])]⟩) (fun t h=>by rw[Qbf] at h;cases h) (fun n6 ih t h=>?_) N (0,p4) h
  obtain⟨y2,y3⟩:=t
  rw[Qbf] at h
  skip
  refine wsq<|wxz ?_
  refine bfe h (fun hc7 h=>?_) fun hc7 h=>?_
  ·refine wft hc7<|Qah<|thn<|wsq<|Qag ?_
   obtain⟨hi8,h⟩:=cko h
   obtain⟨hi8a,hi8b⟩:=Qcc hi8
   obtain⟨x9,hg10,h⟩:=bno h
   obtain⟨hi11,h⟩:=cko h
   obtain⟨hi11a,hi11b⟩:=Qcc hi11
   obtain⟨x12,hg13,h⟩:=bno h
   obtain⟨hi14,h⟩:=cko h
   obtain⟨hi14a,hi14b⟩:=Qcc hi14
   obtain⟨x15,hg16,h⟩:=bno h
   obtain⟨hi17,h⟩:=cko h
   obtain⟨hi17a,hi17b⟩:=Qcc hi17
   obtain⟨x18,hg19,h⟩:=bno h
   refine wy1 tbk [(12,rb [(.tmp 24,(.own 0 1 (0) p0)),(.tmp 27,(I (w64 (p2+y2))))] [(0,(.own 1 (y3.map Qab)))] (.ref 0 1 ((w64 (p2+y2)).toNat) 0)),(13,rb [(.tmp 28,(.ref 0 1 ((w64 (p2+y2)).toNat) 0))] [(0,(.own 1 (y3.map Qab)))] (I x9)),(18,rb [(.tmp 30,(.own 0 1 (0) p0)),(.tmp 33,(I (w64 (p1+y2))))] [(0,(.own 1 (y3.map Qab)))] (.ref 0 1 ((w64 (p1+y2)).toNat) 0)),(19,rb [(.tmp 34,(.ref 0 1 ((w64 (p1+y2)).toNat) 0))] [(0,(.own 1 (y3.map Qab)))] (I x12)),(20,rb [(.tmp 16,(.own 0 1 (0) p0)),(.tmp 19,(I (w64 (p1+y2))))] [(0,(.own 1 (y3.map Qab)))] (.ref 0 1 ((w64 (p1+y2)).toNat) 0)),(21,⟨[(.tmp 36,(.ref 0 1 ((w64 (p1+y2)).toNat) 0)),(.tmp 29,I x9)],[(0,(.own 1 (y3.map Qab)))],.any,[(0,(Qra y3 p1 y2 x9))],false⟩),(22,rb [(.tmp 20,(.own 0 1 (0) p0)),(.tmp 23,(I (w64 (p2+y2))))] [(0,(Qra y3 p1 y2 x9))] (.ref 0 1 ((w64 (p2+y2)).toNat) 0)),(23,⟨[(.tmp 37,(.ref 0 1 ((w64 (p2+y2)).toNat) 0)),(.tmp 35,I x12)],[(0,(Qra y3 p1 y2 x9))],.any,[(0,(.own 1 (((y3.set ((w64 (p1+y2)).toNat) x9).set ((w64 (p2+y2)).toNat) x12:List Int).map Qab)))],false⟩)] ⟨aio rfl underlying25 ti3 (odt hi8a) (odt hi8b) (Nat.zero_add _),ald rfl ti3 (by decide) (mgt Qab hg10) (nle rfl) rfl,aio rfl underlying25 ti3 (odt hi11a) (odt hi11b) (Nat.zero_add _),ald rfl ti3 (by decide) (mgt Qab hg13) (nle rfl) rfl,aio rfl underlying25 ti3 (odt hi14a) (odt hi14b) (Nat.zero_add _),ast rfl ti3 (by rfl) (mgt Qab hg16) (nle rfl) (Qe9 Qab rfl),aio rfl underlying25 ti3 (odt hi17a) (odt hi17b) (Nat.zero_add _),ast rfl ti3 (by rfl) (mgt Qab hg19) (nle rfl) (Qe9 Qab rfl),tv⟩<|bln<|thn<|wxz1<|thn ?_
   exact arm (mto (n:=38) [(0,(.own 0 1 (0) p0)),(1,I p1),(2,I p2),(3,I p3),(10,(I (w64 (y2+1))))] [0,1,2,3,4] [(.own 1 (((y3.set ((w64 (p1+y2)).toNat) x9).set ((w64 (p2+y2)).toNat) x12:List Int).map Qab)),(.own 1 [[Ql3]]),(Ql2 p5),(.own 1 [[I p6]]),(.own 1 [[I p7]])] hq (pc (.rn (Qas rfl)) (pw (pw (pw (pw pn))))) (qc (spr Qac) (qb (lc (.rn (Qaj rn0 (rnc (rqr rfl) (rnc (rqr rfl) rn0)))) ln) (qb (lc (rnd Qac) ln) (qb (lc rwl ln) (qb (lc rwl ln) qn)))))) (ih (w64 (y2+1),(y3.set ((w64 (p1+y2)).toNat) x9).set ((w64 (p2+y2)).toNat) x12) h)
  ·refine wfn hc7<|Qbc<|Qaq<|Qaq<|Qbb rfl ?_
   obtain rfl:=osi h
   exact⟨_,(mto (n:=38) (l':=[]) (own':=[(.own 1 (y3.map Qab)),(.own 1 [[Ql3]]),(Ql2 p5),(.own 1 [[I p6]]),(.own 1 [[I p7]])]) [] [0,1,2,3,4] [(.own 1 (y3.map Qab)),(.own 1 [[Ql3]]),(Ql2 p5),(.own 1 [[I p6]]),(.own 1 [[I p7]])] hq pn (qc (spr Qac) (qb (lc (.rn (Qaj rn0 (rnc (rqr rfl) (rnc (rqr rfl) rn0)))) ln) (qb (lc (rnd Qac) ln) (qb (lc rwl ln) (qb (lc rwl ln) qn)))))),fio [] tv⟩
def Qa9 (N p0:Nat) (p2:Int) (k4:Int×(List Int)→Option (List Int)) (p5:List Int) (p6 p7:Int):Nat→Int→Int→(List Int)→Option (List Int)
  |0,_,_,_=>none
  |n13+1,y7,y8,y9=>
    bif (y7 != y8) then
     bif (decide (y7>y8)) then
      (Qbx N p0 (w64 (p2-y7)) p2 y8 y9 p5 p6 p7).bind fun x17=>
      Qa9 N p0 p2 k4 p5 p6 p7 n13 (w64 (y7-y8)) y8 x17
     else
      (Qbx N p0 (w64 (p2-y7)) (w64 ((w64 (p2+y8))-y7)) y7 y9 p5 p6 p7).bind fun x19=>
      Qa9 N p0 p2 k4 p5 p6 p7 n13 y7 (w64 (y8-y7)) x19
    else
     k4 (y7,y9)
def Qdg (N p0:Nat) (p1 p2 p3:Int) (p4 p5:List Int) (p6 p7:Int):Option (List Int):=
  Qcd (fun ⟨y2,y3⟩=>
    (Qbx N p0 (w64 (p2-y2)) p2 y2 y3 p5 p6 p7).bind fun x6=>
    some x6) fun k4:Int×(List Int)→Option (List Int)=>
  Qa9 N p0 p2 k4 p5 p6 p7 N (w64 (p2-p1)) (w64 (p3-p2)) p4
abbrev Qji:AV:=.fn (.func 53) [] [(.ref 1 1 (0) 0),(.ref 2 1 (0) 0)]
abbrev Qg7:AV:=.fn (.func 46) [] [(.ref 3 1 (0) 0),(.ref 4 1 (0) 0)]
abbrev Qg6 (p5:List Int):Slot:=.own 1 [[(.dat 1 (p5.map Qab))]]
theorem Qfi (N p0:Nat) (p1 p2 p3:Int) (p4 p5:List Int) (p6 p7:Int) (r:List Int) (h:Qdg N p0 p1 p2 p3 p4 p5 p6 p7=some r):Spec prog 61 [(.own 0 1 (0) p0),(I p1),(I p2),(I p3),Qji] [(.own 1 (p4.map Qab)),(.own 1 [[Qg7]]),(Qg6 p5),(.own 1 [[(I p6)]]),(.own 1 [[(I p7)]])] (.tup []) [(.own 1 (r.map Qab)),(.own 1 [[Qg7]]),(Qg6 p5),(.own 1 [[(I p6)]]),(.own 1 [[(I p7)]])]:=by
  refine sF func61 5 fun _ _ _ hq hd0=>?_
  unfold Qdg at h
  refine wxz<|wxz ?_
  obtain⟨k4,hk_k4,h⟩:=jko h
  refine wjn (τ:=Int×(List Int)) (fun t=>k4 t=some r) (fun ⟨y2,y3⟩=>⟨mk 58 [(0,(.own 0 1 (0) p0)),(2,I p2),(4,Qji),(10,I y2)],[(.own 1 (y3.map Qab)),(.own 1 [[Qg7]]),(Qg6 p5),(.own 1 [[I p6]]),(.own 1 [[I p7]])]⟩) (fun t h=>?_) ?_
  ·subst hk_k4
   obtain⟨y2,y3⟩:=t
   obtain⟨x6,hf5,h⟩:=bno h
   refine wx1 tbk [(7,⟨_,_,_,_,false⟩)] ⟨acq [(.own 0 1 (0) p0),(I (w64 (p2-y2))),I p2,I y2,Qji] [(.own 1 (y3.map Qab)),(.own 1 [[Qg7]]),(Qg6 p5),(.own 1 [[I p6]]),(.own 1 [[I p7]])] [(.own 1 (x6.map Qab)),(.own 1 [[Qg7]]),(Qg6 p5),(.own 1 [[I p6]]),(.own 1 [[I p7]])] (.tup []) [0,1,2,3,4] Qnu (Qcs N p0 (w64 (p2-y2)) p2 y2 y3 p5 p6 p7 _ hf5) (Qbu (rnc (Qfu rfl) (rncc (rnc (.plain _ nll) (rnc (Qaj rn0 (rnc (Qak rfl) (rnc (Qak rfl) rn0))) rn0))))) (slc (Qdc Qac) (slc (Qad (rnc (Qaj rn0 (rnc (Qak rfl) (rnc (Qak rfl) rn0))) rn0)) (slc (Qad (rnc (pld Qac) rn0)) (slc (Qad (rnc (.plain _ nll) rn0)) (slc (Qad (rnc (.plain _ nll) rn0)) Qal))))) (slc (Qdc Qac) (slc (Qad (rnc (Qaj rn0 (rnc (Qar rfl) (rnc (Qar rfl) rn0))) rn0)) (slc (Qad (rnc (pld Qac) rn0)) (slc (Qad (rnc (.plain _ nll) rn0)) (slc (Qad (rnc (.plain _ nll) rn0)) Qal))))) (.plain _ (NLt.tup _ nl0)),tv⟩ ?_
   obtain rfl:=osi h
   exact⟨_,(mto (n:=58) (l':=[]) (own':=[(.own 1 (x6.map Qab)),(.own 1 [[Qg7]]),(Qg6 p5),(.own 1 [[I p6]]),(.own 1 [[I p7]])]) [] [0,1,2,3,4] [(.own 1 (x6.map Qab)),(.own 1 [[Qg7]]),(Qg6 p5),(.own 1 [[I p6]]),(.own 1 [[I p7]])] hq pn (qc (spr Qac) (qb (lc (.rn (Qaj rn0 (rnc (rqr rfl) (rnc (rqr rfl) rn0)))) ln) (qb (lc (rnd Qac) ln) (qb (lc rwl ln) (qb (lc rwl ln) qn)))))),fio [] tv⟩
  ·skip
   refine Qag<|wmr (mto (n:=58) (l':=[(0,(.own 0 1 (0) p0)),(2,I p2),(4,Qji),(10,(I ((w64 (p2-p1))))),(11,(I ((w64 (p3-p2)))))]) (own':=[(.own 1 (p4.map Qab)),(.own 1 [[Qg7]]),(Qg6 p5),(.own 1 [[I p6]]),(.own 1 [[I p7]])]) [(0,(.own 0 1 (0) p0)),(2,I p2),(4,Qji),(10,(I (w64 (p2-p1)))),(11,(I (w64 (p3-p2))))] [0,1,2,3,4] [(.own 1 (p4.map Qab)),(.own 1 [[Qg7]]),(Qg6 p5),(.own 1 [[I p6]]),(.own 1 [[I p7]])] hq (pc (.rn (Qas rfl)) (pw (pc (.rn (Qaj rn0 (rnc (rqr rfl) (rnc (rqr rfl) rn0)))) (pw (pw pn))))) (qc (spr Qac) (qb (lc (.rn (Qaj rn0 (rnc (rqr rfl) (rnc (rqr rfl) rn0)))) ln) (qb (lc (rnd Qac) ln) (qb (lc rwl ln) (qb (lc rwl ln) qn)))))) ?_
   refine Qb2 (τ:=Int×Int×(List Int)) (fun n t=>Qa9 N p0 p2 k4 p5 p6 p7 n t.1 t.2.1 t.2.2=some r) (fun ⟨y7,y8,y9⟩=>⟨mk 58 [(0,(.own 0 1 (0) p0)),(2,I p2),(4,Qji),(10,I y7),(11,I y8)],[(.own 1 (y9.map Qab)),(.own 1 [[Qg7]]),(Qg6 p5),(.own 1 [[I p6]]),(.own 1 [[I p7]])]⟩) (fun t h=>by rw[Qa9] at h;cases h) (fun n13 ih t h=>?_) N (w64 (p2-p1),w64 (p3-p2),p4) h
   obtain⟨y7,y8,y9⟩:=t
   rw[Qa9] at h
   skip
   refine wsq<|wxz ?_
   refine bfe h (fun hc14 h=>?_) fun hc14 h=>?_
   ·refine wft hc14<|Qah<|thn<|Qag<|wxz ?_
    refine bfe h (fun hc15 h=>?_) fun hc15 h=>?_
    ·refine wft hc15 ?_
     obtain⟨x17,hf16,h⟩:=bno h
     refine wx tbk [(7,⟨_,_,_,_,false⟩)] ⟨acq [(.own 0 1 (0) p0),(I (w64 (p2-y7))),I p2,I y8,Qji] [(.own 1 (y9.map Qab)),(.own 1 [[Qg7]]),(Qg6 p5),(.own 1 [[I p6]]),(.own 1 [[I p7]])] [(.own 1 (x17.map Qab)),(.own 1 [[Qg7]]),(Qg6 p5),(.own 1 [[I p6]]),(.own 1 [[I p7]])] (.tup []) [0,1,2,3,4] Qnu (Qcs N p0 (w64 (p2-y7)) p2 y8 y9 p5 p6 p7 _ hf16) (Qbu (rnc (Qfu rfl) (rncc (rnc (.plain _ nll) (rnc (Qaj rn0 (rnc (Qak rfl) (rnc (Qak rfl) rn0))) rn0))))) (slc (Qdc Qac) (slc (Qad (rnc (Qaj rn0 (rnc (Qak rfl) (rnc (Qak rfl) rn0))) rn0)) (slc (Qad (rnc (pld Qac) rn0)) (slc (Qad (rnc (.plain _ nll) rn0)) (slc (Qad (rnc (.plain _ nll) rn0)) Qal))))) (slc (Qdc Qac) (slc (Qad (rnc (Qaj rn0 (rnc (Qar rfl) (rnc (Qar rfl) rn0))) rn0)) (slc (Qad (rnc (pld Qac) rn0)) (slc (Qad (rnc (.plain _ nll) rn0)) (slc (Qad (rnc (.plain _ nll) rn0)) Qal))))) (.plain _ (NLt.tup _ nl0)),tv⟩<|wxz1<|bln<|thn ?_
     exact arm (mto (n:=58) [(0,(.own 0 1 (0) p0)),(2,I p2),(4,Qji),(10,(I (w64 (y7-y8)))),(11,I y8)] [0,1,2,3,4] [(.own 1 (x17.map Qab)),(.own 1 [[Qg7]]),(Qg6 p5),(.own 1 [[I p6]]),(.own 1 [[I p7]])] hq (pc (.rn (Qas rfl)) (pw (pc (.rn (Qaj rn0 (rnc (rqr rfl) (rnc (rqr rfl) rn0)))) (pw (pw pn))))) (qc (spr Qac) (qb (lc (.rn (Qaj rn0 (rnc (rqr rfl) (rnc (rqr rfl) rn0)))) ln) (qb (lc (rnd Qac) ln) (qb (lc rwl ln) (qb (lc rwl ln) qn)))))) (ih (w64 (y7-y8),y8,x17) h)
    ·refine wfn hc15 ?_
     obtain⟨x19,hf18,h⟩:=bno h
     refine wx tbk [(11,⟨_,_,_,_,false⟩)] ⟨acq [(.own 0 1 (0) p0),(I (w64 (p2-y7))),(I (w64 ((w64 (p2+y8))-y7))),I y7,Qji] [(.own 1 (y9.map Qab)),(.own 1 [[Qg7]]),(Qg6 p5),(.own 1 [[I p6]]),(.own 1 [[I p7]])] [(.own 1 (x19.map Qab)),(.own 1 [[Qg7]]),(Qg6 p5),(.own 1 [[I p6]]),(.own 1 [[I p7]])] (.tup []) [0,1,2,3,4] Qnu (Qcs N p0 (w64 (p2-y7)) (w64 ((w64 (p2+y8))-y7)) y7 y9 p5 p6 p7 _ hf18) (Qbu (rnc (Qfu rfl) (rncc (rnc (.plain _ nll) (rnc (Qaj rn0 (rnc (Qak rfl) (rnc (Qak rfl) rn0))) rn0))))) (slc (Qdc Qac) (slc (Qad (rnc (Qaj rn0 (rnc (Qak rfl) (rnc (Qak rfl) rn0))) rn0)) (slc (Qad (rnc (pld Qac) rn0)) (slc (Qad (rnc (.plain _ nll) rn0)) (slc (Qad (rnc (.plain _ nll) rn0)) Qal))))) (slc (Qdc Qac) (slc (Qad (rnc (Qaj rn0 (rnc (Qar rfl) (rnc (Qar rfl) rn0))) rn0)) (slc (Qad (rnc (pld Qac) rn0)) (slc (Qad (rnc (.plain _ nll) rn0)) (slc (Qad (rnc (.plain _ nll) rn0)) Qal))))) (.plain _ (NLt.tup _ nl0)),tv⟩<|wxz1<|bln<|thn ?_
     exact arm (mto (n:=58) [(0,(.own 0 1 (0) p0)),(2,I p2),(4,Qji),(10,I y7),(11,(I (w64 (y8-y7))))] [0,1,2,3,4] [(.own 1 (x19.map Qab)),(.own 1 [[Qg7]]),(Qg6 p5),(.own 1 [[I p6]]),(.own 1 [[I p7]])] hq (pc (.rn (Qas rfl)) (pw (pc (.rn (Qaj rn0 (rnc (rqr rfl) (rnc (rqr rfl) rn0)))) (pw (pw pn))))) (qc (spr Qac) (qb (lc (.rn (Qaj rn0 (rnc (rqr rfl) (rnc (rqr rfl) rn0)))) ln) (qb (lc (rnd Qac) ln) (qb (lc rwl ln) (qb (lc rwl ln) qn)))))) (ih (y7,w64 (y8-y7),x19) h)
   ·exact wfn hc14<|Qbc<|Qaq<|Qaq<|Qbb rfl<|thn<|⟨(y7,y9),h,(mto (n:=58) [(0,(.own 0 1 (0) p0)),(2,I p2),(4,Qji),(10,I y7)] [0,1,2,3,4] [(.own 1 (y9.map Qab)),(.own 1 [[Qg7]]),(Qg6 p5),(.own 1 [[I p6]]),(.own 1 [[I p7]])] hq (pc (.rn (Qas rfl)) (pw (pc (.rn (Qaj rn0 (rnc (rqr rfl) (rnc (rqr rfl) rn0)))) (pw pn)))) (qc (spr Qac) (qb (lc (.rn (Qaj rn0 (rnc (rqr rfl) (rnc (rqr rfl) rn0)))) ln) (qb (lc (rnd Qac) ln) (qb (lc rwl ln) (qb (lc rwl ln) qn))))))⟩
def Qa7 (N p0:Nat) (p4 p5:List Int) (p6 p7 x10:Int) (k13:Int→Option (List Int)):Nat→Int→Int→Option (List Int)
  |0,_,_=>none
  |n36+1,y32,y33=>
    bif (decide (y32<y33)) then
     (some (w64 ((IntKind.wrap .u64 (w64 (y32+y33)))/2))).bind fun x38=>
     chk (decide (0≤w64 (x10-x38))&&decide ((w64 (x10-x38)).toNat<p0))<|
     (p4[(w64 (x10-x38)).toNat]?).bind fun x41=>
     chk (decide (0≤x38)&&decide (x38.toNat<p0))<|
     (p4[x38.toNat]?).bind fun x44=>
     (Qbw N x41 x44 p5 p6 p7).bind fun x47=>
     bif (!(decide (x47<0))) then
      Qa7 N p0 p4 p5 p6 p7 x10 k13 n36 (w64 (x38+1)) y33
     else
      Qa7 N p0 p4 p5 p6 p7 x10 k13 n36 y32 x38
    else
     k13 (y32)
def Qbh (N p0:Nat) (y53:Int) (k56:(List Int)→Option (List Int)):Nat→Int→(List Int)→Option (List Int)
  |0,_,_=>none
  |n61+1,y57,y58=>
    bif (decide (y57>y53)) then
     chk (decide (0≤w64 (y57-1))&&decide ((w64 (y57-1)).toNat<p0))<|
     (y58[(w64 (y57-1)).toNat]?).bind fun x64=>
     chk (decide (0≤y57)&&decide (y57.toNat<p0))<|
     (y58[y57.toNat]?).bind fun x67=>
     chk (decide (0≤y57)&&decide (y57.toNat<p0))<|
     (y58[y57.toNat]?).bind fun _=>
     chk (decide (0≤w64 (y57-1))&&decide ((w64 (y57-1)).toNat<p0))<|
     ((y58.set y57.toNat x64)[(w64 (y57-1)).toNat]?).bind fun _=>
     Qbh N p0 y53 k56 n61 (w64 (y57-1)) ((y58.set y57.toNat x64).set ((w64 (y57-1)).toNat) x67)
    else
     k56 (y58)
def Qa6 (N p0:Nat) (p2:Int) (p4 p5:List Int) (p6 p7:Int) (k54:Int→Option (List Int)):Nat→Int→Int→Option (List Int)
  |0,_,_=>none
  |n79+1,y75,y76=>
    bif (decide (y75<y76)) then
     (some (w64 ((IntKind.wrap .u64 (w64 (y75+y76)))/2))).bind fun x81=>
     chk (decide (0≤p2)&&decide (p2.toNat<p0))<|
     (p4[p2.toNat]?).bind fun x84=>
     chk (decide (0≤x81)&&decide (x81.toNat<p0))<|
     (p4[x81.toNat]?).bind fun x87=>
     (Qbw N x84 x87 p5 p6 p7).bind fun x90=>
     bif (!(decide (x90<0))) then
      Qa6 N p0 p2 p4 p5 p6 p7 k54 n79 (w64 (x81+1)) y76
     else
      Qa6 N p0 p2 p4 p5 p6 p7 k54 n79 y75 x81
    else
     k54 (y75)
def Qbg (N p0:Nat) (y93:Int) (k96:(List Int)→Option (List Int)):Nat→Int→(List Int)→Option (List Int)
  |0,_,_=>none
  |n101+1,y97,y98=>
    bif (decide (y97<(w64 (y93-1)))) then
     chk (decide (0≤w64 (y97+1))&&decide ((w64 (y97+1)).toNat<p0))<|
     (y98[(w64 (y97+1)).toNat]?).bind fun x104=>
     chk (decide (0≤y97)&&decide (y97.toNat<p0))<|
     (y98[y97.toNat]?).bind fun x107=>
     chk (decide (0≤y97)&&decide (y97.toNat<p0))<|
     (y98[y97.toNat]?).bind fun _=>
     chk (decide (0≤w64 (y97+1))&&decide ((w64 (y97+1)).toNat<p0))<|
     ((y98.set y97.toNat x104)[(w64 (y97+1)).toNat]?).bind fun _=>
     Qbg N p0 y93 k96 n101 (w64 (y97+1)) ((y98.set y97.toNat x104).set ((w64 (y97+1)).toNat) x107)
    else
     k96 (y98)
def Qa5 (N p0:Nat) (p1:Int) (p4 p5:List Int) (p6 p7:Int) (k94:Int→Option (List Int)):Nat→Int→Int→Option (List Int)
  |0,_,_=>none
  |n119+1,y115,y116=>
    bif (decide (y115<y116)) then
     (some (w64 ((IntKind.wrap .u64 (w64 (y115+y116)))/2))).bind fun x121=>
     chk (decide (0≤x121)&&decide (x121.toNat<p0))<|
     (p4[x121.toNat]?).bind fun x124=>
     chk (decide (0≤p1)&&decide (p1.toNat<p0))<|
     (p4[p1.toNat]?).bind fun x127=>
     (Qbw N x124 x127 p5 p6 p7).bind fun x130=>
     bif (decide (x130<0)) then
      Qa5 N p0 p1 p4 p5 p6 p7 k94 n119 (w64 (x121+1)) y116
     else
      Qa5 N p0 p1 p4 p5 p6 p7 k94 n119 y115 x121
    else
     k94 (y115)
def Qcp (N:Nat) (rec_:Nat→Int→Int→Int→(List Int)→(List Int)→Int→Int→Option (List Int)) (p0:Nat) (p1 p2 p3:Int) (p4 p5:List Int) (p6 p7:Int):Option (List Int):=
  Qcd (fun _=>
    Qcd (fun _=>
      (some (w64 ((IntKind.wrap .u64 (w64 (p1+p3)))/2))).bind fun x5=>
      Qcd (fun ⟨y7,y8⟩=>
        (some (w64 ((w64 (x5+p2))-1))).bind fun x10=>
        Qcd (fun y12=>
          (some (w64 ((w64 (x5+p2))-y12))).bind fun x14=>
          Qcd (fun y16=>
            Qcd (fun y18=>
              bif (decide (x5<x14)) then
               bif (decide (x14<p3)) then
                (rec_ p0 x5 x14 p3 y18 p5 p6 p7).bind fun x23=>
                some x23
               else
                some y18
              else
               some y18) fun k19:(List Int)→Option (List Int)=>
            bif (decide (p1<y12)) then
             bif (decide (y12<x5)) then
              (rec_ p0 p1 y12 x5 y16 p5 p6 p7).bind fun x27=>
              k19 (x27)
             else
              k19 (y16)
            else
             k19 y16) fun k17:(List Int)→Option (List Int)=>
          bif (decide (y12<p2)) then
           bif (decide (p2<x14)) then
            (Qdg N p0 y12 p2 x14 p4 p5 p6 p7).bind fun x31=>
            k17 (x31)
           else
            k17 (p4)
          else
           k17 p4) fun k13:Int→Option (List Int)=>
        Qa7 N p0 p4 p5 p6 p7 x10 k13 N y7 y8) fun k9:Int×Int→Option (List Int)=>
      bif (decide (p2>x5)) then
       (some (w64 ((w64 (x5+p2))-p3))).bind fun x50=>
       k9 (x50,x5)
      else
       k9 (p1,p2)) fun k4:Unit→Option (List Int)=>
    bif ((w64 (p3-p2))==1) then
     Qcd (fun y53=>
       Qcd (fun y55=>
         some y55) fun k56:(List Int)→Option (List Int)=>
       Qbh N p0 y53 k56 N p2 p4) fun k54:Int→Option (List Int)=>
     Qa6 N p0 p2 p4 p5 p6 p7 k54 N p1 p2
    else
     k4 ()) fun k3:Unit→Option (List Int)=>
  bif ((w64 (p2-p1))==1) then
   Qcd (fun y93=>
     Qcd (fun y95=>
       some y95) fun k96:(List Int)→Option (List Int)=>
     Qbg N p0 y93 k96 N p1 p4) fun k94:Int→Option (List Int)=>
   Qa5 N p0 p1 p4 p5 p6 p7 k94 N p2 p3
  else
   k3 ()
def Qby:Nat→Nat→Int→Int→Int→(List Int)→(List Int)→Int→Int→Option (List Int)
  |0,_,_,_,_,_,_,_,_=>none
  |N+1,p0,p1,p2,p3,p4,p5,p6,p7=>Qcp N (Qby N) p0 p1 p2 p3 p4 p5 p6 p7
abbrev Qd5:AV:=.fn (.func 53) [] [(.ref 1 1 (0) 0),(.ref 2 1 (0) 0)]
abbrev Qb5:AV:=.fn (.func 46) [] [(.ref 3 1 (0) 0),(.ref 4 1 (0) 0)]
abbrev Qb4 (p5:List Int):Slot:=.own 1 [[(.dat 1 (p5.map Qab))]]
theorem Qdq:∀(N p0:Nat) (p1 p2 p3:Int) (p4 p5:List Int) (p6 p7:Int) (r:List Int) (_:Qby N p0 p1 p2 p3 p4 p5 p6 p7=some r),Spec prog 60 [(.own 0 1 (0) p0),(I p1),(I p2),(I p3),Qd5] [(.own 1 (p4.map Qab)),(.own 1 [[Qb5]]),(Qb4 p5),(.own 1 [[(I p6)]]),(.own 1 [[(I p7)]])] (.tup []) [(.own 1 (r.map Qab)),(.own 1 [[Qb5]]),(Qb4 p5),(.own 1 [[(I p6)]]),(.own 1 [[(I p7)]])]:=by
  intro N
  induction N with
  |zero=>intro p0 p1 p2 p3 p4 p5 p6 p7 r h;exact nomatch (show(none:Option (List Int))=some r from h)
  |succ N ihX=>
  intro p0 p1 p2 p3 p4 p5 p6 p7 r h
  replace h:Qcp N (Qby N) p0 p1 p2 p3 p4 p5 p6 p7=some r:=h
  refine sF func60 5 fun _ _ _ hq hd0=>?_
  unfold Qcp at h
  obtain⟨k3,hk_k3,h⟩:=jko h
  refine wjn (τ:=Unit) (fun t=>k3 t=some r) (fun _=>⟨mk 220 [(0,(.own 0 1 (0) p0)),(1,I p1),(2,I p2),(3,I p3),(4,Qd5)],[(.own 1 (p4.map Qab)),(.own 1 [[Qb5]]),(Qb4 p5),(.own 1 [[I p6]]),(.own 1 [[I p7]])]⟩) (fun t h=>?_) ?_
  ·subst hk_k3
   obtain⟨k4,hk_k4,h⟩:=jko h
   refine wjn (τ:=Unit) (fun t=>k4 t=some r) (fun _=>⟨mk 220 [(0,(.own 0 1 (0) p0)),(1,I p1),(2,I p2),(3,I p3),(4,Qd5)],[(.own 1 (p4.map Qab)),(.own 1 [[Qb5]]),(Qb4 p5),(.own 1 [[I p6]]),(.own 1 [[I p7]])]⟩) (fun t h=>?_) ?_
   ·subst hk_k4
    obtain⟨x5,hl6,h⟩:=bno h
    refine wx tbk [(3,rp [(.tmp 131,(I (w64 (p1+p3))))] (K .u64 (IntKind.wrap .u64 (w64 (p1+p3))))),(4,rp [(.tmp 132,(K .u64 (IntKind.wrap .u64 (w64 (p1+p3))))),(.const (.int .u64 1),(K .u64 (1)))] (K .u64 ((IntKind.wrap .u64 (w64 (p1+p3)))/2))),(5,rp [(.tmp 133,(K .u64 ((IntKind.wrap .u64 (w64 (p1+p3)))/2)))] (I (w64 ((IntKind.wrap .u64 (w64 (p1+p3)))/2)))),(6,rp [(.tmp 134,(I (w64 ((IntKind.wrap .u64 (w64 (p1+p3)))/2))))] (I x5))] ⟨acv rfl (by rw[underlying3];rfl) underlying96,Qik rfl (by decide) (by decide),acv rfl (by rw[underlying96];rfl) underlying3,Qeq hl6 (aas rfl),tv⟩<|wxz<|wxz ?_
    obtain⟨k9,hk_k9,h⟩:=jko h
    refine wjn (τ:=Int×Int) (fun t=>k9 t=some r) (fun ⟨y7,y8⟩=>⟨mk 220 [(0,(.own 0 1 (0) p0)),(1,I p1),(2,I p2),(3,I p3),(4,Qd5),(18,I x5),(19,(I (w64 (x5+p2)))),(20,I y7),(21,I y8)],[(.own 1 (p4.map Qab)),(.own 1 [[Qb5]]),(Qb4 p5),(.own 1 [[I p6]]),(.own 1 [[I p7]])]⟩) (fun t h=>?_) ?_
    ·subst hk_k9
     obtain⟨y7,y8⟩:=t
     obtain⟨x10,hl11,h⟩:=bno h
     refine wx tbk [(2,rp [(.tmp 148,(I (w64 ((w64 (x5+p2))-1))))] (I x10))] ⟨Qeq hl11 (aas rfl),tv⟩ ?_
     obtain⟨k13,hk_k13,h⟩:=jko h
     refine wjn (τ:=Int) (fun t=>k13 t=some r) (fun y12=>⟨mk 220 [(0,(.own 0 1 (0) p0)),(1,I p1),(2,I p2),(3,I p3),(4,Qd5),(18,I x5),(19,(I (w64 (x5+p2)))),(20,I y12)],[(.own 1 (p4.map Qab)),(.own 1 [[Qb5]]),(Qb4 p5),(.own 1 [[I p6]]),(.own 1 [[I p7]])]⟩) (fun y12 h=>?_) ?_
     ·subst hk_k13
      obtain⟨x14,hl15,h⟩:=bno h
      refine wx tbk [(3,rp [(.tmp 177,(I (w64 ((w64 (x5+p2))-y12))))] (I x14))] ⟨Qeq hl15 (aas rfl),tv⟩ ?_
      obtain⟨k17,hk_k17,h⟩:=jko h
      refine wjn (τ:=(List Int)) (fun t=>k17 t=some r) (fun y16=>⟨mk 220 [(0,(.own 0 1 (0) p0)),(1,I p1),(3,I p3),(4,Qd5),(18,I x5),(20,I y12),(24,I x14)],[(.own 1 (y16.map Qab)),(.own 1 [[Qb5]]),(Qb4 p5),(.own 1 [[I p6]]),(.own 1 [[I p7]])]⟩) (fun y16 h=>?_) ?_
      ·subst hk_k17
       obtain⟨k19,hk_k19,h⟩:=jko h
       refine wjn (τ:=(List Int)) (fun t=>k19 t=some r) (fun y18=>⟨mk 220 [(0,(.own 0 1 (0) p0)),(3,I p3),(4,Qd5),(18,I x5),(24,I x14)],[(.own 1 (y18.map Qab)),(.own 1 [[Qb5]]),(Qb4 p5),(.own 1 [[I p6]]),(.own 1 [[I p7]])]⟩) (fun y18 h=>?_) ?_
       ·subst hk_k19
        refine bfe h (fun hb20 h=>?_) fun hb20 h=>?_
        ·refine wx tbk [(3,rp [(.tmp 208,(B ((decide (x5<x14)))))] (B true))] ⟨asb hb20 (amv rfl),tv⟩ ?_
         refine bfe h (fun hc21 h=>?_) fun hc21 h=>?_
         ·refine wft hc21 ?_
          obtain⟨x23,hf22,h⟩:=bno h
          refine wx1 tbk [(5,⟨_,_,_,_,false⟩)] ⟨acq [(.own 0 1 (0) p0),I x5,I x14,I p3,Qd5] [(.own 1 (y18.map Qab)),(.own 1 [[Qb5]]),(Qb4 p5),(.own 1 [[I p6]]),(.own 1 [[I p7]])] [(.own 1 (x23.map Qab)),(.own 1 [[Qb5]]),(Qb4 p5),(.own 1 [[I p6]]),(.own 1 [[I p7]])] (.tup []) [0,1,2,3,4] Qlp (ihX p0 x5 x14 p3 y18 p5 p6 p7 _ hf22) (Qbu (rnc (Qfu rfl) (rncc (rnc (.plain _ nll) (rnc (Qaj rn0 (rnc (Qak rfl) (rnc (Qak rfl) rn0))) rn0))))) (slc (Qdc Qac) (slc (Qad (rnc (Qaj rn0 (rnc (Qak rfl) (rnc (Qak rfl) rn0))) rn0)) (slc (Qad (rnc (pld Qac) rn0)) (slc (Qad (rnc (.plain _ nll) rn0)) (slc (Qad (rnc (.plain _ nll) rn0)) Qal))))) (slc (Qdc Qac) (slc (Qad (rnc (Qaj rn0 (rnc (Qar rfl) (rnc (Qar rfl) rn0))) rn0)) (slc (Qad (rnc (pld Qac) rn0)) (slc (Qad (rnc (.plain _ nll) rn0)) (slc (Qad (rnc (.plain _ nll) rn0)) Qal))))) (.plain _ (NLt.tup _ nl0)),tv⟩ ?_
          obtain rfl:=osi h
          exact⟨_,(mto (n:=220) (l':=[]) (own':=[(.own 1 (x23.map Qab)),(.own 1 [[Qb5]]),(Qb4 p5),(.own 1 [[I p6]]),(.own 1 [[I p7]])]) [] [0,1,2,3,4] [(.own 1 (x23.map Qab)),(.own 1 [[Qb5]]),(Qb4 p5),(.own 1 [[I p6]]),(.own 1 [[I p7]])] hq pn (qc (spr Qac) (qb (lc (.rn (Qaj rn0 (rnc (rqr rfl) (rnc (rqr rfl) rn0)))) ln) (qb (lc (rnd Qac) ln) (qb (lc rwl ln) (qb (lc rwl ln) qn)))))),fio [] tv⟩
         ·refine wfn hc21<|Qah ?_
          obtain rfl:=osi h
          exact⟨_,(mto (n:=220) (l':=[]) (own':=[(.own 1 (y18.map Qab)),(.own 1 [[Qb5]]),(Qb4 p5),(.own 1 [[I p6]]),(.own 1 [[I p7]])]) [] [0,1,2,3,4] [(.own 1 (y18.map Qab)),(.own 1 [[Qb5]]),(Qb4 p5),(.own 1 [[I p6]]),(.own 1 [[I p7]])] hq pn (qc (spr Qac) (qb (lc (.rn (Qaj rn0 (rnc (rqr rfl) (rnc (rqr rfl) rn0)))) ln) (qb (lc (rnd Qac) ln) (qb (lc rwl ln) (qb (lc rwl ln) qn)))))),fio [] tv⟩
        ·refine wx tbk [(3,rp [(.tmp 208,(B ((decide (x5<x14)))))] (B false))] ⟨asb hb20 (amv rfl),tv⟩<|wfa<|Qah ?_
         obtain rfl:=osi h
         exact⟨_,(mto (n:=220) (l':=[]) (own':=[(.own 1 (y18.map Qab)),(.own 1 [[Qb5]]),(Qb4 p5),(.own 1 [[I p6]]),(.own 1 [[I p7]])]) [] [0,1,2,3,4] [(.own 1 (y18.map Qab)),(.own 1 [[Qb5]]),(Qb4 p5),(.own 1 [[I p6]]),(.own 1 [[I p7]])] hq pn (qc (spr Qac) (qb (lc (.rn (Qaj rn0 (rnc (rqr rfl) (rnc (rqr rfl) rn0)))) ln) (qb (lc (rnd Qac) ln) (qb (lc rwl ln) (qb (lc rwl ln) qn)))))),fio [] tv⟩
       ·skip
        refine bfe h (fun hb24 h=>?_) fun hb24 h=>?_
        ·refine wx tbk [(3,rp [(.tmp 194,(B ((decide (p1<y12)))))] (B true))] ⟨asb hb24 (amv rfl),tv⟩ ?_
         refine bfe h (fun hc25 h=>?_) fun hc25 h=>?_
         ·refine wft hc25 ?_
          obtain⟨x27,hf26,h⟩:=bno h
          refine wx1 tbk [(5,⟨_,_,_,_,false⟩)] ⟨acq [(.own 0 1 (0) p0),I p1,I y12,I x5,Qd5] [(.own 1 (y16.map Qab)),(.own 1 [[Qb5]]),(Qb4 p5),(.own 1 [[I p6]]),(.own 1 [[I p7]])] [(.own 1 (x27.map Qab)),(.own 1 [[Qb5]]),(Qb4 p5),(.own 1 [[I p6]]),(.own 1 [[I p7]])] (.tup []) [0,1,2,3,4] Qlp (ihX p0 p1 y12 x5 y16 p5 p6 p7 _ hf26) (Qbu (rnc (Qfu rfl) (rncc (rnc (.plain _ nll) (rnc (Qaj rn0 (rnc (Qak rfl) (rnc (Qak rfl) rn0))) rn0))))) (slc (Qdc Qac) (slc (Qad (rnc (Qaj rn0 (rnc (Qak rfl) (rnc (Qak rfl) rn0))) rn0)) (slc (Qad (rnc (pld Qac) rn0)) (slc (Qad (rnc (.plain _ nll) rn0)) (slc (Qad (rnc (.plain _ nll) rn0)) Qal))))) (slc (Qdc Qac) (slc (Qad (rnc (Qaj rn0 (rnc (Qar rfl) (rnc (Qar rfl) rn0))) rn0)) (slc (Qad (rnc (pld Qac) rn0)) (slc (Qad (rnc (.plain _ nll) rn0)) (slc (Qad (rnc (.plain _ nll) rn0)) Qal))))) (.plain _ (NLt.tup _ nl0)),tv⟩<|thn ?_
          exact⟨(x27),h,(mto (n:=220) [(0,(.own 0 1 (0) p0)),(3,I p3),(4,Qd5),(18,I x5),(24,I x14)] [0,1,2,3,4] [(.own 1 (x27.map Qab)),(.own 1 [[Qb5]]),(Qb4 p5),(.own 1 [[I p6]]),(.own 1 [[I p7]])] hq (pc (.rn (Qas rfl)) (pw (pc (.rn (Qaj rn0 (rnc (rqr rfl) (rnc (rqr rfl) rn0)))) (pw (pw pn))))) (qc (spr Qac) (qb (lc (.rn (Qaj rn0 (rnc (rqr rfl) (rnc (rqr rfl) rn0)))) ln) (qb (lc (rnd Qac) ln) (qb (lc rwl ln) (qb (lc rwl ln) qn))))))⟩
         ·exact wfn hc25<|Qah<|thn<|⟨(y16),h,(mto (n:=220) [(0,(.own 0 1 (0) p0)),(3,I p3),(4,Qd5),(18,I x5),(24,I x14)] [0,1,2,3,4] [(.own 1 (y16.map Qab)),(.own 1 [[Qb5]]),(Qb4 p5),(.own 1 [[I p6]]),(.own 1 [[I p7]])] hq (pc (.rn (Qas rfl)) (pw (pc (.rn (Qaj rn0 (rnc (rqr rfl) (rnc (rqr rfl) rn0)))) (pw (pw pn))))) (qc (spr Qac) (qb (lc (.rn (Qaj rn0 (rnc (rqr rfl) (rnc (rqr rfl) rn0)))) ln) (qb (lc (rnd Qac) ln) (qb (lc rwl ln) (qb (lc rwl ln) qn))))))⟩
        ·exact wx tbk [(3,rp [(.tmp 194,(B ((decide (p1<y12)))))] (B false))] ⟨asb hb24 (amv rfl),tv⟩<|wfa<|Qah<|thn<|⟨(y16),h,(mto (n:=220) [(0,(.own 0 1 (0) p0)),(3,I p3),(4,Qd5),(18,I x5),(24,I x14)] [0,1,2,3,4] [(.own 1 (y16.map Qab)),(.own 1 [[Qb5]]),(Qb4 p5),(.own 1 [[I p6]]),(.own 1 [[I p7]])] hq (pc (.rn (Qas rfl)) (pw (pc (.rn (Qaj rn0 (rnc (rqr rfl) (rnc (rqr rfl) rn0)))) (pw (pw pn))))) (qc (spr Qac) (qb (lc (.rn (Qaj rn0 (rnc (rqr rfl) (rnc (rqr rfl) rn0)))) ln) (qb (lc (rnd Qac) ln) (qb (lc rwl ln) (qb (lc rwl ln) qn))))))⟩
      ·skip
       refine bfe h (fun hb28 h=>?_) fun hb28 h=>?_
       ·refine wx tbk [(3,rp [(.tmp 180,(B ((decide (y12<p2)))))] (B true))] ⟨asb hb28 (amv rfl),tv⟩ ?_
        refine bfe h (fun hc29 h=>?_) fun hc29 h=>?_
        ·refine wft hc29 ?_
         obtain⟨x31,hf30,h⟩:=bno h
         refine wx1 tbk [(5,⟨_,_,_,_,false⟩)] ⟨acq [(.own 0 1 (0) p0),I y12,I p2,I x14,Qd5] [(.own 1 (p4.map Qab)),(.own 1 [[Qb5]]),(Qb4 p5),(.own 1 [[I p6]]),(.own 1 [[I p7]])] [(.own 1 (x31.map Qab)),(.own 1 [[Qb5]]),(Qb4 p5),(.own 1 [[I p6]]),(.own 1 [[I p7]])] (.tup []) [0,1,2,3,4] Qwv (Qfi N p0 y12 p2 x14 p4 p5 p6 p7 _ hf30) (Qbu (rnc (Qfu rfl) (rncc (rnc (.plain _ nll) (rnc (Qaj rn0 (rnc (Qak rfl) (rnc (Qak rfl) rn0))) rn0))))) (slc (Qdc Qac) (slc (Qad (rnc (Qaj rn0 (rnc (Qak rfl) (rnc (Qak rfl) rn0))) rn0)) (slc (Qad (rnc (pld Qac) rn0)) (slc (Qad (rnc (.plain _ nll) rn0)) (slc (Qad (rnc (.plain _ nll) rn0)) Qal))))) (slc (Qdc Qac) (slc (Qad (rnc (Qaj rn0 (rnc (Qar rfl) (rnc (Qar rfl) rn0))) rn0)) (slc (Qad (rnc (pld Qac) rn0)) (slc (Qad (rnc (.plain _ nll) rn0)) (slc (Qad (rnc (.plain _ nll) rn0)) Qal))))) (.plain _ (NLt.tup _ nl0)),tv⟩<|thn ?_
         exact⟨(x31),h,(mto (n:=220) [(0,(.own 0 1 (0) p0)),(1,I p1),(3,I p3),(4,Qd5),(18,I x5),(20,I y12),(24,I x14)] [0,1,2,3,4] [(.own 1 (x31.map Qab)),(.own 1 [[Qb5]]),(Qb4 p5),(.own 1 [[I p6]]),(.own 1 [[I p7]])] hq (pc (.rn (Qas rfl)) (pw (pw (pc (.rn (Qaj rn0 (rnc (rqr rfl) (rnc (rqr rfl) rn0)))) (pw (pw (pw pn))))))) (qc (spr Qac) (qb (lc (.rn (Qaj rn0 (rnc (rqr rfl) (rnc (rqr rfl) rn0)))) ln) (qb (lc (rnd Qac) ln) (qb (lc rwl ln) (qb (lc rwl ln) qn))))))⟩
        ·exact wfn hc29<|Qah<|thn<|⟨(p4),h,(mto (n:=220) [(0,(.own 0 1 (0) p0)),(1,I p1),(3,I p3),(4,Qd5),(18,I x5),(20,I y12),(24,I x14)] [0,1,2,3,4] [(.own 1 (p4.map Qab)),(.own 1 [[Qb5]]),(Qb4 p5),(.own 1 [[I p6]]),(.own 1 [[I p7]])] hq (pc (.rn (Qas rfl)) (pw (pw (pc (.rn (Qaj rn0 (rnc (rqr rfl) (rnc (rqr rfl) rn0)))) (pw (pw (pw pn))))))) (qc (spr Qac) (qb (lc (.rn (Qaj rn0 (rnc (rqr rfl) (rnc (rqr rfl) rn0)))) ln) (qb (lc (rnd Qac) ln) (qb (lc rwl ln) (qb (lc rwl ln) qn))))))⟩
       ·exact wx tbk [(3,rp [(.tmp 180,(B ((decide (y12<p2)))))] (B false))] ⟨asb hb28 (amv rfl),tv⟩<|wfa<|Qah<|thn<|⟨(p4),h,(mto (n:=220) [(0,(.own 0 1 (0) p0)),(1,I p1),(3,I p3),(4,Qd5),(18,I x5),(20,I y12),(24,I x14)] [0,1,2,3,4] [(.own 1 (p4.map Qab)),(.own 1 [[Qb5]]),(Qb4 p5),(.own 1 [[I p6]]),(.own 1 [[I p7]])] hq (pc (.rn (Qas rfl)) (pw (pw (pc (.rn (Qaj rn0 (rnc (rqr rfl) (rnc (rqr rfl) rn0)))) (pw (pw (pw pn))))))) (qc (spr Qac) (qb (lc (.rn (Qaj rn0 (rnc (rqr rfl) (rnc (rqr rfl) rn0)))) ln) (qb (lc (rnd Qac) ln) (qb (lc rwl ln) (qb (lc rwl ln) qn))))))⟩
     ·skip
      refine Qag<|wmr (mto (n:=220) (l':=[(0,(.own 0 1 (0) p0)),(1,I p1),(2,I p2),(3,I p3),(4,Qd5),(18,I x5),(19,(I (w64 (x5+p2)))),(20,I y7),(21,I y8),(22,I x10)]) (own':=[(.own 1 (p4.map Qab)),(.own 1 [[Qb5]]),(Qb4 p5),(.own 1 [[I p6]]),(.own 1 [[I p7]])]) [(0,(.own 0 1 (0) p0)),(1,I p1),(2,I p2),(3,I p3),(4,Qd5),(18,I x5),(19,(I (w64 (x5+p2)))),(20,I y7),(21,I y8),(22,I x10)] [0,1,2,3,4] [(.own 1 (p4.map Qab)),(.own 1 [[Qb5]]),(Qb4 p5),(.own 1 [[I p6]]),(.own 1 [[I p7]])] hq (pc (.rn (Qas rfl)) (pw (pw (pw (pc (.rn (Qaj rn0 (rnc (rqr rfl) (rnc (rqr rfl) rn0)))) (pw (pw (pw (pw (pw pn)))))))))) (qc (spr Qac) (qb (lc (.rn (Qaj rn0 (rnc (rqr rfl) (rnc (rqr rfl) rn0)))) ln) (qb (lc (rnd Qac) ln) (qb (lc rwl ln) (qb (lc rwl ln) qn)))))) ?_
      refine Qb2 (τ:=Int×Int) (fun n t=>Qa7 N p0 p4 p5 p6 p7 x10 k13 n t.1 t.2=some r) (fun ⟨y32,y33⟩=>⟨mk 220 [(0,(.own 0 1 (0) p0)),(1,I p1),(2,I p2),(3,I p3),(4,Qd5),(18,I x5),(19,(I (w64 (x5+p2)))),(20,I y32),(21,I y33),(22,I x10)],[(.own 1 (p4.map Qab)),(.own 1 [[Qb5]]),(Qb4 p5),(.own 1 [[I p6]]),(.own 1 [[I p7]])]⟩) (fun t h=>by rw[Qa7] at h;cases h) (fun n36 ih t h=>?_) N (y7,y8) h
      obtain⟨y32,y33⟩:=t
      rw[Qa7] at h
      skip
      refine wsq<|wxz ?_
      refine bfe h (fun hc37 h=>?_) fun hc37 h=>?_
      ·refine wft hc37<|Qah<|thn<|Qag ?_
       obtain⟨x38,hl39,h⟩:=bno h
       refine wx tbk [(3,rp [(.tmp 154,(I (w64 (y32+y33))))] (K .u64 (IntKind.wrap .u64 (w64 (y32+y33))))),(4,rp [(.tmp 155,(K .u64 (IntKind.wrap .u64 (w64 (y32+y33))))),(.const (.int .u64 1),(K .u64 (1)))] (K .u64 ((IntKind.wrap .u64 (w64 (y32+y33)))/2))),(5,rp [(.tmp 156,(K .u64 ((IntKind.wrap .u64 (w64 (y32+y33)))/2)))] (I (w64 ((IntKind.wrap .u64 (w64 (y32+y33)))/2)))),(6,rp [(.tmp 157,(I (w64 ((IntKind.wrap .u64 (w64 (y32+y33)))/2))))] (I x38))] ⟨acv rfl (by rw[underlying3];rfl) underlying96,Qik rfl (by decide) (by decide),acv rfl (by rw[underlying96];rfl) underlying3,Qeq hl39 (aas rfl),tv⟩ ?_
       obtain⟨hi40,h⟩:=cko h
       obtain⟨hi40a,hi40b⟩:=Qcc hi40
       obtain⟨x41,hg42,h⟩:=bno h
       obtain⟨hi43,h⟩:=cko h
       obtain⟨hi43a,hi43b⟩:=Qcc hi43
       obtain⟨x44,hg45,h⟩:=bno h
       obtain⟨x47,hf46,h⟩:=bno h
       refine wxd tbk [(5,rb [(.tmp 159,(.own 0 1 (0) p0)),(.tmp 162,(I (w64 (x10-x38))))] [(0,(.own 1 (p4.map Qab)))] (.ref 0 1 ((w64 (x10-x38)).toNat) 0)),(6,rb [(.tmp 163,(.ref 0 1 ((w64 (x10-x38)).toNat) 0))] [(0,(.own 1 (p4.map Qab)))] (I x41)),(9,rb [(.tmp 165,(.own 0 1 (0) p0)),(.tmp 166,I x38)] [(0,(.own 1 (p4.map Qab)))] (.ref 0 1 x38.toNat 0)),(10,rb [(.tmp 167,(.ref 0 1 x38.toNat 0))] [(0,(.own 1 (p4.map Qab)))] (I x44)),(11,⟨_,_,_,_,false⟩)] ⟨aio rfl underlying25 ti3 (odt hi40a) (odt hi40b) (Nat.zero_add _),ald rfl ti3 (by decide) (mgt Qab hg42) (nle rfl) rfl,aio rfl underlying25 ti3 (odt hi43a) (odt hi43b) (Nat.zero_add _),ald rfl ti3 (by decide) (mgt Qab hg45) (nle rfl) rfl,Qcb (first:=[]) (cap:=[.ref 1 1 0 0,.ref 2 1 0 0]) (vs:=[I x41,I x44]) (σr:=[(.own 1 [[Qb5]]),(Qb4 p5),(.own 1 [[I p6]]),(.own 1 [[I p7]])]) (σr':=[(.own 1 [[Qb5]]),(Qb4 p5),(.own 1 [[I p6]]),(.own 1 [[I p7]])]) (res':=(I x47)) [1,2,3,4] rfl Qlq (Qc4 N x41 x44 p5 p6 p7 _ hf46) rfl (Qbu (rncc (rnc (Qak rfl) (rnc (Qak rfl) rn0)))) (slc (Qad (rnc (Qaj rn0 (rnc (Qak rfl) (rnc (Qak rfl) rn0))) rn0)) (slc (Qad (rnc (pld Qac) rn0)) (slc (Qad (rnc (.plain _ nll) rn0)) (slc (Qad (rnc (.plain _ nll) rn0)) Qal)))) (slc (Qad (rnc (Qaj rn0 (rnc (Qar rfl) (rnc (Qar rfl) rn0))) rn0)) (slc (Qad (rnc (pld Qac) rn0)) (slc (Qad (rnc (.plain _ nll) rn0)) (slc (Qad (rnc (.plain _ nll) rn0)) Qal)))) (.plain _ nll) rfl rfl rfl,tv⟩ ?_
       refine bfe h (fun hc48 h=>?_) fun hc48 h=>?_
       ·exact wft hc48<|wxz1<|bln<|thn<|arm (mto (n:=220) [(0,(.own 0 1 (0) p0)),(1,I p1),(2,I p2),(3,I p3),(4,Qd5),(18,I x5),(19,(I (w64 (x5+p2)))),(20,(I (w64 (x38+1)))),(21,I y33),(22,I x10)] [0,1,2,3,4] [(.own 1 (p4.map Qab)),(.own 1 [[Qb5]]),(Qb4 p5),(.own 1 [[I p6]]),(.own 1 [[I p7]])] hq (pc (.rn (Qas rfl)) (pw (pw (pw (pc (.rn (Qaj rn0 (rnc (rqr rfl) (rnc (rqr rfl) rn0)))) (pw (pw (pw (pw (pw pn)))))))))) (qc (spr Qac) (qb (lc (.rn (Qaj rn0 (rnc (rqr rfl) (rnc (rqr rfl) rn0)))) ln) (qb (lc (rnd Qac) ln) (qb (lc rwl ln) (qb (lc rwl ln) qn)))))) (ih (w64 (x38+1),y33) h)
       ·exact wfn hc48<|wxz1<|bln<|thn<|arm (mto (n:=220) [(0,(.own 0 1 (0) p0)),(1,I p1),(2,I p2),(3,I p3),(4,Qd5),(18,I x5),(19,(I (w64 (x5+p2)))),(20,I y32),(21,I x38),(22,I x10)] [0,1,2,3,4] [(.own 1 (p4.map Qab)),(.own 1 [[Qb5]]),(Qb4 p5),(.own 1 [[I p6]]),(.own 1 [[I p7]])] hq (pc (.rn (Qas rfl)) (pw (pw (pw (pc (.rn (Qaj rn0 (rnc (rqr rfl) (rnc (rqr rfl) rn0)))) (pw (pw (pw (pw (pw pn)))))))))) (qc (spr Qac) (qb (lc (.rn (Qaj rn0 (rnc (rqr rfl) (rnc (rqr rfl) rn0)))) ln) (qb (lc (rnd Qac) ln) (qb (lc rwl ln) (qb (lc rwl ln) qn)))))) (ih (y32,x38) h)
      ·exact wfn hc37<|Qbc<|Qaq<|Qaq<|Qbb rfl<|thn<|⟨(y32),h,(mto (n:=220) [(0,(.own 0 1 (0) p0)),(1,I p1),(2,I p2),(3,I p3),(4,Qd5),(18,I x5),(19,(I (w64 (x5+p2)))),(20,I y32)] [0,1,2,3,4] [(.own 1 (p4.map Qab)),(.own 1 [[Qb5]]),(Qb4 p5),(.own 1 [[I p6]]),(.own 1 [[I p7]])] hq (pc (.rn (Qas rfl)) (pw (pw (pw (pc (.rn (Qaj rn0 (rnc (rqr rfl) (rnc (rqr rfl) rn0)))) (pw (pw (pw pn)))))))) (qc (spr Qac) (qb (lc (.rn (Qaj rn0 (rnc (rqr rfl) (rnc (rqr rfl) rn0)))) ln) (qb (lc (rnd Qac) ln) (qb (lc rwl ln) (qb (lc rwl ln) qn))))))⟩
    ·skip
     refine wxz ?_
     refine bfe h (fun hc49 h=>?_) fun hc49 h=>?_
     ·refine wft hc49 ?_
      obtain⟨x50,hl51,h⟩:=bno h
      exact wx tbk [(3,rp [(.tmp 143,(I (w64 ((w64 (x5+p2))-p3))))] (I x50))] ⟨Qeq hl51 (aas rfl),tv⟩<|wxz1<|thn<|⟨(x50,x5),h,(mto (n:=220) [(0,(.own 0 1 (0) p0)),(1,I p1),(2,I p2),(3,I p3),(4,Qd5),(18,I x5),(19,(I (w64 (x5+p2)))),(20,I x50),(21,I x5)] [0,1,2,3,4] [(.own 1 (p4.map Qab)),(.own 1 [[Qb5]]),(Qb4 p5),(.own 1 [[I p6]]),(.own 1 [[I p7]])] hq (pc (.rn (Qas rfl)) (pw (pw (pw (pc (.rn (Qaj rn0 (rnc (rqr rfl) (rnc (rqr rfl) rn0)))) (pw (pw (pw (pw pn))))))))) (qc (spr Qac) (qb (lc (.rn (Qaj rn0 (rnc (rqr rfl) (rnc (rqr rfl) rn0)))) ln) (qb (lc (rnd Qac) ln) (qb (lc rwl ln) (qb (lc rwl ln) qn))))))⟩
     ·exact wfn hc49<|wxz<|wxz1<|thn<|⟨(p1,p2),h,(mto (n:=220) [(0,(.own 0 1 (0) p0)),(1,I p1),(2,I p2),(3,I p3),(4,Qd5),(18,I x5),(19,(I (w64 (x5+p2)))),(20,I p1),(21,I p2)] [0,1,2,3,4] [(.own 1 (p4.map Qab)),(.own 1 [[Qb5]]),(Qb4 p5),(.own 1 [[I p6]]),(.own 1 [[I p7]])] hq (pc (.rn (Qas rfl)) (pw (pw (pw (pc (.rn (Qaj rn0 (rnc (rqr rfl) (rnc (rqr rfl) rn0)))) (pw (pw (pw (pw pn))))))))) (qc (spr Qac) (qb (lc (.rn (Qaj rn0 (rnc (rqr rfl) (rnc (rqr rfl) rn0)))) ln) (qb (lc (rnd Qac) ln) (qb (lc rwl ln) (qb (lc rwl ln) qn))))))⟩
   ·skip
    refine wxz ?_
    refine bfe h (fun hc52 h=>?_) fun hc52 h=>?_
    ·refine wft hc52<|wxz<|wxz ?_
     obtain⟨k54,hk_k54,h⟩:=jko h
     refine wjn (τ:=Int) (fun t=>k54 t=some r) (fun y53=>⟨mk 220 [(0,(.own 0 1 (0) p0)),(2,I p2),(14,I y53)],[(.own 1 (p4.map Qab)),(.own 1 [[Qb5]]),(Qb4 p5),(.own 1 [[I p6]]),(.own 1 [[I p7]])]⟩) (fun y53 h=>?_) ?_
     ·subst hk_k54
      obtain⟨k56,hk_k56,h⟩:=jko h
      refine wjn (τ:=(List Int)) (fun t=>k56 t=some r) (fun y55=>⟨mk 220 [],[(.own 1 (y55.map Qab)),(.own 1 [[Qb5]]),(Qb4 p5),(.own 1 [[I p6]]),(.own 1 [[I p7]])]⟩) (fun y55 h=>?_) ?_
      ·subst hk_k56
       refine wmr (mto (n:=220) (l':=[]) (own':=[(.own 1 (y55.map Qab)),(.own 1 [[Qb5]]),(Qb4 p5),(.own 1 [[I p6]]),(.own 1 [[I p7]])]) [] [0,1,2,3,4] [(.own 1 (y55.map Qab)),(.own 1 [[Qb5]]),(Qb4 p5),(.own 1 [[I p6]]),(.own 1 [[I p7]])] hq pn (qc (spr Qac) (qb (lc (.rn (Qaj rn0 (rnc (rqr rfl) (rnc (rqr rfl) rn0)))) ln) (qb (lc (rnd Qac) ln) (qb (lc rwl ln) (qb (lc rwl ln) qn))))))<|Qaf<|Qao ?_
       obtain rfl:=osi h
       exact⟨_,Mor.rfl,fio [] tv⟩
      ·skip
       refine wxz<|Qag ?_
       refine wmr (mto (n:=220) (l':=[(0,(.own 0 1 (0) p0)),(14,I y53),(17,I p2)]) (own':=[(.own 1 (p4.map Qab)),(.own 1 [[Qb5]]),(Qb4 p5),(.own 1 [[I p6]]),(.own 1 [[I p7]])]) [(0,(.own 0 1 (0) p0)),(14,I y53),(17,I p2)] [0,1,2,3,4] [(.own 1 (p4.map Qab)),(.own 1 [[Qb5]]),(Qb4 p5),(.own 1 [[I p6]]),(.own 1 [[I p7]])] hq (pc (.rn (Qas rfl)) (pw (pw pn))) (qc (spr Qac) (qb (lc (.rn (Qaj rn0 (rnc (rqr rfl) (rnc (rqr rfl) rn0)))) ln) (qb (lc (rnd Qac) ln) (qb (lc rwl ln) (qb (lc rwl ln) qn)))))) ?_
       refine Qb2 (τ:=Int×(List Int)) (fun n t=>Qbh N p0 y53 k56 n t.1 t.2=some r) (fun ⟨y57,y58⟩=>⟨mk 220 [(0,(.own 0 1 (0) p0)),(14,I y53),(17,I y57)],[(.own 1 (y58.map Qab)),(.own 1 [[Qb5]]),(Qb4 p5),(.own 1 [[I p6]]),(.own 1 [[I p7]])]⟩) (fun t h=>by rw[Qbh] at h;cases h) (fun n61 ih t h=>?_) N (p2,p4) h
       obtain⟨y57,y58⟩:=t
       rw[Qbh] at h
       skip
       refine wsq<|wxz ?_
       refine bfe h (fun hc62 h=>?_) fun hc62 h=>?_
       ·refine wft hc62<|Qah<|thn<|wsq<|Qag ?_
        obtain⟨hi63,h⟩:=cko h
        obtain⟨hi63a,hi63b⟩:=Qcc hi63
        obtain⟨x64,hg65,h⟩:=bno h
        obtain⟨hi66,h⟩:=cko h
        obtain⟨hi66a,hi66b⟩:=Qcc hi66
        obtain⟨x67,hg68,h⟩:=bno h
        obtain⟨hi69,h⟩:=cko h
        obtain⟨hi69a,hi69b⟩:=Qcc hi69
        obtain⟨x70,hg71,h⟩:=bno h
        obtain⟨hi72,h⟩:=cko h
        obtain⟨hi72a,hi72b⟩:=Qcc hi72
        obtain⟨x73,hg74,h⟩:=bno h
        refine wy1 tbk [(8,rb [(.tmp 118,(.own 0 1 (0) p0)),(.tmp 120,(I (w64 (y57-1))))] [(0,(.own 1 (y58.map Qab)))] (.ref 0 1 ((w64 (y57-1)).toNat) 0)),(9,rb [(.tmp 121,(.ref 0 1 ((w64 (y57-1)).toNat) 0))] [(0,(.own 1 (y58.map Qab)))] (I x64)),(12,rb [(.tmp 123,(.own 0 1 (0) p0)),(.tmp 124,I y57)] [(0,(.own 1 (y58.map Qab)))] (.ref 0 1 y57.toNat 0)),(13,rb [(.tmp 125,(.ref 0 1 y57.toNat 0))] [(0,(.own 1 (y58.map Qab)))] (I x67)),(14,rb [(.tmp 113,(.own 0 1 (0) p0)),(.tmp 114,I y57)] [(0,(.own 1 (y58.map Qab)))] (.ref 0 1 y57.toNat 0)),(15,⟨[(.tmp 127,(.ref 0 1 y57.toNat 0)),(.tmp 122,I x64)],[(0,(.own 1 (y58.map Qab)))],.any,[(0,(.own 1 ((y58.set y57.toNat x64:List Int).map Qab)))],false⟩),(16,rb [(.tmp 115,(.own 0 1 (0) p0)),(.tmp 117,(I (w64 (y57-1))))] [(0,(.own 1 ((y58.set y57.toNat x64:List Int).map Qab)))] (.ref 0 1 ((w64 (y57-1)).toNat) 0)),(17,⟨[(.tmp 128,(.ref 0 1 ((w64 (y57-1)).toNat) 0)),(.tmp 126,I x67)],[(0,(.own 1 ((y58.set y57.toNat x64:List Int).map Qab)))],.any,[(0,(.own 1 (((y58.set y57.toNat x64).set ((w64 (y57-1)).toNat) x67:List Int).map Qab)))],false⟩)] ⟨aio rfl underlying25 ti3 (odt hi63a) (odt hi63b) (Nat.zero_add _),ald rfl ti3 (by decide) (mgt Qab hg65) (nle rfl) rfl,aio rfl underlying25 ti3 (odt hi66a) (odt hi66b) (Nat.zero_add _),ald rfl ti3 (by decide) (mgt Qab hg68) (nle rfl) rfl,aio rfl underlying25 ti3 (odt hi69a) (odt hi69b) (Nat.zero_add _),ast rfl ti3 (by rfl) (mgt Qab hg71) (nle rfl) (Qe9 Qab rfl),aio rfl underlying25 ti3 (odt hi72a) (odt hi72b) (Nat.zero_add _),ast rfl ti3 (by rfl) (mgt Qab hg74) (nle rfl) (Qe9 Qab rfl),tv⟩<|bln<|thn<|wxz1<|thn ?_
        exact arm (mto (n:=220) [(0,(.own 0 1 (0) p0)),(14,I y53),(17,(I (w64 (y57-1))))] [0,1,2,3,4] [(.own 1 (((y58.set y57.toNat x64).set ((w64 (y57-1)).toNat) x67:List Int).map Qab)),(.own 1 [[Qb5]]),(Qb4 p5),(.own 1 [[I p6]]),(.own 1 [[I p7]])] hq (pc (.rn (Qas rfl)) (pw (pw pn))) (qc (spr Qac) (qb (lc (.rn (Qaj rn0 (rnc (rqr rfl) (rnc (rqr rfl) rn0)))) ln) (qb (lc (rnd Qac) ln) (qb (lc rwl ln) (qb (lc rwl ln) qn)))))) (ih (w64 (y57-1),(y58.set y57.toNat x64).set ((w64 (y57-1)).toNat) x67) h)
       ·exact wfn hc62<|Qbc<|Qaq<|Qaq<|Qbb rfl<|thn<|⟨(y58),h,(mto (n:=220) [] [0,1,2,3,4] [(.own 1 (y58.map Qab)),(.own 1 [[Qb5]]),(Qb4 p5),(.own 1 [[I p6]]),(.own 1 [[I p7]])] hq pn (qc (spr Qac) (qb (lc (.rn (Qaj rn0 (rnc (rqr rfl) (rnc (rqr rfl) rn0)))) ln) (qb (lc (rnd Qac) ln) (qb (lc rwl ln) (qb (lc rwl ln) qn))))))⟩
     ·skip
      refine Qag<|wmr (mto (n:=220) (l':=[(0,(.own 0 1 (0) p0)),(2,I p2),(4,Qd5),(14,I p1),(15,I p2)]) (own':=[(.own 1 (p4.map Qab)),(.own 1 [[Qb5]]),(Qb4 p5),(.own 1 [[I p6]]),(.own 1 [[I p7]])]) [(0,(.own 0 1 (0) p0)),(2,I p2),(4,Qd5),(14,I p1),(15,I p2)] [0,1,2,3,4] [(.own 1 (p4.map Qab)),(.own 1 [[Qb5]]),(Qb4 p5),(.own 1 [[I p6]]),(.own 1 [[I p7]])] hq (pc (.rn (Qas rfl)) (pw (pc (.rn (Qaj rn0 (rnc (rqr rfl) (rnc (rqr rfl) rn0)))) (pw (pw pn))))) (qc (spr Qac) (qb (lc (.rn (Qaj rn0 (rnc (rqr rfl) (rnc (rqr rfl) rn0)))) ln) (qb (lc (rnd Qac) ln) (qb (lc rwl ln) (qb (lc rwl ln) qn)))))) ?_
      refine Qb2 (τ:=Int×Int) (fun n t=>Qa6 N p0 p2 p4 p5 p6 p7 k54 n t.1 t.2=some r) (fun ⟨y75,y76⟩=>⟨mk 220 [(0,(.own 0 1 (0) p0)),(2,I p2),(4,Qd5),(14,I y75),(15,I y76)],[(.own 1 (p4.map Qab)),(.own 1 [[Qb5]]),(Qb4 p5),(.own 1 [[I p6]]),(.own 1 [[I p7]])]⟩) (fun t h=>by rw[Qa6] at h;cases h) (fun n79 ih t h=>?_) N (p1,p2) h
      obtain⟨y75,y76⟩:=t
      rw[Qa6] at h
      skip
      refine wsq<|wxz ?_
      refine bfe h (fun hc80 h=>?_) fun hc80 h=>?_
      ·refine wft hc80<|Qah<|thn<|Qag ?_
       obtain⟨x81,hl82,h⟩:=bno h
       refine wx tbk [(3,rp [(.tmp 88,(I (w64 (y75+y76))))] (K .u64 (IntKind.wrap .u64 (w64 (y75+y76))))),(4,rp [(.tmp 89,(K .u64 (IntKind.wrap .u64 (w64 (y75+y76))))),(.const (.int .u64 1),(K .u64 (1)))] (K .u64 ((IntKind.wrap .u64 (w64 (y75+y76)))/2))),(5,rp [(.tmp 90,(K .u64 ((IntKind.wrap .u64 (w64 (y75+y76)))/2)))] (I (w64 ((IntKind.wrap .u64 (w64 (y75+y76)))/2)))),(6,rp [(.tmp 91,(I (w64 ((IntKind.wrap .u64 (w64 (y75+y76)))/2))))] (I x81))] ⟨acv rfl (by rw[underlying3];rfl) underlying96,Qik rfl (by decide) (by decide),acv rfl (by rw[underlying96];rfl) underlying3,Qeq hl82 (aas rfl),tv⟩ ?_
       obtain⟨hi83,h⟩:=cko h
       obtain⟨hi83a,hi83b⟩:=Qcc hi83
       obtain⟨x84,hg85,h⟩:=bno h
       obtain⟨hi86,h⟩:=cko h
       obtain⟨hi86a,hi86b⟩:=Qcc hi86
       obtain⟨x87,hg88,h⟩:=bno h
       obtain⟨x90,hf89,h⟩:=bno h
       refine wxd tbk [(3,rb [(.tmp 93,(.own 0 1 (0) p0)),(.tmp 94,I p2)] [(0,(.own 1 (p4.map Qab)))] (.ref 0 1 p2.toNat 0)),(4,rb [(.tmp 95,(.ref 0 1 p2.toNat 0))] [(0,(.own 1 (p4.map Qab)))] (I x84)),(7,rb [(.tmp 97,(.own 0 1 (0) p0)),(.tmp 98,I x81)] [(0,(.own 1 (p4.map Qab)))] (.ref 0 1 x81.toNat 0)),(8,rb [(.tmp 99,(.ref 0 1 x81.toNat 0))] [(0,(.own 1 (p4.map Qab)))] (I x87)),(9,⟨_,_,_,_,false⟩)] ⟨aio rfl underlying25 ti3 (odt hi83a) (odt hi83b) (Nat.zero_add _),ald rfl ti3 (by decide) (mgt Qab hg85) (nle rfl) rfl,aio rfl underlying25 ti3 (odt hi86a) (odt hi86b) (Nat.zero_add _),ald rfl ti3 (by decide) (mgt Qab hg88) (nle rfl) rfl,Qcb (first:=[]) (cap:=[.ref 1 1 0 0,.ref 2 1 0 0]) (vs:=[I x84,I x87]) (σr:=[(.own 1 [[Qb5]]),(Qb4 p5),(.own 1 [[I p6]]),(.own 1 [[I p7]])]) (σr':=[(.own 1 [[Qb5]]),(Qb4 p5),(.own 1 [[I p6]]),(.own 1 [[I p7]])]) (res':=(I x90)) [1,2,3,4] rfl Qlq (Qc4 N x84 x87 p5 p6 p7 _ hf89) rfl (Qbu (rncc (rnc (Qak rfl) (rnc (Qak rfl) rn0)))) (slc (Qad (rnc (Qaj rn0 (rnc (Qak rfl) (rnc (Qak rfl) rn0))) rn0)) (slc (Qad (rnc (pld Qac) rn0)) (slc (Qad (rnc (.plain _ nll) rn0)) (slc (Qad (rnc (.plain _ nll) rn0)) Qal)))) (slc (Qad (rnc (Qaj rn0 (rnc (Qar rfl) (rnc (Qar rfl) rn0))) rn0)) (slc (Qad (rnc (pld Qac) rn0)) (slc (Qad (rnc (.plain _ nll) rn0)) (slc (Qad (rnc (.plain _ nll) rn0)) Qal)))) (.plain _ nll) rfl rfl rfl,tv⟩ ?_
       refine bfe h (fun hc91 h=>?_) fun hc91 h=>?_
       ·exact wft hc91<|wxz1<|bln<|thn<|arm (mto (n:=220) [(0,(.own 0 1 (0) p0)),(2,I p2),(4,Qd5),(14,(I (w64 (x81+1)))),(15,I y76)] [0,1,2,3,4] [(.own 1 (p4.map Qab)),(.own 1 [[Qb5]]),(Qb4 p5),(.own 1 [[I p6]]),(.own 1 [[I p7]])] hq (pc (.rn (Qas rfl)) (pw (pc (.rn (Qaj rn0 (rnc (rqr rfl) (rnc (rqr rfl) rn0)))) (pw (pw pn))))) (qc (spr Qac) (qb (lc (.rn (Qaj rn0 (rnc (rqr rfl) (rnc (rqr rfl) rn0)))) ln) (qb (lc (rnd Qac) ln) (qb (lc rwl ln) (qb (lc rwl ln) qn)))))) (ih (w64 (x81+1),y76) h)
       ·exact wfn hc91<|wxz1<|bln<|thn<|arm (mto (n:=220) [(0,(.own 0 1 (0) p0)),(2,I p2),(4,Qd5),(14,I y75),(15,I x81)] [0,1,2,3,4] [(.own 1 (p4.map Qab)),(.own 1 [[Qb5]]),(Qb4 p5),(.own 1 [[I p6]]),(.own 1 [[I p7]])] hq (pc (.rn (Qas rfl)) (pw (pc (.rn (Qaj rn0 (rnc (rqr rfl) (rnc (rqr rfl) rn0)))) (pw (pw pn))))) (qc (spr Qac) (qb (lc (.rn (Qaj rn0 (rnc (rqr rfl) (rnc (rqr rfl) rn0)))) ln) (qb (lc (rnd Qac) ln) (qb (lc rwl ln) (qb (lc rwl ln) qn)))))) (ih (y75,x81) h)
      ·exact wfn hc80<|Qbc<|Qaq<|Qaq<|Qbb rfl<|thn<|⟨(y75),h,(mto (n:=220) [(0,(.own 0 1 (0) p0)),(2,I p2),(14,I y75)] [0,1,2,3,4] [(.own 1 (p4.map Qab)),(.own 1 [[Qb5]]),(Qb4 p5),(.own 1 [[I p6]]),(.own 1 [[I p7]])] hq (pc (.rn (Qas rfl)) (pw (pw pn))) (qc (spr Qac) (qb (lc (.rn (Qaj rn0 (rnc (rqr rfl) (rnc (rqr rfl) rn0)))) ln) (qb (lc (rnd Qac) ln) (qb (lc rwl ln) (qb (lc rwl ln) qn))))))⟩
    ·exact wfn hc52<|Qah<|thn<|⟨(),h,(mto (n:=220) [(0,(.own 0 1 (0) p0)),(1,I p1),(2,I p2),(3,I p3),(4,Qd5)] [0,1,2,3,4] [(.own 1 (p4.map Qab)),(.own 1 [[Qb5]]),(Qb4 p5),(.own 1 [[I p6]]),(.own 1 [[I p7]])] hq (pc (.rn (Qas rfl)) (pw (pw (pw (pc (.rn (Qaj rn0 (rnc (rqr rfl) (rnc (rqr rfl) rn0)))) pn))))) (qc (spr Qac) (qb (lc (.rn (Qaj rn0 (rnc (rqr rfl) (rnc (rqr rfl) rn0)))) ln) (qb (lc (rnd Qac) ln) (qb (lc rwl ln) (qb (lc rwl ln) qn))))))⟩
  ·skip
   refine wxz ?_
   refine bfe h (fun hc92 h=>?_) fun hc92 h=>?_
   ·refine wft hc92<|wxz<|wxz ?_
    obtain⟨k94,hk_k94,h⟩:=jko h
    refine wjn (τ:=Int) (fun t=>k94 t=some r) (fun y93=>⟨mk 220 [(0,(.own 0 1 (0) p0)),(1,I p1),(10,I y93)],[(.own 1 (p4.map Qab)),(.own 1 [[Qb5]]),(Qb4 p5),(.own 1 [[I p6]]),(.own 1 [[I p7]])]⟩) (fun y93 h=>?_) ?_
    ·subst hk_k94
     obtain⟨k96,hk_k96,h⟩:=jko h
     refine wjn (τ:=(List Int)) (fun t=>k96 t=some r) (fun y95=>⟨mk 220 [],[(.own 1 (y95.map Qab)),(.own 1 [[Qb5]]),(Qb4 p5),(.own 1 [[I p6]]),(.own 1 [[I p7]])]⟩) (fun y95 h=>?_) ?_
     ·subst hk_k96
      refine wmr (mto (n:=220) (l':=[]) (own':=[(.own 1 (y95.map Qab)),(.own 1 [[Qb5]]),(Qb4 p5),(.own 1 [[I p6]]),(.own 1 [[I p7]])]) [] [0,1,2,3,4] [(.own 1 (y95.map Qab)),(.own 1 [[Qb5]]),(Qb4 p5),(.own 1 [[I p6]]),(.own 1 [[I p7]])] hq pn (qc (spr Qac) (qb (lc (.rn (Qaj rn0 (rnc (rqr rfl) (rnc (rqr rfl) rn0)))) ln) (qb (lc (rnd Qac) ln) (qb (lc rwl ln) (qb (lc rwl ln) qn))))))<|Qaf<|Qao ?_
      obtain rfl:=osi h
      exact⟨_,Mor.rfl,fio [] tv⟩
     ·skip
      refine wxz<|Qag ?_
      refine wmr (mto (n:=220) (l':=[(0,(.own 0 1 (0) p0)),(10,I y93),(13,I p1)]) (own':=[(.own 1 (p4.map Qab)),(.own 1 [[Qb5]]),(Qb4 p5),(.own 1 [[I p6]]),(.own 1 [[I p7]])]) [(0,(.own 0 1 (0) p0)),(10,I y93),(13,I p1)] [0,1,2,3,4] [(.own 1 (p4.map Qab)),(.own 1 [[Qb5]]),(Qb4 p5),(.own 1 [[I p6]]),(.own 1 [[I p7]])] hq (pc (.rn (Qas rfl)) (pw (pw pn))) (qc (spr Qac) (qb (lc (.rn (Qaj rn0 (rnc (rqr rfl) (rnc (rqr rfl) rn0)))) ln) (qb (lc (rnd Qac) ln) (qb (lc rwl ln) (qb (lc rwl ln) qn)))))) ?_
      refine Qb2 (τ:=Int×(List Int)) (fun n t=>Qbg N p0 y93 k96 n t.1 t.2=some r) (fun ⟨y97,y98⟩=>⟨mk 220 [(0,(.own 0 1 (0) p0)),(10,I y93),(13,I y97)],[(.own 1 (y98.map Qab)),(.own 1 [[Qb5]]),(Qb4 p5),(.own 1 [[I p6]]),(.own 1 [[I p7]])]⟩) (fun t h=>by rw[Qbg] at h;cases h) (fun n101 ih t h=>?_) N (p1,p4) h
      obtain⟨y97,y98⟩:=t
      rw[Qbg] at h
      skip
      refine wsq<|wxz ?_
      refine bfe h (fun hc102 h=>?_) fun hc102 h=>?_
      ·refine wft hc102<|Qah<|thn<|wsq<|Qag ?_
       obtain⟨hi103,h⟩:=cko h
       obtain⟨hi103a,hi103b⟩:=Qcc hi103
       obtain⟨x104,hg105,h⟩:=bno h
       obtain⟨hi106,h⟩:=cko h
       obtain⟨hi106a,hi106b⟩:=Qcc hi106
       obtain⟨x107,hg108,h⟩:=bno h
       obtain⟨hi109,h⟩:=cko h
       obtain⟨hi109a,hi109b⟩:=Qcc hi109
       obtain⟨x110,hg111,h⟩:=bno h
       obtain⟨hi112,h⟩:=cko h
       obtain⟨hi112a,hi112b⟩:=Qcc hi112
       obtain⟨x113,hg114,h⟩:=bno h
       refine wy1 tbk [(8,rb [(.tmp 66,(.own 0 1 (0) p0)),(.tmp 68,(I (w64 (y97+1))))] [(0,(.own 1 (y98.map Qab)))] (.ref 0 1 ((w64 (y97+1)).toNat) 0)),(9,rb [(.tmp 69,(.ref 0 1 ((w64 (y97+1)).toNat) 0))] [(0,(.own 1 (y98.map Qab)))] (I x104)),(12,rb [(.tmp 71,(.own 0 1 (0) p0)),(.tmp 72,I y97)] [(0,(.own 1 (y98.map Qab)))] (.ref 0 1 y97.toNat 0)),(13,rb [(.tmp 73,(.ref 0 1 y97.toNat 0))] [(0,(.own 1 (y98.map Qab)))] (I x107)),(14,rb [(.tmp 61,(.own 0 1 (0) p0)),(.tmp 62,I y97)] [(0,(.own 1 (y98.map Qab)))] (.ref 0 1 y97.toNat 0)),(15,⟨[(.tmp 75,(.ref 0 1 y97.toNat 0)),(.tmp 70,I x104)],[(0,(.own 1 (y98.map Qab)))],.any,[(0,(.own 1 ((y98.set y97.toNat x104:List Int).map Qab)))],false⟩),(16,rb [(.tmp 63,(.own 0 1 (0) p0)),(.tmp 65,(I (w64 (y97+1))))] [(0,(.own 1 ((y98.set y97.toNat x104:List Int).map Qab)))] (.ref 0 1 ((w64 (y97+1)).toNat) 0)),(17,⟨[(.tmp 76,(.ref 0 1 ((w64 (y97+1)).toNat) 0)),(.tmp 74,I x107)],[(0,(.own 1 ((y98.set y97.toNat x104:List Int).map Qab)))],.any,[(0,(.own 1 (((y98.set y97.toNat x104).set ((w64 (y97+1)).toNat) x107:List Int).map Qab)))],false⟩)] ⟨aio rfl underlying25 ti3 (odt hi103a) (odt hi103b) (Nat.zero_add _),ald rfl ti3 (by decide) (mgt Qab hg105) (nle rfl) rfl,aio rfl underlying25 ti3 (odt hi106a) (odt hi106b) (Nat.zero_add _),ald rfl ti3 (by decide) (mgt Qab hg108) (nle rfl) rfl,aio rfl underlying25 ti3 (odt hi109a) (odt hi109b) (Nat.zero_add _),ast rfl ti3 (by rfl) (mgt Qab hg111) (nle rfl) (Qe9 Qab rfl),aio rfl underlying25 ti3 (odt hi112a) (odt hi112b) (Nat.zero_add _),ast rfl ti3 (by rfl) (mgt Qab hg114) (nle rfl) (Qe9 Qab rfl),tv⟩<|bln<|thn<|wxz1<|thn ?_
       exact arm (mto (n:=220) [(0,(.own 0 1 (0) p0)),(10,I y93),(13,(I (w64 (y97+1))))] [0,1,2,3,4] [(.own 1 (((y98.set y97.toNat x104).set ((w64 (y97+1)).toNat) x107:List Int).map Qab)),(.own 1 [[Qb5]]),(Qb4 p5),(.own 1 [[I p6]]),(.own 1 [[I p7]])] hq (pc (.rn (Qas rfl)) (pw (pw pn))) (qc (spr Qac) (qb (lc (.rn (Qaj rn0 (rnc (rqr rfl) (rnc (rqr rfl) rn0)))) ln) (qb (lc (rnd Qac) ln) (qb (lc rwl ln) (qb (lc rwl ln) qn)))))) (ih (w64 (y97+1),(y98.set y97.toNat x104).set ((w64 (y97+1)).toNat) x107) h)
      ·exact wfn hc102<|Qbc<|Qaq<|Qaq<|Qbb rfl<|thn<|⟨(y98),h,(mto (n:=220) [] [0,1,2,3,4] [(.own 1 (y98.map Qab)),(.own 1 [[Qb5]]),(Qb4 p5),(.own 1 [[I p6]]),(.own 1 [[I p7]])] hq pn (qc (spr Qac) (qb (lc (.rn (Qaj rn0 (rnc (rqr rfl) (rnc (rqr rfl) rn0)))) ln) (qb (lc (rnd Qac) ln) (qb (lc rwl ln) (qb (lc rwl ln) qn))))))⟩
    ·skip
     refine Qag<|wmr (mto (n:=220) (l':=[(0,(.own 0 1 (0) p0)),(1,I p1),(4,Qd5),(10,I p2),(11,I p3)]) (own':=[(.own 1 (p4.map Qab)),(.own 1 [[Qb5]]),(Qb4 p5),(.own 1 [[I p6]]),(.own 1 [[I p7]])]) [(0,(.own 0 1 (0) p0)),(1,I p1),(4,Qd5),(10,I p2),(11,I p3)] [0,1,2,3,4] [(.own 1 (p4.map Qab)),(.own 1 [[Qb5]]),(Qb4 p5),(.own 1 [[I p6]]),(.own 1 [[I p7]])] hq (pc (.rn (Qas rfl)) (pw (pc (.rn (Qaj rn0 (rnc (rqr rfl) (rnc (rqr rfl) rn0)))) (pw (pw pn))))) (qc (spr Qac) (qb (lc (.rn (Qaj rn0 (rnc (rqr rfl) (rnc (rqr rfl) rn0)))) ln) (qb (lc (rnd Qac) ln) (qb (lc rwl ln) (qb (lc rwl ln) qn)))))) ?_
     refine Qb2 (τ:=Int×Int) (fun n t=>Qa5 N p0 p1 p4 p5 p6 p7 k94 n t.1 t.2=some r) (fun ⟨y115,y116⟩=>⟨mk 220 [(0,(.own 0 1 (0) p0)),(1,I p1),(4,Qd5),(10,I y115),(11,I y116)],[(.own 1 (p4.map Qab)),(.own 1 [[Qb5]]),(Qb4 p5),(.own 1 [[I p6]]),(.own 1 [[I p7]])]⟩) (fun t h=>by rw[Qa5] at h;cases h) (fun n119 ih t h=>?_) N (p2,p3) h
     obtain⟨y115,y116⟩:=t
     rw[Qa5] at h
     skip
     refine wsq<|wxz ?_
     refine bfe h (fun hc120 h=>?_) fun hc120 h=>?_
     ·refine wft hc120<|Qah<|thn<|Qag ?_
      obtain⟨x121,hl122,h⟩:=bno h
      refine wx tbk [(3,rp [(.tmp 36,(I (w64 (y115+y116))))] (K .u64 (IntKind.wrap .u64 (w64 (y115+y116))))),(4,rp [(.tmp 37,(K .u64 (IntKind.wrap .u64 (w64 (y115+y116))))),(.const (.int .u64 1),(K .u64 (1)))] (K .u64 ((IntKind.wrap .u64 (w64 (y115+y116)))/2))),(5,rp [(.tmp 38,(K .u64 ((IntKind.wrap .u64 (w64 (y115+y116)))/2)))] (I (w64 ((IntKind.wrap .u64 (w64 (y115+y116)))/2)))),(6,rp [(.tmp 39,(I (w64 ((IntKind.wrap .u64 (w64 (y115+y116)))/2))))] (I x121))] ⟨acv rfl (by rw[underlying3];rfl) underlying96,Qik rfl (by decide) (by decide),acv rfl (by rw[underlying96];rfl) underlying3,Qeq hl122 (aas rfl),tv⟩ ?_
      obtain⟨hi123,h⟩:=cko h
      obtain⟨hi123a,hi123b⟩:=Qcc hi123
      obtain⟨x124,hg125,h⟩:=bno h
      obtain⟨hi126,h⟩:=cko h
      obtain⟨hi126a,hi126b⟩:=Qcc hi126
      obtain⟨x127,hg128,h⟩:=bno h
      obtain⟨x130,hf129,h⟩:=bno h
      refine wxd tbk [(3,rb [(.tmp 41,(.own 0 1 (0) p0)),(.tmp 42,I x121)] [(0,(.own 1 (p4.map Qab)))] (.ref 0 1 x121.toNat 0)),(4,rb [(.tmp 43,(.ref 0 1 x121.toNat 0))] [(0,(.own 1 (p4.map Qab)))] (I x124)),(7,rb [(.tmp 45,(.own 0 1 (0) p0)),(.tmp 46,I p1)] [(0,(.own 1 (p4.map Qab)))] (.ref 0 1 p1.toNat 0)),(8,rb [(.tmp 47,(.ref 0 1 p1.toNat 0))] [(0,(.own 1 (p4.map Qab)))] (I x127)),(9,⟨_,_,_,_,false⟩)] ⟨aio rfl underlying25 ti3 (odt hi123a) (odt hi123b) (Nat.zero_add _),ald rfl ti3 (by decide) (mgt Qab hg125) (nle rfl) rfl,aio rfl underlying25 ti3 (odt hi126a) (odt hi126b) (Nat.zero_add _),ald rfl ti3 (by decide) (mgt Qab hg128) (nle rfl) rfl,Qcb (first:=[]) (cap:=[.ref 1 1 0 0,.ref 2 1 0 0]) (vs:=[I x124,I x127]) (σr:=[(.own 1 [[Qb5]]),(Qb4 p5),(.own 1 [[I p6]]),(.own 1 [[I p7]])]) (σr':=[(.own 1 [[Qb5]]),(Qb4 p5),(.own 1 [[I p6]]),(.own 1 [[I p7]])]) (res':=(I x130)) [1,2,3,4] rfl Qlq (Qc4 N x124 x127 p5 p6 p7 _ hf129) rfl (Qbu (rncc (rnc (Qak rfl) (rnc (Qak rfl) rn0)))) (slc (Qad (rnc (Qaj rn0 (rnc (Qak rfl) (rnc (Qak rfl) rn0))) rn0)) (slc (Qad (rnc (pld Qac) rn0)) (slc (Qad (rnc (.plain _ nll) rn0)) (slc (Qad (rnc (.plain _ nll) rn0)) Qal)))) (slc (Qad (rnc (Qaj rn0 (rnc (Qar rfl) (rnc (Qar rfl) rn0))) rn0)) (slc (Qad (rnc (pld Qac) rn0)) (slc (Qad (rnc (.plain _ nll) rn0)) (slc (Qad (rnc (.plain _ nll) rn0)) Qal)))) (.plain _ nll) rfl rfl rfl,tv⟩ ?_
      refine bfe h (fun hc131 h=>?_) fun hc131 h=>?_
      ·exact wft hc131<|wxz1<|bln<|thn<|arm (mto (n:=220) [(0,(.own 0 1 (0) p0)),(1,I p1),(4,Qd5),(10,(I (w64 (x121+1)))),(11,I y116)] [0,1,2,3,4] [(.own 1 (p4.map Qab)),(.own 1 [[Qb5]]),(Qb4 p5),(.own 1 [[I p6]]),(.own 1 [[I p7]])] hq (pc (.rn (Qas rfl)) (pw (pc (.rn (Qaj rn0 (rnc (rqr rfl) (rnc (rqr rfl) rn0)))) (pw (pw pn))))) (qc (spr Qac) (qb (lc (.rn (Qaj rn0 (rnc (rqr rfl) (rnc (rqr rfl) rn0)))) ln) (qb (lc (rnd Qac) ln) (qb (lc rwl ln) (qb (lc rwl ln) qn)))))) (ih (w64 (x121+1),y116) h)
      ·exact wfn hc131<|wxz1<|bln<|thn<|arm (mto (n:=220) [(0,(.own 0 1 (0) p0)),(1,I p1),(4,Qd5),(10,I y115),(11,I x121)] [0,1,2,3,4] [(.own 1 (p4.map Qab)),(.own 1 [[Qb5]]),(Qb4 p5),(.own 1 [[I p6]]),(.own 1 [[I p7]])] hq (pc (.rn (Qas rfl)) (pw (pc (.rn (Qaj rn0 (rnc (rqr rfl) (rnc (rqr rfl) rn0)))) (pw (pw pn))))) (qc (spr Qac) (qb (lc (.rn (Qaj rn0 (rnc (rqr rfl) (rnc (rqr rfl) rn0)))) ln) (qb (lc (rnd Qac) ln) (qb (lc rwl ln) (qb (lc rwl ln) qn)))))) (ih (y115,x121) h)
     ·exact wfn hc120<|Qbc<|Qaq<|Qaq<|Qbb rfl<|thn<|⟨(y115),h,(mto (n:=220) [(0,(.own 0 1 (0) p0)),(1,I p1),(10,I y115)] [0,1,2,3,4] [(.own 1 (p4.map Qab)),(.own 1 [[Qb5]]),(Qb4 p5),(.own 1 [[I p6]]),(.own 1 [[I p7]])] hq (pc (.rn (Qas rfl)) (pw (pw pn))) (qc (spr Qac) (qb (lc (.rn (Qaj rn0 (rnc (rqr rfl) (rnc (rqr rfl) rn0)))) ln) (qb (lc (rnd Qac) ln) (qb (lc rwl ln) (qb (lc rwl ln) qn))))))⟩
   ·exact wfn hc92<|Qah<|thn<|⟨(),h,(mto (n:=220) [(0,(.own 0 1 (0) p0)),(1,I p1),(2,I p2),(3,I p3),(4,Qd5)] [0,1,2,3,4] [(.own 1 (p4.map Qab)),(.own 1 [[Qb5]]),(Qb4 p5),(.own 1 [[I p6]]),(.own 1 [[I p7]])] hq (pc (.rn (Qas rfl)) (pw (pw (pw (pc (.rn (Qaj rn0 (rnc (rqr rfl) (rnc (rqr rfl) rn0)))) pn))))) (qc (spr Qac) (qb (lc (.rn (Qaj rn0 (rnc (rqr rfl) (rnc (rqr rfl) rn0)))) ln) (qb (lc (rnd Qac) ln) (qb (lc rwl ln) (qb (lc rwl ln) qn))))))⟩
def Qbm (N p0:Nat) (p1:Int) (p3:List Int) (p4 p5 y7:Int) (k15:Int×(List Int)→Option (List Int)):Nat→Int→Int→(List Int)→Option (List Int)
  |0,_,_,_=>none
  |n25+1,y19,y20,y21=>
    bif (decide (y20≤p1)) then
     (Qby N p0 y19 (w64 (y19+y7)) y20 y21 p3 p4 p5).bind fun x28=>
     (some (w64 (y20+(w64 (2*y7))))).bind fun x29=>
     Qbm N p0 p1 p3 p4 p5 y7 k15 n25 y20 x29 x28
    else
     k15 (y19,y21)
def Qaw (N p0:Nat) (p1:Int) (p3:List Int) (p4 p5:Int):Nat→Int→(List Int)→Option (List Int)
  |0,_,_=>none
  |n11+1,y7,y8=>
    bif (decide (y7<p1)) then
     Qcd (fun ⟨y13,y14⟩=>
       bif (decide ((w64 (y13+y7))<p1)) then
        (Qby N p0 y13 (w64 (y13+y7)) p1 y14 p3 p4 p5).bind fun x18=>
        Qaw N p0 p1 p3 p4 p5 n11 (w64 (y7*2)) x18
       else
        Qaw N p0 p1 p3 p4 p5 n11 (w64 (y7*2)) y14) fun k15:Int×(List Int)→Option (List Int)=>
     Qbm N p0 p1 p3 p4 p5 y7 k15 N 0 (w64 (2*y7)) y8
    else
     some y8
def Qa1 (N p0:Nat) (p1:Int) (p3:List Int) (k4:Int×(List Int)→Option (List Int)) (p4 p5:Int):Nat→Int→Int→(List Int)→Option (List Int)
  |0,_,_,_=>none
  |n37+1,y31,y32,y33=>
    bif (decide (y32≤p1)) then
     (Qav N p0 y31 y32 y33 p3 p4 p5).bind fun x40=>
     Qa1 N p0 p1 p3 k4 p4 p5 n37 y32 (w64 (y32+20)) x40
    else
     k4 (y31,y33)
def Qct (N p0:Nat) (p1:Int) (p2 p3:List Int) (p4 p5:Int):Option (List Int):=
  Qcd (fun ⟨y2,y3⟩=>
    (Qav N p0 y2 p1 y3 p3 p4 p5).bind fun x6=>
    Qaw N p0 p1 p3 p4 p5 N 20 x6) fun k4:Int×(List Int)→Option (List Int)=>
  Qa1 N p0 p1 p3 k4 p4 p5 N 0 20 p2
abbrev Qgb:AV:=.fn (.func 53) [] [(.ref 1 1 (0) 0),(.ref 2 1 (0) 0)]
abbrev Qet:AV:=.fn (.func 46) [] [(.ref 3 1 (0) 0),(.ref 4 1 (0) 0)]
abbrev Qes (p3:List Int):Slot:=.own 1 [[(.dat 1 (p3.map Qab))]]
theorem Qfh (N p0:Nat) (p1:Int) (p2 p3:List Int) (p4 p5:Int) (r:List Int) (h:Qct N p0 p1 p2 p3 p4 p5=some r):Spec prog 57 [(.own 0 1 (0) p0),(I p1),Qgb] [(.own 1 (p2.map Qab)),(.own 1 [[Qet]]),(Qes p3),(.own 1 [[(I p4)]]),(.own 1 [[(I p5)]])] (.tup []) [(.own 1 (r.map Qab)),(.own 1 [[Qet]]),(Qes p3),(.own 1 [[(I p4)]]),(.own 1 [[(I p5)]])]:=by
  refine sF func57 5 fun _ _ _ hq hd0=>?_
  unfold Qct at h
  refine wxz<|wxz ?_
  obtain⟨k4,hk_k4,h⟩:=jko h
  refine wjn (τ:=Int×(List Int)) (fun t=>k4 t=some r) (fun ⟨y2,y3⟩=>⟨mk 63 [(0,(.own 0 1 (0) p0)),(1,I p1),(2,Qgb),(6,I 20),(7,I y2)],[(.own 1 (y3.map Qab)),(.own 1 [[Qet]]),(Qes p3),(.own 1 [[I p4]]),(.own 1 [[I p5]])]⟩) (fun t h=>?_) ?_
  ·subst hk_k4
   obtain⟨y2,y3⟩:=t
   obtain⟨x6,hf5,h⟩:=bno h
   refine wx tbk [(4,⟨_,_,_,_,false⟩)] ⟨acq [(.own 0 1 (0) p0),I y2,I p1,Qgb] [(.own 1 (y3.map Qab)),(.own 1 [[Qet]]),(Qes p3),(.own 1 [[I p4]]),(.own 1 [[I p5]])] [(.own 1 (x6.map Qab)),(.own 1 [[Qet]]),(Qes p3),(.own 1 [[I p4]]),(.own 1 [[I p5]])] (.tup []) [0,1,2,3,4] Qsv (Qdb N p0 y2 p1 y3 p3 p4 p5 _ hf5) (Qbu (rnc (Qfu rfl) (rncc (rnc (Qaj rn0 (rnc (Qak rfl) (rnc (Qak rfl) rn0))) rn0)))) (slc (Qdc Qac) (slc (Qad (rnc (Qaj rn0 (rnc (Qak rfl) (rnc (Qak rfl) rn0))) rn0)) (slc (Qad (rnc (pld Qac) rn0)) (slc (Qad (rnc (.plain _ nll) rn0)) (slc (Qad (rnc (.plain _ nll) rn0)) Qal))))) (slc (Qdc Qac) (slc (Qad (rnc (Qaj rn0 (rnc (Qar rfl) (rnc (Qar rfl) rn0))) rn0)) (slc (Qad (rnc (pld Qac) rn0)) (slc (Qad (rnc (.plain _ nll) rn0)) (slc (Qad (rnc (.plain _ nll) rn0)) Qal))))) (.plain _ (NLt.tup _ nl0)),tv⟩<|Qag ?_
   refine wmr (mto (n:=63) (l':=[(0,(.own 0 1 (0) p0)),(1,I p1),(2,Qgb),(6,I 20)]) (own':=[(.own 1 (x6.map Qab)),(.own 1 [[Qet]]),(Qes p3),(.own 1 [[I p4]]),(.own 1 [[I p5]])]) [(0,(.own 0 1 (0) p0)),(1,I p1),(2,Qgb),(6,I 20)] [0,1,2,3,4] [(.own 1 (x6.map Qab)),(.own 1 [[Qet]]),(Qes p3),(.own 1 [[I p4]]),(.own 1 [[I p5]])] hq (pc (.rn (Qas rfl)) (pw (pc (.rn (Qaj rn0 (rnc (rqr rfl) (rnc (rqr rfl) rn0)))) (pw pn)))) (qc (spr Qac) (qb (lc (.rn (Qaj rn0 (rnc (rqr rfl) (rnc (rqr rfl) rn0)))) ln) (qb (lc (rnd Qac) ln) (qb (lc rwl ln) (qb (lc rwl ln) qn)))))) ?_
   refine Qb2 (τ:=Int×(List Int)) (fun n t=>Qaw N p0 p1 p3 p4 p5 n t.1 t.2=some r) (fun ⟨y7,y8⟩=>⟨mk 63 [(0,(.own 0 1 (0) p0)),(1,I p1),(2,Qgb),(6,I y7)],[(.own 1 (y8.map Qab)),(.own 1 [[Qet]]),(Qes p3),(.own 1 [[I p4]]),(.own 1 [[I p5]])]⟩) (fun t h=>by rw[Qaw] at h;cases h) (fun n11 ih t h=>?_) N (20,x6) h
   obtain⟨y7,y8⟩:=t
   rw[Qaw] at h
   skip
   refine wsq<|wxz ?_
   refine bfe h (fun hc12 h=>?_) fun hc12 h=>?_
   ·refine wft hc12<|Qah<|thn<|Qag<|wxz ?_
    obtain⟨k15,hk_k15,h⟩:=jko h
    refine wjn (τ:=Int×(List Int)) (fun t=>k15 t=some r) (fun ⟨y13,y14⟩=>⟨mk 63 [(0,(.own 0 1 (0) p0)),(1,I p1),(2,Qgb),(6,I y7),(7,I y13)],[(.own 1 (y14.map Qab)),(.own 1 [[Qet]]),(Qes p3),(.own 1 [[I p4]]),(.own 1 [[I p5]])]⟩) (fun t h=>?_) ?_
    ·subst hk_k15
     obtain⟨y13,y14⟩:=t
     refine wsq<|wxz<|wxz ?_
     refine bfe h (fun hc16 h=>?_) fun hc16 h=>?_
     ·refine wft hc16 ?_
      obtain⟨x18,hf17,h⟩:=bno h
      refine wx1 tbk [(5,⟨_,_,_,_,false⟩)] ⟨acq [(.own 0 1 (0) p0),I y13,(I (w64 (y13+y7))),I p1,Qgb] [(.own 1 (y14.map Qab)),(.own 1 [[Qet]]),(Qes p3),(.own 1 [[I p4]]),(.own 1 [[I p5]])] [(.own 1 (x18.map Qab)),(.own 1 [[Qet]]),(Qes p3),(.own 1 [[I p4]]),(.own 1 [[I p5]])] (.tup []) [0,1,2,3,4] Qlp (Qdq N p0 y13 (w64 (y13+y7)) p1 y14 p3 p4 p5 _ hf17) (Qbu (rnc (Qfu rfl) (rncc (rnc (.plain _ nll) (rnc (Qaj rn0 (rnc (Qak rfl) (rnc (Qak rfl) rn0))) rn0))))) (slc (Qdc Qac) (slc (Qad (rnc (Qaj rn0 (rnc (Qak rfl) (rnc (Qak rfl) rn0))) rn0)) (slc (Qad (rnc (pld Qac) rn0)) (slc (Qad (rnc (.plain _ nll) rn0)) (slc (Qad (rnc (.plain _ nll) rn0)) Qal))))) (slc (Qdc Qac) (slc (Qad (rnc (Qaj rn0 (rnc (Qar rfl) (rnc (Qar rfl) rn0))) rn0)) (slc (Qad (rnc (pld Qac) rn0)) (slc (Qad (rnc (.plain _ nll) rn0)) (slc (Qad (rnc (.plain _ nll) rn0)) Qal))))) (.plain _ (NLt.tup _ nl0)),tv⟩<|thn<|wxz1<|bln<|thn ?_
      exact arm (mto (n:=63) [(0,(.own 0 1 (0) p0)),(1,I p1),(2,Qgb),(6,(I (w64 (y7*2))))] [0,1,2,3,4] [(.own 1 (x18.map Qab)),(.own 1 [[Qet]]),(Qes p3),(.own 1 [[I p4]]),(.own 1 [[I p5]])] hq (pc (.rn (Qas rfl)) (pw (pc (.rn (Qaj rn0 (rnc (rqr rfl) (rnc (rqr rfl) rn0)))) (pw pn)))) (qc (spr Qac) (qb (lc (.rn (Qaj rn0 (rnc (rqr rfl) (rnc (rqr rfl) rn0)))) ln) (qb (lc (rnd Qac) ln) (qb (lc rwl ln) (qb (lc rwl ln) qn)))))) (ih (w64 (y7*2),x18) h)
     ·exact wfn hc16<|Qah<|thn<|wxz1<|bln<|thn<|arm (mto (n:=63) [(0,(.own 0 1 (0) p0)),(1,I p1),(2,Qgb),(6,(I (w64 (y7*2))))] [0,1,2,3,4] [(.own 1 (y14.map Qab)),(.own 1 [[Qet]]),(Qes p3),(.own 1 [[I p4]]),(.own 1 [[I p5]])] hq (pc (.rn (Qas rfl)) (pw (pc (.rn (Qaj rn0 (rnc (rqr rfl) (rnc (rqr rfl) rn0)))) (pw pn)))) (qc (spr Qac) (qb (lc (.rn (Qaj rn0 (rnc (rqr rfl) (rnc (rqr rfl) rn0)))) ln) (qb (lc (rnd Qac) ln) (qb (lc rwl ln) (qb (lc rwl ln) qn)))))) (ih (w64 (y7*2),y14) h)
    ·skip
     refine Qag<|wmr (mto (n:=63) (l':=[(0,(.own 0 1 (0) p0)),(1,I p1),(2,Qgb),(6,I y7),(7,I 0),(8,(I ((w64 (2*y7)))))]) (own':=[(.own 1 (y8.map Qab)),(.own 1 [[Qet]]),(Qes p3),(.own 1 [[I p4]]),(.own 1 [[I p5]])]) [(0,(.own 0 1 (0) p0)),(1,I p1),(2,Qgb),(6,I y7),(7,I 0),(8,(I (w64 (2*y7))))] [0,1,2,3,4] [(.own 1 (y8.map Qab)),(.own 1 [[Qet]]),(Qes p3),(.own 1 [[I p4]]),(.own 1 [[I p5]])] hq (pc (.rn (Qas rfl)) (pw (pc (.rn (Qaj rn0 (rnc (rqr rfl) (rnc (rqr rfl) rn0)))) (pw (pw (pw pn)))))) (qc (spr Qac) (qb (lc (.rn (Qaj rn0 (rnc (rqr rfl) (rnc (rqr rfl) rn0)))) ln) (qb (lc (rnd Qac) ln) (qb (lc rwl ln) (qb (lc rwl ln) qn)))))) ?_
     refine Qb2 (τ:=Int×Int×(List Int)) (fun n t=>Qbm N p0 p1 p3 p4 p5 y7 k15 n t.1 t.2.1 t.2.2=some r) (fun ⟨y19,y20,y21⟩=>⟨mk 63 [(0,(.own 0 1 (0) p0)),(1,I p1),(2,Qgb),(6,I y7),(7,I y19),(8,I y20)],[(.own 1 (y21.map Qab)),(.own 1 [[Qet]]),(Qes p3),(.own 1 [[I p4]]),(.own 1 [[I p5]])]⟩) (fun t h=>by rw[Qbm] at h;cases h) (fun n25 ih t h=>?_) N (0,w64 (2*y7),y8) h
     obtain⟨y19,y20,y21⟩:=t
     rw[Qbm] at h
     skip
     refine wsq<|wxz ?_
     refine bfe h (fun hc26 h=>?_) fun hc26 h=>?_
     ·refine wft hc26<|Qah<|thn<|Qag ?_
      obtain⟨x28,hf27,h⟩:=bno h
      refine wx tbk [(7,⟨_,_,_,_,false⟩)] ⟨acq [(.own 0 1 (0) p0),I y19,(I (w64 (y19+y7))),I y20,Qgb] [(.own 1 (y21.map Qab)),(.own 1 [[Qet]]),(Qes p3),(.own 1 [[I p4]]),(.own 1 [[I p5]])] [(.own 1 (x28.map Qab)),(.own 1 [[Qet]]),(Qes p3),(.own 1 [[I p4]]),(.own 1 [[I p5]])] (.tup []) [0,1,2,3,4] Qlp (Qdq N p0 y19 (w64 (y19+y7)) y20 y21 p3 p4 p5 _ hf27) (Qbu (rnc (Qfu rfl) (rncc (rnc (.plain _ nll) (rnc (Qaj rn0 (rnc (Qak rfl) (rnc (Qak rfl) rn0))) rn0))))) (slc (Qdc Qac) (slc (Qad (rnc (Qaj rn0 (rnc (Qak rfl) (rnc (Qak rfl) rn0))) rn0)) (slc (Qad (rnc (pld Qac) rn0)) (slc (Qad (rnc (.plain _ nll) rn0)) (slc (Qad (rnc (.plain _ nll) rn0)) Qal))))) (slc (Qdc Qac) (slc (Qad (rnc (Qaj rn0 (rnc (Qar rfl) (rnc (Qar rfl) rn0))) rn0)) (slc (Qad (rnc (pld Qac) rn0)) (slc (Qad (rnc (.plain _ nll) rn0)) (slc (Qad (rnc (.plain _ nll) rn0)) Qal))))) (.plain _ (NLt.tup _ nl0)),tv⟩<|wxz ?_
      obtain⟨x29,hl30,h⟩:=bno h
      exact wx1 tbk [(4,rp [(.tmp 48,(I (w64 (y20+(w64 (2*y7))))))] (I x29))] ⟨Qeq hl30 (aas rfl),tv⟩<|bln<|thn<|arm (mto (n:=63) [(0,(.own 0 1 (0) p0)),(1,I p1),(2,Qgb),(6,I y7),(7,I y20),(8,I x29)] [0,1,2,3,4] [(.own 1 (x28.map Qab)),(.own 1 [[Qet]]),(Qes p3),(.own 1 [[I p4]]),(.own 1 [[I p5]])] hq (pc (.rn (Qas rfl)) (pw (pc (.rn (Qaj rn0 (rnc (rqr rfl) (rnc (rqr rfl) rn0)))) (pw (pw (pw pn)))))) (qc (spr Qac) (qb (lc (.rn (Qaj rn0 (rnc (rqr rfl) (rnc (rqr rfl) rn0)))) ln) (qb (lc (rnd Qac) ln) (qb (lc rwl ln) (qb (lc rwl ln) qn)))))) (ih (y20,x29,x28) h)
     ·exact wfn hc26<|Qbc<|Qaq<|Qaq<|Qbb rfl<|thn<|⟨(y19,y21),h,(mto (n:=63) [(0,(.own 0 1 (0) p0)),(1,I p1),(2,Qgb),(6,I y7),(7,I y19)] [0,1,2,3,4] [(.own 1 (y21.map Qab)),(.own 1 [[Qet]]),(Qes p3),(.own 1 [[I p4]]),(.own 1 [[I p5]])] hq (pc (.rn (Qas rfl)) (pw (pc (.rn (Qaj rn0 (rnc (rqr rfl) (rnc (rqr rfl) rn0)))) (pw (pw pn))))) (qc (spr Qac) (qb (lc (.rn (Qaj rn0 (rnc (rqr rfl) (rnc (rqr rfl) rn0)))) ln) (qb (lc (rnd Qac) ln) (qb (lc rwl ln) (qb (lc rwl ln) qn))))))⟩
   ·refine wfn hc12<|Qbc<|Qaq<|Qaq<|Qbb rfl ?_
    obtain rfl:=osi h
    exact⟨_,(mto (n:=63) (l':=[]) (own':=[(.own 1 (y8.map Qab)),(.own 1 [[Qet]]),(Qes p3),(.own 1 [[I p4]]),(.own 1 [[I p5]])]) [] [0,1,2,3,4] [(.own 1 (y8.map Qab)),(.own 1 [[Qet]]),(Qes p3),(.own 1 [[I p4]]),(.own 1 [[I p5]])] hq pn (qc (spr Qac) (qb (lc (.rn (Qaj rn0 (rnc (rqr rfl) (rnc (rqr rfl) rn0)))) ln) (qb (lc (rnd Qac) ln) (qb (lc rwl ln) (qb (lc rwl ln) qn)))))),fio [] tv⟩
  ·skip
   refine Qag<|wmr (mto (n:=63) (l':=[(0,(.own 0 1 (0) p0)),(1,I p1),(2,Qgb),(6,I 20),(7,I 0),(8,I 20)]) (own':=[(.own 1 (p2.map Qab)),(.own 1 [[Qet]]),(Qes p3),(.own 1 [[I p4]]),(.own 1 [[I p5]])]) [(0,(.own 0 1 (0) p0)),(1,I p1),(2,Qgb),(6,I 20),(7,I 0),(8,I 20)] [0,1,2,3,4] [(.own 1 (p2.map Qab)),(.own 1 [[Qet]]),(Qes p3),(.own 1 [[I p4]]),(.own 1 [[I p5]])] hq (pc (.rn (Qas rfl)) (pw (pc (.rn (Qaj rn0 (rnc (rqr rfl) (rnc (rqr rfl) rn0)))) (pw (pw (pw pn)))))) (qc (spr Qac) (qb (lc (.rn (Qaj rn0 (rnc (rqr rfl) (rnc (rqr rfl) rn0)))) ln) (qb (lc (rnd Qac) ln) (qb (lc rwl ln) (qb (lc rwl ln) qn)))))) ?_
   refine Qb2 (τ:=Int×Int×(List Int)) (fun n t=>Qa1 N p0 p1 p3 k4 p4 p5 n t.1 t.2.1 t.2.2=some r) (fun ⟨y31,y32,y33⟩=>⟨mk 63 [(0,(.own 0 1 (0) p0)),(1,I p1),(2,Qgb),(6,I 20),(7,I y31),(8,I y32)],[(.own 1 (y33.map Qab)),(.own 1 [[Qet]]),(Qes p3),(.own 1 [[I p4]]),(.own 1 [[I p5]])]⟩) (fun t h=>by rw[Qa1] at h;cases h) (fun n37 ih t h=>?_) N (0,20,p2) h
   obtain⟨y31,y32,y33⟩:=t
   rw[Qa1] at h
   skip
   refine wsq<|wxz ?_
   refine bfe h (fun hc38 h=>?_) fun hc38 h=>?_
   ·refine wft hc38<|Qah<|thn<|Qag ?_
    obtain⟨x40,hf39,h⟩:=bno h
    refine wx tbk [(4,⟨_,_,_,_,false⟩)] ⟨acq [(.own 0 1 (0) p0),I y31,I y32,Qgb] [(.own 1 (y33.map Qab)),(.own 1 [[Qet]]),(Qes p3),(.own 1 [[I p4]]),(.own 1 [[I p5]])] [(.own 1 (x40.map Qab)),(.own 1 [[Qet]]),(Qes p3),(.own 1 [[I p4]]),(.own 1 [[I p5]])] (.tup []) [0,1,2,3,4] Qsv (Qdb N p0 y31 y32 y33 p3 p4 p5 _ hf39) (Qbu (rnc (Qfu rfl) (rncc (rnc (Qaj rn0 (rnc (Qak rfl) (rnc (Qak rfl) rn0))) rn0)))) (slc (Qdc Qac) (slc (Qad (rnc (Qaj rn0 (rnc (Qak rfl) (rnc (Qak rfl) rn0))) rn0)) (slc (Qad (rnc (pld Qac) rn0)) (slc (Qad (rnc (.plain _ nll) rn0)) (slc (Qad (rnc (.plain _ nll) rn0)) Qal))))) (slc (Qdc Qac) (slc (Qad (rnc (Qaj rn0 (rnc (Qar rfl) (rnc (Qar rfl) rn0))) rn0)) (slc (Qad (rnc (pld Qac) rn0)) (slc (Qad (rnc (.plain _ nll) rn0)) (slc (Qad (rnc (.plain _ nll) rn0)) Qal))))) (.plain _ (NLt.tup _ nl0)),tv⟩<|wxz<|wxz1<|bln<|thn ?_
    exact arm (mto (n:=63) [(0,(.own 0 1 (0) p0)),(1,I p1),(2,Qgb),(6,I 20),(7,I y32),(8,(I (w64 (y32+20))))] [0,1,2,3,4] [(.own 1 (x40.map Qab)),(.own 1 [[Qet]]),(Qes p3),(.own 1 [[I p4]]),(.own 1 [[I p5]])] hq (pc (.rn (Qas rfl)) (pw (pc (.rn (Qaj rn0 (rnc (rqr rfl) (rnc (rqr rfl) rn0)))) (pw (pw (pw pn)))))) (qc (spr Qac) (qb (lc (.rn (Qaj rn0 (rnc (rqr rfl) (rnc (rqr rfl) rn0)))) ln) (qb (lc (rnd Qac) ln) (qb (lc rwl ln) (qb (lc rwl ln) qn)))))) (ih (y32,w64 (y32+20),x40) h)
   ·exact wfn hc38<|Qbc<|Qaq<|Qaq<|Qbb rfl<|thn<|⟨(y31,y33),h,(mto (n:=63) [(0,(.own 0 1 (0) p0)),(1,I p1),(2,Qgb),(6,I 20),(7,I y31)] [0,1,2,3,4] [(.own 1 (y33.map Qab)),(.own 1 [[Qet]]),(Qes p3),(.own 1 [[I p4]]),(.own 1 [[I p5]])] hq (pc (.rn (Qas rfl)) (pw (pc (.rn (Qaj rn0 (rnc (rqr rfl) (rnc (rqr rfl) rn0)))) (pw (pw pn))))) (qc (spr Qac) (qb (lc (.rn (Qaj rn0 (rnc (rqr rfl) (rnc (rqr rfl) rn0)))) ln) (qb (lc (rnd Qac) ln) (qb (lc rwl ln) (qb (lc rwl ln) qn))))))⟩
def Qbe (N p0:Nat) (p1 p2:List Int) (p3 p4:Int):Option (List Int):=
  (Qct N p0 ((p0:Nat):Int) p1 p2 p3 p4).bind fun x3=>
  some x3
abbrev Qyh:AV:=.fn (.func 53) [] [(.ref 1 1 (0) 0),(.ref 2 1 (0) 0)]
abbrev Qpl:AV:=.fn (.func 46) [] [(.ref 3 1 (0) 0),(.ref 4 1 (0) 0)]
abbrev Qpk (p2:List Int):Slot:=.own 1 [[(.dat 1 (p2.map Qab))]]
theorem Qeo (N p0:Nat) (p1 p2:List Int) (p3 p4:Int) (r:List Int) (h:Qbe N p0 p1 p2 p3 p4=some r):Spec prog 52 [(.own 0 1 (0) p0),Qyh] [(.own 1 (p1.map Qab)),(.own 1 [[Qpl]]),(Qpk p2),(.own 1 [[(I p3)]]),(.own 1 [[(I p4)]])] (.tup []) [(.own 1 (r.map Qab)),(.own 1 [[Qpl]]),(Qpk p2),(.own 1 [[(I p3)]]),(.own 1 [[(I p4)]])]:=by
  refine sF func52 5 fun _ _ _ hq hd0=>?_
  unfold Qbe at h
  obtain⟨x3,hf2,h⟩:=bno h
  refine wx1 tbk [(2,rp [(.tmp 5,(.own 0 1 (0) p0))] (I (((p0:Nat):Int)))),(4,⟨_,_,_,_,false⟩)] ⟨aln rfl underlying25 rfl,acq [(.own 0 1 (0) p0),(I (((p0:Nat):Int))),Qyh] [(.own 1 (p1.map Qab)),(.own 1 [[Qpl]]),(Qpk p2),(.own 1 [[I p3]]),(.own 1 [[I p4]])] [(.own 1 (x3.map Qab)),(.own 1 [[Qpl]]),(Qpk p2),(.own 1 [[I p3]]),(.own 1 [[I p4]])] (.tup []) [0,1,2,3,4] Qwx (Qfh N p0 ((p0:Nat):Int) p1 p2 p3 p4 _ hf2) (Qbu (rnc (Qfu rfl) (rnc (.plain _ nll) (rnc (Qaj rn0 (rnc (Qak rfl) (rnc (Qak rfl) rn0))) rn0)))) (slc (Qdc Qac) (slc (Qad (rnc (Qaj rn0 (rnc (Qak rfl) (rnc (Qak rfl) rn0))) rn0)) (slc (Qad (rnc (pld Qac) rn0)) (slc (Qad (rnc (.plain _ nll) rn0)) (slc (Qad (rnc (.plain _ nll) rn0)) Qal))))) (slc (Qdc Qac) (slc (Qad (rnc (Qaj rn0 (rnc (Qar rfl) (rnc (Qar rfl) rn0))) rn0)) (slc (Qad (rnc (pld Qac) rn0)) (slc (Qad (rnc (.plain _ nll) rn0)) (slc (Qad (rnc (.plain _ nll) rn0)) Qal))))) (.plain _ (NLt.tup _ nl0)),tv⟩ ?_
  obtain rfl:=osi h
  exact⟨_,(mto (n:=9) (l':=[]) (own':=[(.own 1 (x3.map Qab)),(.own 1 [[Qpl]]),(Qpk p2),(.own 1 [[I p3]]),(.own 1 [[I p4]])]) [] [0,1,2,3,4] [(.own 1 (x3.map Qab)),(.own 1 [[Qpl]]),(Qpk p2),(.own 1 [[I p3]]),(.own 1 [[I p4]])] hq pn (qc (spr Qac) (qb (lc (.rn (Qaj rn0 (rnc (rqr rfl) (rnc (rqr rfl) rn0)))) ln) (qb (lc (rnd Qac) ln) (qb (lc rwl ln) (qb (lc rwl ln) qn)))))),fio [] tv⟩
def Qbo (N:Nat) (p0:List Int) (k4:(List Int)→Option (List Int)):Nat→Int→(List Int)→Option (List Int)
  |0,_,_=>none
  |n13+1,y9,y10=>
    bif (decide (y9<(p0.length:Int))) then
     chk (decide ((y10.length+([y9]).length)*8≤140737488355328))<|
     Qbo N p0 k4 n13 (w64 (y9+1)) (y10++([y9]))
    else
     k4 (y10)
def Qde (N:Nat) (p0:List Int) (p1 p2:Int):Option (List Int):=
  Qcd (fun y3=>
    chk (!y3.isEmpty)<|
    (Qbe N y3.length y3 p0 p1 p2).bind fun x7=>
    chk (decide (y3.length≤x7.length))<|
    some (x7.take y3.length)) fun k4:(List Int)→Option (List Int)=>
  Qbo N p0 k4 N 0 ([]:List Int)
abbrev Qi9:AV:=.fn (.func 46) [] [(.ref 0 1 (0) 0),(.ref 1 1 (0) 0)]
def Qjj (p0:List Int):Slot:=.own 1 [[(.dat 1 (p0.map Qab))]]
def Qt6:AV:=.fn (.func 53) [] [(.ref 3 1 (0) 0),(.ref 2 1 (0) 0)]
def Qop (x7 y3:List Int):AV:=.dat 1 ((x7.take y3.length:List Int).map Qab)
def Qyi:Slot:=.gro 1 ((([]:List Int):List Int).map Qab)
theorem Qg2 (N:Nat) (p0:List Int) (p1 p2:Int) (r:List Int) (h:Qde N p0 p1 p2=some r):Spec prog 45 [(.dat 1 (p0.map Qab)),Qi9] [(.own 1 [[(I p1)]]),(.own 1 [[(I p2)]])] (.dat 1 (r.map Qab)) [(.own 1 [[(I p1)]]),(.own 1 [[(I p2)]])]:=by
  refine sF func45 2 fun _ _ _ hq hd0=>?_
  unfold Qde at h
  refine wxz<|wxz ?_
  obtain⟨k4,hk_k4,h⟩:=jko h
  refine wjn (τ:=(List Int)) (fun t=>k4 t=some r) (fun y3=>⟨mk 21 [(2,.ref 2 1 0 0),(3,.ref 3 1 0 0),(5,(.gro 4 3 1 y3.length))],[(.own 1 [[I p1]]),(.own 1 [[I p2]]),(Qjj p0),(.own 1 [[Qi9]]),(.gro 1 (y3.map Qab))]⟩) (fun y3 h=>?_) ?_
  ·subst hk_k4
   obtain⟨hz5,h⟩:=cko h
   obtain⟨x7,hf6,h⟩:=bno h
   refine wx tbk [(1,rp [(.tmp 3,.ref 3 1 0 0),(.tmp 2,.ref 2 1 0 0)] Qt6),(2,⟨[fu 52,(.tmp 17,(.gro 4 3 1 y3.length)),(.tmp 18,Qt6)],[(4,(.gro 1 (y3.map Qab))),(3,.own 1 [[Qi9]]),(2,(Qjj p0)),(0,.own 1 [[I p1]]),(1,.own 1 [[I p2]])],(.tup []),[(4,(.own 1 (x7.map Qab))),(3,.own 1 [[Qi9]]),(2,(Qjj p0)),(0,.own 1 [[I p1]]),(1,.own 1 [[I p2]])],false⟩)] ⟨Qd1 (fs:=[]) (cs:=[.ref 3 1 0 0,.ref 2 1 0 0]) rfl rfl rfl rfl,Qn6 (bl':=[(4,(.own 1 (y3.map Qab))),(3,.own 1 [[Qi9]]),(2,(Qjj p0)),(0,.own 1 [[I p1]]),(1,.own 1 [[I p2]])]) ⟨rfl,SLess.gro (Qj1 hz5),rfl,SLess.rfl,rfl,SLess.rfl,rfl,SLess.rfl,rfl,SLess.rfl,tv⟩ (awk (rd':=[fu 52,(.tmp 17,(.own 4 1 (0) y3.length)),(.tmp 18,Qt6)]) ⟨rfl,lrf,rfl,Less.gro,rfl,lrf,tv⟩ (acq [(.own 4 1 (0) y3.length),Qt6] [(.own 1 (y3.map Qab)),(.own 1 [[Qi9]]),(Qjj p0),(.own 1 [[I p1]]),(.own 1 [[I p2]])] [(.own 1 (x7.map Qab)),(.own 1 [[Qi9]]),(Qjj p0),(.own 1 [[I p1]]),(.own 1 [[I p2]])] (.tup []) [4,3,2,0,1] Qw0 (Qeo N y3.length y3 p0 p1 p2 _ hf6) (Qbu (rnc (Qfu rfl) (rnc (Qaj rn0 (rnc (Qak rfl) (rnc (Qak rfl) rn0))) rn0))) (slc (Qdc Qac) (slc (Qad (rnc (Qaj rn0 (rnc (Qak rfl) (rnc (Qak rfl) rn0))) rn0)) (slc (Qad (rnc (pld Qac) rn0)) (slc (Qad (rnc (.plain _ nll) rn0)) (slc (Qad (rnc (.plain _ nll) rn0)) Qal))))) (slc (Qdc Qac) (slc (Qad (rnc (Qaj rn0 (rnc (Qar rfl) (rnc (Qar rfl) rn0))) rn0)) (slc (Qad (rnc (pld Qac) rn0)) (slc (Qad (rnc (.plain _ nll) rn0)) (slc (Qad (rnc (.plain _ nll) rn0)) Qal))))) (.plain _ (NLt.tup _ nl0)))),tv⟩<|wxz ?_
   obtain⟨hz8,h⟩:=cko h
   refine wmr (Quw (n:=21) (l':=[(4,(.own 4 1 (0) y3.length))]) [(4,(.gro 4 3 1 y3.length))] (by kernel_rfl) (by kernel_rfl) ⟨rfl,Less.gro,tv⟩) ?_
   refine wmr (Qvp (n:=21) (l':=[(4,(Qop x7 y3))]) 4 [(4,(.own 4 1 (0) y3.length))] (by kernel_rfl) (by kernel_rfl) (by kernel_rfl) ⟨rfl,(Qsq hz8),tv⟩ rfl) ?_
   refine wmr (mto (n:=21) (l':=[(4,(Qop x7 y3))]) (own':=[(.own 1 [[I p1]]),(.own 1 [[I p2]])]) [(4,(Qop x7 y3))] [0,1] [(.own 1 [[I p1]]),(.own 1 [[I p2]])] hq (pc (rnd Qac) pn) (qb (lc rwl ln) (qb (lc rwl ln) qn)))<|Qaf ?_
   obtain rfl:=osi h
   exact⟨_,Mor.rfl,fio [(Qop x7 y3)] ⟨rot,tv⟩⟩
  ·skip
   refine wx tbk [(1,rp _ _)] ⟨alq 1 Qab p0 underlying25,tv⟩<|Qag ?_
   refine wmr (Mor.trans (Quv 4 3 1 5 (by kernel_rfl) (by kernel_rfl)) (mto (n:=21) (l':=[(2,.ref 2 1 0 0),(3,.ref 3 1 0 0),(5,(.gro 4 3 1 (([]:List Int).length))),(8,(I ((p0.length:Int)))),(9,I 0)]) (own':=[(.own 1 [[I p1]]),(.own 1 [[I p2]]),(Qjj p0),(.own 1 [[Qi9]]),Qyi]) [(2,.ref 2 1 0 0),(3,.ref 3 1 0 0),(5,(.gro 4 3 1 (([]:List Int).length))),(8,(I ((p0.length:Int)))),(9,I 0)] [0,1,2,3,4] [(.own 1 [[I p1]]),(.own 1 [[I p2]]),(Qjj p0),(.own 1 [[Qi9]]),Qyi] hq (prr (prr (pc (.rn (Qni rfl)) (pw (pw pn))))) (qb (lc rwl ln) (qb (lc rwl ln) (qb (lc (rnd Qac) ln) (qb (lc (.rn (Qaj rn0 (rnc (rqr rfl) (rnc (rqr rfl) rn0)))) ln) (qc (Qlb Qac) qn))))))) ?_
   refine Qb2 (τ:=Int×(List Int)) (fun n t=>Qbo N p0 k4 n t.1 t.2=some r) (fun ⟨y9,y10⟩=>⟨mk 21 [(2,.ref 2 1 0 0),(3,.ref 3 1 0 0),(5,(.gro 4 3 1 y10.length)),(8,(I ((p0.length:Int)))),(9,I y9)],[(.own 1 [[I p1]]),(.own 1 [[I p2]]),(Qjj p0),(.own 1 [[Qi9]]),(.gro 1 (y10.map Qab))]⟩) (fun t h=>by rw[Qbo] at h;cases h) (fun n13 ih t h=>?_) N (0,([]:List Int)) h
   obtain⟨y9,y10⟩:=t
   rw[Qbo] at h
   skip
   refine wxz<|wsq ?_
   refine bfe h (fun hc14 h=>?_) fun hc14 h=>?_
   ·refine wft hc14<|Qah<|thn<|wsq<|Qag<|wxz ?_
    obtain⟨ha15,h⟩:=cko h
    refine wx1 tbk [(2,rp [(.tmp 13,I y9)] (.dat 1 (([y9]:List Int).map Qab))),(3,⟨[(.tmp 12,(.gro 4 3 1 y10.length)),(.tmp 14,(.dat 1 (([y9]:List Int).map Qab)))],[(4,(.gro 1 (y10.map Qab))),(5,.unused)],(.gro 5 3 1 ((y10++([y9])).length)),[(4,.dead),(5,(.gro 1 ((y10++([y9]):List Int).map Qab)))],false⟩)] ?_ ?_
    ·exact⟨Qea (vs:=[I y9]) rfl underlying25 ti3 tz3 rfl (by decide) rfl (by decide) (by rfl) (by rfl) (by rfl) rfl,Qob (c:=Qab) (a:=y10) (b:=[y9]) rfl underlying25 te3 rfl (Qj1 rfl) (by rfl) ha15 (by decide),tv⟩
    exact bln<|thn<|wxz1<|thn<|arm (mto (n:=21) [(2,.ref 2 1 0 0),(3,.ref 3 1 0 0),(5,(.gro 5 3 1 ((y10++([y9])).length))),(8,(I ((p0.length:Int)))),(9,(I (w64 (y9+1))))] [0,1,2,3,5] [(.own 1 [[I p1]]),(.own 1 [[I p2]]),(Qjj p0),(.own 1 [[Qi9]]),(.gro 1 ((y10++([y9]):List Int).map Qab))] hq (prr (prr (pc (.rn (Qni rfl)) (pw (pw pn))))) (qb (lc rwl ln) (qb (lc rwl ln) (qb (lc (rnd Qac) ln) (qb (lc (.rn (Qaj rn0 (rnc (rqr rfl) (rnc (rqr rfl) rn0)))) ln) (qc (Qlb Qac) qn)))))) (ih (w64 (y9+1),y10++([y9])) h)
   ·exact wfn hc14<|Qbc<|Qaq<|Qaq<|Qbb rfl<|thn<|⟨(y10),h,(mto (n:=21) [(2,.ref 2 1 0 0),(3,.ref 3 1 0 0),(5,(.gro 4 3 1 y10.length))] [0,1,2,3,4] [(.own 1 [[I p1]]),(.own 1 [[I p2]]),(Qjj p0),(.own 1 [[Qi9]]),(.gro 1 (y10.map Qab))] hq (prr (prr (pc (.rn (Qni rfl)) pn))) (qb (lc rwl ln) (qb (lc rwl ln) (qb (lc (rnd Qac) ln) (qb (lc (.rn (Qaj rn0 (rnc (rqr rfl) (rnc (rqr rfl) rn0)))) ln) (qc (Qlb Qac) qn))))))⟩
def Qcl (N:Nat) (p1:List Int) (y6:Int) (k10:(List Int)→Option (List Int)) (x13:List Int):Nat→Int→(List Int)→Option (List Int)
  |0,_,_=>none
  |n19+1,y15,y16=>
    bif (decide (y15<(((x13).take (y6.toNat-0)).length:Int))) then
     (getI ((x13).take (y6.toNat-0)) y15).bind fun x21=>
     chk (decide (0≤x21)&&decide (x21.toNat<(p1.length:Int).toNat))<|
     (y16[x21.toNat]?).bind fun x26=>
     chk (decide (0≤x21)&&decide (x21.toNat<(p1.length:Int).toNat))<|
     (y16[x21.toNat]?).bind fun _=>
     Qcl N p1 y6 k10 x13 n19 (w64 (y15+1)) (y16.set x21.toNat (w64 (x26+1)))
    else
     k10 (y16)
def Qck (N:Nat) (p0:Int) (p1:List Int) (y3:Int) (k8:Int×(List Int)→Option (List Int)):Nat→Int→Int→(List Int)→Option (List Int)
  |0,_,_,_=>none
  |n37+1,y31,y32,y33=>
    bif (decide (y32<(p1.length:Int))) then
     (getI p1 y32).bind fun x39=>
     chk (y3 != 0)<|
     chk (decide (0≤y32)&&decide (y32.toNat<(p1.length:Int).toNat))<|
     (y33[y32.toNat]?).bind fun _=>
     chk (decide (0≤y32)&&decide (y32.toNat<(p1.length:Int).toNat))<|
     ((y33.set y32.toNat (w64 ((w64 (p0*x39)).tdiv y3)))[y32.toNat]?).bind fun x48=>
     Qck N p0 p1 y3 k8 n37 (w64 (y31-x48)) (w64 (y32+1)) (y33.set y32.toNat (w64 ((w64 (p0*x39)).tdiv y3)))
    else
     k8 (y31,y33)
def Qcj (N:Nat) (p1:List Int) (k4:Int→Option (List Int)):Nat→Int→Int→Option (List Int)
  |0,_,_=>none
  |n54+1,y50,y51=>
    bif (decide (y50<(p1.length:Int))) then
     (getI p1 y50).bind fun x56=>
     Qcj N p1 k4 n54 (w64 (y50+1)) (w64 (y51+x56))
    else
     k4 (y51)
def Qeu (N:Nat) (p0:Int) (p1:List Int):Option (List Int):=
  Qcd (fun y3=>
    chk (decide (0≤(p1.length:Int))&&decide (8*(p1.length:Int)≤281474976710656)&&decide ((p1.length:Int)≤9223372036854775807))<|
    Qcd (fun ⟨y6,y7⟩=>
      Qcd (fun y9=>
        chk (decide ((p1.length:Int).toNat≤y9.length))<|
        some (y9.take ((p1.length:Int).toNat))) fun k10:(List Int)→Option (List Int)=>
      (Qde N p1 p0 y3).bind fun x13=>
      chk (decide (0≤0)&&decide (0≤y6)&&decide (y6≤(x13.length:Int)))<|
      Qcl N p1 y6 k10 x13 N 0 y7) fun k8:Int×(List Int)→Option (List Int)=>
    Qck N p0 p1 y3 k8 N p0 0 (List.replicate (p1.length:Int).toNat 0)) fun k4:Int→Option (List Int)=>
  Qcj N p1 k4 N 0 0
def Qyj (p1:List Int):Slot:=.own 1 ((List.replicate (p1.length:Int).toNat 0:List Int).map Qab)
def Qor (y9 p1:List Int):AV:=.dat 1 ((y9.take ((p1.length:Int).toNat):List Int).map Qab)
def Qvo:AV:=.fn (.func 46) [] [(.ref 0 1 (0) 0),(.ref 1 1 (0) 0)]
def Ql4 (x13:List Int) (y6:Int):AV:=.dat 1 (((x13).take (y6.toNat-0):List Int).map Qab)
def Qoq (y33:List Int) (y32 p0:Int) (x39 y3:Int):Slot:=.own 1 ((y33.set y32.toNat (w64 ((w64 (p0*x39)).tdiv y3)):List Int).map Qab)
theorem Qja (N:Nat) (p0:Int) (p1 r:List Int) (h:Qeu N p0 p1=some r):Spec prog 28 [(I p0),(.dat 1 (p1.map Qab))] [] (.dat 1 (r.map Qab)) []:=by
  refine sF func28 0 fun _ _ _ hq hd0=>?_
  unfold Qeu at h
  refine wxz<|wxz ?_
  obtain⟨k4,hk_k4,h⟩:=jko h
  refine wjn (τ:=Int) (fun t=>k4 t=some r) (fun y3=>⟨mk 68 [(1,(.dat 1 (p1.map Qab))),(2,.ref 0 1 0 0),(5,.ref 1 1 0 0)],[(.own 1 [[I p0]]),(.own 1 [[I y3]])]⟩) (fun y3 h=>?_) ?_
  ·subst hk_k4
   obtain⟨hm5,h⟩:=cko h
   refine wxd tbk [(1,rp _ _),(2,⟨[(.tmp 25,(I ((p1.length:Int)))),(.tmp 25,(I ((p1.length:Int))))],[(2,.unused)],(.own 2 1 (0) ((p1.length:Int).toNat)),[(2,(Qyj p1))],false⟩)] ⟨alq 1 Qab p1 underlying25,Qi5 rfl underlying25 te3 tz3 rfl (Qqm hm5) rfl (Qql hm5) (Qts hm5) (Qnk Qab rfl),tv⟩ ?_
   obtain⟨k8,hk_k8,h⟩:=jko h
   refine wjn (τ:=Int×(List Int)) (fun t=>k8 t=some r) (fun ⟨y6,y7⟩=>⟨mk 68 [(1,(.dat 1 (p1.map Qab))),(2,.ref 0 1 0 0),(5,.ref 1 1 0 0),(8,(.own 2 1 (0) ((p1.length:Int).toNat))),(9,I y6)],[(.own 1 [[I p0]]),(.own 1 [[I y3]]),(.own 1 (y7.map Qab))]⟩) (fun t h=>?_) ?_
   ·subst hk_k8
    obtain⟨y6,y7⟩:=t
    obtain⟨k10,hk_k10,h⟩:=jko h
    refine wjn (τ:=(List Int)) (fun t=>k10 t=some r) (fun y9=>⟨mk 68 [(8,(.own 0 1 (0) ((p1.length:Int).toNat)))],[(.own 1 (y9.map Qab))]⟩) (fun y9 h=>?_) ?_
    ·subst hk_k10
     refine wxz ?_
     obtain⟨hz11,h⟩:=cko h
     refine wmr (Qvp (n:=68) (l':=[(4,(Qor y9 p1))]) 0 [(4,(.own 0 1 (0) ((p1.length:Int).toNat)))] (by kernel_rfl) (by kernel_rfl) (by kernel_rfl) ⟨rfl,(Qsq hz11),tv⟩ rfl) ?_
     refine wmr (mto (n:=68) (l':=[(4,(Qor y9 p1))]) (own':=[]) [(4,(Qor y9 p1))] [] [] hq (pc (rnd Qac) pn) qn)<|Qaf ?_
     obtain rfl:=osi h
     exact⟨_,Mor.rfl,fio [(Qor y9 p1)] ⟨rot,tv⟩⟩
    ·skip
     obtain⟨x13,hf12,h⟩:=bno h
     obtain⟨hs14,h⟩:=cko h
     refine wx tbk [(1,rp [(.tmp 2,.ref 0 1 0 0),(.tmp 5,.ref 1 1 0 0)] Qvo),(2,⟨_,_,_,_,false⟩),(4,rp [(.tmp 52,(.dat 1 (x13.map Qab))),(.tmp 53,I y6)] (Ql4 x13 y6)),(5,rp _ _)] ⟨Qd1 (fs:=[]) (cs:=[.ref 0 1 0 0,.ref 1 1 0 0]) rfl rfl rfl rfl,acq [(.dat 1 (p1.map Qab)),Qvo] [(.own 1 [[I p0]]),(.own 1 [[I y3]])] [(.own 1 [[I p0]]),(.own 1 [[I y3]])] (.dat 1 (x13.map Qab)) [0,1] Qw4 (Qg2 N p1 p0 y3 _ hf12) (Qbu (rnc (pld Qac) (rnc (Qaj rn0 (rnc (Qak rfl) (rnc (Qak rfl) rn0))) rn0))) (slc (Qad (rnc (.plain _ nll) rn0)) (slc (Qad (rnc (.plain _ nll) rn0)) Qal)) (slc (Qad (rnc (.plain _ nll) rn0)) (slc (Qad (rnc (.plain _ nll) rn0)) Qal)) (pld Qac),Qhi (k:=.i64) (k':=.i64) (lo:=none) (hi:=some (.tmp 53)) (l:=0) (hh:=y6) rfl underlying25 ti3 rfl (fun _=>rfl) (fun e=>nomatch e) (Qqm hs14) (Qql hs14) (Qxw Qab hs14) (Qzn Qab),alq 1 Qab ((x13).take (y6.toNat-0)) underlying25,tv⟩<|Qag ?_
     refine wmr (mto (n:=68) (l':=[(8,(.own 0 1 (0) ((p1.length:Int).toNat))),(54,(Ql4 x13 y6)),(55,(I ((((x13).take (y6.toNat-0)).length:Int)))),(56,I 0)]) (own':=[(.own 1 (y7.map Qab))]) [(8,(.own 2 1 (0) ((p1.length:Int).toNat))),(54,(Ql4 x13 y6)),(55,(I ((((x13).take (y6.toNat-0)).length:Int)))),(56,I 0)] [2] [(.own 1 (y7.map Qab))] hq (pc (.rn (Qas rfl)) (pc (rnd Qac) (pw (pw pn)))) (qc (spr Qac) qn)) ?_
     refine Qb2 (τ:=Int×(List Int)) (fun n t=>Qcl N p1 y6 k10 x13 n t.1 t.2=some r) (fun ⟨y15,y16⟩=>⟨mk 68 [(8,(.own 0 1 (0) ((p1.length:Int).toNat))),(54,(Ql4 x13 y6)),(55,(I ((((x13).take (y6.toNat-0)).length:Int)))),(56,I y15)],[(.own 1 (y16.map Qab))]⟩) (fun t h=>by rw[Qcl] at h;cases h) (fun n19 ih t h=>?_) N (0,y7) h
     obtain⟨y15,y16⟩:=t
     rw[Qcl] at h
     skip
     refine wxz<|wsq ?_
     refine bfe h (fun hc20 h=>?_) fun hc20 h=>?_
     ·refine wft hc20<|Qah<|thn<|wsq<|Qag ?_
      obtain⟨x21,hg22,h⟩:=bno h
      obtain⟨hi23,hj24⟩:=gsm hg22
      refine wx tbk [(0,rp _ _)] ⟨aiq underlying25 ti3 Qab hi23 hj24,tv⟩ ?_
      obtain⟨hi25,h⟩:=cko h
      obtain⟨hi25a,hi25b⟩:=Qcc hi25
      obtain⟨x26,hg27,h⟩:=bno h
      obtain⟨hi28,h⟩:=cko h
      obtain⟨hi28a,hi28b⟩:=Qcc hi28
      obtain⟨x29,hg30,h⟩:=bno h
      refine wx1 tbk [(2,rb [(.tmp 60,(.own 0 1 (0) ((p1.length:Int).toNat))),(.tmp 61,I x21)] [(0,(.own 1 (y16.map Qab)))] (.ref 0 1 x21.toNat 0)),(3,rb [(.tmp 62,(.ref 0 1 x21.toNat 0))] [(0,(.own 1 (y16.map Qab)))] (I x26)),(5,rb [(.tmp 60,(.own 0 1 (0) ((p1.length:Int).toNat))),(.tmp 61,I x21)] [(0,(.own 1 (y16.map Qab)))] (.ref 0 1 x21.toNat 0)),(6,⟨[(.tmp 65,(.ref 0 1 x21.toNat 0)),(.tmp 64,(I (w64 (x26+1))))],[(0,(.own 1 (y16.map Qab)))],.any,[(0,(.own 1 ((y16.set x21.toNat (w64 (x26+1)):List Int).map Qab)))],false⟩)] ⟨aio rfl underlying25 ti3 (odt hi25a) (odt hi25b) (Nat.zero_add _),ald rfl ti3 (by decide) (mgt Qab hg27) (nle rfl) rfl,aio rfl underlying25 ti3 (odt hi28a) (odt hi28b) (Nat.zero_add _),ast rfl ti3 (by rfl) (mgt Qab hg30) (nle rfl) (Qe9 Qab rfl),tv⟩<|bln<|thn<|wxz1<|thn ?_
      exact arm (mto (n:=68) [(8,(.own 0 1 (0) ((p1.length:Int).toNat))),(54,(Ql4 x13 y6)),(55,(I ((((x13).take (y6.toNat-0)).length:Int)))),(56,(I (w64 (y15+1))))] [0] [(.own 1 ((y16.set x21.toNat (w64 (x26+1)):List Int).map Qab))] hq (pc (.rn (Qas rfl)) (pc (rnd Qac) (pw (pw pn)))) (qc (spr Qac) qn)) (ih (w64 (y15+1),y16.set x21.toNat (w64 (x26+1))) h)
     ·exact wfn hc20<|Qbc<|Qaq<|Qaq<|Qbb rfl<|thn<|⟨(y16),h,(mto (n:=68) [(8,(.own 0 1 (0) ((p1.length:Int).toNat)))] [0] [(.own 1 (y16.map Qab))] hq (pc (.rn (Qas rfl)) pn) (qc (spr Qac) qn))⟩
   ·skip
    refine wx tbk [(1,rp _ _)] ⟨alq 1 Qab p1 underlying25,tv⟩<|Qag ?_
    refine wmr (mto (n:=68) (l':=[(1,(.dat 1 (p1.map Qab))),(2,.ref 0 1 0 0),(5,.ref 1 1 0 0),(8,(.own 2 1 (0) ((p1.length:Int).toNat))),(9,I p0),(28,(.dat 1 (p1.map Qab))),(29,(I ((p1.length:Int)))),(30,I 0)]) (own':=[(.own 1 [[I p0]]),(.own 1 [[I y3]]),(.own 1 (((List.replicate (p1.length:Int).toNat 0):List Int).map Qab))]) [(1,(.dat 1 (p1.map Qab))),(2,.ref 0 1 0 0),(5,.ref 1 1 0 0),(8,(.own 2 1 (0) ((p1.length:Int).toNat))),(9,I p0),(28,(.dat 1 (p1.map Qab))),(29,(I ((p1.length:Int)))),(30,I 0)] [0,1,2] [(.own 1 [[I p0]]),(.own 1 [[I y3]]),(Qyj p1)] hq (pc (rnd Qac) (prr (prr (pc (.rn (Qas rfl)) (pw (pc (rnd Qac) (pw (pw pn)))))))) (qb (lc rwl ln) (qb (lc rwl ln) (qc (spr Qac) qn)))) ?_
    refine Qb2 (τ:=Int×Int×(List Int)) (fun n t=>Qck N p0 p1 y3 k8 n t.1 t.2.1 t.2.2=some r) (fun ⟨y31,y32,y33⟩=>⟨mk 68 [(1,(.dat 1 (p1.map Qab))),(2,.ref 0 1 0 0),(5,.ref 1 1 0 0),(8,(.own 2 1 (0) ((p1.length:Int).toNat))),(9,I y31),(28,(.dat 1 (p1.map Qab))),(29,(I ((p1.length:Int)))),(30,I y32)],[(.own 1 [[I p0]]),(.own 1 [[I y3]]),(.own 1 (y33.map Qab))]⟩) (fun t h=>by rw[Qck] at h;cases h) (fun n37 ih t h=>?_) N (p0,0,List.replicate (p1.length:Int).toNat 0) h
    obtain⟨y31,y32,y33⟩:=t
    rw[Qck] at h
    skip
    refine wxz<|wsq ?_
    refine bfe h (fun hc38 h=>?_) fun hc38 h=>?_
    ·refine wft hc38<|Qah<|thn<|wsq<|Qag ?_
     obtain⟨x39,hg40,h⟩:=bno h
     obtain⟨hi41,hj42⟩:=gsm hg40
     refine wx tbk [(1,rp _ _)] ⟨aiq underlying25 ti3 Qab hi41 hj42,tv⟩ ?_
     obtain⟨hz43,h⟩:=cko h
     obtain⟨hi44,h⟩:=cko h
     obtain⟨hi44a,hi44b⟩:=Qcc hi44
     obtain⟨x45,hg46,h⟩:=bno h
     refine wx tbk [(6,rp [(.tmp 39,(I (w64 (p0*x39)))),(.tmp 40,I y3)] (I (w64 ((w64 (p0*x39)).tdiv y3)))),(7,rb [(.tmp 35,(.own 2 1 (0) ((p1.length:Int).toNat))),(.tmp 36,I y32)] [(2,(.own 1 (y33.map Qab)))] (.ref 2 1 y32.toNat 0)),(8,⟨[(.tmp 42,(.ref 2 1 y32.toNat 0)),(.tmp 41,(I (w64 ((w64 (p0*x39)).tdiv y3))))],[(2,(.own 1 (y33.map Qab)))],.any,[(2,(Qoq y33 y32 p0 x39 y3))],false⟩)] ⟨Qf8 rfl (Qf7 hz43),aio rfl underlying25 ti3 (odt hi44a) (odt hi44b) (Nat.zero_add _),ast rfl ti3 (by rfl) (mgt Qab hg46) (nle rfl) (Qe9 Qab rfl),tv⟩ ?_
     obtain⟨hi47,h⟩:=cko h
     obtain⟨hi47a,hi47b⟩:=Qcc hi47
     obtain⟨x48,hg49,h⟩:=bno h
     refine wx1 tbk [(3,rb [(.tmp 44,(.own 2 1 (0) ((p1.length:Int).toNat))),(.tmp 45,I y32)] [(2,(Qoq y33 y32 p0 x39 y3))] (.ref 2 1 y32.toNat 0)),(4,rb [(.tmp 46,(.ref 2 1 y32.toNat 0))] [(2,(Qoq y33 y32 p0 x39 y3))] (I x48))] ⟨aio rfl underlying25 ti3 (odt hi47a) (odt hi47b) (Nat.zero_add _),ald rfl ti3 (by decide) (mgt Qab hg49) (nle rfl) rfl,tv⟩<|bln<|thn<|wxz1<|thn ?_
     exact arm (mto (n:=68) [(1,(.dat 1 (p1.map Qab))),(2,.ref 0 1 0 0),(5,.ref 1 1 0 0),(8,(.own 2 1 (0) ((p1.length:Int).toNat))),(9,(I (w64 (y31-x48)))),(28,(.dat 1 (p1.map Qab))),(29,(I ((p1.length:Int)))),(30,(I (w64 (y32+1))))] [0,1,2] [(.own 1 [[I p0]]),(.own 1 [[I y3]]),(Qoq y33 y32 p0 x39 y3)] hq (pc (rnd Qac) (prr (prr (pc (.rn (Qas rfl)) (pw (pc (rnd Qac) (pw (pw pn)))))))) (qb (lc rwl ln) (qb (lc rwl ln) (qc (spr Qac) qn)))) (ih (w64 (y31-x48),w64 (y32+1),y33.set y32.toNat (w64 ((w64 (p0*x39)).tdiv y3))) h)
    ·exact wfn hc38<|Qbc<|Qaq<|Qaq<|Qbb rfl<|thn<|⟨(y31,y33),h,(mto (n:=68) [(1,(.dat 1 (p1.map Qab))),(2,.ref 0 1 0 0),(5,.ref 1 1 0 0),(8,(.own 2 1 (0) ((p1.length:Int).toNat))),(9,I y31)] [0,1,2] [(.own 1 [[I p0]]),(.own 1 [[I y3]]),(.own 1 (y33.map Qab))] hq (pc (rnd Qac) (prr (prr (pc (.rn (Qas rfl)) (pw pn))))) (qb (lc rwl ln) (qb (lc rwl ln) (qc (spr Qac) qn))))⟩
  ·skip
   refine wx tbk [(1,rp _ _)] ⟨alq 1 Qab p1 underlying25,tv⟩<|Qag ?_
   refine wmr (mto (n:=68) (l':=[(1,(.dat 1 (p1.map Qab))),(2,.ref 0 1 0 0),(5,.ref 1 1 0 0),(14,(.dat 1 (p1.map Qab))),(15,(I ((p1.length:Int)))),(16,I 0)]) (own':=[(.own 1 [[I p0]]),(.own 1 [[I 0]])]) [(1,(.dat 1 (p1.map Qab))),(2,.ref 0 1 0 0),(5,.ref 1 1 0 0),(14,(.dat 1 (p1.map Qab))),(15,(I ((p1.length:Int)))),(16,I 0)] [0,1] [(.own 1 [[I p0]]),(.own 1 [[I 0]])] hq (pc (rnd Qac) (prr (prr (pc (rnd Qac) (pw (pw pn)))))) (qb (lc rwl ln) (qb (lc rwl ln) qn))) ?_
   refine Qb2 (τ:=Int×Int) (fun n t=>Qcj N p1 k4 n t.1 t.2=some r) (fun ⟨y50,y51⟩=>⟨mk 68 [(1,(.dat 1 (p1.map Qab))),(2,.ref 0 1 0 0),(5,.ref 1 1 0 0),(14,(.dat 1 (p1.map Qab))),(15,(I ((p1.length:Int)))),(16,I y50)],[(.own 1 [[I p0]]),(.own 1 [[I y51]])]⟩) (fun t h=>by rw[Qcj] at h;cases h) (fun n54 ih t h=>?_) N (0,0) h
   obtain⟨y50,y51⟩:=t
   rw[Qcj] at h
   skip
   refine wxz<|wsq ?_
   refine bfe h (fun hc55 h=>?_) fun hc55 h=>?_
   ·refine wft hc55<|Qah<|thn<|wsq<|Qag ?_
    obtain⟨x56,hg57,h⟩:=bno h
    obtain⟨hi58,hj59⟩:=gsm hg57
    exact wx tbk [(0,rp _ _)] ⟨aiq underlying25 ti3 Qab hi58 hj59,tv⟩<|wxz1<|bln<|thn<|wxz1<|thn<|arm (mto (n:=68) [(1,(.dat 1 (p1.map Qab))),(2,.ref 0 1 0 0),(5,.ref 1 1 0 0),(14,(.dat 1 (p1.map Qab))),(15,(I ((p1.length:Int)))),(16,(I (w64 (y50+1))))] [0,1] [(.own 1 [[I p0]]),(.own 1 [[(I (w64 (y51+x56)))]])] hq (pc (rnd Qac) (prr (prr (pc (rnd Qac) (pw (pw pn)))))) (qb (lc rwl ln) (qb (lc rwl ln) qn))) (ih (w64 (y50+1),w64 (y51+x56)) h)
   ·exact wfn hc55<|Qbc<|Qaq<|Qaq<|Qbb rfl<|thn<|⟨(y51),h,(mto (n:=68) [(1,(.dat 1 (p1.map Qab))),(2,.ref 0 1 0 0),(5,.ref 1 1 0 0)] [0,1] [(.own 1 [[I p0]]),(.own 1 [[I y51]])] hq (pc (rnd Qac) (prr (prr pn))) (qb (lc rwl ln) (qb (lc rwl ln) qn)))⟩
def Qc8 (_N:Nat) (p0 p1:Int) (p2 _p3:Int) (_p4 _p5:Int):Option Int:=
  chk ((if p2>1 then p2 else 1) != 0)<|
  (some (w64 ((w64 (p0*p1)).tdiv (if p2>1 then p2 else 1)))).bind fun x2=>
  some x2
theorem Qen (N:Nat) (p0 p1:Int) (p2 p3:Int) (p4 p5 r:Int) (h:Qc8 N p0 p1 p2 p3 p4 p5=some r):Spec prog 29 [(I p0),(.dptr [(I p1)] 0),(.dptr [(I p2),(I p3),(I p4),(I p5)] 0)] [] (I r) []:=by
  refine sA func29 0 fun _ _ _ hq hd0=>?_
  unfold Qc8 at h
  refine wxz ?_
  obtain⟨hz1,h⟩:=cko h
  obtain⟨x2,hl3,h⟩:=bno h
  refine wx tbk [(5,rp [ci 1,(.tmp 9,I p2)] (I ((if p2>1 then p2 else 1)))),(6,rp [(.tmp 7,(I (w64 (p0*p1)))),(.tmp 10,(I ((if p2>1 then p2 else 1))))] (I (w64 ((w64 (p0*p1)).tdiv (if p2>1 then p2 else 1))))),(7,rp [(.tmp 11,(I (w64 ((w64 (p0*p1)).tdiv (if p2>1 then p2 else 1)))))] (I x2))] ⟨Qm4 rfl,Qf8 rfl (Qf7 hz1),Qeq hl3 (aas rfl),tv⟩<|Qaf ?_
  obtain rfl:=osi h
  exact fend ⟨[I x2],⟨rot,tv⟩,rfl⟩ nll
def Qcr (N:Nat) (p0:Qaa) (k3:(List Qaa)→Option ((List Qaa)×Qdk×Int)) (x7:List Int):Nat→(List Qaa)→Int→Option ((List Qaa)×Qdk×Int)
  |0,_,_=>none
  |n12+1,y8,y9=>
    bif (decide (y9<(x7.length:Int))) then
     (getI x7 y9).bind fun x14=>
     (Qc8 N p0.Heat x14 p0.Mass p0.Heat p0.Silica p0.Gas).bind fun x19=>
     (Qc8 N p0.Silica x14 p0.Mass p0.Heat p0.Silica p0.Gas).bind fun x21=>
     (Qc8 N p0.Gas x14 p0.Mass p0.Heat p0.Silica p0.Gas).bind fun x23=>
     chk (decide ((y8.length+([(⟨x14,x19,x21,x23⟩:Qaa)]).length)*32≤140737488355328))<|
     Qcr N p0 k3 x7 n12 (y8++([(⟨x14,x19,x21,x23⟩:Qaa)])) (w64 (y9+1))
    else
     k3 (y8)
def Qdm (N:Nat) (p0:Qaa) (p1:List Int):Option ((List Qaa)×Qdk×Int):=
  Qcd (fun _=>
    Qcd (fun y2=>
      (Qe7 N y2).bind fun x5=>
      some (y2,(⟨w64 (p0.Heat-x5.Heat),w64 (p0.Silica-x5.Silica),w64 (p0.Gas-x5.Gas)⟩:Qdk),0)) fun k3:(List Qaa)→Option ((List Qaa)×Qdk×Int)=>
    (Qeu N p0.Mass p1).bind fun x7=>
    Qcr N p0 k3 x7 N ([]) 0) fun k1:Unit→Option ((List Qaa)×Qdk×Int)=>
  (Qcm N p0).bind fun x26=>
  bif (!x26) then
   some ([],(⟨0,0,0⟩:Qdk),1)
  else
   bif (decide ((p1.length:Int)>20)) then
    some ([],(⟨0,0,0⟩:Qdk),1)
   else
    (Qc7 N p1).bind fun x30=>
    bif (!x30) then
     some ([],(⟨0,0,0⟩:Qdk),1)
    else
     (Qa0 N p1).bind fun x33=>
     bif (!x33) then
      some ([],(⟨0,0,0⟩:Qdk),1)
     else
      k1 ()
def Qjk (p0:Qaa):Slot:=.own 4 [[(I p0.Mass),(I p0.Heat),(I p0.Silica),(I p0.Gas)]]
def Ql5:Slot:=.own 3 [[(I (0)),(I (0)),(I (0))]]
def Qyn (p0 x5:Qaa):AV:=.agg [(I (w64 (p0.Heat-x5.Heat))),(I (w64 (p0.Silica-x5.Silica))),(I (w64 (p0.Gas-x5.Gas)))]
def Qt8:AV:=.fn (.func 29) [] [(.ref 3 1 (0) 0),(.ref 0 4 (0) 0)]
def Qrf (x14:Int) (p0:Qaa):AV:=.fn (.func 29) [] [(.dptr [(I x14)] 0),(.dptr [(I p0.Mass),(I p0.Heat),(I p0.Silica),(I p0.Gas)] 0)]
def Qzl (p0:Qaa):AV:=.agg [(I p0.Mass),(I p0.Heat),(I p0.Silica),(I p0.Gas)]
def Qre (p0:Qaa) (x26:Bool):List (Nat×Rec):=[(1,rp [fu 24,((.tmp 12),(Qzl p0))] (B x26))]
def Qt9:AV:=.agg [(I (0)),(I (0)),(I (0))]
def Qos:AV:=.dat 4 (([]:List Qaa).map Qae)
def Qrd p0 x26 (p1:List Int):=hcat (Qre p0 x26) [(3,rp [((.tmp 14),(B ((!x26))))] (B false)),(5,rp [((.tmp 15),(B false)),((.tmp 16),(.dat 1 (p1.map Qab)))] (I ((p1.length:Int))))]
def Qrc p0 x26 p1 (x30:Bool):=hcat (Qrd p0 x26 p1) [(8,rp [((.tmp 19),(B ((decide ((p1.length:Int)>20)))))] (B false)),(11,rp [((.tmp 20),(B false)),fu 25,((.tmp 21),(.dat 1 (p1.map Qab))),((.tmp 22),(.fn (.func 22) [] []))] (B x30))]
theorem Qha (N:Nat) (p0:Qaa) (p1:List Int) (r:((List Qaa)×Qdk×Int)) (h:Qdm N p0 p1=some r):Spec prog 7 [(.agg (Qae p0)),(.dat 1 (p1.map Qab))] [] (.tup [(.dat 4 (r.1.map Qae)),(.agg (Qlt r.2.1)),(I r.2.2)]) []:=by
  refine sA func7 0 fun _ _ _ hq hd0=>?_
  unfold Qdm at h
  refine wxz<|wxz ?_
  obtain⟨k1,hk_k1,h⟩:=jko h
  refine wjn (τ:=Unit) (fun t=>k1 t=some r) (fun _=>⟨mk 79 [(1,(.dat 1 (p1.map Qab))),(2,.ref 0 4 0 0),(4,nilS),(5,.ref 1 3 0 0)],[(Qjk p0),Ql5]⟩) (fun t h=>?_) ?_
  ·subst hk_k1
   obtain⟨k3,hk_k3,h⟩:=jko h
   refine wjn (τ:=(List Qaa)) (fun t=>k3 t=some r) (fun y2=>⟨mk 79 [(2,.ref 0 4 0 0),(4,(.acc 1 27 4 (y2.map Qae))),(5,.ref 2 3 0 0)],[(Qjk p0),.tok,Ql5]⟩) (fun y2 h=>?_) ?_
   ·subst hk_k3
    obtain⟨x5,hf4,h⟩:=bno h
    refine wx tbk [(1,rp [fu 21,(.tmp 60,(.acc 1 27 4 (y2.map Qae)))] (.agg [I x5.Mass,I x5.Heat,I x5.Silica,I x5.Gas]))] ⟨awk (rd':=(.func 21,(.fn (.func 21) [] []))::[(.tmp 60,(.dat 4 (y2.map Qae)))]) ⟨rfl,lrf,rfl,Less.acc,tv⟩ (apv Qs5 (Qic N y2 _ hf4) (nlc (nld Qai _) nl0) (NLt.agg _ (nlcc (nlcc nl0)))),tv⟩ ?_
    refine wxd tbk [(16,rp _ _)] ⟨Qap (vs:=[(I (w64 (p0.Heat-x5.Heat))),(I (w64 (p0.Silica-x5.Silica))),(I (w64 (p0.Gas-x5.Gas)))]) rfl ts34 tz34 rfl (by rfl) rfl,tv⟩<|Qaf ?_
    obtain rfl:=osi h
    exact fie [(.dat 4 (y2.map Qae)),(Qyn p0 x5),I 0] ⟨Qfa (v:=(.acc 1 27 4 (y2.map Qae))) rot Less.acc,Qbk (n:=2) (m:=3) (j:=0) (i:=0) (xs:=[[(I (w64 (p0.Heat-x5.Heat))),(I (w64 (p0.Silica-x5.Silica))),(I (w64 (p0.Gas-x5.Gas)))]]) (by kernel_rfl) (by kernel_rfl) ti34 (by decide) rfl (nle rfl) rfl,rot,tv⟩
   ·skip
    obtain⟨x7,hf6,h⟩:=bno h
    refine wx tbk [(3,rp _ _),(4,rp _ _)] ⟨apw Qxc (Qja N p0.Mass p1 _ hf6),alq 1 Qab x7 underlying25,tv⟩<|Qag ?_
    refine wmr (Mor.trans (Qnq 2 27 4 4 (by kernel_rfl) (by kernel_rfl)) (mto (n:=79) (l':=[(2,.ref 0 4 0 0),(4,(.acc 1 27 4 ((([]):List Qaa).map Qae))),(5,.ref 2 3 0 0),(35,(.dat 1 (x7.map Qab))),(36,(I ((x7.length:Int)))),(37,I 0)]) (own':=[(Qjk p0),.tok,Ql5]) [(2,.ref 0 4 0 0),(4,(.acc 2 27 4 (([]:List Qaa).map Qae))),(5,.ref 1 3 0 0),(35,(.dat 1 (x7.map Qab))),(36,(I ((x7.length:Int)))),(37,I 0)] [0,2,1] [(Qjk p0),.tok,Ql5] hq (prr (pc (.rn (Qgx rfl (Qe2 Qai _))) (prr (pc (rnd Qac) (pw (pw pn)))))) (qb (lcc (lcc ln)) (qc .tok (qb (lcc (lc rwl ln)) qn))))) ?_
    refine Qb2 (τ:=(List Qaa)×Int) (fun n t=>Qcr N p0 k3 x7 n t.1 t.2=some r) (fun ⟨y8,y9⟩=>⟨mk 79 [(2,.ref 0 4 0 0),(4,(.acc 1 27 4 (y8.map Qae))),(5,.ref 2 3 0 0),(35,(.dat 1 (x7.map Qab))),(36,(I ((x7.length:Int)))),(37,I y9)],[(Qjk p0),.tok,Ql5]⟩) (fun t h=>by rw[Qcr] at h;cases h) (fun n12 ih t h=>?_) N ([],0) h
    obtain⟨y8,y9⟩:=t
    rw[Qcr] at h
    skip
    refine wxz<|wsq ?_
    refine bfe h (fun hc13 h=>?_) fun hc13 h=>?_
    ·refine wft hc13<|Qah<|thn<|wsq<|Qag ?_
     obtain⟨x14,hg15,h⟩:=bno h
     obtain⟨hi16,hj17⟩:=gsm hg15
     refine wx tbk [(0,rp _ _)] ⟨aiq underlying25 ti3 Qab hi16 hj17,tv⟩ ?_
     refine wx tbk [(0,rp [(.tmp 9,.ref 3 1 0 0),(.tmp 2,.ref 0 4 0 0)] Qt8)] ⟨Qd1 (fs:=[]) (cs:=[.ref 3 1 0 0,.ref 0 4 0 0]) rfl rfl rfl rfl,tv⟩ ?_
     obtain⟨x19,hf18,h⟩:=bno h
     obtain⟨x21,hf20,h⟩:=bno h
     obtain⟨x23,hf22,h⟩:=bno h
     obtain⟨ha24,h⟩:=cko h
     refine wy1 tbk [(5,rb [(.tmp 44,Qt8),(.tmp 46,I p0.Heat)] [(3,.own 1 [[I x14]]),(0,(Qjk p0))] (I x19)),(9,rb [(.tmp 48,Qt8),(.tmp 50,I p0.Silica)] [(3,.own 1 [[I x14]]),(0,(Qjk p0))] (I x21)),(13,rb [(.tmp 52,Qt8),(.tmp 54,I p0.Gas)] [(3,.own 1 [[I x14]]),(0,(Qjk p0))] (I x23)),(14,rp _ _),(15,rp [(.tmp 56,(.agg [I x14,I x19,I x21,I x23]))] (.dat 4 (([(⟨x14,x19,x21,x23⟩:Qaa)]:List Qaa).map Qae))),(16,⟨[(.tmp 42,(.acc 1 27 4 (y8.map Qae))),(.tmp 57,(.dat 4 (([(⟨x14,x19,x21,x23⟩:Qaa)]:List Qaa).map Qae)))],[(1,.tok),(4,.unused)],(.acc 4 27 4 ((y8++([(⟨x14,x19,x21,x23⟩:Qaa)]):List Qaa).map Qae)),[(1,.dead),(4,.tok)],false⟩)] ⟨Qg1 (rd':=[(.tmp 44,(Qrf x14 p0)),(.tmp 46,I p0.Heat)]) [(3,1,[[I x14]]),(0,4,[[I p0.Mass,I p0.Heat,I p0.Silica,I p0.Gas]])] ⟨rfl,(Qxm tv ⟨(Qkr 0 rfl (lc (.same _) ln)),(Qkr 1 rfl (lc (.same _) (lc (.same _) (lc (.same _) (lc (.same _) ln))))),tv⟩),rfl,.same _,tv⟩ (by rfl) (.lit _) Qnh (Qcb (first:=[]) (cap:=[(.dptr [I x14] 0),(.dptr [I p0.Mass,I p0.Heat,I p0.Silica,I p0.Gas] 0)]) (vs:=[I p0.Heat]) (σr:=[]) (σr':=[]) (res':=(I x19)) [] rfl Qnx (Qen N p0.Heat x14 p0.Mass p0.Heat p0.Silica p0.Gas _ hf18) rfl (Qbu (rnc (.plain _ nll) (rnc (.plain _ (NLt.dptr _ _ (nlc nll nl0))) (rnc (.plain _ (NLt.dptr _ _ (nlcc (nlcc nl0)))) rn0)))) Qal Qal (.plain _ nll) rfl rfl rfl),Qg1 (rd':=[(.tmp 48,(Qrf x14 p0)),(.tmp 50,I p0.Silica)]) [(3,1,[[I x14]]),(0,4,[[I p0.Mass,I p0.Heat,I p0.Silica,I p0.Gas]])] ⟨rfl,(Qxm tv ⟨(Qkr 0 rfl (lc (.same _) ln)),(Qkr 1 rfl (lc (.same _) (lc (.same _) (lc (.same _) (lc (.same _) ln))))),tv⟩),rfl,.same _,tv⟩ (by rfl) (.lit _) Qnh (Qcb (first:=[]) (cap:=[(.dptr [I x14] 0),(.dptr [I p0.Mass,I p0.Heat,I p0.Silica,I p0.Gas] 0)]) (vs:=[I p0.Silica]) (σr:=[]) (σr':=[]) (res':=(I x21)) [] rfl Qnx (Qen N p0.Silica x14 p0.Mass p0.Heat p0.Silica p0.Gas _ hf20) rfl (Qbu (rnc (.plain _ nll) (rnc (.plain _ (NLt.dptr _ _ (nlc nll nl0))) (rnc (.plain _ (NLt.dptr _ _ (nlcc (nlcc nl0)))) rn0)))) Qal Qal (.plain _ nll) rfl rfl rfl),Qg1 (rd':=[(.tmp 52,(Qrf x14 p0)),(.tmp 54,I p0.Gas)]) [(3,1,[[I x14]]),(0,4,[[I p0.Mass,I p0.Heat,I p0.Silica,I p0.Gas]])] ⟨rfl,(Qxm tv ⟨(Qkr 0 rfl (lc (.same _) ln)),(Qkr 1 rfl (lc (.same _) (lc (.same _) (lc (.same _) (lc (.same _) ln))))),tv⟩),rfl,.same _,tv⟩ (by rfl) (.lit _) Qnh (Qcb (first:=[]) (cap:=[(.dptr [I x14] 0),(.dptr [I p0.Mass,I p0.Heat,I p0.Silica,I p0.Gas] 0)]) (vs:=[I p0.Gas]) (σr:=[]) (σr':=[]) (res':=(I x23)) [] rfl Qnx (Qen N p0.Gas x14 p0.Mass p0.Heat p0.Silica p0.Gas _ hf22) rfl (Qbu (rnc (.plain _ nll) (rnc (.plain _ (NLt.dptr _ _ (nlc nll nl0))) (rnc (.plain _ (NLt.dptr _ _ (nlcc (nlcc nl0)))) rn0)))) Qal Qal (.plain _ nll) rfl rfl rfl),Qap (vs:=[I x14,I x19,I x21,I x23]) rfl ts27 tz27 rfl (by rfl) rfl,Qea (vs:=[(.agg [I x14,I x19,I x21,I x23])]) rfl underlying31 ti27 tz27 rfl (by decide) rfl (by decide) (by rfl) (by rfl) (by rfl) rfl,Qin rfl underlying31 te27 (Base.acc _ _) rfl rfl (by rfl) (Qof Qae ha24) (Qoe Qae ha24 (by decide)) (Qod Qae) rfl rfl,tv⟩<|bln<|thn<|wxz1<|thn ?_
     exact arm (mto (n:=79) [(2,.ref 0 4 0 0),(4,(.acc 4 27 4 ((y8++([(⟨x14,x19,x21,x23⟩:Qaa)]):List Qaa).map Qae))),(5,.ref 2 3 0 0),(35,(.dat 1 (x7.map Qab))),(36,(I ((x7.length:Int)))),(37,(I (w64 (y9+1))))] [0,4,2] [(Qjk p0),.tok,Ql5] hq (prr (pc (.rn (Qgx rfl (Qe2 Qai _))) (prr (pc (rnd Qac) (pw (pw pn)))))) (qb (lcc (lcc ln)) (qc .tok (qb (lcc (lc rwl ln)) qn)))) (ih (y8++([(⟨x14,x19,x21,x23⟩:Qaa)]),w64 (y9+1)) h)
    ·exact wfn hc13<|Qbc<|Qaq<|Qaq<|Qbb rfl<|thn<|⟨(y8),h,(mto (n:=79) [(2,.ref 0 4 0 0),(4,(.acc 1 27 4 (y8.map Qae))),(5,.ref 2 3 0 0)] [0,1,2] [(Qjk p0),.tok,Ql5] hq (prr (pc (.rn (Qgx rfl (Qe2 Qai _))) (prr pn))) (qb (lcc (lcc ln)) (qc .tok (qb (lcc (lc rwl ln)) qn))))⟩
  ·skip
   obtain⟨x26,hf25,h⟩:=bno h
   refine hpre (A:=(Qre p0 x26)) ⟨apv Qny (Qd3 N p0 _ hf25) (nlc (NLt.agg _ (nlcc (nlcc nl0))) nl0) nll,tv⟩ fun q1_=>?_
   refine bfe h (fun hb27 h=>?_) fun hb27 h=>?_
   ·refine wx tbk (hcat (Qre p0 x26) [(3,rp [(.tmp 14,(B ((!x26))))] (B true))]) (hap q1_ ⟨asb hb27 (amv rfl),tv⟩)<|wtr ?_
    refine wx tbk [(0,rp _ _)] ⟨Qap (vs:=[]) rfl ts34 tz34 rfl (by rfl) rfl,tv⟩<|Qaf<|Qao ?_
    obtain rfl:=osi h
    exact fie [Qos,Qt9,I 1] ⟨Qfa (v:=nilS) rot Less.nil,Qbk (n:=1) (m:=3) (j:=0) (i:=0) (xs:=[[I 0,I 0,I 0]]) (by kernel_rfl) (by kernel_rfl) ti34 (by decide) rfl (nle rfl) rfl,rot,tv⟩
   ·refine hpre (A:=(Qrd p0 x26 p1)) (hap q1_ ⟨asb hb27 (amv rfl),ag_ (alq 1 Qab p1 underlying25),tv⟩) fun q2_=>?_
    refine bfe h (fun hb28 h=>?_) fun hb28 h=>?_
    ·refine wx tbk (hcat (Qrd p0 x26 p1) [(8,rp [(.tmp 19,(B ((decide ((p1.length:Int)>20)))))] (B true))]) (hap q2_ ⟨asb hb28 (amv rfl),tv⟩)<|wtr ?_
     refine wx tbk [(0,rp _ _)] ⟨Qap (vs:=[]) rfl ts34 tz34 rfl (by rfl) rfl,tv⟩<|Qaf<|Qao ?_
     obtain rfl:=osi h
     exact fie [Qos,Qt9,I 1] ⟨Qfa (v:=nilS) rot Less.nil,Qbk (n:=1) (m:=3) (j:=0) (i:=0) (xs:=[[I 0,I 0,I 0]]) (by kernel_rfl) (by kernel_rfl) ti34 (by decide) rfl (nle rfl) rfl,rot,tv⟩
    ·obtain⟨x30,hf29,h⟩:=bno h
     refine hpre (A:=(Qrc p0 x26 p1 x30)) (hap q2_ ⟨asb hb28 (amv rfl),ag_ (acq [(.dat 1 (p1.map Qab)),(.fn (.func 22) [] [])] [] [] (B x30) [] Qxe (Qhx N p1 _ hf29) (Qbu (rnc (pld Qac) (rnc (.plain _ (NLt.fn _ _ _ nl0 nl0)) rn0))) Qal Qal (.plain _ nll)),tv⟩) fun q3_=>?_
     refine bfe h (fun hb31 h=>?_) fun hb31 h=>?_
     ·refine wx tbk (hcat (Qrc p0 x26 p1 x30) [(14,rp [(.tmp 25,(B ((!x30))))] (B true))]) (hap q3_ ⟨asb hb31 (amv rfl),tv⟩)<|wtr ?_
      refine wx tbk [(0,rp _ _)] ⟨Qap (vs:=[]) rfl ts34 tz34 rfl (by rfl) rfl,tv⟩<|Qaf<|Qao ?_
      obtain rfl:=osi h
      exact fie [Qos,Qt9,I 1] ⟨Qfa (v:=nilS) rot Less.nil,Qbk (n:=1) (m:=3) (j:=0) (i:=0) (xs:=[[I 0,I 0,I 0]]) (by kernel_rfl) (by kernel_rfl) ti34 (by decide) rfl (nle rfl) rfl,rot,tv⟩
     ·obtain⟨x33,hf32,h⟩:=bno h
      refine wx tbk (hcat (Qrc p0 x26 p1 x30) [(14,rp [(.tmp 25,(B ((!x30))))] (B false)),(16,rp [(.tmp 26,B false),fu 26,(.tmp 27,(.dat 1 (p1.map Qab))),fu 27] (B x33))]) (hap q3_ ⟨asb hb31 (amv rfl),ag_ (acq [(.dat 1 (p1.map Qab)),(.fn (.func 27) [] [])] [] [] (B x33) [] Qs4 (Qez N p1 _ hf32) (Qbu (rnc (pld Qac) (rnc (.plain _ (NLt.fn _ _ _ nl0 nl0)) rn0))) Qal Qal (.plain _ nll)),tv⟩) ?_
      refine bfe h (fun hc34 h=>?_) fun hc34 h=>?_
      ·refine wft hc34<|wx tbk [(0,rp _ _)] ⟨Qap (vs:=[]) rfl ts34 tz34 rfl (by rfl) rfl,tv⟩<|Qaf<|Qao ?_
       obtain rfl:=osi h
       exact fie [Qos,Qt9,I 1] ⟨Qfa (v:=nilS) rot Less.nil,Qbk (n:=1) (m:=3) (j:=0) (i:=0) (xs:=[[I 0,I 0,I 0]]) (by kernel_rfl) (by kernel_rfl) ti34 (by decide) rfl (nle rfl) rfl,rot,tv⟩
      ·exact wfn hc34<|Qah<|thn<|⟨(),h,(mto (n:=79) [(1,(.dat 1 (p1.map Qab))),(2,.ref 0 4 0 0),(4,nilS),(5,.ref 1 3 0 0)] [0,1] [(Qjk p0),Ql5] hq (pc (rnd Qac) (prr (pw (prr pn)))) (qb (lcc (lcc ln)) (qb (lcc (lc rwl ln)) qn)))⟩
end
section
def Qe1 (_N:Nat) (p0 p1 p2:Int):Option Bool:=
  bif (decide (p0≥p1)) then
   some (decide (p0≤p2))
  else
   some false
theorem Qfn (N:Nat) (p0 p1 p2:Int) (r:Bool) (h:Qe1 N p0 p1 p2=some r):Spec prog 30 [(I p0),(I p1),(I p2)] [] (B r) []:=by
  refine sA func30 0 fun _ _ _ hq hd0=>?_
  unfold Qe1 at h
  refine wxz ?_
  refine bfe h (fun hb1 h=>?_) fun hb1 h=>?_
  ·refine wx tbk [(3,rp [(.tmp 9,(B ((decide (p0≥p1)))))] (B true))] ⟨asb hb1 (amv rfl),tv⟩<|Qaf ?_
   obtain rfl:=osi h
   exact fend ⟨[(B ((decide (p0≤p2))))],⟨rot,tv⟩,rfl⟩ nll
  ·exact wx tbk [(3,rp [(.tmp 9,(B ((decide (p0≥p1)))))] (B false))] ⟨asb hb1 (amv rfl),tv⟩<|Qaf<|frb h
def Qc5 (N:Nat) (p0:Qaa):Option Bool:=
  (Qe1 N p0.Mass 0 1000000).bind fun x2=>
  bif x2 then
   (Qe1 N p0.Heat 0 (w64 (4000*p0.Mass))).bind fun x5=>
   bif x5 then
    (Qe1 N p0.Silica 0 (w64 (10000*p0.Mass))).bind fun x8=>
    bif x8 then
     (Qe1 N p0.Gas 0 1000000000).bind fun x11=>
     some x11
    else
     some false
   else
    some false
  else
   some false
def Qv5 (p0:Qaa) (x2:Bool):List (Nat×Rec):=[(2,rp [fu 30,((.tmp 4),(I p0.Mass)),ci 0,ci 1000000] (B x2))]
def Qv4 p0 x2 (x5:Bool):=hcat (Qv5 p0 x2) [(3,rp [((.tmp 5),(B x2))] (B true)),(9,rp [((.tmp 6),(B true)),fu 30,((.tmp 8),(I p0.Heat)),ci 0,((.tmp 11),(I (w64 (4000*p0.Mass))))] (B x5))]
def Qv3 p0 x2 x5 (x8:Bool):=hcat (Qv4 p0 x2 x5) [(11,rp [((.tmp 13),(B x5))] (B true)),(17,rp [((.tmp 14),(B true)),fu 30,((.tmp 16),(I p0.Silica)),ci 0,((.tmp 19),(I (w64 (10000*p0.Mass))))] (B x8))]
theorem Qfm (N:Nat) (p0:Qaa) (r:Bool) (h:Qc5 N p0=some r):Spec prog 11 [(.agg (Qae p0))] [] (B r) []:=by
  refine sA func11 0 fun _ _ _ hq hd0=>?_
  unfold Qc5 at h
  refine wxz ?_
  obtain⟨x2,hf1,h⟩:=bno h
  refine hpre (A:=(Qv5 p0 x2)) ⟨apv Qka (Qfn N p0.Mass 0 1000000 _ hf1) (nlcc (nlc nll nl0)) nll,tv⟩ fun q1_=>?_
  refine bfe h (fun hb3 h=>?_) fun hb3 h=>?_
  ·obtain⟨x5,hf4,h⟩:=bno h
   refine hpre (A:=(Qv4 p0 x2 x5)) (hap q1_ ⟨asb hb3 (amv rfl),ag_ (apv Qka (Qfn N p0.Heat 0 (w64 (4000*p0.Mass)) _ hf4) (nlcc (nlc nll nl0)) nll),tv⟩) fun q2_=>?_
   refine bfe h (fun hb6 h=>?_) fun hb6 h=>?_
   ·obtain⟨x8,hf7,h⟩:=bno h
    refine hpre (A:=(Qv3 p0 x2 x5 x8)) (hap q2_ ⟨asb hb6 (amv rfl),ag_ (apv Qka (Qfn N p0.Silica 0 (w64 (10000*p0.Mass)) _ hf7) (nlcc (nlc nll nl0)) nll),tv⟩) fun q3_=>?_
    refine bfe h (fun hb9 h=>?_) fun hb9 h=>?_
    ·obtain⟨x11,hf10,h⟩:=bno h
     exact wx tbk (hcat (Qv3 p0 x2 x5 x8) [(19,rp [(.tmp 21,B x8)] (B true)),(22,rp [(.tmp 22,B true),fu 30,(.tmp 24,I p0.Gas),ci 0,ci 1000000000] (B x11))]) (hap q3_ ⟨asb hb9 (amv rfl),ag_ (apv Qka (Qfn N p0.Gas 0 1000000000 _ hf10) (nlcc (nlc nll nl0)) nll),tv⟩)<|Qaf<|frb h
    ·exact wx tbk (hcat (Qv3 p0 x2 x5 x8) [(19,rp [(.tmp 21,B x8)] (B false))]) (hap q3_ ⟨asb hb9 (amv rfl),tv⟩)<|Qaf<|frb h
   ·exact wx tbk (hcat (Qv4 p0 x2 x5) [(11,rp [(.tmp 13,B x5)] (B false))]) (hap q2_ ⟨asb hb6 (amv rfl),tv⟩)<|Qaf<|frb h
  ·exact wx tbk (hcat (Qv5 p0 x2) [(3,rp [(.tmp 5,B x2)] (B false))]) (hap q1_ ⟨asb hb3 (amv rfl),tv⟩)<|Qaf<|frb h
def Qcf (N:Nat) (p0:List Qaa) (k1:Unit→Option Bool):Nat→Int→Option Bool
  |0,_=>none
  |n4+1,y2=>
    bif (decide (y2<(p0.length:Int))) then
     (getI p0 y2).bind fun x6=>
     (Qc5 N x6).bind fun x11=>
     bif (!x11) then
      some false
     else
      Qcf N p0 k1 n4 (w64 (y2+1))
    else
     k1 ()
def Qei (N:Nat) (p0:List Qaa):Option Bool:=
  Qcd (fun _=>
    some true) fun k1:Unit→Option Bool=>
  Qcf N p0 k1 N 0
def Qt3 (p0:List Qaa):AV:=.dat 4 (p0.map Qae)
theorem Qiw (N:Nat) (p0:List Qaa) (r:Bool) (h:Qei N p0=some r):Spec prog 9 [(.dat 4 (p0.map Qae))] [] (B r) []:=by
  refine sA func9 0 fun _ _ _ hq hd0=>?_
  unfold Qei at h
  refine wxz ?_
  obtain⟨k1,hk_k1,h⟩:=jko h
  refine wjn (τ:=Unit) (fun t=>k1 t=some r) (fun _=>⟨mk 16 [],[]⟩) (fun t h=>?_) ?_
  ·subst hk_k1
   exact wxz<|Qaf<|frb h
  ·skip
   refine wxz<|Qag ?_
   refine wmr (mto (n:=16) (l':=[(0,(Qt3 p0)),(3,I 0)]) (own':=[]) [(0,(Qt3 p0)),(3,I 0)] [] [] hq (pc (rnd Qai) (pw pn)) qn) ?_
   refine Qb2 (τ:=Int) (fun n t=>Qcf N p0 k1 n t=some r) (fun y2=>⟨mk 16 [(0,(Qt3 p0)),(3,I y2)],[]⟩) (fun t h=>by rw[Qcf] at h;cases h) (fun n4 ih y2 h=>?_) N (0) h
   rw[Qcf] at h
   skip
   refine wsq<|wx tbk [(2,rp _ _)] ⟨alq 4 Qae p0 underlying22,tv⟩ ?_
   refine bfe h (fun hc5 h=>?_) fun hc5 h=>?_
   ·refine wft hc5<|Qah<|thn<|wsq<|Qag ?_
    obtain⟨x6,hg7,h⟩:=bno h
    obtain⟨hi8,hj9⟩:=gsm hg7
    obtain⟨x11,hf10,h⟩:=bno h
    refine wx tbk [(2,rp _ _),(4,rp _ _)] ⟨aiq underlying22 ti24 Qae hi8 hj9,apw Qs8 (Qfm N x6 _ hf10),tv⟩ ?_
    refine bfe h (fun hc12 h=>?_) fun hc12 h=>?_
    ·exact wft hc12<|wxz<|Qaf<|Qbr<|Qao<|Qao<|Qbr<|Qao<|frb h
    ·exact wfn hc12<|Qah<|bln<|thn<|wxz1<|thn<|arm (mto (n:=16) [(0,(Qt3 p0)),(3,(I (w64 (y2+1))))] [] [] hq (pc (rnd Qai) (pw pn)) qn) (ih (w64 (y2+1)) h)
   ·exact wfn hc5<|Qbc<|Qaq<|Qaq<|Qbb rfl<|thn<|⟨(),h,(mto (n:=16) [] [] [] hq pn qn)⟩
def Qc9 (N:Nat) (p0:List Qaa) (k5:Int×Int×Int×Int→Option Qaa):Nat→Int→Int→Int→Int→Int→Option Qaa
  |0,_,_,_,_,_=>none
  |n16+1,y6,y7,y8,y9,y10=>
    bif (decide (y6<(p0.length:Int))) then
     (getI p0 y6).bind fun x18=>
     Qc9 N p0 k5 n16 (w64 (y6+1)) (w64 (y7+x18.Mass)) (w64 (y8+x18.Heat)) (w64 (y9+x18.Silica)) (w64 (y10+x18.Gas))
    else
     k5 (y7,y8,y9,y10)
def Qfb (N:Nat) (p0:List Qaa):Option Qaa:=
  Qcd (fun ⟨y1,y2,y3,y4⟩=>
    some (⟨y1,y2,y3,y4⟩:Qaa)) fun k5:Int×Int×Int×Int→Option Qaa=>
  Qc9 N p0 k5 N 0 0 0 0 0
def Ql1:Slot:=.own 4 [[(I (0)),(I (0)),(I (0)),(I (0))]]
def Qt2 (p0:List Qaa):AV:=.dat 4 (p0.map Qae)
theorem Qgy (N:Nat) (p0:List Qaa) (r:Qaa) (h:Qfb N p0=some r):Spec prog 10 [(.dat 4 (p0.map Qae))] [] (.agg (Qae r)) []:=by
  refine sA func10 0 fun _ _ _ hq hd0=>?_
  unfold Qfb at h
  refine wxz<|wxz ?_
  obtain⟨k5,hk_k5,h⟩:=jko h
  refine wjn (τ:=Int×Int×Int×Int) (fun t=>k5 t=some r) (fun ⟨y1,y2,y3,y4⟩=>⟨mk 45 [(2,.ref 0 4 0 0),(3,.ref 1 4 0 0)],[Ql1,(.own 4 [[I y1,I y2,I y3,I y4]])]⟩) (fun t h=>?_) ?_
  ·subst hk_k5
   obtain⟨y1,y2,y3,y4⟩:=t
   refine wxz<|Qaf ?_
   obtain rfl:=osi h
   exact fie [(.agg [I y1,I y2,I y3,I y4])] ⟨Qbk (n:=0) (m:=4) (j:=0) (i:=0) (xs:=[[I y1,I y2,I y3,I y4]]) (by kernel_rfl) (by kernel_rfl) ti24 (by decide) rfl (nle rfl) rfl,tv⟩
  ·skip
   refine wxz<|Qag ?_
   refine wmr (mto (n:=45) (l':=[(0,(Qt2 p0)),(2,.ref 0 4 0 0),(3,.ref 1 4 0 0),(4,I 0)]) (own':=[Ql1,Ql1]) [(0,(Qt2 p0)),(2,.ref 0 4 0 0),(3,.ref 1 4 0 0),(4,I 0)] [0,1] [Ql1,Ql1] hq (pc (rnd Qai) (prr (prr (pw pn)))) (qb (lcc (lcc ln)) (qb (lcc (lcc ln)) qn))) ?_
   refine Qb2 (τ:=Int×Int×Int×Int×Int) (fun n t=>Qc9 N p0 k5 n t.1 t.2.1 t.2.2.1 t.2.2.2.1 t.2.2.2.2=some r) (fun ⟨y6,y7,y8,y9,y10⟩=>⟨mk 45 [(0,(Qt2 p0)),(2,.ref 0 4 0 0),(3,.ref 1 4 0 0),(4,I y6)],[Ql1,(.own 4 [[I y7,I y8,I y9,I y10]])]⟩) (fun t h=>by rw[Qc9] at h;cases h) (fun n16 ih t h=>?_) N (0,0,0,0,0) h
   obtain⟨y6,y7,y8,y9,y10⟩:=t
   rw[Qc9] at h
   skip
   refine wsq<|wx tbk [(2,rp _ _)] ⟨alq 4 Qae p0 underlying22,tv⟩ ?_
   refine bfe h (fun hc17 h=>?_) fun hc17 h=>?_
   ·refine wft hc17<|Qah<|thn<|wsq<|Qag ?_
    obtain⟨x18,hg19,h⟩:=bno h
    obtain⟨hi20,hj21⟩:=gsm hg19
    refine wy1 tbk [(4,rp _ _),(12,rp _ _),(20,rp _ _),(28,rp _ _),(32,rp _ _)] ⟨aiq underlying22 ti24 Qae hi20 hj21,aiq underlying22 ti24 Qae hi20 hj21,aiq underlying22 ti24 Qae hi20 hj21,aiq underlying22 ti24 Qae hi20 hj21,Qap (vs:=[(I (w64 (y7+x18.Mass))),(I (w64 (y8+x18.Heat))),(I (w64 (y9+x18.Silica))),(I (w64 (y10+x18.Gas)))]) rfl ts24 tz24 rfl (by rfl) rfl,tv⟩<|bln<|thn<|wxz1<|thn ?_
    exact arm (mto (n:=45) [(0,(Qt2 p0)),(2,.ref 0 4 0 0),(3,.ref 1 4 0 0),(4,(I (w64 (y6+1))))] [0,1] [Ql1,(.own 4 [[(I (w64 (y7+x18.Mass))),(I (w64 (y8+x18.Heat))),(I (w64 (y9+x18.Silica))),(I (w64 (y10+x18.Gas)))]])] hq (pc (rnd Qai) (prr (prr (pw pn)))) (qb (lcc (lcc ln)) (qb (lcc (lcc ln)) qn))) (ih (w64 (y6+1),w64 (y7+x18.Mass),w64 (y8+x18.Heat),w64 (y9+x18.Silica),w64 (y10+x18.Gas)) h)
   ·exact wfn hc17<|Qbc<|Qaq<|Qaq<|Qbb rfl<|thn<|⟨(y7,y8,y9,y10),h,(mto (n:=45) [(2,.ref 0 4 0 0),(3,.ref 1 4 0 0)] [0,1] [Ql1,(.own 4 [[I y7,I y8,I y9,I y10]])] hq (prr (prr pn)) (qb (lcc (lcc ln)) (qb (lcc (lcc ln)) qn)))⟩
def Qbp (N:Nat) (p0:List Int) (k2:Int→Option Bool):Nat→Int→Int→Option Bool
  |0,_,_=>none
  |n8+1,y4,y5=>
    bif (decide (y5<(p0.length:Int))) then
     (getI p0 y5).bind fun x10=>
     (Qe1 N x10 0 1000).bind fun x15=>
     bif (!x15) then
      some false
     else
      Qbp N p0 k2 n8 (w64 (y4+x10)) (w64 (y5+1))
    else
     k2 (y4)
def Qdj (N:Nat) (p0:List Int):Option Bool:=
  Qcd (fun y1=>
    bif (decide ((p0.length:Int)≤20)) then
     some (decide (y1>0))
    else
     some false) fun k2:Int→Option Bool=>
  Qbp N p0 k2 N 0 0
theorem Qg3 (N:Nat) (p0:List Int) (r:Bool) (h:Qdj N p0=some r):Spec prog 12 [(.dat 1 (p0.map Qab))] [] (B r) []:=by
  refine sA func12 0 fun _ _ _ hq hd0=>?_
  unfold Qdj at h
  refine wxz<|wxz ?_
  obtain⟨k2,hk_k2,h⟩:=jko h
  refine wjn (τ:=Int) (fun t=>k2 t=some r) (fun y1=>⟨mk 30 [(0,(.dat 1 (p0.map Qab))),(3,I y1)],[]⟩) (fun y1 h=>?_) ?_
  ·subst hk_k2
   refine bfe h (fun hb3 h=>?_) fun hb3 h=>?_
   ·refine wx tbk [(1,rp _ _),(3,rp [(.tmp 25,(B ((decide ((p0.length:Int)≤20)))))] (B true))] ⟨alq 1 Qab p0 underlying25,asb hb3 (amv rfl),tv⟩<|Qaf ?_
    obtain rfl:=osi h
    exact fend ⟨[(B ((decide (y1>0))))],⟨rot,tv⟩,rfl⟩ nll
   ·exact wx tbk [(1,rp _ _),(3,rp [(.tmp 25,(B ((decide ((p0.length:Int)≤20)))))] (B false))] ⟨alq 1 Qab p0 underlying25,asb hb3 (amv rfl),tv⟩<|Qaf<|frb h
  ·skip
   refine wxz<|Qag ?_
   refine wmr (mto (n:=30) (l':=[(0,(.dat 1 (p0.map Qab))),(3,I 0),(4,I 0)]) (own':=[]) [(0,(.dat 1 (p0.map Qab))),(3,I 0),(4,I 0)] [] [] hq (pc (rnd Qac) (pw (pw pn))) qn) ?_
   refine Qb2 (τ:=Int×Int) (fun n t=>Qbp N p0 k2 n t.1 t.2=some r) (fun ⟨y4,y5⟩=>⟨mk 30 [(0,(.dat 1 (p0.map Qab))),(3,I y4),(4,I y5)],[]⟩) (fun t h=>by rw[Qbp] at h;cases h) (fun n8 ih t h=>?_) N (0,0) h
   obtain⟨y4,y5⟩:=t
   rw[Qbp] at h
   skip
   refine wsq<|wx tbk [(2,rp _ _)] ⟨alq 1 Qab p0 underlying25,tv⟩ ?_
   refine bfe h (fun hc9 h=>?_) fun hc9 h=>?_
   ·refine wft hc9<|Qah<|thn<|wsq<|Qag<|wsq ?_
    obtain⟨x10,hg11,h⟩:=bno h
    obtain⟨hi12,hj13⟩:=gsm hg11
    obtain⟨x15,hf14,h⟩:=bno h
    refine wx tbk [(2,rp _ _),(4,rp _ _)] ⟨aiq underlying25 ti3 Qab hi12 hj13,apw Qka (Qfn N x10 0 1000 _ hf14),tv⟩ ?_
    refine bfe h (fun hc16 h=>?_) fun hc16 h=>?_
    ·exact wft hc16<|wxz<|Qaf<|Qao<|Qbr<|Qao<|Qao<|Qbr<|Qao<|frb h
    ·refine wfn hc16<|Qah<|thn ?_
     exact wx1 tbk [(3,rp _ _)] ⟨aiq underlying25 ti3 Qab hi12 hj13,tv⟩<|bln<|thn<|wxz1<|thn<|arm (mto (n:=30) [(0,(.dat 1 (p0.map Qab))),(3,(I (w64 (y4+x10)))),(4,(I (w64 (y5+1))))] [] [] hq (pc (rnd Qac) (pw (pw pn))) qn) (ih (w64 (y4+x10),w64 (y5+1)) h)
   ·exact wfn hc9<|Qbc<|Qaq<|Qaq<|Qbb rfl<|thn<|⟨(y4),h,(mto (n:=30) [(0,(.dat 1 (p0.map Qab))),(3,I y4)] [] [] hq (pc (rnd Qac) (pw pn)) qn)⟩
def Qep (_N:Nat) (p0 p1 p2:Int):Option Int:=
  bif (p2==0) then
   some 0
  else
   chk (p2 != 0)<|
   (some (w64 ((w64 (p0*p1)).tdiv p2))).bind fun x3=>
   some x3
theorem Qgm (N:Nat) (p0 p1:Int) (p2 r:Int) (h:Qep N p0 p1 p2=some r):Spec prog 31 [(I p0),(I p1),(I p2)] [] (I r) []:=by
  refine sA func31 0 fun _ _ _ hq hd0=>?_
  unfold Qep at h
  refine wxz<|wsq<|wxz ?_
  refine bfe h (fun hc1 h=>?_) fun hc1 h=>?_
  ·refine wft hc1<|wxz<|Qaf<|Qao ?_
   obtain rfl:=osi h
   exact fend ⟨[I 0],⟨rot,tv⟩,rfl⟩ nll
  ·refine wfn hc1<|Qah<|thn ?_
   obtain⟨hz2,h⟩:=cko h
   obtain⟨x3,hl4,h⟩:=bno h
   refine wx tbk [(4,rp [(.tmp 11,(I (w64 (p0*p1)))),(.tmp 12,I p2)] (I (w64 ((w64 (p0*p1)).tdiv p2)))),(5,rp [(.tmp 13,(I (w64 ((w64 (p0*p1)).tdiv p2))))] (I x3))] ⟨Qf8 rfl (Qf7 hz2),Qeq hl4 (aas rfl),tv⟩<|Qaf ?_
   obtain rfl:=osi h
   exact fend ⟨[I x3],⟨rot,tv⟩,rfl⟩ nll
def Qcx (N:Nat) (p0:Qaa) (p1 y8:List Int) (k14:(List Qaa)×Int×Int×Int→Option ((List Qaa)×Qdk)):Nat→(List Qaa)→Int→Int→Int→Int→Option ((List Qaa)×Qdk)
  |0,_,_,_,_,_=>none
  |n25+1,y15,y16,y17,y18,y19=>
    bif (decide (y16<(p1.length:Int))) then
     chk (decide (0≤y16)&&decide (y16.toNat<(p1.length:Int).toNat))<|
     (y8[y16.toNat]?).bind fun x28=>
     (Qep N p0.Heat x28 p0.Mass).bind fun x31=>
     (Qep N p0.Silica x28 p0.Mass).bind fun x33=>
     (Qep N p0.Gas x28 p0.Mass).bind fun x35=>
     chk (decide ((y15.length+([(⟨x28,x31,x33,x35⟩:Qaa)]).length)*32≤140737488355328))<|
     Qcx N p0 p1 y8 k14 n25 (y15++([(⟨x28,x31,x33,x35⟩:Qaa)])) (w64 (y16+1)) (w64 (y17-x31)) (w64 (y18-x33)) (w64 (y19-x35))
    else
     k14 (y15,y17,y18,y19)
def Qbv (N:Nat) (p0:Qaa) (p1:List Int) (y1:Int) (y39:List Bool) (k46:Int→Option ((List Qaa)×Qdk)):Nat→Int→Int→Option ((List Qaa)×Qdk)
  |0,_,_=>none
  |n60+1,y56,y57=>
    bif (decide (y57<(p1.length:Int))) then
     chk (decide (0≤y57)&&decide (y57.toNat<(p1.length:Int).toNat))<|
     (y39[y57.toNat]?).bind fun x63=>
     bif (!x63) then
      bif (decide (y56<0)) then
       Qbv N p0 p1 y1 y39 k46 n60 y57 (w64 (y57+1))
      else
       (getI p1 y57).bind fun x67=>
       chk (y1 != 0)<|
       (getI p1 y56).bind fun x72=>
       chk (y1 != 0)<|
       bif (decide (((w64 (p0.Mass*x67)).tmod y1)>((w64 (p0.Mass*x72)).tmod y1))) then
        Qbv N p0 p1 y1 y39 k46 n60 y57 (w64 (y57+1))
       else
        Qbv N p0 p1 y1 y39 k46 n60 y56 (w64 (y57+1))
     else
      Qbv N p0 p1 y1 y39 k46 n60 y56 (w64 (y57+1))
    else
     k46 (y56)
def Qcw (N:Nat) (p0:Qaa) (p1:List Int) (y1:Int) (k9:(List Int)→Option ((List Qaa)×Qdk)):Nat→Int→(List Int)→(List Bool)→Option ((List Qaa)×Qdk)
  |0,_,_,_=>none
  |n43+1,y37,y38,y39=>
    bif (decide (y37>0)) then
     Qcd (fun y45=>
       chk (decide (0≤y45)&&decide (y45.toNat<(p1.length:Int).toNat))<|
       (y39[y45.toNat]?).bind fun _=>
       chk (decide (0≤y45)&&decide (y45.toNat<(p1.length:Int).toNat))<|
       (y38[y45.toNat]?).bind fun x51=>
       chk (decide (0≤y45)&&decide (y45.toNat<(p1.length:Int).toNat))<|
       (y38[y45.toNat]?).bind fun _=>
       Qcw N p0 p1 y1 k9 n43 (w64 (y37-1)) (y38.set y45.toNat (w64 (x51+1))) (y39.set y45.toNat true)) fun k46:Int→Option ((List Qaa)×Qdk)=>
     Qbv N p0 p1 y1 y39 k46 N (-1) 0
    else
     k9 (y38)
def Qcv (N:Nat) (p0:Qaa) (p1:List Int) (y1:Int) (k6:Int×(List Int)→Option ((List Qaa)×Qdk)):Nat→Int→Int→(List Int)→Option ((List Qaa)×Qdk)
  |0,_,_,_=>none
  |n84+1,y78,y79,y80=>
    bif (decide (y79<(p1.length:Int))) then
     (getI p1 y79).bind fun x86=>
     chk (y1 != 0)<|
     chk (decide (0≤y79)&&decide (y79.toNat<(p1.length:Int).toNat))<|
     (y80[y79.toNat]?).bind fun _=>
     chk (decide (0≤y79)&&decide (y79.toNat<(p1.length:Int).toNat))<|
     ((y80.set y79.toNat (w64 ((w64 (p0.Mass*x86)).tdiv y1)))[y79.toNat]?).bind fun x95=>
     Qcv N p0 p1 y1 k6 n84 (w64 (y78-x95)) (w64 (y79+1)) (y80.set y79.toNat (w64 ((w64 (p0.Mass*x86)).tdiv y1)))
    else
     k6 (y78,y80)
def Qcu (N:Nat) (p1:List Int) (k2:Int→Option ((List Qaa)×Qdk)):Nat→Int→Int→Option ((List Qaa)×Qdk)
  |0,_,_=>none
  |n101+1,y97,y98=>
    bif (decide (y98<(p1.length:Int))) then
     (getI p1 y98).bind fun x103=>
     Qcu N p1 k2 n101 (w64 (y97+x103)) (w64 (y98+1))
    else
     k2 (y97)
def Qfl (N:Nat) (p0:Qaa) (p1:List Int):Option ((List Qaa)×Qdk):=
  Qcd (fun y1=>
    chk (decide (0≤(p1.length:Int))&&decide (8*(p1.length:Int)≤281474976710656)&&decide ((p1.length:Int)≤9223372036854775807))<|
    Qcd (fun ⟨y4,y5⟩=>
      chk (decide (0≤(p1.length:Int))&&decide (1*(p1.length:Int)≤281474976710656)&&decide ((p1.length:Int)≤9223372036854775807))<|
      Qcd (fun y8=>
        Qcd (fun ⟨y10,y11,y12,y13⟩=>
          some (y10,(⟨y11,y12,y13⟩:Qdk))) fun k14:(List Qaa)×Int×Int×Int→Option ((List Qaa)×Qdk)=>
        Qcx N p0 p1 y8 k14 N ([]) 0 p0.Heat p0.Silica p0.Gas) fun k9:(List Int)→Option ((List Qaa)×Qdk)=>
      Qcw N p0 p1 y1 k9 N y4 y5 (List.replicate (p1.length:Int).toNat false)) fun k6:Int×(List Int)→Option ((List Qaa)×Qdk)=>
    Qcv N p0 p1 y1 k6 N p0.Mass 0 (List.replicate (p1.length:Int).toNat 0)) fun k2:Int→Option ((List Qaa)×Qdk)=>
  Qcu N p1 k2 N 0 0
def Qem (p0:Qaa):Slot:=.own 4 [[(I p0.Mass),(I p0.Heat),(I p0.Silica),(I p0.Gas)]]
def Qed:Slot:=.own 3 [[(I (0)),(I (0)),(I (0))]]
def Qyg (p1:List Int):Slot:=.own 1 ((List.replicate (p1.length:Int).toNat 0:List Int).map Qab)
def Qyf (p1:List Int):Slot:=.own 1 ((List.replicate (p1.length:Int).toNat false:List Bool).map Qhf)
def Qgd (y39:List Bool):Slot:=.own 1 (y39.map Qhf)
def Qon (p1:List Int) (y57:Int) (y39:List Bool) (x63:Bool):List (Nat×Rec):=[(2,rb [((.tmp 71),(.own 3 1 (0) ((p1.length:Int).toNat))),((.tmp 72),(I y57))] [(3,(Qgd y39))] (.ref 3 1 y57.toNat 0)),(3,rb [((.tmp 73),(.ref 3 1 y57.toNat 0))] [(3,(Qgd y39))] (B x63))]
def Qoo (y80:List Int) (y79:Int) (p0:Qaa) (x86 y1:Int):Slot:=.own 1 ((y80.set y79.toNat (w64 ((w64 (p0.Mass*x86)).tdiv y1)):List Int).map Qab)
theorem Qju (N:Nat) (p0:Qaa) (p1:List Int) (r:((List Qaa)×Qdk)) (h:Qfl N p0 p1=some r):Spec prog 13 [(.agg (Qae p0)),(.dat 1 (p1.map Qab))] [] (.tup [(.dat 4 (r.1.map Qae)),(.agg (Qlt r.2))]) []:=by
  refine sA func13 0 fun _ _ _ hq hd0=>?_
  unfold Qfl at h
  refine wxz<|wxe ?_
  obtain⟨k2,hk_k2,h⟩:=jko h
  refine wjn (τ:=Int) (fun t=>k2 t=some r) (fun y1=>⟨mk 172 [(1,(.dat 1 (p1.map Qab))),(2,.ref 0 4 0 0),(5,.ref 1 3 0 0),(6,I y1),(7,I p0.Mass)],[(Qem p0),Qed]⟩) (fun y1 h=>?_) ?_
  ·subst hk_k2
   obtain⟨hm3,h⟩:=cko h
   refine wx tbk [(1,rp _ _),(2,⟨[(.tmp 34,(I ((p1.length:Int)))),(.tmp 34,(I ((p1.length:Int))))],[(2,.unused)],(.own 2 1 (0) ((p1.length:Int).toNat)),[(2,(Qyg p1))],false⟩)] ⟨alq 1 Qab p1 underlying25,Qi5 rfl underlying25 te3 tz3 rfl (Qqm hm3) rfl (Qql hm3) (Qts hm3) (Qnk Qab rfl),tv⟩ ?_
   obtain⟨k6,hk_k6,h⟩:=jko h
   refine wjn (τ:=Int×(List Int)) (fun t=>k6 t=some r) (fun ⟨y4,y5⟩=>⟨mk 172 [(1,(.dat 1 (p1.map Qab))),(2,.ref 0 4 0 0),(5,.ref 1 3 0 0),(6,I y1),(7,I y4),(9,(.own 2 1 (0) ((p1.length:Int).toNat)))],[(Qem p0),Qed,(.own 1 (y5.map Qab))]⟩) (fun t h=>?_) ?_
   ·subst hk_k6
    obtain⟨y4,y5⟩:=t
    obtain⟨hm7,h⟩:=cko h
    refine wx tbk [(1,rp _ _),(2,⟨[(.tmp 61,(I ((p1.length:Int)))),(.tmp 61,(I ((p1.length:Int))))],[(3,.unused)],(.own 3 1 (0) ((p1.length:Int).toNat)),[(3,(Qyf p1))],false⟩)] ⟨alq 1 Qab p1 underlying25,Qi5 rfl underlying68 te4 tz4 rfl (Qqm hm7) rfl (Qql hm7) (Qts hm7) (Qnk Qhf rfl),tv⟩ ?_
    obtain⟨k9,hk_k9,h⟩:=jko h
    refine wjn (τ:=(List Int)) (fun t=>k9 t=some r) (fun y8=>⟨mk 172 [(1,(.dat 1 (p1.map Qab))),(2,.ref 0 4 0 0),(5,.ref 1 3 0 0),(9,(.own 2 1 (0) ((p1.length:Int).toNat)))],[(Qem p0),Qed,(.own 1 (y8.map Qab))]⟩) (fun y8 h=>?_) ?_
    ·subst hk_k9
     refine wx tbk [(6,rp _ _)] ⟨Qap (vs:=[I p0.Heat,I p0.Silica,I p0.Gas]) rfl ts42 tz42 rfl (by rfl) rfl,tv⟩<|wxz ?_
     obtain⟨k14,hk_k14,h⟩:=jko h
     refine wjn (τ:=(List Qaa)×Int×Int×Int) (fun t=>k14 t=some r) (fun ⟨y10,y11,y12,y13⟩=>⟨mk 172 [(5,.ref 0 3 0 0),(14,.ref 1 3 0 0),(15,(.acc 2 24 4 (y10.map Qae)))],[Qed,(.own 3 [[I y11,I y12,I y13]]),.tok]⟩) (fun t h=>?_) ?_
     ·subst hk_k14
      obtain⟨y10,y11,y12,y13⟩:=t
      refine wxe<|Qaf ?_
      obtain rfl:=osi h
      exact fie [(.dat 4 (y10.map Qae)),(.agg [I y11,I y12,I y13])] ⟨Qfa (v:=(.acc 2 24 4 (y10.map Qae))) rot Less.acc,Qbk (n:=0) (m:=3) (j:=0) (i:=0) (xs:=[[I y11,I y12,I y13]]) (by kernel_rfl) (by kernel_rfl) ti42 (by decide) rfl (nle rfl) rfl,tv⟩
     ·skip
      refine wxz<|Qag ?_
      refine wmr (Mor.trans (Qnq 4 24 4 15 (by kernel_rfl) (by kernel_rfl)) (mto (n:=172) (l':=[(1,(.dat 1 (p1.map Qab))),(2,.ref 0 4 0 0),(5,.ref 1 3 0 0),(9,(.own 2 1 (0) ((p1.length:Int).toNat))),(14,.ref 3 3 0 0),(15,(.acc 4 24 4 ((([]):List Qaa).map Qae))),(16,I 0)]) (own':=[(Qem p0),Qed,(.own 1 (y8.map Qab)),(.own 3 [[I p0.Heat,I p0.Silica,I p0.Gas]]),.tok]) [(1,(.dat 1 (p1.map Qab))),(2,.ref 0 4 0 0),(5,.ref 1 3 0 0),(9,(.own 2 1 (0) ((p1.length:Int).toNat))),(14,.ref 3 3 0 0),(15,(.acc 4 24 4 (([]:List Qaa).map Qae))),(16,I 0)] [0,1,2,3,4] [(Qem p0),Qed,(.own 1 (y8.map Qab)),(.own 3 [[I p0.Heat,I p0.Silica,I p0.Gas]]),.tok] hq (pc (rnd Qac) (prr (prr (pc (.rn (Qas rfl)) (prr (pc (.rn (Qgx rfl (Qe2 Qai _))) (pw pn))))))) (qb (lcc (lcc ln)) (qb (lcc (lc rwl ln)) (qc (spr Qac) (qb (lcc (lc rwl ln)) (qc .tok qn))))))) ?_
      refine Qb2 (τ:=(List Qaa)×Int×Int×Int×Int) (fun n t=>Qcx N p0 p1 y8 k14 n t.1 t.2.1 t.2.2.1 t.2.2.2.1 t.2.2.2.2=some r) (fun ⟨y15,y16,y17,y18,y19⟩=>⟨mk 172 [(1,(.dat 1 (p1.map Qab))),(2,.ref 0 4 0 0),(5,.ref 1 3 0 0),(9,(.own 2 1 (0) ((p1.length:Int).toNat))),(14,.ref 3 3 0 0),(15,(.acc 4 24 4 (y15.map Qae))),(16,I y16)],[(Qem p0),Qed,(.own 1 (y8.map Qab)),(.own 3 [[I y17,I y18,I y19]]),.tok]⟩) (fun t h=>by rw[Qcx] at h;cases h) (fun n25 ih t h=>?_) N ([],0,p0.Heat,p0.Silica,p0.Gas) h
      obtain⟨y15,y16,y17,y18,y19⟩:=t
      rw[Qcx] at h
      skip
      refine wsq<|wx tbk [(2,rp _ _)] ⟨alq 1 Qab p1 underlying25,tv⟩ ?_
      refine bfe h (fun hc26 h=>?_) fun hc26 h=>?_
      ·refine wft hc26<|Qah<|thn<|wsq<|Qag ?_
       obtain⟨hi27,h⟩:=cko h
       obtain⟨hi27a,hi27b⟩:=Qcc hi27
       obtain⟨x28,hg29,h⟩:=bno h
       refine wx tbk [(2,rb [(.tmp 126,(.own 2 1 (0) ((p1.length:Int).toNat))),(.tmp 127,I y16)] [(2,(.own 1 (y8.map Qab)))] (.ref 2 1 y16.toNat 0)),(3,rb [(.tmp 128,(.ref 2 1 y16.toNat 0))] [(2,(.own 1 (y8.map Qab)))] (I x28))] ⟨aio rfl underlying25 ti3 (odt hi27a) (odt hi27b) (Nat.zero_add _),ald rfl ti3 (by decide) (mgt Qab hg29) (nle rfl) rfl,tv⟩ ?_
       obtain⟨x31,hf30,h⟩:=bno h
       obtain⟨x33,hf32,h⟩:=bno h
       obtain⟨x35,hf34,h⟩:=bno h
       refine wxd tbk [(6,rp _ _),(12,rp _ _),(18,rp _ _),(19,rp _ _)] ⟨apw Qnw (Qgm N p0.Heat x28 p0.Mass _ hf30),apw Qnw (Qgm N p0.Silica x28 p0.Mass _ hf32),apw Qnw (Qgm N p0.Gas x28 p0.Mass _ hf34),Qap (vs:=[I x28,I x31,I x33,I x35]) rfl ts24 tz24 rfl (by rfl) rfl,tv⟩ ?_
       obtain⟨ha36,h⟩:=cko h
       refine wx tbk [(2,rp [(.tmp 151,(.agg [I x28,I x31,I x33,I x35]))] (.dat 4 (([(⟨x28,x31,x33,x35⟩:Qaa)]:List Qaa).map Qae))),(3,⟨[(.tmp 150,(.acc 4 24 4 (y15.map Qae))),(.tmp 152,(.dat 4 (([(⟨x28,x31,x33,x35⟩:Qaa)]:List Qaa).map Qae)))],[(4,.tok),(6,.unused)],(.acc 6 24 4 ((y15++([(⟨x28,x31,x33,x35⟩:Qaa)]):List Qaa).map Qae)),[(4,.dead),(6,.tok)],false⟩)] ⟨Qea (vs:=[(.agg [I x28,I x31,I x33,I x35])]) rfl underlying22 ti24 tz24 rfl (by decide) rfl (by decide) (by rfl) (by rfl) (by rfl) rfl,Qin rfl underlying22 te24 (Base.acc _ _) rfl rfl (by rfl) (Qof Qae ha36) (Qoe Qae ha36 (by decide)) (Qod Qae) rfl rfl,tv⟩ ?_
       exact wx1 tbk [(15,rp _ _)] ⟨Qap (vs:=[(I (w64 (y17-x31))),(I (w64 (y18-x33))),(I (w64 (y19-x35)))]) rfl ts42 tz42 rfl (by rfl) rfl,tv⟩<|bln<|thn<|wxz1<|thn<|arm (mto (n:=172) [(1,(.dat 1 (p1.map Qab))),(2,.ref 0 4 0 0),(5,.ref 1 3 0 0),(9,(.own 2 1 (0) ((p1.length:Int).toNat))),(14,.ref 3 3 0 0),(15,(.acc 6 24 4 ((y15++([(⟨x28,x31,x33,x35⟩:Qaa)]):List Qaa).map Qae))),(16,(I (w64 (y16+1))))] [0,1,2,3,6] [(Qem p0),Qed,(.own 1 (y8.map Qab)),(.own 3 [[(I (w64 (y17-x31))),(I (w64 (y18-x33))),(I (w64 (y19-x35)))]]),.tok] hq (pc (rnd Qac) (prr (prr (pc (.rn (Qas rfl)) (prr (pc (.rn (Qgx rfl (Qe2 Qai _))) (pw pn))))))) (qb (lcc (lcc ln)) (qb (lcc (lc rwl ln)) (qc (spr Qac) (qb (lcc (lc rwl ln)) (qc .tok qn)))))) (ih (y15++([(⟨x28,x31,x33,x35⟩:Qaa)]),w64 (y16+1),w64 (y17-x31),w64 (y18-x33),w64 (y19-x35)) h)
      ·exact wfn hc26<|Qbc<|Qaq<|Qaq<|Qbb rfl<|thn<|⟨(y15,y17,y18,y19),h,(mto (n:=172) [(5,.ref 1 3 0 0),(14,.ref 3 3 0 0),(15,(.acc 4 24 4 (y15.map Qae)))] [1,3,4] [Qed,(.own 3 [[I y17,I y18,I y19]]),.tok] hq (prr (prr (pc (.rn (Qgx rfl (Qe2 Qai _))) pn))) (qb (lcc (lc rwl ln)) (qb (lcc (lc rwl ln)) (qc .tok qn))))⟩
    ·skip
     refine Qag<|wmr (mto (n:=172) (l':=[(1,(.dat 1 (p1.map Qab))),(2,.ref 0 4 0 0),(5,.ref 1 3 0 0),(6,I y1),(7,I y4),(9,(.own 2 1 (0) ((p1.length:Int).toNat))),(11,(.own 3 1 (0) ((p1.length:Int).toNat)))]) (own':=[(Qem p0),Qed,(.own 1 (y5.map Qab)),(.own 1 (((List.replicate (p1.length:Int).toNat false):List Bool).map Qhf))]) [(1,(.dat 1 (p1.map Qab))),(2,.ref 0 4 0 0),(5,.ref 1 3 0 0),(6,I y1),(7,I y4),(9,(.own 2 1 (0) ((p1.length:Int).toNat))),(11,(.own 3 1 (0) ((p1.length:Int).toNat)))] [0,1,2,3] [(Qem p0),Qed,(.own 1 (y5.map Qab)),(Qyf p1)] hq (pc (rnd Qac) (prr (prr (pw (pw (pc (.rn (Qas rfl)) (pc (.rn (Qas rfl)) pn))))))) (qb (lcc (lcc ln)) (qb (lcc (lc rwl ln)) (qc (spr Qac) (qc (spr Qg0) qn))))) ?_
     refine Qb2 (τ:=Int×(List Int)×(List Bool)) (fun n t=>Qcw N p0 p1 y1 k9 n t.1 t.2.1 t.2.2=some r) (fun ⟨y37,y38,y39⟩=>⟨mk 172 [(1,(.dat 1 (p1.map Qab))),(2,.ref 0 4 0 0),(5,.ref 1 3 0 0),(6,I y1),(7,I y37),(9,(.own 2 1 (0) ((p1.length:Int).toNat))),(11,(.own 3 1 (0) ((p1.length:Int).toNat)))],[(Qem p0),Qed,(.own 1 (y38.map Qab)),(Qgd y39)]⟩) (fun t h=>by rw[Qcw] at h;cases h) (fun n43 ih t h=>?_) N (y4,y5,List.replicate (p1.length:Int).toNat false) h
     obtain⟨y37,y38,y39⟩:=t
     rw[Qcw] at h
     skip
     refine wsq<|wxz ?_
     refine bfe h (fun hc44 h=>?_) fun hc44 h=>?_
     ·refine wft hc44<|Qah<|thn<|Qag<|wxz ?_
      obtain⟨k46,hk_k46,h⟩:=jko h
      refine wjn (τ:=Int) (fun t=>k46 t=some r) (fun y45=>⟨mk 172 [(1,(.dat 1 (p1.map Qab))),(2,.ref 0 4 0 0),(5,.ref 1 3 0 0),(6,I y1),(7,I y37),(9,(.own 2 1 (0) ((p1.length:Int).toNat))),(11,(.own 3 1 (0) ((p1.length:Int).toNat))),(12,I y45)],[(Qem p0),Qed,(.own 1 (y38.map Qab)),(Qgd y39)]⟩) (fun y45 h=>?_) ?_
      ·subst hk_k46
       obtain⟨hi47,h⟩:=cko h
       obtain⟨hi47a,hi47b⟩:=Qcc hi47
       obtain⟨x48,hg49,h⟩:=bno h
       refine wx tbk [(2,rb [(.tmp 102,(.own 3 1 (0) ((p1.length:Int).toNat))),(.tmp 103,I y45)] [(3,(Qgd y39))] (.ref 3 1 y45.toNat 0)),(3,⟨[(.tmp 104,(.ref 3 1 y45.toNat 0)),cb true],[(3,(Qgd y39))],.any,[(3,(.own 1 ((y39.set y45.toNat true:List Bool).map Qhf)))],false⟩)] ⟨aio rfl underlying68 ti4 (odt hi47a) (odt hi47b) (Nat.zero_add _),ast rfl ti4 (by rfl) (mgt Qhf hg49) (nle rfl) (Qe9 Qhf rfl),tv⟩ ?_
       obtain⟨hi50,h⟩:=cko h
       obtain⟨hi50a,hi50b⟩:=Qcc hi50
       obtain⟨x51,hg52,h⟩:=bno h
       obtain⟨hi53,h⟩:=cko h
       obtain⟨hi53a,hi53b⟩:=Qcc hi53
       obtain⟨x54,hg55,h⟩:=bno h
       refine wx tbk [(2,rb [(.tmp 105,(.own 2 1 (0) ((p1.length:Int).toNat))),(.tmp 106,I y45)] [(2,(.own 1 (y38.map Qab)))] (.ref 2 1 y45.toNat 0)),(3,rb [(.tmp 107,(.ref 2 1 y45.toNat 0))] [(2,(.own 1 (y38.map Qab)))] (I x51)),(5,rb [(.tmp 105,(.own 2 1 (0) ((p1.length:Int).toNat))),(.tmp 106,I y45)] [(2,(.own 1 (y38.map Qab)))] (.ref 2 1 y45.toNat 0)),(6,⟨[(.tmp 110,(.ref 2 1 y45.toNat 0)),(.tmp 109,(I (w64 (x51+1))))],[(2,(.own 1 (y38.map Qab)))],.any,[(2,(.own 1 ((y38.set y45.toNat (w64 (x51+1)):List Int).map Qab)))],false⟩)] ⟨aio rfl underlying25 ti3 (odt hi50a) (odt hi50b) (Nat.zero_add _),ald rfl ti3 (by decide) (mgt Qab hg52) (nle rfl) rfl,aio rfl underlying25 ti3 (odt hi53a) (odt hi53b) (Nat.zero_add _),ast rfl ti3 (by rfl) (mgt Qab hg55) (nle rfl) (Qe9 Qab rfl),tv⟩<|wxz1<|bln<|thn ?_
       exact arm (mto (n:=172) [(1,(.dat 1 (p1.map Qab))),(2,.ref 0 4 0 0),(5,.ref 1 3 0 0),(6,I y1),(7,(I (w64 (y37-1)))),(9,(.own 2 1 (0) ((p1.length:Int).toNat))),(11,(.own 3 1 (0) ((p1.length:Int).toNat)))] [0,1,2,3] [(Qem p0),Qed,(.own 1 ((y38.set y45.toNat (w64 (x51+1)):List Int).map Qab)),(.own 1 ((y39.set y45.toNat true:List Bool).map Qhf))] hq (pc (rnd Qac) (prr (prr (pw (pw (pc (.rn (Qas rfl)) (pc (.rn (Qas rfl)) pn))))))) (qb (lcc (lcc ln)) (qb (lcc (lc rwl ln)) (qc (spr Qac) (qc (spr Qg0) qn))))) (ih (w64 (y37-1),y38.set y45.toNat (w64 (x51+1)),y39.set y45.toNat true) h)
      ·skip
       refine wxz<|Qag ?_
       refine wmr (mto (n:=172) (l':=[(1,(.dat 1 (p1.map Qab))),(2,.ref 0 4 0 0),(5,.ref 1 3 0 0),(6,I y1),(7,I y37),(9,(.own 2 1 (0) ((p1.length:Int).toNat))),(11,(.own 3 1 (0) ((p1.length:Int).toNat))),(12,(I ((-1)))),(13,I 0)]) (own':=[(Qem p0),Qed,(.own 1 (y38.map Qab)),(Qgd y39)]) [(1,(.dat 1 (p1.map Qab))),(2,.ref 0 4 0 0),(5,.ref 1 3 0 0),(6,I y1),(7,I y37),(9,(.own 2 1 (0) ((p1.length:Int).toNat))),(11,(.own 3 1 (0) ((p1.length:Int).toNat))),(12,(I ((-1)))),(13,I 0)] [0,1,2,3] [(Qem p0),Qed,(.own 1 (y38.map Qab)),(Qgd y39)] hq (pc (rnd Qac) (prr (prr (pw (pw (pc (.rn (Qas rfl)) (pc (.rn (Qas rfl)) (pw (pw pn))))))))) (qb (lcc (lcc ln)) (qb (lcc (lc rwl ln)) (qc (spr Qac) (qc (spr Qg0) qn))))) ?_
       refine Qb2 (τ:=Int×Int) (fun n t=>Qbv N p0 p1 y1 y39 k46 n t.1 t.2=some r) (fun ⟨y56,y57⟩=>⟨mk 172 [(1,(.dat 1 (p1.map Qab))),(2,.ref 0 4 0 0),(5,.ref 1 3 0 0),(6,I y1),(7,I y37),(9,(.own 2 1 (0) ((p1.length:Int).toNat))),(11,(.own 3 1 (0) ((p1.length:Int).toNat))),(12,I y56),(13,I y57)],[(Qem p0),Qed,(.own 1 (y38.map Qab)),(Qgd y39)]⟩) (fun t h=>by rw[Qbv] at h;cases h) (fun n60 ih t h=>?_) N ((-1),0) h
       obtain⟨y56,y57⟩:=t
       rw[Qbv] at h
       skip
       refine wsq<|wx tbk [(2,rp _ _)] ⟨alq 1 Qab p1 underlying25,tv⟩ ?_
       refine bfe h (fun hc61 h=>?_) fun hc61 h=>?_
       ·refine wft hc61<|Qah<|thn<|wsq<|Qag ?_
        obtain⟨hi62,h⟩:=cko h
        obtain⟨hi62a,hi62b⟩:=Qcc hi62
        obtain⟨x63,hg64,h⟩:=bno h
        refine hpre (A:=(Qon p1 y57 y39 x63)) ⟨aio rfl underlying68 ti4 (odt hi62a) (odt hi62b) (Nat.zero_add _),ald rfl ti4 (by decide) (mgt Qhf hg64) (nle rfl) rfl,tv⟩ fun q1_=>?_
        refine bfe h (fun hb65 h=>?_) fun hb65 h=>?_
        ·refine bfe h (fun hb66 h=>?_) fun hb66 h=>?_
         ·exact wxd tbk (hcat (Qon p1 y57 y39 x63) [(5,rp [(.tmp 75,(B ((!x63))))] (B true)),(8,rp [(.tmp 76,B true),(.tmp 78,(B ((decide (y56<0)))))] (B true))]) (hap q1_ ⟨asb hb65 (amv rfl),asb hb66 (ag_ (amv rfl)),tv⟩)<|wtr<|wxz1<|bln<|thn<|wxz1<|thn<|arm (mto (n:=172) [(1,(.dat 1 (p1.map Qab))),(2,.ref 0 4 0 0),(5,.ref 1 3 0 0),(6,I y1),(7,I y37),(9,(.own 2 1 (0) ((p1.length:Int).toNat))),(11,(.own 3 1 (0) ((p1.length:Int).toNat))),(12,I y57),(13,(I (w64 (y57+1))))] [0,1,2,3] [(Qem p0),Qed,(.own 1 (y38.map Qab)),(Qgd y39)] hq (pc (rnd Qac) (prr (prr (pw (pw (pc (.rn (Qas rfl)) (pc (.rn (Qas rfl)) (pw (pw pn))))))))) (qb (lcc (lcc ln)) (qb (lcc (lc rwl ln)) (qc (spr Qac) (qc (spr Qg0) qn))))) (ih (y57,w64 (y57+1)) h)
         ·obtain⟨x67,hg68,h⟩:=bno h
          obtain⟨hi69,hj70⟩:=gsm hg68
          obtain⟨hz71,h⟩:=cko h
          obtain⟨x72,hg73,h⟩:=bno h
          obtain⟨hi74,hj75⟩:=gsm hg73
          obtain⟨hz76,h⟩:=cko h
          refine wxd tbk (hcat (Qon p1 y57 y39 x63) [(5,rp [(.tmp 75,(B ((!x63))))] (B true)),(8,rp [(.tmp 76,B true),(.tmp 78,(B ((decide (y56<0)))))] (B false)),(13,rp [(.tmp 79,B false),(.tmp 82,(.dat 1 (p1.map Qab))),(.tmp 83,I y57)] (.dptr (Qab x67) 0)),(17,rp [(.tmp 79,B false),(.tmp 86,(I (w64 (p0.Mass*x67)))),(.tmp 87,I y1)] (I ((w64 (p0.Mass*x67)).tmod y1))),(22,rp [(.tmp 79,B false),(.tmp 91,(.dat 1 (p1.map Qab))),(.tmp 92,I y56)] (.dptr (Qab x72) 0)),(26,rp [(.tmp 79,B false),(.tmp 95,(I (w64 (p0.Mass*x72)))),(.tmp 96,I y1)] (I ((w64 (p0.Mass*x72)).tmod y1)))]) (hap q1_ ⟨asb hb65 (amv rfl),asb hb66 (ag_ (amv rfl)),ag_ (aiq underlying25 ti3 Qab hi69 hj70),ag_ (Qil rfl (Qf7 hz71)),ag_ (aiq underlying25 ti3 Qab hi74 hj75),ag_ (Qil rfl (Qf7 hz76)),tv⟩) ?_
          refine bfe h (fun hc77 h=>?_) fun hc77 h=>?_
          ·exact wft hc77<|wxz1<|bln<|thn<|wxz1<|thn<|arm (mto (n:=172) [(1,(.dat 1 (p1.map Qab))),(2,.ref 0 4 0 0),(5,.ref 1 3 0 0),(6,I y1),(7,I y37),(9,(.own 2 1 (0) ((p1.length:Int).toNat))),(11,(.own 3 1 (0) ((p1.length:Int).toNat))),(12,I y57),(13,(I (w64 (y57+1))))] [0,1,2,3] [(Qem p0),Qed,(.own 1 (y38.map Qab)),(Qgd y39)] hq (pc (rnd Qac) (prr (prr (pw (pw (pc (.rn (Qas rfl)) (pc (.rn (Qas rfl)) (pw (pw pn))))))))) (qb (lcc (lcc ln)) (qb (lcc (lc rwl ln)) (qc (spr Qac) (qc (spr Qg0) qn))))) (ih (y57,w64 (y57+1)) h)
          ·exact wfn hc77<|Qah<|bln<|thn<|wxz1<|thn<|arm (mto (n:=172) [(1,(.dat 1 (p1.map Qab))),(2,.ref 0 4 0 0),(5,.ref 1 3 0 0),(6,I y1),(7,I y37),(9,(.own 2 1 (0) ((p1.length:Int).toNat))),(11,(.own 3 1 (0) ((p1.length:Int).toNat))),(12,I y56),(13,(I (w64 (y57+1))))] [0,1,2,3] [(Qem p0),Qed,(.own 1 (y38.map Qab)),(Qgd y39)] hq (pc (rnd Qac) (prr (prr (pw (pw (pc (.rn (Qas rfl)) (pc (.rn (Qas rfl)) (pw (pw pn))))))))) (qb (lcc (lcc ln)) (qb (lcc (lc rwl ln)) (qc (spr Qac) (qc (spr Qg0) qn))))) (ih (y56,w64 (y57+1)) h)
        ·exact wxd tbk (hcat (Qon p1 y57 y39 x63) [(5,rp [(.tmp 75,(B ((!x63))))] (B false))]) (hap q1_ ⟨asb hb65 (amv rfl),tv⟩)<|wfa<|Qah<|bln<|thn<|wxz1<|thn<|arm (mto (n:=172) [(1,(.dat 1 (p1.map Qab))),(2,.ref 0 4 0 0),(5,.ref 1 3 0 0),(6,I y1),(7,I y37),(9,(.own 2 1 (0) ((p1.length:Int).toNat))),(11,(.own 3 1 (0) ((p1.length:Int).toNat))),(12,I y56),(13,(I (w64 (y57+1))))] [0,1,2,3] [(Qem p0),Qed,(.own 1 (y38.map Qab)),(Qgd y39)] hq (pc (rnd Qac) (prr (prr (pw (pw (pc (.rn (Qas rfl)) (pc (.rn (Qas rfl)) (pw (pw pn))))))))) (qb (lcc (lcc ln)) (qb (lcc (lc rwl ln)) (qc (spr Qac) (qc (spr Qg0) qn))))) (ih (y56,w64 (y57+1)) h)
       ·exact wfn hc61<|Qbc<|Qaq<|Qaq<|Qbb rfl<|thn<|⟨(y56),h,(mto (n:=172) [(1,(.dat 1 (p1.map Qab))),(2,.ref 0 4 0 0),(5,.ref 1 3 0 0),(6,I y1),(7,I y37),(9,(.own 2 1 (0) ((p1.length:Int).toNat))),(11,(.own 3 1 (0) ((p1.length:Int).toNat))),(12,I y56)] [0,1,2,3] [(Qem p0),Qed,(.own 1 (y38.map Qab)),(Qgd y39)] hq (pc (rnd Qac) (prr (prr (pw (pw (pc (.rn (Qas rfl)) (pc (.rn (Qas rfl)) (pw pn)))))))) (qb (lcc (lcc ln)) (qb (lcc (lc rwl ln)) (qc (spr Qac) (qc (spr Qg0) qn)))))⟩
     ·exact wfn hc44<|Qbc<|Qaq<|Qaq<|Qbb rfl<|thn<|⟨(y38),h,(mto (n:=172) [(1,(.dat 1 (p1.map Qab))),(2,.ref 0 4 0 0),(5,.ref 1 3 0 0),(9,(.own 2 1 (0) ((p1.length:Int).toNat)))] [0,1,2] [(Qem p0),Qed,(.own 1 (y38.map Qab))] hq (pc (rnd Qac) (prr (prr (pc (.rn (Qas rfl)) pn)))) (qb (lcc (lcc ln)) (qb (lcc (lc rwl ln)) (qc (spr Qac) qn))))⟩
   ·skip
    refine wxz<|Qag ?_
    refine wmr (mto (n:=172) (l':=[(1,(.dat 1 (p1.map Qab))),(2,.ref 0 4 0 0),(5,.ref 1 3 0 0),(6,I y1),(7,I p0.Mass),(9,(.own 2 1 (0) ((p1.length:Int).toNat))),(10,I 0)]) (own':=[(Qem p0),Qed,(.own 1 (((List.replicate (p1.length:Int).toNat 0):List Int).map Qab))]) [(1,(.dat 1 (p1.map Qab))),(2,.ref 0 4 0 0),(5,.ref 1 3 0 0),(6,I y1),(7,I p0.Mass),(9,(.own 2 1 (0) ((p1.length:Int).toNat))),(10,I 0)] [0,1,2] [(Qem p0),Qed,(Qyg p1)] hq (pc (rnd Qac) (prr (prr (pw (pw (pc (.rn (Qas rfl)) (pw pn))))))) (qb (lcc (lcc ln)) (qb (lcc (lc rwl ln)) (qc (spr Qac) qn)))) ?_
    refine Qb2 (τ:=Int×Int×(List Int)) (fun n t=>Qcv N p0 p1 y1 k6 n t.1 t.2.1 t.2.2=some r) (fun ⟨y78,y79,y80⟩=>⟨mk 172 [(1,(.dat 1 (p1.map Qab))),(2,.ref 0 4 0 0),(5,.ref 1 3 0 0),(6,I y1),(7,I y78),(9,(.own 2 1 (0) ((p1.length:Int).toNat))),(10,I y79)],[(Qem p0),Qed,(.own 1 (y80.map Qab))]⟩) (fun t h=>by rw[Qcv] at h;cases h) (fun n84 ih t h=>?_) N (p0.Mass,0,List.replicate (p1.length:Int).toNat 0) h
    obtain⟨y78,y79,y80⟩:=t
    rw[Qcv] at h
    skip
    refine wsq<|wx tbk [(2,rp _ _)] ⟨alq 1 Qab p1 underlying25,tv⟩ ?_
    refine bfe h (fun hc85 h=>?_) fun hc85 h=>?_
    ·refine wft hc85<|Qah<|thn<|wsq<|Qag ?_
     obtain⟨x86,hg87,h⟩:=bno h
     obtain⟨hi88,hj89⟩:=gsm hg87
     obtain⟨hz90,h⟩:=cko h
     obtain⟨hi91,h⟩:=cko h
     obtain⟨hi91a,hi91b⟩:=Qcc hi91
     obtain⟨x92,hg93,h⟩:=bno h
     refine wxd tbk [(6,rp _ _),(10,rp [(.tmp 50,(I (w64 (p0.Mass*x86)))),(.tmp 51,I y1)] (I (w64 ((w64 (p0.Mass*x86)).tdiv y1)))),(11,rb [(.tmp 42,(.own 2 1 (0) ((p1.length:Int).toNat))),(.tmp 43,I y79)] [(2,(.own 1 (y80.map Qab)))] (.ref 2 1 y79.toNat 0)),(12,⟨[(.tmp 53,(.ref 2 1 y79.toNat 0)),(.tmp 52,(I (w64 ((w64 (p0.Mass*x86)).tdiv y1))))],[(2,(.own 1 (y80.map Qab)))],.any,[(2,(Qoo y80 y79 p0 x86 y1))],false⟩)] ⟨aiq underlying25 ti3 Qab hi88 hj89,Qf8 rfl (Qf7 hz90),aio rfl underlying25 ti3 (odt hi91a) (odt hi91b) (Nat.zero_add _),ast rfl ti3 (by rfl) (mgt Qab hg93) (nle rfl) (Qe9 Qab rfl),tv⟩ ?_
     obtain⟨hi94,h⟩:=cko h
     obtain⟨hi94a,hi94b⟩:=Qcc hi94
     obtain⟨x95,hg96,h⟩:=bno h
     refine wx1 tbk [(3,rb [(.tmp 55,(.own 2 1 (0) ((p1.length:Int).toNat))),(.tmp 56,I y79)] [(2,(Qoo y80 y79 p0 x86 y1))] (.ref 2 1 y79.toNat 0)),(4,rb [(.tmp 57,(.ref 2 1 y79.toNat 0))] [(2,(Qoo y80 y79 p0 x86 y1))] (I x95))] ⟨aio rfl underlying25 ti3 (odt hi94a) (odt hi94b) (Nat.zero_add _),ald rfl ti3 (by decide) (mgt Qab hg96) (nle rfl) rfl,tv⟩<|bln<|thn<|wxz1<|thn ?_
     exact arm (mto (n:=172) [(1,(.dat 1 (p1.map Qab))),(2,.ref 0 4 0 0),(5,.ref 1 3 0 0),(6,I y1),(7,(I (w64 (y78-x95)))),(9,(.own 2 1 (0) ((p1.length:Int).toNat))),(10,(I (w64 (y79+1))))] [0,1,2] [(Qem p0),Qed,(Qoo y80 y79 p0 x86 y1)] hq (pc (rnd Qac) (prr (prr (pw (pw (pc (.rn (Qas rfl)) (pw pn))))))) (qb (lcc (lcc ln)) (qb (lcc (lc rwl ln)) (qc (spr Qac) qn)))) (ih (w64 (y78-x95),w64 (y79+1),y80.set y79.toNat (w64 ((w64 (p0.Mass*x86)).tdiv y1))) h)
    ·exact wfn hc85<|Qbc<|Qaq<|Qaq<|Qbb rfl<|thn<|⟨(y78,y80),h,(mto (n:=172) [(1,(.dat 1 (p1.map Qab))),(2,.ref 0 4 0 0),(5,.ref 1 3 0 0),(6,I y1),(7,I y78),(9,(.own 2 1 (0) ((p1.length:Int).toNat)))] [0,1,2] [(Qem p0),Qed,(.own 1 (y80.map Qab))] hq (pc (rnd Qac) (prr (prr (pw (pw (pc (.rn (Qas rfl)) pn)))))) (qb (lcc (lcc ln)) (qb (lcc (lc rwl ln)) (qc (spr Qac) qn))))⟩
  ·skip
   refine wxz<|Qag ?_
   refine wmr (mto (n:=172) (l':=[(1,(.dat 1 (p1.map Qab))),(2,.ref 0 4 0 0),(5,.ref 1 3 0 0),(6,I 0),(7,I p0.Mass),(8,I 0)]) (own':=[(Qem p0),Qed]) [(1,(.dat 1 (p1.map Qab))),(2,.ref 0 4 0 0),(5,.ref 1 3 0 0),(6,I 0),(7,I p0.Mass),(8,I 0)] [0,1] [(Qem p0),Qed] hq (pc (rnd Qac) (prr (prr (pw (pw (pw pn)))))) (qb (lcc (lcc ln)) (qb (lcc (lc rwl ln)) qn))) ?_
   refine Qb2 (τ:=Int×Int) (fun n t=>Qcu N p1 k2 n t.1 t.2=some r) (fun ⟨y97,y98⟩=>⟨mk 172 [(1,(.dat 1 (p1.map Qab))),(2,.ref 0 4 0 0),(5,.ref 1 3 0 0),(6,I y97),(7,I p0.Mass),(8,I y98)],[(Qem p0),Qed]⟩) (fun t h=>by rw[Qcu] at h;cases h) (fun n101 ih t h=>?_) N (0,0) h
   obtain⟨y97,y98⟩:=t
   rw[Qcu] at h
   skip
   refine wsq<|wx tbk [(2,rp _ _)] ⟨alq 1 Qab p1 underlying25,tv⟩ ?_
   refine bfe h (fun hc102 h=>?_) fun hc102 h=>?_
   ·refine wft hc102<|Qah<|thn<|wsq<|Qag ?_
    obtain⟨x103,hg104,h⟩:=bno h
    obtain⟨hi105,hj106⟩:=gsm hg104
    exact wx1 tbk [(3,rp _ _)] ⟨aiq underlying25 ti3 Qab hi105 hj106,tv⟩<|bln<|thn<|wxz1<|thn<|arm (mto (n:=172) [(1,(.dat 1 (p1.map Qab))),(2,.ref 0 4 0 0),(5,.ref 1 3 0 0),(6,(I (w64 (y97+x103)))),(7,I p0.Mass),(8,(I (w64 (y98+1))))] [0,1] [(Qem p0),Qed] hq (pc (rnd Qac) (prr (prr (pw (pw (pw pn)))))) (qb (lcc (lcc ln)) (qb (lcc (lc rwl ln)) qn))) (ih (w64 (y97+x103),w64 (y98+1)) h)
   ·exact wfn hc102<|Qbc<|Qaq<|Qaq<|Qbb rfl<|thn<|⟨(y97),h,(mto (n:=172) [(1,(.dat 1 (p1.map Qab))),(2,.ref 0 4 0 0),(5,.ref 1 3 0 0),(6,I y97),(7,I p0.Mass)] [0,1] [(Qem p0),Qed] hq (pc (rnd Qac) (prr (prr (pw (pw pn))))) (qb (lcc (lcc ln)) (qb (lcc (lc rwl ln)) qn)))⟩
def Qc3 (_N:Nat) (p0:Qaa):Option Qaa:=
  some p0
def Qzk (p0:Qaa):AV:=.agg [(I p0.Mass),(I p0.Heat),(I p0.Silica),(I p0.Gas)]
theorem Qel (N:Nat) (p0 r:Qaa) (h:Qc3 N p0=some r):Spec prog 8 [(.agg (Qae p0))] [] (.agg (Qae r)) []:=by
  refine sA func8 0 fun _ _ _ hq hd0=>?_
  unfold Qc3 at h
  refine wxz<|wx tbk [(8,rp _ _)] ⟨Qap (vs:=[I p0.Mass,I p0.Heat,I p0.Silica,I p0.Gas]) rfl ts27 tz27 rfl (by rfl) rfl,tv⟩<|Qaf ?_
  obtain rfl:=osi h
  exact fie [(Qzk p0)] ⟨Qbk (n:=1) (m:=4) (j:=0) (i:=0) (xs:=[[I p0.Mass,I p0.Heat,I p0.Silica,I p0.Gas]]) (by kernel_rfl) (by kernel_rfl) ti27 (by decide) rfl (nle rfl) rfl,tv⟩
def Qcg (N:Nat) (p0:List Qaa) (k2:(List Qaa)→Option (List Qaa)):Nat→(List Qaa)→Int→Option (List Qaa)
  |0,_,_=>none
  |n7+1,y3,y4=>
    bif (decide (y4<(p0.length:Int))) then
     (getI p0 y4).bind fun x9=>
     (Qc3 N x9).bind fun x14=>
     chk (decide ((y3.length+([x14]).length)*32≤140737488355328))<|
     Qcg N p0 k2 n7 (y3++([x14])) (w64 (y4+1))
    else
     k2 (y3)
def Qej (N:Nat) (p0:List Qaa):Option (List Qaa):=
  Qcd (fun y1=>
    some y1) fun k2:(List Qaa)→Option (List Qaa)=>
  Qcg N p0 k2 N ([]) 0
def Qt1 (p0:List Qaa):AV:=.dat 4 (p0.map Qae)
def Qvn (x14:Qaa):AV:=.agg [(I x14.Mass),(I x14.Heat),(I x14.Silica),(I x14.Gas)]
theorem Qi1 (N:Nat) (p0 r:List Qaa) (h:Qej N p0=some r):Spec prog 6 [(.dat 4 (p0.map Qae))] [] (.dat 4 (r.map Qae)) []:=by
  refine sA func6 0 fun _ _ _ hq hd0=>?_
  unfold Qej at h
  refine wxz<|wxz ?_
  obtain⟨k2,hk_k2,h⟩:=jko h
  refine wjn (τ:=(List Qaa)) (fun t=>k2 t=some r) (fun y1=>⟨mk 20 [(3,(.acc 0 27 4 (y1.map Qae)))],[.tok]⟩) (fun y1 h=>?_) ?_
  ·subst hk_k2
   refine wxz<|Qaf ?_
   obtain rfl:=osi h
   exact fie [(.dat 4 (y1.map Qae))] ⟨Qfa (v:=(.acc 0 27 4 (y1.map Qae))) rot Less.acc,tv⟩
  ·skip
   refine wxz<|Qag ?_
   refine wmr (Mor.trans (Qnq 0 27 4 3 (by kernel_rfl) (by kernel_rfl)) (mto (n:=20) (l':=[(0,(Qt1 p0)),(3,(.acc 0 27 4 ((([]):List Qaa).map Qae))),(4,I 0)]) (own':=[.tok]) [(0,(Qt1 p0)),(3,(.acc 0 27 4 (([]:List Qaa).map Qae))),(4,I 0)] [0] [.tok] hq (pc (rnd Qai) (pc (.rn (Qgx rfl (Qe2 Qai _))) (pw pn))) (qc .tok qn))) ?_
   refine Qb2 (τ:=(List Qaa)×Int) (fun n t=>Qcg N p0 k2 n t.1 t.2=some r) (fun ⟨y3,y4⟩=>⟨mk 20 [(0,(Qt1 p0)),(3,(.acc 0 27 4 (y3.map Qae))),(4,I y4)],[.tok]⟩) (fun t h=>by rw[Qcg] at h;cases h) (fun n7 ih t h=>?_) N ([],0) h
   obtain⟨y3,y4⟩:=t
   rw[Qcg] at h
   skip
   refine wsq<|wx tbk [(2,rp _ _)] ⟨alq 4 Qae p0 underlying22,tv⟩ ?_
   refine bfe h (fun hc8 h=>?_) fun hc8 h=>?_
   ·refine wft hc8<|Qah<|thn<|wsq<|Qag ?_
    obtain⟨x9,hg10,h⟩:=bno h
    obtain⟨hi11,hj12⟩:=gsm hg10
    obtain⟨x14,hf13,h⟩:=bno h
    obtain⟨ha15,h⟩:=cko h
    refine wx1 tbk [(3,rp _ _),(5,rp _ _),(6,rp [(.tmp 16,(Qvn x14))] (.dat 4 (([x14]:List Qaa).map Qae))),(7,⟨[(.tmp 11,(.acc 0 27 4 (y3.map Qae))),(.tmp 17,(.dat 4 (([x14]:List Qaa).map Qae)))],[(0,.tok),(1,.unused)],(.acc 1 27 4 ((y3++([x14]):List Qaa).map Qae)),[(0,.dead),(1,.tok)],false⟩)] ⟨aiq underlying22 ti24 Qae hi11 hj12,apw Qo5 (Qel N x9 _ hf13),Qea (vs:=[(Qvn x14)]) rfl underlying31 ti27 tz27 rfl (by decide) rfl (by decide) (by rfl) (by rfl) (by rfl) rfl,Qin rfl underlying31 te27 (Base.acc _ _) rfl rfl (by rfl) (Qof Qae ha15) (Qoe Qae ha15 (by decide)) (Qod Qae) rfl rfl,tv⟩<|bln<|thn<|wxz1<|thn ?_
    exact arm (mto (n:=20) [(0,(Qt1 p0)),(3,(.acc 1 27 4 ((y3++([x14]):List Qaa).map Qae))),(4,(I (w64 (y4+1))))] [1] [.tok] hq (pc (rnd Qai) (pc (.rn (Qgx rfl (Qe2 Qai _))) (pw pn))) (qc .tok qn)) (ih (y3++([x14]),w64 (y4+1)) h)
   ·exact wfn hc8<|Qbc<|Qaq<|Qaq<|Qbb rfl<|thn<|⟨(y3),h,(mto (n:=20) [(3,(.acc 0 27 4 (y3.map Qae)))] [0] [.tok] hq (pc (.rn (Qgx rfl (Qe2 Qai _))) pn) (qc .tok qn))⟩
def Qc1 (N:Nat) (p0 p1:List Qaa) (k2:Unit→Option Bool):Nat→Int→Option Bool
  |0,_=>none
  |n5+1,y3=>
    bif (decide (y3<(p0.length:Int))) then
     (getI p0 y3).bind fun x7=>
     (getI p1 y3).bind fun x11=>
     (Qc3 N x11).bind fun x16=>
     bif (!(([x7.Mass,x7.Heat,x7.Silica,x7.Gas]:List Int)==[x16.Mass,x16.Heat,x16.Silica,x16.Gas])) then
      some false
     else
      Qc1 N p0 p1 k2 n5 (w64 (y3+1))
    else
     k2 ()
def Qf5 (N:Nat) (p0 p1:List Qaa):Option Bool:=
  bif ((p0.length:Int) != (p1.length:Int)) then
   some false
  else
   Qcd (fun _=>
     some true) fun k2:Unit→Option Bool=>
   Qc1 N p0 p1 k2 N 0
def Qt0 (p0:List Qaa):AV:=.dat 4 (p0.map Qae)
def Qtz (p1:List Qaa):AV:=.dat 4 (p1.map Qae)
def Qye (x16:Qaa):AV:=.agg [(I x16.Mass),(I x16.Heat),(I x16.Silica),(I x16.Gas)]
theorem Qkh (N:Nat) (p0 p1:List Qaa) (r:Bool) (h:Qf5 N p0 p1=some r):Spec prog 14 [(.dat 4 (p0.map Qae)),(.dat 4 (p1.map Qae))] [] (B r) []:=by
  refine sA func14 0 fun _ _ _ hq hd0=>?_
  unfold Qf5 at h
  refine wxz<|wsq ?_
  refine wx tbk [(1,rp _ _),(3,rp _ _)] ⟨alq 4 Qae p0 underlying31,alq 4 Qae p1 underlying22,tv⟩ ?_
  refine bfe h (fun hc1 h=>?_) fun hc1 h=>?_
  ·exact wft hc1<|wxz<|Qaf<|Qao<|frb h
  ·refine wfn hc1<|Qah<|thn ?_
   obtain⟨k2,hk_k2,h⟩:=jko h
   refine wjn (τ:=Unit) (fun t=>k2 t=some r) (fun _=>⟨mk 27 [],[]⟩) (fun t h=>?_) ?_
   ·subst hk_k2
    exact wxz<|Qaf<|frb h
   ·skip
    refine wxz<|Qag ?_
    refine wmr (mto (n:=27) (l':=[(0,(Qt0 p0)),(1,(Qtz p1)),(5,I 0)]) (own':=[]) [(0,(Qt0 p0)),(1,(Qtz p1)),(5,I 0)] [] [] hq (pc (rnd Qai) (pc (rnd Qai) (pw pn))) qn) ?_
    refine Qb2 (τ:=Int) (fun n t=>Qc1 N p0 p1 k2 n t=some r) (fun y3=>⟨mk 27 [(0,(Qt0 p0)),(1,(Qtz p1)),(5,I y3)],[]⟩) (fun t h=>by rw[Qc1] at h;cases h) (fun n5 ih y3 h=>?_) N (0) h
    rw[Qc1] at h
    skip
    refine wsq<|wx tbk [(2,rp _ _)] ⟨alq 4 Qae p0 underlying31,tv⟩ ?_
    refine bfe h (fun hc6 h=>?_) fun hc6 h=>?_
    ·refine wft hc6<|Qah<|thn<|wsq<|Qag ?_
     obtain⟨x7,hg8,h⟩:=bno h
     obtain⟨hi9,hj10⟩:=gsm hg8
     obtain⟨x11,hg12,h⟩:=bno h
     obtain⟨hi13,hj14⟩:=gsm hg12
     obtain⟨x16,hf15,h⟩:=bno h
     refine wxd tbk [(2,rp _ _),(6,rp _ _),(8,rp _ _),(9,rp [(.tmp 20,(.agg [I x7.Mass,I x7.Heat,I x7.Silica,I x7.Gas])),(.tmp 25,(Qye x16))] (B ((!(([x7.Mass,x7.Heat,x7.Silica,x7.Gas]:List Int)==[x16.Mass,x16.Heat,x16.Silica,x16.Gas])))))] ⟨aiq underlying31 ti27 Qae hi9 hj10,aiq underlying22 ti24 Qae hi13 hj14,apw Qo5 (Qel N x11 _ hf15),Qim (ls:=[x7.Mass,x7.Heat,x7.Silica,x7.Gas]) (ks:=[x16.Mass,x16.Heat,x16.Silica,x16.Gas]) rfl rfl Qsu (by kernel_rfl) rfl rfl,tv⟩ ?_
     refine bfe h (fun hc17 h=>?_) fun hc17 h=>?_
     ·exact wft hc17<|wxz<|Qaf<|Qbr<|Qao<|Qao<|Qbr<|Qao<|frb h
     ·exact wfn hc17<|Qah<|bln<|thn<|wxz1<|thn<|arm (mto (n:=27) [(0,(Qt0 p0)),(1,(Qtz p1)),(5,(I (w64 (y3+1))))] [] [] hq (pc (rnd Qai) (pc (rnd Qai) (pw pn))) qn) (ih (w64 (y3+1)) h)
    ·exact wfn hc6<|Qbc<|Qaq<|Qaq<|Qbb rfl<|thn<|⟨(),h,(mto (n:=27) [] [] [] hq pn qn)⟩
end
section
def Qfo (_N:Nat):Option (List GRow):=
  some ([(⟨100,101,419,2676,150⟩:GRow),(⟨150,476,632,2746,300⟩:GRow),(⟨200,1555,852,2793,600⟩:GRow)])
def Qyc:AV:=.agg [(I (100)),(I (101)),(I (419)),(I (2676)),(I (150))]
def Qyb:AV:=.agg [(I (150)),(I (476)),(I (632)),(I (2746)),(I (300))]
def Qya:AV:=.agg [(I (200)),(I (1555)),(I (852)),(I (2793)),(I (600))]
def Qx9:AV:=.dat 5 (([(⟨100,101,419,2676,150⟩:GRow),(⟨150,476,632,2746,300⟩:GRow),(⟨200,1555,852,2793,600⟩:GRow)]:List GRow).map Qbd)
theorem Qf6 (N:Nat) (r:List GRow) (h:Qfo N=some r):Spec prog 16 [] [] (.dat 5 (r.map Qbd)) []:=by
  refine sA func16 0 fun _ _ _ hq hd0=>?_
  unfold Qfo at h
  refine wxz<|wx tbk [(0,rp _ _),(1,rp _ _),(2,rp _ _),(3,rp [(.tmp 1,Qyc),(.tmp 2,Qyb),(.tmp 3,Qya)] Qx9)] ⟨Qap (vs:=[I 100,I 101,I 419,I 2676,I 150]) rfl ts71 tz71 rfl (by rfl) rfl,Qap (vs:=[I 150,I 476,I 632,I 2746,I 300]) rfl ts71 tz71 rfl (by rfl) rfl,Qap (vs:=[I 200,I 1555,I 852,I 2793,I 600]) rfl ts71 tz71 rfl (by rfl) rfl,Qea (vs:=[Qyc,Qyb,Qya]) rfl underlying52 ti71 tz71 rfl (by decide) rfl (by decide) (by rfl) (by rfl) (by rfl) rfl,tv⟩<|Qaf ?_
  obtain rfl:=osi h
  exact fie [Qx9] ⟨rot,tv⟩
def Qhp (_N:Nat):Option Qaa:=
  some (⟨1000,852000,250000,50⟩:Qaa)
def Qzh:AV:=.agg [(I (1000)),(I (852000)),(I (250000)),(I (50))]
theorem Qie (N:Nat) (r:Qaa) (h:Qhp N=some r):Spec prog 17 [] [] (.agg (Qae r)) []:=by
  refine sA func17 0 fun _ _ _ hq hd0=>?_
  unfold Qhp at h
  refine wxz<|wx tbk [(0,rp _ _)] ⟨Qap (vs:=[I 1000,I 852000,I 250000,I 50]) rfl ts27 tz27 rfl (by rfl) rfl,tv⟩<|Qaf ?_
  obtain rfl:=osi h
  exact fie [Qzh] ⟨Qbk (n:=0) (m:=4) (j:=0) (i:=0) (xs:=[[I 1000,I 852000,I 250000,I 50]]) (by kernel_rfl) (by kernel_rfl) ti27 (by decide) rfl (nle rfl) rfl,tv⟩
def Qft (N:Nat) (p0:GRow):Option Bool:=
  (Qbq N p0.T 0 400).bind fun x2=>
  bif x2 then
   (Qbq N p0.P 1 10000).bind fun x5=>
   bif x5 then
    (Qbq N p0.Liquid 0 4000).bind fun x8=>
    bif x8 then
     (Qbq N p0.Silica 0 2000).bind fun x11=>
     bif x11 then
      bif (decide (p0.Liquid<p0.Vapour)) then
       some (decide (p0.Vapour≤4000))
      else
       some false
     else
      some false
    else
     some false
   else
    some false
  else
   some false
def Qv1 (p0:GRow) (x2:Bool):List (Nat×Rec):=[(2,rp [fu 23,((.tmp 4),(I p0.T)),ci 0,ci 400] (B x2))]
def Qv0 p0 x2 (x5:Bool):=hcat (Qv1 p0 x2) [(3,rp [((.tmp 5),(B x2))] (B true)),(6,rp [((.tmp 6),(B true)),fu 23,((.tmp 8),(I p0.P)),ci 1,ci 10000] (B x5))]
def Qvz p0 x2 x5 (x8:Bool):=hcat (Qv0 p0 x2 x5) [(8,rp [((.tmp 10),(B x5))] (B true)),(11,rp [((.tmp 11),(B true)),fu 23,((.tmp 13),(I p0.Liquid)),ci 0,ci 4000] (B x8))]
def Qtx p0 x2 x5 x8 (x11:Bool):=hcat (Qvz p0 x2 x5 x8) [(13,rp [((.tmp 15),(B x8))] (B true)),(16,rp [((.tmp 16),(B true)),fu 23,((.tmp 18),(I p0.Silica)),ci 0,ci 2000] (B x11))]
theorem Qhz (N:Nat) (p0:GRow) (r:Bool) (h:Qft N p0=some r):Spec prog 48 [(.agg (Qbd p0))] [] (B r) []:=by
  refine sA func48 0 fun _ _ _ hq hd0=>?_
  unfold Qft at h
  refine wxz ?_
  obtain⟨x2,hf1,h⟩:=bno h
  refine hpre (A:=(Qv1 p0 x2)) ⟨apv Qfv (Qbs N p0.T 0 400 _ hf1) (nlcc (nlc nll nl0)) nll,tv⟩ fun q1_=>?_
  refine bfe h (fun hb3 h=>?_) fun hb3 h=>?_
  ·obtain⟨x5,hf4,h⟩:=bno h
   refine hpre (A:=(Qv0 p0 x2 x5)) (hap q1_ ⟨asb hb3 (amv rfl),ag_ (apv Qfv (Qbs N p0.P 1 10000 _ hf4) (nlcc (nlc nll nl0)) nll),tv⟩) fun q2_=>?_
   refine bfe h (fun hb6 h=>?_) fun hb6 h=>?_
   ·obtain⟨x8,hf7,h⟩:=bno h
    refine hpre (A:=(Qvz p0 x2 x5 x8)) (hap q2_ ⟨asb hb6 (amv rfl),ag_ (apv Qfv (Qbs N p0.Liquid 0 4000 _ hf7) (nlcc (nlc nll nl0)) nll),tv⟩) fun q3_=>?_
    refine bfe h (fun hb9 h=>?_) fun hb9 h=>?_
    ·obtain⟨x11,hf10,h⟩:=bno h
     refine hpre (A:=(Qtx p0 x2 x5 x8 x11)) (hap q3_ ⟨asb hb9 (amv rfl),ag_ (apv Qfv (Qbs N p0.Silica 0 2000 _ hf10) (nlcc (nlc nll nl0)) nll),tv⟩) fun q4_=>?_
     refine bfe h (fun hb12 h=>?_) fun hb12 h=>?_
     ·refine bfe h (fun hb13 h=>?_) fun hb13 h=>?_
      ·refine wx tbk (hcat (Qtx p0 x2 x5 x8 x11) [(18,rp [(.tmp 20,B x11)] (B true)),(25,rp [(.tmp 27,(B ((decide (p0.Liquid<p0.Vapour)))))] (B true))]) (hap q4_ ⟨asb hb12 (amv rfl),asb hb13 (amv rfl),tv⟩)<|Qaf ?_
       obtain rfl:=osi h
       exact fend ⟨[(B ((decide (p0.Vapour≤4000))))],⟨rot,tv⟩,rfl⟩ nll
      ·exact wx tbk (hcat (Qtx p0 x2 x5 x8 x11) [(18,rp [(.tmp 20,B x11)] (B true)),(25,rp [(.tmp 27,(B ((decide (p0.Liquid<p0.Vapour)))))] (B false))]) (hap q4_ ⟨asb hb12 (amv rfl),asb hb13 (amv rfl),tv⟩)<|Qaf<|frb h
     ·exact wx tbk (hcat (Qtx p0 x2 x5 x8 x11) [(18,rp [(.tmp 20,B x11)] (B false))]) (hap q4_ ⟨asb hb12 (amv rfl),tv⟩)<|Qaf<|frb h
    ·exact wx tbk (hcat (Qvz p0 x2 x5 x8) [(13,rp [(.tmp 15,B x8)] (B false))]) (hap q3_ ⟨asb hb9 (amv rfl),tv⟩)<|Qaf<|frb h
   ·exact wx tbk (hcat (Qv0 p0 x2 x5) [(8,rp [(.tmp 10,B x5)] (B false))]) (hap q2_ ⟨asb hb6 (amv rfl),tv⟩)<|Qaf<|frb h
  ·exact wx tbk (hcat (Qv1 p0 x2) [(3,rp [(.tmp 5,B x2)] (B false))]) (hap q1_ ⟨asb hb3 (amv rfl),tv⟩)<|Qaf<|frb h
def Qdr (N:Nat) (p0:GRow):Option Bool:=
  (Qft N p0).bind fun x3=>
  some (!x3)
abbrev Qze (p0:GRow):AV:=.agg [(I p0.T),(I p0.P),(I p0.Liquid),(I p0.Vapour),(I p0.Silica)]
abbrev Qty:Slot:=.own 1 [[(.fn (.func 48) [] [])]]
theorem Qf3 (N:Nat) (p0:GRow) (r:Bool) (h:Qdr N p0=some r):Spec prog 55 [(Qze p0),(.ref 0 1 (0) 0)] [Qty] (B r) [Qty]:=by
  refine sF func55 1 fun _ _ _ hq hd0=>?_
  unfold Qdr at h
  refine wxz ?_
  obtain⟨x3,hf2,h⟩:=bno h
  refine wx tbk [(2,rp _ _)] ⟨apw Qw2 (Qhz N p0 _ hf2),tv⟩ ?_
  refine wmr (mto (n:=8) (l':=[(3,(B ((!x3))))]) (own':=[Qty]) [(3,(B ((!x3))))] [0] [Qty] hq (pw pn) (qb (lc (.rn (Qaj rn0 rn0)) ln) qn))<|Qaf ?_
  obtain rfl:=osi h
  exact⟨_,Mor.rfl,fio [(B ((!x3)))] ⟨rot,tv⟩⟩
def Qaz (N:Nat) (p0:List GRow) (k2:Unit→Option Int):Nat→Int→Option Int
  |0,_=>none
  |n5+1,y3=>
    bif (decide (y3<(p0.length:Int))) then
     (getI p0 y3).bind fun x7=>
     (Qdr N x7).bind fun x12=>
     bif x12 then
      some y3
     else
      Qaz N p0 k2 n5 (w64 (y3+1))
    else
     k2 ()
def Qb8 (N:Nat) (p0:List GRow):Option Int:=
  Qcd (fun _=>
    some (-1)) fun k2:Unit→Option Int=>
  Qaz N p0 k2 N 0
abbrev Qqz:AV:=.fn (.func 55) [] [(.ref 0 1 (0) 0)]
abbrev Qh8:Slot:=.own 1 [[(.fn (.func 48) [] [])]]
def Qzf (x7:GRow):AV:=.agg [(I x7.T),(I x7.P),(I x7.Liquid),(I x7.Vapour),(I x7.Silica)]
theorem Qd0 (N:Nat) (p0:List GRow) (r:Int) (h:Qb8 N p0=some r):Spec prog 58 [(.dat 5 (p0.map Qbd)),Qqz] [Qh8] (I r) [Qh8]:=by
  refine sF func58 1 fun _ _ _ hq hd0=>?_
  unfold Qb8 at h
  refine wxz ?_
  obtain⟨k2,hk_k2,h⟩:=jko h
  refine wjn (τ:=Unit) (fun t=>k2 t=some r) (fun _=>⟨mk 19 [],[Qh8]⟩) (fun t h=>?_) ?_
  ·subst hk_k2
   refine wxz<|wmr (mto (n:=19) (l':=[(4,(I ((-1))))]) (own':=[Qh8]) [(4,(I ((-1))))] [0] [Qh8] hq (pw pn) (qb (lc (.rn (Qaj rn0 rn0)) ln) qn))<|Qaf ?_
   obtain rfl:=osi h
   exact⟨_,Mor.rfl,fio [(I ((-1)))] ⟨rot,tv⟩⟩
  ·skip
   refine wx tbk [(1,rp _ _)] ⟨alq 5 Qbd p0 underlying51,tv⟩<|Qag ?_
   refine wmr (mto (n:=19) (l':=[(0,(.dat 5 (p0.map Qbd))),(1,Qqz),(7,(I ((p0.length:Int)))),(8,I 0)]) (own':=[Qh8]) [(0,(.dat 5 (p0.map Qbd))),(1,Qqz),(7,(I ((p0.length:Int)))),(8,I 0)] [0] [Qh8] hq (pc (rnd Qb0) (pc (.rn (Qaj rn0 (rnc (rqr rfl) rn0))) (pw (pw pn)))) (qb (lc (.rn (Qaj rn0 rn0)) ln) qn)) ?_
   refine Qb2 (τ:=Int) (fun n t=>Qaz N p0 k2 n t=some r) (fun y3=>⟨mk 19 [(0,(.dat 5 (p0.map Qbd))),(1,Qqz),(7,(I ((p0.length:Int)))),(8,I y3)],[Qh8]⟩) (fun t h=>by rw[Qaz] at h;cases h) (fun n5 ih y3 h=>?_) N (0) h
   rw[Qaz] at h
   skip
   refine wxz<|wsq ?_
   refine bfe h (fun hc6 h=>?_) fun hc6 h=>?_
   ·refine wft hc6<|Qah<|thn<|wsq<|Qag<|wxz ?_
    obtain⟨x7,hg8,h⟩:=bno h
    obtain⟨hi9,hj10⟩:=gsm hg8
    obtain⟨x12,hf11,h⟩:=bno h
    refine wx tbk [(3,rp _ _),(5,⟨_,_,_,_,false⟩)] ⟨aiq underlying51 ti71 Qbd hi9 hj10,Qcb (first:=[]) (cap:=[.ref 0 1 0 0]) (vs:=[(Qzf x7)]) (σr:=[Qh8]) (σr':=[Qh8]) (res':=(B x12)) [0] rfl Qwy (Qf3 N x7 _ hf11) rfl (Qbu (rnc (.plain _ (NLt.agg _ (nlcc (nlcc (nlc nll nl0))))) (rnc (Qak rfl) rn0))) (slc (Qad (rnc (.plain _ (NLt.fn _ _ _ nl0 nl0)) rn0)) Qal) (slc (Qad (rnc (.plain _ (NLt.fn _ _ _ nl0 nl0)) rn0)) Qal) (.plain _ nll) rfl rfl rfl,tv⟩ ?_
    refine bfe h (fun hc13 h=>?_) fun hc13 h=>?_
    ·refine wft hc13<|wxz ?_
     refine wmr (mto (n:=19) (l':=[(4,I y3)]) (own':=[Qh8]) [(4,I y3)] [0] [Qh8] hq (pw pn) (qb (lc (.rn (Qaj rn0 rn0)) ln) qn))<|Qaf<|Qbr<|Qao<|Qao<|Qbr<|Qao ?_
     obtain rfl:=osi h
     exact⟨_,Mor.rfl,fio [I y3] ⟨rot,tv⟩⟩
    ·exact wfn hc13<|Qah<|bln<|thn<|wxz1<|thn<|arm (mto (n:=19) [(0,(.dat 5 (p0.map Qbd))),(1,Qqz),(7,(I ((p0.length:Int)))),(8,(I (w64 (y3+1))))] [0] [Qh8] hq (pc (rnd Qb0) (pc (.rn (Qaj rn0 (rnc (rqr rfl) rn0))) (pw (pw pn)))) (qb (lc (.rn (Qaj rn0 rn0)) ln) qn)) (ih (w64 (y3+1)) h)
   ·exact wfn hc6<|Qbc<|Qaq<|Qaq<|Qbb rfl<|thn<|⟨(),h,(mto (n:=19) [] [0] [Qh8] hq pn (qb (lc (.rn (Qaj rn0 rn0)) ln) qn))⟩
def Qbz (N:Nat) (p0:List GRow):Option Bool:=
  (Qb8 N p0).bind fun x3=>
  some (decide (x3≥0))
abbrev Qx6:AV:=.fn (.func 55) [] [(.ref 0 1 (0) 0)]
abbrev Qpj:Slot:=.own 1 [[(.fn (.func 48) [] [])]]
theorem Qds (N:Nat) (p0:List GRow) (r:Bool) (h:Qbz N p0=some r):Spec prog 54 [(.dat 5 (p0.map Qbd)),Qx6] [Qpj] (B r) [Qpj]:=by
  refine sF func54 1 fun _ _ _ hq hd0=>?_
  unfold Qbz at h
  refine wxz ?_
  obtain⟨x3,hf2,h⟩:=bno h
  refine wx tbk [(2,⟨_,_,_,_,false⟩)] ⟨acq [(.dat 5 (p0.map Qbd)),Qx6] [Qpj] [Qpj] (I x3) [0] Qww (Qd0 N p0 _ hf2) (Qbu (rnc (pld Qb0) (rnc (Qaj rn0 (rnc (Qak rfl) rn0)) rn0))) (slc (Qad (rnc (.plain _ (NLt.fn _ _ _ nl0 nl0)) rn0)) Qal) (slc (Qad (rnc (.plain _ (NLt.fn _ _ _ nl0 nl0)) rn0)) Qal) (.plain _ nll),tv⟩ ?_
  refine wmr (mto (n:=9) (l':=[(4,(B ((decide (x3≥0)))))]) (own':=[Qpj]) [(4,(B ((decide (x3≥0)))))] [0] [Qpj] hq (pw pn) (qb (lc (.rn (Qaj rn0 rn0)) ln) qn))<|Qaf ?_
  obtain rfl:=osi h
  exact⟨_,Mor.rfl,fio [(B ((decide (x3≥0))))] ⟨rot,tv⟩⟩
def Qd2 (N:Nat) (p0:List GRow):Option Bool:=
  (Qbz N p0).bind fun x2=>
  some (!x2)
def Qx7:AV:=.fn (.func 55) [] [(.ref 0 1 (0) 0)]
def Qx8:Slot:=.own 1 [[(.fn (.func 48) [] [])]]
theorem Qgk (N:Nat) (p0:List GRow) (r:Bool) (h:Qd2 N p0=some r):Spec prog 47 [(.dat 5 (p0.map Qbd)),(.fn (.func 48) [] [])] [] (B r) []:=by
  refine sA func47 0 fun _ _ _ hq hd0=>?_
  unfold Qd2 at h
  refine wxz ?_
  obtain⟨x2,hf1,h⟩:=bno h
  refine wx tbk [(1,rp [(.tmp 3,.ref 0 1 0 0)] Qx7),(2,⟨_,_,_,_,false⟩)] ⟨Qd1 (fs:=[]) (cs:=[.ref 0 1 0 0]) rfl rfl rfl rfl,acq [(.dat 5 (p0.map Qbd)),Qx7] [Qx8] [Qx8] (B x2) [0] Qwz (Qds N p0 _ hf1) (Qbu (rnc (pld Qb0) (rnc (Qaj rn0 (rnc (Qak rfl) rn0)) rn0))) (slc (Qad (rnc (.plain _ (NLt.fn _ _ _ nl0 nl0)) rn0)) Qal) (slc (Qad (rnc (.plain _ (NLt.fn _ _ _ nl0 nl0)) rn0)) Qal) (.plain _ nll),tv⟩<|Qaf ?_
  obtain rfl:=osi h
  exact fend ⟨[(B ((!x2)))],⟨rot,tv⟩,rfl⟩ nll
def Qcn (N:Nat) (p0:List GRow) (k2:Unit→Option Bool):Nat→Int→Option Bool
  |0,_=>none
  |n6+1,y4=>
    bif (decide (y4<((p0.drop (1:Int).toNat).length:Int))) then
     (getI (p0.drop (1:Int).toNat) y4).bind fun x8=>
     (getI p0 y4).bind fun x12=>
     bif (decide (x8.T≤x12.T)) then
      some false
     else
      bif (decide (x8.P≤x12.P)) then
       some false
      else
       bif (decide (x8.Liquid≤x12.Liquid)) then
        some false
       else
        bif (decide (x8.Silica<x12.Silica)) then
         some false
        else
         Qcn N p0 k2 n6 (w64 (y4+1))
    else
     k2 ()
def Qdl (N:Nat) (p0:List GRow):Option Bool:=
  Qcd (fun _=>
    Qcd (fun _=>
      some true) fun k2:Unit→Option Bool=>
    chk (decide (0≤1)&&decide (1≤(p0.length:Int))&&decide ((p0.length:Int)≤(p0.length:Int)))<|
    Qcn N p0 k2 N 0) fun k1:Unit→Option Bool=>
  (Qbq N (p0.length:Int) 2 20).bind fun x21=>
  bif (!x21) then
   some false
  else
   (Qd2 N p0).bind fun x24=>
   bif (!x24) then
    some false
   else
    k1 ()
def Qq1 (p0:List GRow):AV:=.dat 5 ((p0.drop (1:Int).toNat:List GRow).map Qbd)
def Qol (x8 x12:GRow):List (Nat×Rec):=[(5,rp [((.tmp 31),(B ((decide (x8.T≤x12.T)))))] (B false))]
def Qq0 (p0:List GRow) (x21:Bool):List (Nat×Rec):=[(1,rp [((.tmp 6),(.dat 5 (p0.map Qbd)))] (I ((p0.length:Int)))),(2,rp [fu 23,((.tmp 7),(I ((p0.length:Int)))),ci 2,ci 20] (B x21))]
theorem Qd6 (N:Nat) (p0:List GRow) (r:Bool) (h:Qdl N p0=some r):Spec prog 32 [(.dat 5 (p0.map Qbd))] [] (B r) []:=by
  refine sA func32 0 fun _ _ _ hq hd0=>?_
  unfold Qdl at h
  refine wxz ?_
  obtain⟨k1,hk_k1,h⟩:=jko h
  refine wjn (τ:=Unit) (fun t=>k1 t=some r) (fun _=>⟨mk 54 [(0,(.dat 5 (p0.map Qbd)))],[]⟩) (fun t h=>?_) ?_
  ·subst hk_k1
   obtain⟨k2,hk_k2,h⟩:=jko h
   refine wjn (τ:=Unit) (fun t=>k2 t=some r) (fun _=>⟨mk 54 [],[]⟩) (fun t h=>?_) ?_
   ·subst hk_k2
    exact wxz<|Qaf<|frb h
   ·skip
    obtain⟨hs3,h⟩:=cko h
    refine wx tbk [(1,rp [(.tmp 15,(.dat 5 (p0.map Qbd))),ci 1] (Qq1 p0)),(2,rp _ _)] ⟨Qhi (k:=.i64) (k':=.i64) (lo:=some (.const (.int .i64 1))) (hi:=none) (l:=1) (hh:=((p0.length:Nat):Int)) rfl underlying52 ti71 rfl (fun e=>nomatch e) (fun _=>by simp) (Qqm hs3) (Qql hs3) (Qxw Qbd hs3) (Qyo Qbd),alq 5 Qbd (p0.drop (1:Int).toNat) underlying52,tv⟩<|Qag ?_
    refine wmr (mto (n:=54) (l':=[(0,(.dat 5 (p0.map Qbd))),(16,(Qq1 p0)),(17,(I (((p0.drop (1:Int).toNat).length:Int)))),(18,I 0)]) (own':=[]) [(0,(.dat 5 (p0.map Qbd))),(16,(Qq1 p0)),(17,(I (((p0.drop (1:Int).toNat).length:Int)))),(18,I 0)] [] [] hq (pc (rnd Qb0) (pc (rnd Qb0) (pw (pw pn)))) qn) ?_
    refine Qb2 (τ:=Int) (fun n t=>Qcn N p0 k2 n t=some r) (fun y4=>⟨mk 54 [(0,(.dat 5 (p0.map Qbd))),(16,(Qq1 p0)),(17,(I (((p0.drop (1:Int).toNat).length:Int)))),(18,I y4)],[]⟩) (fun t h=>by rw[Qcn] at h;cases h) (fun n6 ih y4 h=>?_) N (0) h
    rw[Qcn] at h
    skip
    refine wxz<|wsq ?_
    refine bfe h (fun hc7 h=>?_) fun hc7 h=>?_
    ·refine wft hc7<|Qah<|thn<|wsq<|Qag ?_
     obtain⟨x8,hg9,h⟩:=bno h
     obtain⟨hi10,hj11⟩:=gsm hg9
     refine wx tbk [(1,rp _ _)] ⟨aiq underlying52 ti71 Qbd hi10 hj11,tv⟩ ?_
     obtain⟨x12,hg13,h⟩:=bno h
     obtain⟨hi14,hj15⟩:=gsm hg13
     refine wx tbk [(2,rp _ _)] ⟨aiq underlying52 ti71 Qbd hi14 hj15,tv⟩ ?_
     refine bfe h (fun hb16 h=>?_) fun hb16 h=>?_
     ·exact wx tbk [(5,rp [(.tmp 31,(B ((decide (x8.T≤x12.T)))))] (B true))] ⟨asb hb16 (amv rfl),tv⟩<|wtr<|wxz<|Qaf<|Qbr<|Qao<|Qao<|Qbr<|Qao<|frb h
     ·refine hpre (A:=(Qol x8 x12)) ⟨asb hb16 (amv rfl),tv⟩ fun q1_=>?_
      refine bfe h (fun hb17 h=>?_) fun hb17 h=>?_
      ·exact wx tbk (hcat (Qol x8 x12) [(12,rp [(.tmp 38,(B ((decide (x8.P≤x12.P)))))] (B true))]) (hap q1_ ⟨asb hb17 (amv rfl),tv⟩)<|wtr<|wxz<|Qaf<|Qbr<|Qao<|Qao<|Qbr<|Qao<|frb h
      ·refine bfe h (fun hb18 h=>?_) fun hb18 h=>?_
       ·exact wx tbk (hcat (Qol x8 x12) [(12,rp [(.tmp 38,(B ((decide (x8.P≤x12.P)))))] (B false)),(19,rp [(.tmp 45,(B ((decide (x8.Liquid≤x12.Liquid)))))] (B true))]) (hap q1_ ⟨asb hb17 (amv rfl),asb hb18 (amv rfl),tv⟩)<|wtr<|wxz<|Qaf<|Qbr<|Qao<|Qao<|Qbr<|Qao<|frb h
       ·refine wx tbk (hcat (Qol x8 x12) [(12,rp [(.tmp 38,(B ((decide (x8.P≤x12.P)))))] (B false)),(19,rp [(.tmp 45,(B ((decide (x8.Liquid≤x12.Liquid)))))] (B false))]) (hap q1_ ⟨asb hb17 (amv rfl),asb hb18 (amv rfl),tv⟩) ?_
        refine bfe h (fun hc19 h=>?_) fun hc19 h=>?_
        ·exact wft hc19<|wxz<|Qaf<|Qbr<|Qao<|Qao<|Qbr<|Qao<|frb h
        ·exact wfn hc19<|Qah<|bln<|thn<|wxz1<|thn<|arm (mto (n:=54) [(0,(.dat 5 (p0.map Qbd))),(16,(Qq1 p0)),(17,(I (((p0.drop (1:Int).toNat).length:Int)))),(18,(I (w64 (y4+1))))] [] [] hq (pc (rnd Qb0) (pc (rnd Qb0) (pw (pw pn)))) qn) (ih (w64 (y4+1)) h)
    ·exact wfn hc7<|Qbc<|Qaq<|Qaq<|Qbb rfl<|thn<|⟨(),h,(mto (n:=54) [] [] [] hq pn qn)⟩
  ·skip
   obtain⟨x21,hf20,h⟩:=bno h
   refine hpre (A:=(Qq0 p0 x21)) ⟨alq 5 Qbd p0 underlying52,apv Qfv (Qbs N (p0.length:Int) 2 20 _ hf20) (nlcc (nlc nll nl0)) nll,tv⟩ fun q2_=>?_
   refine bfe h (fun hb22 h=>?_) fun hb22 h=>?_
   ·exact wx tbk (hcat (Qq0 p0 x21) [(4,rp [(.tmp 9,(B ((!x21))))] (B true))]) (hap q2_ ⟨asb hb22 (amv rfl),tv⟩)<|wtr<|wxz<|Qaf<|Qao<|frb h
   ·obtain⟨x24,hf23,h⟩:=bno h
    refine wx tbk (hcat (Qq0 p0 x21) [(4,rp [(.tmp 9,(B ((!x21))))] (B false)),(6,rp [(.tmp 10,B false),fu 47,(.tmp 11,(.dat 5 (p0.map Qbd))),fu 48] (B x24))]) (hap q2_ ⟨asb hb22 (amv rfl),ag_ (acq [(.dat 5 (p0.map Qbd)),(.fn (.func 48) [] [])] [] [] (B x24) [] Qw3 (Qgk N p0 _ hf23) (Qbu (rnc (pld Qb0) (rnc (.plain _ (NLt.fn _ _ _ nl0 nl0)) rn0))) Qal Qal (.plain _ nll)),tv⟩) ?_
    refine bfe h (fun hc25 h=>?_) fun hc25 h=>?_
    ·exact wft hc25<|wxz<|Qaf<|Qao<|frb h
    ·exact wfn hc25<|Qah<|thn<|⟨(),h,(mto (n:=54) [(0,(.dat 5 (p0.map Qbd)))] [] [] hq (pc (rnd Qb0) pn) qn)⟩
def Qfs (N:Nat) (p0:List GRow) (p1:Int):Option Bool:=
  (Qbq N p1 0 (w64 ((p0.length:Int)-1))).bind fun x2=>
  some x2
theorem Qhy (N:Nat) (p0:List GRow) (p1:Int) (r:Bool) (h:Qfs N p0 p1=some r):Spec prog 33 [(.dat 5 (p0.map Qbd)),(I p1)] [] (B r) []:=by
  refine sA func33 0 fun _ _ _ hq hd0=>?_
  unfold Qfs at h
  refine wxz ?_
  obtain⟨x2,hf1,h⟩:=bno h
  exact wx tbk [(2,rp _ _),(4,rp _ _)] ⟨alq 5 Qbd p0 underlying52,apw Qfv (Qbs N p1 0 (w64 ((p0.length:Int)-1)) _ hf1),tv⟩<|Qaf<|frb h
def Qex (_N:Nat) (p0:List GRow) (p1:Int):Option Qga:=
  (getI p0 p1).bind fun x1=>
  some (⟨x1⟩:Qga)
def Qvy (x1:GRow):AV:=.agg [(I x1.T),(I x1.P),(I x1.Liquid),(I x1.Vapour),(I x1.Silica)]
theorem Qgf (N:Nat) (p0:List GRow) (p1:Int) (r:Qga) (h:Qex N p0 p1=some r):Spec prog 34 [(.dat 5 (p0.map Qbd)),(I p1)] [] (.agg (Qii r)) []:=by
  refine sA func34 0 fun _ _ _ hq hd0=>?_
  unfold Qex at h
  refine wxz ?_
  obtain⟨x1,hg2,h⟩:=bno h
  obtain⟨hi3,hj4⟩:=gsm hg2
  refine wx tbk [(2,rp _ _),(4,mv 8 (Qvy x1))] ⟨aiq underlying52 ti71 Qbd hi3 hj4,Qap (vs:=[(Qvy x1)]) rfl ts73 tz73 rfl (by rfl) rfl,tv⟩<|Qaf ?_
  obtain rfl:=osi h
  exact fie [(Qvy x1)] ⟨Qbk (n:=0) (m:=5) (j:=0) (i:=0) (xs:=[[I x1.T,I x1.P,I x1.Liquid,I x1.Vapour,I x1.Silica]]) (by kernel_rfl) (by kernel_rfl) ti73 (by decide) rfl (nle rfl) rfl,tv⟩
def Qev (_N:Nat) (p0:Qga) (p1:Qaa):Option Int:=
  (some (w64 (p1.Heat-(w64 (p1.Mass*p0.Row.Liquid))))).bind fun x1=>
  bif (decide (x1≤0)) then
   some 0
  else
   bif (decide (p1.Heat≥(w64 (p1.Mass*p0.Row.Vapour)))) then
    some p1.Mass
   else
    chk ((w64 (p0.Row.Vapour-p0.Row.Liquid)) != 0)<|
    (some (w64 (x1.tdiv (w64 (p0.Row.Vapour-p0.Row.Liquid))))).bind fun x6=>
    some x6
theorem Qg8 (N:Nat) (p0:Qga) (p1:Qaa) (r:Int) (h:Qev N p0 p1=some r):Spec prog 49 [(.agg (Qii p0)),(.agg (Qae p1))] [] (I r) []:=by
  refine sA func49 0 fun _ _ _ hq hd0=>?_
  unfold Qev at h
  refine wxz ?_
  obtain⟨x1,hl2,h⟩:=bno h
  refine wx tbk [(9,rp [(.tmp 14,(I (w64 (p1.Heat-(w64 (p1.Mass*p0.Row.Liquid))))))] (I x1))] ⟨Qeq hl2 (aas rfl),tv⟩<|wsq<|Qag<|wxz ?_
  refine bfe h (fun hc3 h=>?_) fun hc3 h=>?_
  ·refine wft hc3<|wxz<|Qaf<|Qbr<|Qao ?_
   obtain rfl:=osi h
   exact fend ⟨[I 0],⟨rot,tv⟩,rfl⟩ nll
  ·refine wfn hc3<|wxz ?_
   refine bfe h (fun hc4 h=>?_) fun hc4 h=>?_
   ·refine wft hc4<|wxz<|Qaf<|Qbr<|Qao ?_
    obtain rfl:=osi h
    exact fend ⟨[I p1.Mass],⟨rot,tv⟩,rfl⟩ nll
   ·refine wfn hc4<|Qah<|bln<|thn ?_
    obtain⟨hz5,h⟩:=cko h
    obtain⟨x6,hl7,h⟩:=bno h
    refine wx tbk [(8,rp [(.tmp 30,I x1),(.tmp 37,(I (w64 (p0.Row.Vapour-p0.Row.Liquid))))] (I (w64 (x1.tdiv (w64 (p0.Row.Vapour-p0.Row.Liquid)))))),(9,rp [(.tmp 38,(I (w64 (x1.tdiv (w64 (p0.Row.Vapour-p0.Row.Liquid))))))] (I x6))] ⟨Qf8 rfl (Qf7 hz5),Qeq hl7 (aas rfl),tv⟩<|Qaf ?_
    obtain rfl:=osi h
    exact fend ⟨[I x6],⟨rot,tv⟩,rfl⟩ nll
def Qew (N:Nat) (p0:Qga) (p1:Qaa):Option Qfx:=
  (Qev N (⟨(⟨p0.Row.T,p0.Row.P,p0.Row.Liquid,p0.Row.Vapour,p0.Row.Silica⟩:GRow)⟩:Qga) p1).bind fun x2=>
  Qcd (fun ⟨y3,y4,y5,y6,y7,_,y9⟩=>
    (some (if (w64 (y6*p0.Row.Silica))<p1.Silica then w64 (y6*p0.Row.Silica) else p1.Silica)).bind fun x11=>
    bif (decide (y6>0)) then
     (some (if (w64 (y7-(w64 (y6*p0.Row.Liquid))))>0 then w64 (y7-(w64 (y6*p0.Row.Liquid))) else 0)).bind fun x14=>
     some (⟨(⟨y3,y4,0,y5⟩:Qaa),(⟨y6,y7,x11,y9⟩:Qaa),x14,w64 (p1.Silica-x11)⟩:Qfx)
    else
     some (⟨(⟨y3,y4,0,y5⟩:Qaa),(⟨y6,y7,x11,y9⟩:Qaa),0,w64 (p1.Silica-x11)⟩:Qfx)) fun k10:Int×Int×Int×Int×Int×Int×Int→Option Qfx=>
  bif (x2==0) then
   k10 (0,0,0,p1.Mass,p1.Heat,p1.Silica,p1.Gas)
  else
   bif (x2==p1.Mass) then
    k10 (x2,p1.Heat,p1.Gas,0,0,0,0)
   else
    k10 (x2,w64 (x2*p0.Row.Vapour),p1.Gas,w64 (p1.Mass-x2),w64 (p1.Heat-(w64 (x2*p0.Row.Vapour))),0,0)
def Qtw (p0:Qga):Slot:=.own 5 [[(I p0.Row.T),(I p0.Row.P),(I p0.Row.Liquid),(I p0.Row.Vapour),(I p0.Row.Silica)]]
def Qtv (p1:Qaa):Slot:=.own 4 [[(I p1.Mass),(I p1.Heat),(I p1.Silica),(I p1.Gas)]]
theorem Qge (N:Nat) (p0:Qga) (p1:Qaa) (r:Qfx) (h:Qew N p0 p1=some r):Spec prog 35 [(.agg (Qii p0)),(.agg (Qae p1))] [] (.agg (Qjf r)) []:=by
  refine sA func35 0 fun _ _ _ hq hd0=>?_
  unfold Qew at h
  refine wxz ?_
  obtain⟨x2,hf1,h⟩:=bno h
  refine wx tbk [(2,rp _ _)] ⟨apw Qw1 (Qg8 N (⟨(⟨p0.Row.T,p0.Row.P,p0.Row.Liquid,p0.Row.Vapour,p0.Row.Silica⟩:GRow)⟩:Qga) p1 _ hf1),tv⟩ ?_
  obtain⟨k10,hk_k10,h⟩:=jko h
  refine wjn (τ:=Int×Int×Int×Int×Int×Int×Int) (fun t=>k10 t=some r) (fun ⟨y3,y4,y5,y6,y7,y8,y9⟩=>⟨mk 87 [(2,.ref 0 5 0 0),(3,.ref 1 4 0 0),(4,.ref 2 10 0 0)],[(Qtw p0),(Qtv p1),(.own 10 [[I y3,I y4,I 0,I y5,I y6,I y7,I y8,I y9,I 0,I 0]])]⟩) (fun t h=>?_) ?_
  ·subst hk_k10
   obtain⟨y3,y4,y5,y6,y7,y8,y9⟩:=t
   obtain⟨x11,hl12,h⟩:=bno h
   refine wx tbk [(9,rp [(.tmp 52,I p1.Silica),(.tmp 59,(I (w64 (y6*p0.Row.Silica))))] (I x11))] ⟨Qeq hl12 (Qtn rfl),tv⟩<|wxe<|wsq<|wxz ?_
   refine bfe h (fun hc13 h=>?_) fun hc13 h=>?_
   ·refine wft hc13 ?_
    obtain⟨x14,hl15,h⟩:=bno h
    refine wx1 tbk [(11,rp [ci 0,(.tmp 83,(I (w64 (y7-(w64 (y6*p0.Row.Liquid))))))] (I x14))] ⟨Qeq hl15 (Qm4 rfl),tv⟩<|thn<|wxz<|Qaf ?_
    obtain rfl:=osi h
    exact fie [(.agg [I y3,I y4,I 0,I y5,I y6,I y7,I x11,I y9,I x14,(I (w64 (p1.Silica-x11)))])] ⟨Qbk (n:=2) (m:=10) (j:=0) (i:=0) (xs:=[[I y3,I y4,I 0,I y5,I y6,I y7,I x11,I y9,I x14,(I (w64 (p1.Silica-x11)))]]) (by kernel_rfl) (by kernel_rfl) ti48 (by decide) rfl (nle rfl) rfl,tv⟩
   ·refine wfn hc13<|Qah<|thn<|wxz<|Qaf ?_
    obtain rfl:=osi h
    exact fie [(.agg [I y3,I y4,I 0,I y5,I y6,I y7,I x11,I y9,I 0,(I (w64 (p1.Silica-x11)))])] ⟨Qbk (n:=2) (m:=10) (j:=0) (i:=0) (xs:=[[I y3,I y4,I 0,I y5,I y6,I y7,I x11,I y9,I 0,(I (w64 (p1.Silica-x11)))]]) (by kernel_rfl) (by kernel_rfl) ti48 (by decide) rfl (nle rfl) rfl,tv⟩
  ·skip
   refine Qag<|wxz ?_
   refine bfe h (fun hc16 h=>?_) fun hc16 h=>?_
   ·exact wft hc16<|wxz1<|bln<|thn<|⟨(0,0,0,p1.Mass,p1.Heat,p1.Silica,p1.Gas),h,(mto (n:=87) [(2,.ref 0 5 0 0),(3,.ref 1 4 0 0),(4,.ref 2 10 0 0)] [0,1,2] [(Qtw p0),(Qtv p1),(.own 10 [[I 0,I 0,I 0,I 0,I p1.Mass,I p1.Heat,I p1.Silica,I p1.Gas,I 0,I 0]])] hq (prr (prr (prr pn))) (qb (lcc (lcc (lc rwl ln))) (qb (lcc (lcc ln)) (qb (lcc (lcc (lcc (lcc (lcc ln))))) qn))))⟩
   ·refine wfn hc16<|wxz ?_
    refine bfe h (fun hc17 h=>?_) fun hc17 h=>?_
    ·exact wft hc17<|wx1 tbk [(5,rp _ _)] ⟨Qap (vs:=[I x2,I p1.Heat,I p1.Gas]) rfl ts27 tz27 rfl (by rfl) rfl,tv⟩<|bln<|thn<|⟨(x2,p1.Heat,p1.Gas,0,0,0,0),h,(mto (n:=87) [(2,.ref 0 5 0 0),(3,.ref 1 4 0 0),(4,.ref 2 10 0 0)] [0,1,2] [(Qtw p0),(Qtv p1),(.own 10 [[I x2,I p1.Heat,I 0,I p1.Gas,I 0,I 0,I 0,I 0,I 0,I 0]])] hq (prr (prr (prr pn))) (qb (lcc (lcc (lc rwl ln))) (qb (lcc (lcc ln)) (qb (lcc (lcc (lcc (lcc (lcc ln))))) qn))))⟩
    ·refine wfn hc17<|wx tbk [(8,rp _ _)] ⟨Qap (vs:=[I x2,(I (w64 (x2*p0.Row.Vapour))),I p1.Gas]) rfl ts27 tz27 rfl (by rfl) rfl,tv⟩ ?_
     exact wx1 tbk [(12,rp _ _)] ⟨Qap (vs:=[(I (w64 (p1.Mass-x2))),(I (w64 (p1.Heat-(w64 (x2*p0.Row.Vapour)))))]) rfl ts27 tz27 rfl (by rfl) rfl,tv⟩<|bln<|thn<|⟨(x2,w64 (x2*p0.Row.Vapour),p1.Gas,w64 (p1.Mass-x2),w64 (p1.Heat-(w64 (x2*p0.Row.Vapour))),0,0),h,(mto (n:=87) [(2,.ref 0 5 0 0),(3,.ref 1 4 0 0),(4,.ref 2 10 0 0)] [0,1,2] [(Qtw p0),(Qtv p1),(.own 10 [[I x2,(I (w64 (x2*p0.Row.Vapour))),I 0,I p1.Gas,(I (w64 (p1.Mass-x2))),(I (w64 (p1.Heat-(w64 (x2*p0.Row.Vapour))))),I 0,I 0,I 0,I 0]])] hq (prr (prr (prr pn))) (qb (lcc (lcc (lc rwl ln))) (qb (lcc (lcc ln)) (qb (lcc (lcc (lcc (lcc (lcc ln))))) qn))))⟩
def Qhb (N:Nat) (p0:List GRow) (p1:Int) (p2:Qaa):Option (Qfx×Int):=
  (Qdl N p0).bind fun x2=>
  bif (!x2) then
   some ((⟨(⟨0,0,0,0⟩:Qaa),(⟨0,0,0,0⟩:Qaa),0,0⟩:Qfx),1)
  else
   (Qfs N p0 p1).bind fun x5=>
   bif (!x5) then
    some ((⟨(⟨0,0,0,0⟩:Qaa),(⟨0,0,0,0⟩:Qaa),0,0⟩:Qfx),2)
   else
    (Qcm N p2).bind fun x8=>
    bif (!x8) then
     some ((⟨(⟨0,0,0,0⟩:Qaa),(⟨0,0,0,0⟩:Qaa),0,0⟩:Qfx),1)
    else
     (Qex N p0 p1).bind fun x11=>
     (Qew N (⟨(⟨x11.Row.T,x11.Row.P,x11.Row.Liquid,x11.Row.Vapour,x11.Row.Silica⟩:GRow)⟩:Qga) p2).bind fun x13=>
     some ((⟨(⟨x13.Steam.Mass,x13.Steam.Heat,x13.Steam.Silica,x13.Steam.Gas⟩:Qaa),(⟨x13.Water.Mass,x13.Water.Heat,x13.Water.Silica,x13.Water.Gas⟩:Qaa),x13.Rest,x13.Scale⟩:Qfx),0)
def Qv2:AV:=.agg [(I (0)),(I (0)),(I (0)),(I (0)),(I (0)),(I (0)),(I (0)),(I (0)),(I (0)),(I (0))]
def Qzg (x13:Qfx):AV:=.agg [(I x13.Steam.Mass),(I x13.Steam.Heat),(I x13.Steam.Silica),(I x13.Steam.Gas),(I x13.Water.Mass),(I x13.Water.Heat),(I x13.Water.Silica),(I x13.Water.Gas),(I x13.Rest),(I x13.Scale)]
theorem Qjo (N:Nat) (p0:List GRow) (p1:Int) (p2:Qaa) (r:(Qfx×Int)) (h:Qhb N p0 p1 p2=some r):Spec prog 15 [(.dat 5 (p0.map Qbd)),(I p1),(.agg (Qae p2))] [] (.tup [(.agg (Qjf r.1)),(I r.2)]) []:=by
  refine sA func15 0 fun _ _ _ hq hd0=>?_
  unfold Qhb at h
  refine wxz<|wsq<|Qag ?_
  obtain⟨x2,hf1,h⟩:=bno h
  refine wx tbk [(1,rp _ _)] ⟨apw Qnv (Qd6 N p0 _ hf1),tv⟩ ?_
  refine bfe h (fun hc3 h=>?_) fun hc3 h=>?_
  ·refine wft hc3<|wx tbk [(0,rp _ _)] ⟨Qap (vs:=[]) rfl ts48 tz48 rfl (by rfl) rfl,tv⟩<|Qaf<|Qbr<|Qao ?_
   obtain rfl:=osi h
   exact fie [Qv2,I 1] ⟨Qbk (n:=1) (m:=10) (j:=0) (i:=0) (xs:=[[I 0,I 0,I 0,I 0,I 0,I 0,I 0,I 0,I 0,I 0]]) (by kernel_rfl) (by kernel_rfl) ti48 (by decide) rfl (nle rfl) rfl,rot,tv⟩
  ·refine wfn hc3 ?_
   obtain⟨x5,hf4,h⟩:=bno h
   refine wx tbk [(2,rp _ _)] ⟨apw Qxb (Qhy N p0 p1 _ hf4),tv⟩ ?_
   refine bfe h (fun hc6 h=>?_) fun hc6 h=>?_
   ·refine wft hc6<|wx tbk [(0,rp _ _)] ⟨Qap (vs:=[]) rfl ts48 tz48 rfl (by rfl) rfl,tv⟩<|Qaf<|Qbr<|Qao ?_
    obtain rfl:=osi h
    exact fie [Qv2,I 2] ⟨Qbk (n:=1) (m:=10) (j:=0) (i:=0) (xs:=[[I 0,I 0,I 0,I 0,I 0,I 0,I 0,I 0,I 0,I 0]]) (by kernel_rfl) (by kernel_rfl) ti48 (by decide) rfl (nle rfl) rfl,rot,tv⟩
   ·refine wfn hc6 ?_
    obtain⟨x8,hf7,h⟩:=bno h
    refine wx tbk [(1,rp _ _)] ⟨apw Qny (Qd3 N p2 _ hf7),tv⟩ ?_
    refine bfe h (fun hc9 h=>?_) fun hc9 h=>?_
    ·refine wft hc9<|wx tbk [(0,rp _ _)] ⟨Qap (vs:=[]) rfl ts48 tz48 rfl (by rfl) rfl,tv⟩<|Qaf<|Qbr<|Qao ?_
     obtain rfl:=osi h
     exact fie [Qv2,I 1] ⟨Qbk (n:=1) (m:=10) (j:=0) (i:=0) (xs:=[[I 0,I 0,I 0,I 0,I 0,I 0,I 0,I 0,I 0,I 0]]) (by kernel_rfl) (by kernel_rfl) ti48 (by decide) rfl (nle rfl) rfl,rot,tv⟩
    ·refine wfn hc9<|Qah<|bln<|thn ?_
     obtain⟨x11,hf10,h⟩:=bno h
     obtain⟨x13,hf12,h⟩:=bno h
     refine wxd tbk [(2,rp _ _),(4,rp _ _)] ⟨apw Qs3 (Qgf N p0 p1 _ hf10),apw Qs2 (Qge N (⟨(⟨x11.Row.T,x11.Row.P,x11.Row.Liquid,x11.Row.Vapour,x11.Row.Silica⟩:GRow)⟩:Qga) p2 _ hf12),tv⟩<|Qaf ?_
     obtain rfl:=osi h
     exact fie [(Qzg x13),I 0] ⟨Qbk (n:=1) (m:=10) (j:=0) (i:=0) (xs:=[[I x13.Steam.Mass,I x13.Steam.Heat,I x13.Steam.Silica,I x13.Steam.Gas,I x13.Water.Mass,I x13.Water.Heat,I x13.Water.Silica,I x13.Water.Gas,I x13.Rest,I x13.Scale]]) (by kernel_rfl) (by kernel_rfl) ti48 (by decide) rfl (nle rfl) rfl,rot,tv⟩
def Qey (N:Nat) (p0:Qaa) (p1:List GRow) (p2:Int):Option Bool:=
  (Qex N p1 (w64 (p2-1))).bind fun x3=>
  (Qew N (⟨(⟨x3.Row.T,x3.Row.P,x3.Row.Liquid,x3.Row.Vapour,x3.Row.Silica⟩:GRow)⟩:Qga) p0).bind fun x5=>
  some (x5.Scale==0)
abbrev Qzc (p0:Qaa):AV:=.agg [(I p0.Mass),(I p0.Heat),(I p0.Silica),(I p0.Gas)]
abbrev Qtt (p1:List GRow):Slot:=.own 1 [[(.dat 5 (p1.map Qbd))]]
theorem Qhc (N:Nat) (p0:Qaa) (p1:List GRow) (p2:Int) (r:Bool) (h:Qey N p0 p1 p2=some r):Spec prog 37 [(Qzc p0),(.ref 0 1 (0) 0),(.ref 1 1 (0) 0)] [(Qtt p1),(.own 1 [[(I p2)]])] (B r) [(Qtt p1),(.own 1 [[(I p2)]])]:=by
  refine sF func37 2 fun _ _ _ hq hd0=>?_
  unfold Qey at h
  refine wxz ?_
  obtain⟨x3,hf2,h⟩:=bno h
  obtain⟨x5,hf4,h⟩:=bno h
  refine wxd tbk [(3,rp _ _),(5,rp _ _)] ⟨apw Qs3 (Qgf N p1 (w64 (p2-1)) _ hf2),apw Qs2 (Qge N (⟨(⟨x3.Row.T,x3.Row.P,x3.Row.Liquid,x3.Row.Vapour,x3.Row.Silica⟩:GRow)⟩:Qga) p0 _ hf4),tv⟩ ?_
  refine wmr (mto (n:=13) (l':=[(4,(B ((x5.Scale==0))))]) (own':=[(Qtt p1),(.own 1 [[I p2]])]) [(4,(B ((x5.Scale==0))))] [0,1] [(Qtt p1),(.own 1 [[I p2]])] hq (pw pn) (qb (lc (rnd Qb0) ln) (qb (lc rwl ln) qn)))<|Qaf ?_
  obtain rfl:=osi h
  exact⟨_,Mor.rfl,fio [(B ((x5.Scale==0)))] ⟨rot,tv⟩⟩
def Qdf (N:Nat) (p0:Qaa) (p1:List GRow) (p2:Int):Option Bool:=
  (Qey N p0 p1 p2).bind fun x3=>
  some (!x3)
abbrev Qx3 (p0:Qaa):AV:=.agg [(I p0.Mass),(I p0.Heat),(I p0.Silica),(I p0.Gas)]
abbrev Qtu:AV:=.fn (.func 37) [] [(.ref 1 1 (0) 0),(.ref 2 1 (0) 0)]
abbrev Qpe (p1:List GRow):Slot:=.own 1 [[(.dat 5 (p1.map Qbd))]]
theorem Qff (N:Nat) (p0:Qaa) (p1:List GRow) (p2:Int) (r:Bool) (h:Qdf N p0 p1 p2=some r):Spec prog 51 [(Qx3 p0),(.ref 0 1 (0) 0)] [(.own 1 [[Qtu]]),(Qpe p1),(.own 1 [[(I p2)]])] (B r) [(.own 1 [[Qtu]]),(Qpe p1),(.own 1 [[(I p2)]])]:=by
  refine sF func51 3 fun _ _ _ hq hd0=>?_
  unfold Qdf at h
  refine wxz ?_
  obtain⟨x3,hf2,h⟩:=bno h
  refine wx tbk [(2,⟨_,_,_,_,false⟩)] ⟨Qcb (first:=[]) (cap:=[.ref 1 1 0 0,.ref 2 1 0 0]) (vs:=[(Qx3 p0)]) (σr:=[(Qpe p1),(.own 1 [[I p2]])]) (σr':=[(Qpe p1),(.own 1 [[I p2]])]) (res':=(B x3)) [1,2] rfl Qxa (Qhc N p0 p1 p2 _ hf2) rfl (Qbu (rnc (.plain _ (NLt.agg _ (nlcc (nlcc nl0)))) (rnc (Qak rfl) (rnc (Qak rfl) rn0)))) (slc (Qad (rnc (pld Qb0) rn0)) (slc (Qad (rnc (.plain _ nll) rn0)) Qal)) (slc (Qad (rnc (pld Qb0) rn0)) (slc (Qad (rnc (.plain _ nll) rn0)) Qal)) (.plain _ nll) rfl rfl rfl,tv⟩ ?_
  refine wmr (mto (n:=8) (l':=[(3,(B ((!x3))))]) (own':=[(.own 1 [[Qtu]]),(Qpe p1),(.own 1 [[I p2]])]) [(3,(B ((!x3))))] [0,1,2] [(.own 1 [[Qtu]]),(Qpe p1),(.own 1 [[I p2]])] hq (pw pn) (qb (lc (.rn (Qaj rn0 (rnc (rqr rfl) (rnc (rqr rfl) rn0)))) ln) (qb (lc (rnd Qb0) ln) (qb (lc rwl ln) qn))))<|Qaf ?_
  obtain rfl:=osi h
  exact⟨_,Mor.rfl,fio [(B ((!x3)))] ⟨rot,tv⟩⟩
def Qau (N:Nat) (p0:List Qaa) (p1:List GRow) (k2:Unit→Option Int) (p2:Int):Nat→Int→Option Int
  |0,_=>none
  |n5+1,y3=>
    bif (decide (y3<(p0.length:Int))) then
     (getI p0 y3).bind fun x7=>
     (Qdf N x7 p1 p2).bind fun x12=>
     bif x12 then
      some y3
     else
      Qau N p0 p1 k2 p2 n5 (w64 (y3+1))
    else
     k2 ()
def Qbt (N:Nat) (p0:List Qaa) (p1:List GRow) (p2:Int):Option Int:=
  Qcd (fun _=>
    some (-1)) fun k2:Unit→Option Int=>
  Qau N p0 p1 k2 p2 N 0
abbrev Qqy (p0:List Qaa):AV:=.dat 4 (p0.map Qae)
abbrev Qqx:AV:=.fn (.func 51) [] [(.ref 0 1 (0) 0)]
abbrev Qh7:AV:=.fn (.func 37) [] [(.ref 1 1 (0) 0),(.ref 2 1 (0) 0)]
abbrev Qh6 (p1:List GRow):Slot:=.own 1 [[(.dat 5 (p1.map Qbd))]]
def Qzd (x7:Qaa):AV:=.agg [(I x7.Mass),(I x7.Heat),(I x7.Silica),(I x7.Gas)]
theorem Qdn (N:Nat) (p0:List Qaa) (p1:List GRow) (p2 r:Int) (h:Qbt N p0 p1 p2=some r):Spec prog 56 [(Qqy p0),Qqx] [(.own 1 [[Qh7]]),(Qh6 p1),(.own 1 [[(I p2)]])] (I r) [(.own 1 [[Qh7]]),(Qh6 p1),(.own 1 [[(I p2)]])]:=by
  refine sF func56 3 fun _ _ _ hq hd0=>?_
  unfold Qbt at h
  refine wxz ?_
  obtain⟨k2,hk_k2,h⟩:=jko h
  refine wjn (τ:=Unit) (fun t=>k2 t=some r) (fun _=>⟨mk 19 [],[(.own 1 [[Qh7]]),(Qh6 p1),(.own 1 [[I p2]])]⟩) (fun t h=>?_) ?_
  ·subst hk_k2
   refine wxz<|wmr (mto (n:=19) (l':=[(4,(I ((-1))))]) (own':=[(.own 1 [[Qh7]]),(Qh6 p1),(.own 1 [[I p2]])]) [(4,(I ((-1))))] [0,1,2] [(.own 1 [[Qh7]]),(Qh6 p1),(.own 1 [[I p2]])] hq (pw pn) (qb (lc (.rn (Qaj rn0 (rnc (rqr rfl) (rnc (rqr rfl) rn0)))) ln) (qb (lc (rnd Qb0) ln) (qb (lc rwl ln) qn))))<|Qaf ?_
   obtain rfl:=osi h
   exact⟨_,Mor.rfl,fio [(I ((-1)))] ⟨rot,tv⟩⟩
  ·skip
   refine wx tbk [(1,rp _ _)] ⟨alq 4 Qae p0 underlying31,tv⟩<|Qag ?_
   refine wmr (mto (n:=19) (l':=[(0,(Qqy p0)),(1,Qqx),(7,(I ((p0.length:Int)))),(8,I 0)]) (own':=[(.own 1 [[Qh7]]),(Qh6 p1),(.own 1 [[I p2]])]) [(0,(Qqy p0)),(1,Qqx),(7,(I ((p0.length:Int)))),(8,I 0)] [0,1,2] [(.own 1 [[Qh7]]),(Qh6 p1),(.own 1 [[I p2]])] hq (pc (rnd Qai) (pc (.rn (Qaj rn0 (rnc (rqr rfl) rn0))) (pw (pw pn)))) (qb (lc (.rn (Qaj rn0 (rnc (rqr rfl) (rnc (rqr rfl) rn0)))) ln) (qb (lc (rnd Qb0) ln) (qb (lc rwl ln) qn)))) ?_
   refine Qb2 (τ:=Int) (fun n t=>Qau N p0 p1 k2 p2 n t=some r) (fun y3=>⟨mk 19 [(0,(Qqy p0)),(1,Qqx),(7,(I ((p0.length:Int)))),(8,I y3)],[(.own 1 [[Qh7]]),(Qh6 p1),(.own 1 [[I p2]])]⟩) (fun t h=>by rw[Qau] at h;cases h) (fun n5 ih y3 h=>?_) N (0) h
   rw[Qau] at h
   skip
   refine wxz<|wsq ?_
   refine bfe h (fun hc6 h=>?_) fun hc6 h=>?_
   ·refine wft hc6<|Qah<|thn<|wsq<|Qag<|wxz ?_
    obtain⟨x7,hg8,h⟩:=bno h
    obtain⟨hi9,hj10⟩:=gsm hg8
    obtain⟨x12,hf11,h⟩:=bno h
    refine wx tbk [(3,rp _ _),(5,⟨_,_,_,_,false⟩)] ⟨aiq underlying31 ti27 Qae hi9 hj10,Qcb (first:=[]) (cap:=[.ref 0 1 0 0]) (vs:=[(Qzd x7)]) (σr:=[(.own 1 [[Qh7]]),(Qh6 p1),(.own 1 [[I p2]])]) (σr':=[(.own 1 [[Qh7]]),(Qh6 p1),(.own 1 [[I p2]])]) (res':=(B x12)) [0,1,2] rfl Qsx (Qff N x7 p1 p2 _ hf11) rfl (Qbu (rnc (.plain _ (NLt.agg _ (nlcc (nlcc nl0)))) (rnc (Qak rfl) rn0))) (slc (Qad (rnc (Qaj rn0 (rnc (Qak rfl) (rnc (Qak rfl) rn0))) rn0)) (slc (Qad (rnc (pld Qb0) rn0)) (slc (Qad (rnc (.plain _ nll) rn0)) Qal))) (slc (Qad (rnc (Qaj rn0 (rnc (Qar rfl) (rnc (Qar rfl) rn0))) rn0)) (slc (Qad (rnc (pld Qb0) rn0)) (slc (Qad (rnc (.plain _ nll) rn0)) Qal))) (.plain _ nll) rfl rfl rfl,tv⟩ ?_
    refine bfe h (fun hc13 h=>?_) fun hc13 h=>?_
    ·refine wft hc13<|wxz ?_
     refine wmr (mto (n:=19) (l':=[(4,I y3)]) (own':=[(.own 1 [[Qh7]]),(Qh6 p1),(.own 1 [[I p2]])]) [(4,I y3)] [0,1,2] [(.own 1 [[Qh7]]),(Qh6 p1),(.own 1 [[I p2]])] hq (pw pn) (qb (lc (.rn (Qaj rn0 (rnc (rqr rfl) (rnc (rqr rfl) rn0)))) ln) (qb (lc (rnd Qb0) ln) (qb (lc rwl ln) qn))))<|Qaf<|Qbr<|Qao<|Qao<|Qbr<|Qao ?_
     obtain rfl:=osi h
     exact⟨_,Mor.rfl,fio [I y3] ⟨rot,tv⟩⟩
    ·exact wfn hc13<|Qah<|bln<|thn<|wxz1<|thn<|arm (mto (n:=19) [(0,(Qqy p0)),(1,Qqx),(7,(I ((p0.length:Int)))),(8,(I (w64 (y3+1))))] [0,1,2] [(.own 1 [[Qh7]]),(Qh6 p1),(.own 1 [[I p2]])] hq (pc (rnd Qai) (pc (.rn (Qaj rn0 (rnc (rqr rfl) rn0))) (pw (pw pn)))) (qb (lc (.rn (Qaj rn0 (rnc (rqr rfl) (rnc (rqr rfl) rn0)))) ln) (qb (lc (rnd Qb0) ln) (qb (lc rwl ln) qn)))) (ih (w64 (y3+1)) h)
   ·exact wfn hc6<|Qbc<|Qaq<|Qaq<|Qbb rfl<|thn<|⟨(),h,(mto (n:=19) [] [0,1,2] [(.own 1 [[Qh7]]),(Qh6 p1),(.own 1 [[I p2]])] hq pn (qb (lc (.rn (Qaj rn0 (rnc (rqr rfl) (rnc (rqr rfl) rn0)))) ln) (qb (lc (rnd Qb0) ln) (qb (lc rwl ln) qn))))⟩
def Qbn (N:Nat) (p0:List Qaa) (p1:List GRow) (p2:Int):Option Bool:=
  (Qbt N p0 p1 p2).bind fun x3=>
  some (decide (x3≥0))
abbrev Qx4:AV:=.fn (.func 51) [] [(.ref 0 1 (0) 0)]
abbrev Qpg:AV:=.fn (.func 37) [] [(.ref 1 1 (0) 0),(.ref 2 1 (0) 0)]
abbrev Qpf (p1:List GRow):Slot:=.own 1 [[(.dat 5 (p1.map Qbd))]]
theorem Qdh (N:Nat) (p0:List Qaa) (p1:List GRow) (p2:Int) (r:Bool) (h:Qbn N p0 p1 p2=some r):Spec prog 50 [(.dat 4 (p0.map Qae)),Qx4] [(.own 1 [[Qpg]]),(Qpf p1),(.own 1 [[(I p2)]])] (B r) [(.own 1 [[Qpg]]),(Qpf p1),(.own 1 [[(I p2)]])]:=by
  refine sF func50 3 fun _ _ _ hq hd0=>?_
  unfold Qbn at h
  refine wxz ?_
  obtain⟨x3,hf2,h⟩:=bno h
  refine wx tbk [(2,⟨_,_,_,_,false⟩)] ⟨acq [(.dat 4 (p0.map Qae)),Qx4] [(.own 1 [[Qpg]]),(Qpf p1),(.own 1 [[I p2]])] [(.own 1 [[Qpg]]),(Qpf p1),(.own 1 [[I p2]])] (I x3) [0,1,2] Qsw (Qdn N p0 p1 p2 _ hf2) (Qbu (rnc (pld Qai) (rnc (Qaj rn0 (rnc (Qak rfl) rn0)) rn0))) (slc (Qad (rnc (Qaj rn0 (rnc (Qak rfl) (rnc (Qak rfl) rn0))) rn0)) (slc (Qad (rnc (pld Qb0) rn0)) (slc (Qad (rnc (.plain _ nll) rn0)) Qal))) (slc (Qad (rnc (Qaj rn0 (rnc (Qar rfl) (rnc (Qar rfl) rn0))) rn0)) (slc (Qad (rnc (pld Qb0) rn0)) (slc (Qad (rnc (.plain _ nll) rn0)) Qal))) (.plain _ nll),tv⟩ ?_
  refine wmr (mto (n:=9) (l':=[(4,(B ((decide (x3≥0)))))]) (own':=[(.own 1 [[Qpg]]),(Qpf p1),(.own 1 [[I p2]])]) [(4,(B ((decide (x3≥0)))))] [0,1,2] [(.own 1 [[Qpg]]),(Qpf p1),(.own 1 [[I p2]])] hq (pw pn) (qb (lc (.rn (Qaj rn0 (rnc (rqr rfl) (rnc (rqr rfl) rn0)))) ln) (qb (lc (rnd Qb0) ln) (qb (lc rwl ln) qn))))<|Qaf ?_
  obtain rfl:=osi h
  exact⟨_,Mor.rfl,fio [(B ((decide (x3≥0))))] ⟨rot,tv⟩⟩
def Qdp (N:Nat) (p0:List Qaa) (p1:List GRow) (p2:Int):Option Bool:=
  (Qbn N p0 p1 p2).bind fun x3=>
  some (!x3)
abbrev Qvw:AV:=.fn (.func 37) [] [(.ref 0 1 (0) 0),(.ref 1 1 (0) 0)]
abbrev Qph (p1:List GRow):Slot:=.own 1 [[(.dat 5 (p1.map Qbd))]]
def Qx5:AV:=.fn (.func 51) [] [(.ref 2 1 (0) 0)]
theorem Qfy (N:Nat) (p0:List Qaa) (p1:List GRow) (p2:Int) (r:Bool) (h:Qdp N p0 p1 p2=some r):Spec prog 36 [(.dat 4 (p0.map Qae)),Qvw] [(Qph p1),(.own 1 [[(I p2)]])] (B r) [(Qph p1),(.own 1 [[(I p2)]])]:=by
  refine sF func36 2 fun _ _ _ hq hd0=>?_
  unfold Qdp at h
  refine wxz ?_
  obtain⟨x3,hf2,h⟩:=bno h
  refine wx tbk [(1,rp [(.tmp 3,.ref 2 1 0 0)] Qx5),(2,⟨_,_,_,_,false⟩)] ⟨Qd1 (fs:=[]) (cs:=[.ref 2 1 0 0]) rfl rfl rfl rfl,acq [(.dat 4 (p0.map Qae)),Qx5] [(.own 1 [[Qvw]]),(Qph p1),(.own 1 [[I p2]])] [(.own 1 [[Qvw]]),(Qph p1),(.own 1 [[I p2]])] (B x3) [2,0,1] Qsy (Qdh N p0 p1 p2 _ hf2) (Qbu (rnc (pld Qai) (rnc (Qaj rn0 (rnc (Qak rfl) rn0)) rn0))) (slc (Qad (rnc (Qaj rn0 (rnc (Qak rfl) (rnc (Qak rfl) rn0))) rn0)) (slc (Qad (rnc (pld Qb0) rn0)) (slc (Qad (rnc (.plain _ nll) rn0)) Qal))) (slc (Qad (rnc (Qaj rn0 (rnc (Qar rfl) (rnc (Qar rfl) rn0))) rn0)) (slc (Qad (rnc (pld Qb0) rn0)) (slc (Qad (rnc (.plain _ nll) rn0)) Qal))) (.plain _ nll),tv⟩ ?_
  refine wmr (mto (n:=9) (l':=[(4,(B ((!x3))))]) (own':=[(Qph p1),(.own 1 [[I p2]])]) [(4,(B ((!x3))))] [0,1] [(Qph p1),(.own 1 [[I p2]])] hq (pw pn) (qb (lc (rnd Qb0) ln) (qb (lc rwl ln) qn)))<|Qaf ?_
  obtain rfl:=osi h
  exact⟨_,Mor.rfl,fio [(B ((!x3)))] ⟨rot,tv⟩⟩
def Qda (N:Nat) (p0:List GRow) (p1:List Qaa) (k9:Int→Option (Int×Int)):Nat→Int→Option (Int×Int)
  |0,_=>none
  |n13+1,y11=>
    bif (decide (y11>0)) then
     (Qdp N p1 p0 y11).bind fun x16=>
     bif x16 then
      Qda N p0 p1 k9 n13 (w64 (y11-1))
     else
      k9 (y11)
    else
     k9 (y11)
def Qgl (N:Nat) (p0:List GRow) (p1:List Qaa):Option (Int×Int):=
  (Qdl N p0).bind fun x2=>
  bif (!x2) then
   some (0,1)
  else
   (Qef N p1).bind fun x5=>
   bif (x5 != 0) then
    some (0,x5)
   else
    bif ((p1.length:Int)==0) then
     some (0,1)
    else
     Qcd (fun y8=>
       bif (y8==(p0.length:Int)) then
        some (0,7)
       else
        some (y8,0)) fun k9:Int→Option (Int×Int)=>
     Qda N p0 p1 k9 N (p0.length:Int)
def Qpi (p1:List Qaa):AV:=.dat 4 (p1.map Qae)
def Qjh (p0:List GRow):Slot:=.own 1 [[(.dat 5 (p0.map Qbd))]]
def Qvx:AV:=.fn (.func 37) [] [(.ref 0 1 (0) 0),(.ref 1 1 (0) 0)]
theorem Qiu (N:Nat) (p0:List GRow) (p1:List Qaa) (r:(Int×Int)) (h:Qgl N p0 p1=some r):Spec prog 18 [(.dat 5 (p0.map Qbd)),(.dat 4 (p1.map Qae))] [] (.tup [(I r.1),(I r.2)]) []:=by
  refine sA func18 0 fun _ _ _ hq hd0=>?_
  unfold Qgl at h
  refine wxz<|wsq ?_
  obtain⟨x2,hf1,h⟩:=bno h
  refine wx tbk [(1,rp _ _)] ⟨apw Qnv (Qd6 N p0 _ hf1),tv⟩ ?_
  refine bfe h (fun hc3 h=>?_) fun hc3 h=>?_
  ·refine wft hc3<|wxz<|Qaf<|Qao ?_
   obtain rfl:=osi h
   exact fie [I 0,I 1] ⟨rot,rot,tv⟩
  ·refine wfn hc3<|Qah<|thn<|wsq ?_
   obtain⟨x5,hf4,h⟩:=bno h
   refine wx tbk [(1,rp _ _)] ⟨apw Qs6 (Qgq N p1 _ hf4),tv⟩<|wxz ?_
   refine bfe h (fun hc6 h=>?_) fun hc6 h=>?_
   ·refine wft hc6<|wxz<|Qaf<|Qao ?_
    obtain rfl:=osi h
    exact fie [I 0,I x5] ⟨rot,rot,tv⟩
   ·refine wfn hc6<|Qah<|thn<|wsq ?_
    refine wx tbk [(1,rp _ _)] ⟨alq 4 Qae p1 underlying31,tv⟩ ?_
    refine bfe h (fun hc7 h=>?_) fun hc7 h=>?_
    ·refine wft hc7<|wxz<|Qaf<|Qao ?_
     obtain rfl:=osi h
     exact fie [I 0,I 1] ⟨rot,rot,tv⟩
    ·refine wfn hc7<|Qah<|thn ?_
     refine wx tbk [(1,rp _ _)] ⟨alq 5 Qbd p0 underlying52,tv⟩ ?_
     obtain⟨k9,hk_k9,h⟩:=jko h
     refine wjn (τ:=Int) (fun t=>k9 t=some r) (fun y8=>⟨mk 35 [(2,.ref 0 1 0 0),(7,.ref 1 1 0 0)],[(Qjh p0),(.own 1 [[I y8]])]⟩) (fun y8 h=>?_) ?_
     ·subst hk_k9
      refine wsq<|wx tbk [(2,rp _ _)] ⟨alq 5 Qbd p0 underlying52,tv⟩ ?_
      refine bfe h (fun hc10 h=>?_) fun hc10 h=>?_
      ·refine wft hc10<|wxz<|Qaf<|Qao ?_
       obtain rfl:=osi h
       exact fie [I 0,I 7] ⟨rot,rot,tv⟩
      ·refine wfn hc10<|Qah<|thn<|wxz<|Qaf ?_
       obtain rfl:=osi h
       exact fie [I y8,I 0] ⟨rot,rot,tv⟩
     ·skip
      refine Qag<|wmr (mto (n:=35) (l':=[(1,(Qpi p1)),(2,.ref 0 1 0 0),(7,.ref 1 1 0 0)]) (own':=[(Qjh p0),(.own 1 [[(I ((p0.length:Int)))]])]) [(1,(Qpi p1)),(2,.ref 0 1 0 0),(7,.ref 1 1 0 0)] [0,1] [(Qjh p0),(.own 1 [[(I ((p0.length:Int)))]])] hq (pc (rnd Qai) (prr (prr pn))) (qb (lc (rnd Qb0) ln) (qb (lc rwl ln) qn))) ?_
      refine Qb2 (τ:=Int) (fun n t=>Qda N p0 p1 k9 n t=some r) (fun y11=>⟨mk 35 [(1,(Qpi p1)),(2,.ref 0 1 0 0),(7,.ref 1 1 0 0)],[(Qjh p0),(.own 1 [[I y11]])]⟩) (fun t h=>by rw[Qda] at h;cases h) (fun n13 ih y11 h=>?_) N ((p0.length:Int)) h
      rw[Qda] at h
      skip
      refine wsq ?_
      refine bfe h (fun hb14 h=>?_) fun hb14 h=>?_
      ·obtain⟨x16,hf15,h⟩:=bno h
       refine wx tbk [(2,rp [(.tmp 22,(B ((decide (y11>0)))))] (B true)),(4,rp [(.tmp 23,B true),(.tmp 2,.ref 0 1 0 0),(.tmp 7,.ref 1 1 0 0)] Qvx),(5,⟨[(.tmp 23,B true),fu 36,(.tmp 24,(Qpi p1)),(.tmp 25,Qvx)],[(0,(Qjh p0)),(1,.own 1 [[I y11]])],B x16,[(0,(Qjh p0)),(1,.own 1 [[I y11]])],false⟩)] ⟨asb hb14 (amv rfl),ag_ (Qd1 (fs:=[]) (cs:=[.ref 0 1 0 0,.ref 1 1 0 0]) rfl rfl rfl rfl),ag_ (acq [(Qpi p1),Qvx] [(Qjh p0),(.own 1 [[I y11]])] [(Qjh p0),(.own 1 [[I y11]])] (B x16) [0,1] Qs1 (Qfy N p1 p0 y11 _ hf15) (Qbu (rnc (pld Qai) (rnc (Qaj rn0 (rnc (Qak rfl) (rnc (Qak rfl) rn0))) rn0))) (slc (Qad (rnc (pld Qb0) rn0)) (slc (Qad (rnc (.plain _ nll) rn0)) Qal)) (slc (Qad (rnc (pld Qb0) rn0)) (slc (Qad (rnc (.plain _ nll) rn0)) Qal)) (.plain _ nll)),tv⟩ ?_
       refine bfe h (fun hc17 h=>?_) fun hc17 h=>?_
       ·exact wft hc17<|Qah<|thn<|Qag<|wxz1<|bln<|thn<|arm (mto (n:=35) [(1,(Qpi p1)),(2,.ref 0 1 0 0),(7,.ref 1 1 0 0)] [0,1] [(Qjh p0),(.own 1 [[(I (w64 (y11-1)))]])] hq (pc (rnd Qai) (prr (prr pn))) (qb (lc (rnd Qb0) ln) (qb (lc rwl ln) qn))) (ih (w64 (y11-1)) h)
       ·exact wfn hc17<|Qbc<|Qaq<|Qaq<|Qbb rfl<|thn<|⟨(y11),h,(mto (n:=35) [(2,.ref 0 1 0 0),(7,.ref 1 1 0 0)] [0,1] [(Qjh p0),(.own 1 [[I y11]])] hq (prr (prr pn)) (qb (lc (rnd Qb0) ln) (qb (lc rwl ln) qn)))⟩
      ·exact wx tbk [(2,rp [(.tmp 22,(B ((decide (y11>0)))))] (B false))] ⟨asb hb14 (amv rfl),tv⟩<|wfa<|Qbc<|Qaq<|Qaq<|Qbb rfl<|thn<|⟨(y11),h,(mto (n:=35) [(2,.ref 0 1 0 0),(7,.ref 1 1 0 0)] [0,1] [(Qjh p0),(.own 1 [[I y11]])] hq (prr (prr pn)) (qb (lc (rnd Qb0) ln) (qb (lc rwl ln) qn)))⟩
def Qd7 (_N:Nat) (p0:GRow) (p1:Int):Option Bool:=
  some (decide (p1≤p0.T))
theorem Qgr (N:Nat) (p0:GRow) (p1:Int) (r:Bool) (h:Qd7 N p0 p1=some r):Spec prog 39 [(.agg [(I p0.T),(I p0.P),(I p0.Liquid),(I p0.Vapour),(I p0.Silica)]),(.ref 0 1 (0) 0)] [(.own 1 [[(I p1)]])] (B r) [(.own 1 [[(I p1)]])]:=by
  refine sF func39 1 fun _ _ _ hq hd0=>?_
  unfold Qd7 at h
  refine wxz<|wxz ?_
  refine wmr (mto (n:=8) (l':=[(3,(B ((decide (p1≤p0.T)))))]) (own':=[(.own 1 [[I p1]])]) [(3,(B ((decide (p1≤p0.T)))))] [0] [(.own 1 [[I p1]])] hq (pw pn) (qb (lc rwl ln) qn))<|Qaf ?_
  obtain rfl:=osi h
  exact⟨_,Mor.rfl,fio [(B ((decide (p1≤p0.T))))] ⟨rot,tv⟩⟩
def Qay (N:Nat) (p0:List GRow) (p1:Int) (k2:Unit→Option Int):Nat→Int→Option Int
  |0,_=>none
  |n5+1,y3=>
    bif (decide (y3<(p0.length:Int))) then
     (getI p0 y3).bind fun x7=>
     (Qd7 N x7 p1).bind fun x12=>
     bif x12 then
      some y3
     else
      Qay N p0 p1 k2 n5 (w64 (y3+1))
    else
     k2 ()
def Qb1 (N:Nat) (p0:List GRow) (p1:Int):Option Int:=
  Qcd (fun _=>
    some (-1)) fun k2:Unit→Option Int=>
  Qay N p0 p1 k2 N 0
abbrev Qqw:AV:=.fn (.func 39) [] [(.ref 0 1 (0) 0)]
def Qza (x7:GRow):AV:=.agg [(I x7.T),(I x7.P),(I x7.Liquid),(I x7.Vapour),(I x7.Silica)]
theorem Qdv (N:Nat) (p0:List GRow) (p1 r:Int) (h:Qb1 N p0 p1=some r):Spec prog 38 [(.dat 5 (p0.map Qbd)),Qqw] [(.own 1 [[(I p1)]])] (I r) [(.own 1 [[(I p1)]])]:=by
  refine sF func38 1 fun _ _ _ hq hd0=>?_
  unfold Qb1 at h
  refine wxz ?_
  obtain⟨k2,hk_k2,h⟩:=jko h
  refine wjn (τ:=Unit) (fun t=>k2 t=some r) (fun _=>⟨mk 19 [],[(.own 1 [[I p1]])]⟩) (fun t h=>?_) ?_
  ·subst hk_k2
   refine wxz<|wmr (mto (n:=19) (l':=[(4,(I ((-1))))]) (own':=[(.own 1 [[I p1]])]) [(4,(I ((-1))))] [0] [(.own 1 [[I p1]])] hq (pw pn) (qb (lc rwl ln) qn))<|Qaf ?_
   obtain rfl:=osi h
   exact⟨_,Mor.rfl,fio [(I ((-1)))] ⟨rot,tv⟩⟩
  ·skip
   refine wx tbk [(1,rp _ _)] ⟨alq 5 Qbd p0 underlying52,tv⟩<|Qag ?_
   refine wmr (mto (n:=19) (l':=[(0,(.dat 5 (p0.map Qbd))),(1,Qqw),(7,(I ((p0.length:Int)))),(8,I 0)]) (own':=[(.own 1 [[I p1]])]) [(0,(.dat 5 (p0.map Qbd))),(1,Qqw),(7,(I ((p0.length:Int)))),(8,I 0)] [0] [(.own 1 [[I p1]])] hq (pc (rnd Qb0) (pc (.rn (Qaj rn0 (rnc (rqr rfl) rn0))) (pw (pw pn)))) (qb (lc rwl ln) qn)) ?_
   refine Qb2 (τ:=Int) (fun n t=>Qay N p0 p1 k2 n t=some r) (fun y3=>⟨mk 19 [(0,(.dat 5 (p0.map Qbd))),(1,Qqw),(7,(I ((p0.length:Int)))),(8,I y3)],[(.own 1 [[I p1]])]⟩) (fun t h=>by rw[Qay] at h;cases h) (fun n5 ih y3 h=>?_) N (0) h
   rw[Qay] at h
   skip
   refine wxz<|wsq ?_
   refine bfe h (fun hc6 h=>?_) fun hc6 h=>?_
   ·refine wft hc6<|Qah<|thn<|wsq<|Qag<|wxz ?_
    obtain⟨x7,hg8,h⟩:=bno h
    obtain⟨hi9,hj10⟩:=gsm hg8
    obtain⟨x12,hf11,h⟩:=bno h
    refine wx tbk [(3,rp _ _),(5,⟨_,_,_,_,false⟩)] ⟨aiq underlying52 ti71 Qbd hi9 hj10,Qcb (first:=[]) (cap:=[.ref 0 1 0 0]) (vs:=[(Qza x7)]) (σr:=[(.own 1 [[I p1]])]) (σr':=[(.own 1 [[I p1]])]) (res':=(B x12)) [0] rfl Qw8 (Qgr N x7 p1 _ hf11) rfl (Qbu (rnc (.plain _ (NLt.agg _ (nlcc (nlcc (nlc nll nl0))))) (rnc (Qak rfl) rn0))) (slc (Qad (rnc (.plain _ nll) rn0)) Qal) (slc (Qad (rnc (.plain _ nll) rn0)) Qal) (.plain _ nll) rfl rfl rfl,tv⟩ ?_
    refine bfe h (fun hc13 h=>?_) fun hc13 h=>?_
    ·refine wft hc13<|wxz ?_
     refine wmr (mto (n:=19) (l':=[(4,I y3)]) (own':=[(.own 1 [[I p1]])]) [(4,I y3)] [0] [(.own 1 [[I p1]])] hq (pw pn) (qb (lc rwl ln) qn))<|Qaf<|Qbr<|Qao<|Qao<|Qbr<|Qao ?_
     obtain rfl:=osi h
     exact⟨_,Mor.rfl,fio [I y3] ⟨rot,tv⟩⟩
    ·exact wfn hc13<|Qah<|bln<|thn<|wxz1<|thn<|arm (mto (n:=19) [(0,(.dat 5 (p0.map Qbd))),(1,Qqw),(7,(I ((p0.length:Int)))),(8,(I (w64 (y3+1))))] [0] [(.own 1 [[I p1]])] hq (pc (rnd Qb0) (pc (.rn (Qaj rn0 (rnc (rqr rfl) rn0))) (pw (pw pn)))) (qb (lc rwl ln) qn)) (ih (w64 (y3+1)) h)
   ·exact wfn hc6<|Qbc<|Qaq<|Qaq<|Qbb rfl<|thn<|⟨(),h,(mto (n:=19) [] [0] [(.own 1 [[I p1]])] hq pn (qb (lc rwl ln) qn))⟩
def Qdz (N:Nat) (k2:Int→Option Int):Nat→Int→Int→Option Int
  |0,_,_=>none
  |n7+1,y3,y4=>
    bif (decide (y4>0)) then
     chk (y4 != 0)<|
     Qdz N k2 n7 y4 (y3.tmod y4)
    else
     k2 (y3)
def Qir (N:Nat) (p0 p1:Int):Option Int:=
  Qcd (fun y1=>
    some y1) fun k2:Int→Option Int=>
  Qdz N k2 N p0 p1
theorem Qk8 (N:Nat) (p0 p1 r:Int) (h:Qir N p0 p1=some r):Spec prog 40 [(I p0),(I p1)] [] (I r) []:=by
  refine sA func40 0 fun _ _ _ hq hd0=>?_
  unfold Qir at h
  refine wxz ?_
  obtain⟨k2,hk_k2,h⟩:=jko h
  refine wjn (τ:=Int) (fun t=>k2 t=some r) (fun y1=>⟨mk 12 [(0,I y1)],[]⟩) (fun y1 h=>?_) ?_
  ·subst hk_k2
   refine wxz<|Qaf ?_
   obtain rfl:=osi h
   exact fend ⟨[I y1],⟨rot,tv⟩,rfl⟩ nll
  ·skip
   refine Qag<|wmr (mto (n:=12) (l':=[(0,I p0),(1,I p1)]) (own':=[]) [(0,I p0),(1,I p1)] [] [] hq (pw (pw pn)) qn) ?_
   refine Qb2 (τ:=Int×Int) (fun n t=>Qdz N k2 n t.1 t.2=some r) (fun ⟨y3,y4⟩=>⟨mk 12 [(0,I y3),(1,I y4)],[]⟩) (fun t h=>by rw[Qdz] at h;cases h) (fun n7 ih t h=>?_) N (p0,p1) h
   obtain⟨y3,y4⟩:=t
   rw[Qdz] at h
   skip
   refine wsq<|wxz ?_
   refine bfe h (fun hc8 h=>?_) fun hc8 h=>?_
   ·refine wft hc8<|Qah<|thn<|Qag ?_
    obtain⟨hz9,h⟩:=cko h
    exact wy1 tbk [(3,rp [(.tmp 8,I y3),(.tmp 9,I y4)] (I (y3.tmod y4)))] ⟨Qil rfl (Qf7 hz9),tv⟩<|bln<|thn<|arm (mto (n:=12) [(0,I y4),(1,I (y3.tmod y4))] [] [] hq (pw (pw pn)) qn) (ih (y4,y3.tmod y4) h)
   ·exact wfn hc8<|Qbc<|Qaq<|Qaq<|Qbb rfl<|thn<|⟨(y3),h,(mto (n:=12) [(0,I y3)] [] [] hq (pw pn) qn)⟩
def Qe8 (N:Nat) (p0:List GRow) (p1:Int):Option (Qk4×Int):=
  (Qdl N p0).bind fun x2=>
  bif (!x2) then
   some ((⟨0,0⟩:Qk4),1)
  else
   (getI p0 0).bind fun x4=>
   (getI p0 (w64 ((p0.length:Int)-1))).bind fun x8=>
   (Qbq N p1 x4.T x8.T).bind fun x13=>
   bif (!x13) then
    some ((⟨0,0⟩:Qk4),2)
   else
    chk (decide (0≤1)&&decide (1≤(p0.length:Int))&&decide ((p0.length:Int)≤(p0.length:Int)))<|
    (Qb1 N (p0.drop (1:Int).toNat) p1).bind fun x17=>
    (getI p0 x17).bind fun x18=>
    (getI p0 (w64 (x17+1))).bind fun x22=>
    (some (w64 ((w64 (x18.P*(w64 (x22.T-p1))))+(w64 (x22.P*(w64 (p1-x18.T))))))).bind fun x26=>
    (Qir N x26 (w64 (x22.T-x18.T))).bind fun x29=>
    chk (x29 != 0)<|
    chk (x29 != 0)<|
    some ((⟨w64 (x26.tdiv x29),w64 ((w64 (x22.T-x18.T)).tdiv x29)⟩:Qk4),0)
def Qx2:AV:=.agg [(I (0)),(I (0))]
def Qzb (p0:List GRow):AV:=.dat 5 ((p0.drop (1:Int).toNat:List GRow).map Qbd)
def Qx1:AV:=.fn (.func 39) [] [(.ref 0 1 (0) 0)]
theorem Qhs (N:Nat) (p0:List GRow) (p1:Int) (r:(Qk4×Int)) (h:Qe8 N p0 p1=some r):Spec prog 19 [(.dat 5 (p0.map Qbd)),(I p1)] [] (.tup [(.agg (Qls r.1)),(I r.2)]) []:=by
  refine sA func19 0 fun _ _ _ hq hd0=>?_
  unfold Qe8 at h
  refine wxz<|wsq ?_
  obtain⟨x2,hf1,h⟩:=bno h
  refine wx tbk [(1,rp _ _)] ⟨apw Qnv (Qd6 N p0 _ hf1),tv⟩ ?_
  refine bfe h (fun hc3 h=>?_) fun hc3 h=>?_
  ·refine wft hc3<|wx tbk [(0,rp _ _)] ⟨Qap (vs:=[]) rfl ts58 tz58 rfl (by rfl) rfl,tv⟩<|Qaf<|Qao ?_
   obtain rfl:=osi h
   exact fie [Qx2,I 1] ⟨Qbk (n:=1) (m:=2) (j:=0) (i:=0) (xs:=[[I 0,I 0]]) (by kernel_rfl) (by kernel_rfl) ti58 (by decide) rfl (nle rfl) rfl,rot,tv⟩
  ·refine wfn hc3<|Qah<|thn<|wsq ?_
   obtain⟨x4,hg5,h⟩:=bno h
   obtain⟨hi6,hj7⟩:=gsm hg5
   obtain⟨x8,hg9,h⟩:=bno h
   obtain⟨hi10,hj11⟩:=gsm hg9
   obtain⟨x13,hf12,h⟩:=bno h
   refine wxd tbk [(2,rp _ _),(7,rp _ _),(9,rp _ _),(12,rp _ _)] ⟨aiq underlying52 ti71 Qbd hi6 hj7,alq 5 Qbd p0 underlying52,aiq underlying52 ti71 Qbd hi10 hj11,apw Qfv (Qbs N p1 x4.T x8.T _ hf12),tv⟩ ?_
   refine bfe h (fun hc14 h=>?_) fun hc14 h=>?_
   ·refine wft hc14<|wx tbk [(0,rp _ _)] ⟨Qap (vs:=[]) rfl ts58 tz58 rfl (by rfl) rfl,tv⟩<|Qaf<|Qao ?_
    obtain rfl:=osi h
    exact fie [Qx2,I 2] ⟨Qbk (n:=1) (m:=2) (j:=0) (i:=0) (xs:=[[I 0,I 0]]) (by kernel_rfl) (by kernel_rfl) ti58 (by decide) rfl (nle rfl) rfl,rot,tv⟩
   ·refine wfn hc14<|Qah<|thn ?_
    obtain⟨hs15,h⟩:=cko h
    obtain⟨x17,hf16,h⟩:=bno h
    refine wx tbk [(1,rp [(.tmp 31,(.dat 5 (p0.map Qbd))),ci 1] (Qzb p0)),(2,rp [(.tmp 3,.ref 0 1 0 0)] Qx1),(3,⟨_,_,_,_,false⟩)] ⟨Qhi (k:=.i64) (k':=.i64) (lo:=some (.const (.int .i64 1))) (hi:=none) (l:=1) (hh:=((p0.length:Nat):Int)) rfl underlying52 ti71 rfl (fun e=>nomatch e) (fun _=>by simp) (Qqm hs15) (Qql hs15) (Qxw Qbd hs15) (Qyo Qbd),Qd1 (fs:=[]) (cs:=[.ref 0 1 0 0]) rfl rfl rfl rfl,acq [(.dat 5 (((p0.drop (1:Int).toNat):List GRow).map Qbd)),Qx1] [(.own 1 [[I p1]])] [(.own 1 [[I p1]])] (I x17) [0] Qw9 (Qdv N (p0.drop (1:Int).toNat) p1 _ hf16) (Qbu (rnc (pld Qb0) (rnc (Qaj rn0 (rnc (Qak rfl) rn0)) rn0))) (slc (Qad (rnc (.plain _ nll) rn0)) Qal) (slc (Qad (rnc (.plain _ nll) rn0)) Qal) (.plain _ nll),tv⟩ ?_
    obtain⟨x18,hg19,h⟩:=bno h
    obtain⟨hi20,hj21⟩:=gsm hg19
    obtain⟨x22,hg23,h⟩:=bno h
    obtain⟨hi24,hj25⟩:=gsm hg23
    refine wxd tbk [(2,rp _ _),(7,rp _ _)] ⟨aiq underlying52 ti71 Qbd hi20 hj21,aiq underlying52 ti71 Qbd hi24 hj25,tv⟩ ?_
    obtain⟨x26,hl27,h⟩:=bno h
    refine wxd tbk [(14,rp [(.tmp 50,(I (w64 (x18.P*(w64 (x22.T-p1)))))),(.tmp 57,(I (w64 (x22.P*(w64 (p1-x18.T))))))] (I x26))] ⟨Qeq hl27 (abn rfl rfl),tv⟩ ?_
    obtain⟨x29,hf28,h⟩:=bno h
    refine wx tbk [(2,rp _ _)] ⟨apw Qw7 (Qk8 N x26 (w64 (x22.T-x18.T)) _ hf28),tv⟩ ?_
    obtain⟨hz30,h⟩:=cko h
    obtain⟨hz31,h⟩:=cko h
    refine wxd tbk [(2,rp [(.tmp 67,I x26),(.tmp 68,I x29)] (I (w64 (x26.tdiv x29)))),(5,rp [(.tmp 70,(I (w64 (x22.T-x18.T)))),(.tmp 71,I x29)] (I (w64 ((w64 (x22.T-x18.T)).tdiv x29)))),(6,rp _ _)] ⟨Qf8 rfl (Qf7 hz30),Qf8 rfl (Qf7 hz31),Qap (vs:=[(I (w64 (x26.tdiv x29))),(I (w64 ((w64 (x22.T-x18.T)).tdiv x29)))]) rfl ts58 tz58 rfl (by rfl) rfl,tv⟩<|Qaf ?_
    obtain rfl:=osi h
    exact fie [(.agg [(I (w64 (x26.tdiv x29))),(I (w64 ((w64 (x22.T-x18.T)).tdiv x29)))]),I 0] ⟨Qbk (n:=1) (m:=2) (j:=0) (i:=0) (xs:=[[(I (w64 (x26.tdiv x29))),(I (w64 ((w64 (x22.T-x18.T)).tdiv x29)))]]) (by kernel_rfl) (by kernel_rfl) ti58 (by decide) rfl (nle rfl) rfl,rot,tv⟩
def Qdx (N:Nat):Option Bool:=
  (Qfo 2000 ).bind fun x2=>
  (Qhp 2000 ).bind fun x4=>
  (Qhb N x2 0 x4).bind fun x6=>
  (Qdm N (⟨10,1001,0,0⟩:Qaa) ([1,1,1])).bind fun x8=>
  (Qfo 2000 ).bind fun x10=>
  (Qhp 2000 ).bind fun x12=>
  (Qgl N x10 ([x12])).bind fun x14=>
  (Qfo 2000 ).bind fun x16=>
  (Qe8 N x16 125).bind fun x18=>
  bif (x6.2==0) then
   bif (([x6.1.Steam.Mass,x6.1.Steam.Heat,x6.1.Steam.Silica,x6.1.Steam.Gas,x6.1.Water.Mass,x6.1.Water.Heat,x6.1.Water.Silica,x6.1.Water.Gas,x6.1.Rest,x6.1.Scale]:List Int)==[191,511116,0,50,809,340884,121350,0,1913,128650]) then
    bif (x8.2.2==0) then
     bif ((x8.1.length:Int)==3) then
      (getI x8.1 0).bind fun x23=>
      bif (([x23.Mass,x23.Heat,x23.Silica,x23.Gas]:List Int)==[4,400,0,0]) then
       bif (([x8.2.1.Heat,x8.2.1.Silica,x8.2.1.Gas]:List Int)==[1,0,0]) then
        bif (x14.2==0) then
         bif (x14.1==1) then
          bif (x18.2==0) then
           some (([x18.1.N,x18.1.D]:List Int)==[577,2])
          else
           some false
         else
          some false
        else
         some false
       else
        some false
      else
       some false
     else
      some false
    else
     some false
   else
    some false
  else
   some false
def Qzj (x6:(Qfx×Int)):AV:=.agg [(I x6.1.Steam.Mass),(I x6.1.Steam.Heat),(I x6.1.Steam.Silica),(I x6.1.Steam.Gas),(I x6.1.Water.Mass),(I x6.1.Water.Heat),(I x6.1.Water.Silica),(I x6.1.Water.Gas),(I x6.1.Rest),(I x6.1.Scale)]
def Qzi:AV:=.dat 1 (([1,1,1]:List Int).map Qab)
def Qvm (x12:Qaa):AV:=.agg [(I x12.Mass),(I x12.Heat),(I x12.Silica),(I x12.Gas)]
def Qyd (x12:Qaa):AV:=.dat 4 (([x12]:List Qaa).map Qae)
def Qq9:AV:=.agg [(I (191)),(I (511116)),(I (0)),(I (50))]
def Qq8:AV:=.agg [(I (809)),(I (340884)),(I (121350)),(I (0))]
def Qvl:AV:=.agg [(I (191)),(I (511116)),(I (0)),(I (50)),(I (809)),(I (340884)),(I (121350)),(I (0)),(I (1913)),(I (128650))]
def Qq7 (x6:(Qfx×Int)):List (Nat×Rec):=[(2,rp [((.tmp 36),(B ((x6.2==0))))] (B true)),(4,rp [((.tmp 37),(B true)),ci 191,ci 511116,ci 50] Qq9),(5,rp [((.tmp 37),(B true)),ci 809,ci 340884,ci 121350] Qq8),(6,rp [((.tmp 37),(B true)),((.tmp 39),Qq9),((.tmp 40),Qq8),ci 1913,ci 128650] Qvl),(7,rp [((.tmp 37),(B true)),((.tmp 38),(Qzj x6)),((.tmp 41),Qvl)] (B ((([x6.1.Steam.Mass,x6.1.Steam.Heat,x6.1.Steam.Silica,x6.1.Steam.Gas,x6.1.Water.Mass,x6.1.Water.Heat,x6.1.Water.Silica,x6.1.Water.Gas,x6.1.Rest,x6.1.Scale]:List Int)==[191,511116,0,50,809,340884,121350,0,1913,128650]))))]
def Qq6 x6:=hcat (Qq7 x6) [(9,rp [((.tmp 43),(B ((([x6.1.Steam.Mass,x6.1.Steam.Heat,x6.1.Steam.Silica,x6.1.Steam.Gas,x6.1.Water.Mass,x6.1.Water.Heat,x6.1.Water.Silica,x6.1.Water.Gas,x6.1.Rest,x6.1.Scale]:List Int)==[191,511116,0,50,809,340884,121350,0,1913,128650]))))] (B true))]
def Qq5 x6 (x8:((List Qaa)×Qdk×Int)):=hcat (Qq6 x6) [(13,rp [((.tmp 47),(B ((x8.2.2==0))))] (B true)),(15,rp [((.tmp 48),(B true)),((.tmp 49),(.dat 4 (x8.1.map Qae)))] (I ((x8.1.length:Int))))]
def Qvk:AV:=.agg [(I (4)),(I (400)),(I (0)),(I (0))]
def Qq4 x6 x8 (x23:Qaa):=hcat (Qq5 x6 x8) [(18,rp [((.tmp 52),(B (((x8.1.length:Int)==3))))] (B true)),(20,rp [((.tmp 53),(B true)),((.tmp 54),(.dat 4 (x8.1.map Qae))),ci 0] (.dptr (Qae x23) 0)),(22,rp [((.tmp 53),(B true)),ci 4,ci 400] Qvk),(23,rp [((.tmp 53),(B true)),((.tmp 56),(.agg [(I x23.Mass),(I x23.Heat),(I x23.Silica),(I x23.Gas)])),((.tmp 57),Qvk)] (B ((([x23.Mass,x23.Heat,x23.Silica,x23.Gas]:List Int)==[4,400,0,0]))))]
def Qvj:AV:=.agg [(I (1)),(I (0)),(I (0))]
def Qq3 x6 x8 x23:=hcat (Qq4 x6 x8 x23) [(25,rp [((.tmp 59),(B ((([x23.Mass,x23.Heat,x23.Silica,x23.Gas]:List Int)==[4,400,0,0]))))] (B true)),(27,rp [((.tmp 60),(B true)),ci 1] Qvj),(28,rp [((.tmp 60),(B true)),((.tmp 61),(.agg [(I x8.2.1.Heat),(I x8.2.1.Silica),(I x8.2.1.Gas)])),((.tmp 62),Qvj)] (B ((([x8.2.1.Heat,x8.2.1.Silica,x8.2.1.Gas]:List Int)==[1,0,0]))))]
def Qq2 x6 x8 x23:=hcat (Qq3 x6 x8 x23) [(30,rp [((.tmp 64),(B ((([x8.2.1.Heat,x8.2.1.Silica,x8.2.1.Gas]:List Int)==[1,0,0]))))] (B true))]
def Qom x6 x8 x23 (x14:(Int×Int)):=hcat (Qq2 x6 x8 x23) [(34,rp [((.tmp 68),(B ((x14.2==0))))] (B true))]
theorem Qd8 (N:Nat) (r:Bool) (h:Qdx N=some r):Spec prog 4 [] [] (B r) []:=by
  refine sA func4 0 fun _ _ _ hq hd0=>?_
  unfold Qdx at h
  refine wxz ?_
  obtain⟨x2,hf1,h⟩:=bno h
  obtain⟨x4,hf3,h⟩:=bno h
  obtain⟨x6,hf5,h⟩:=bno h
  refine wx tbk [(0,rp _ _),(1,rp _ _),(2,rp _ _)] ⟨apw Qnz (Qf6 2000  _ hf1),apw Qs7 (Qie 2000  _ hf3),apw Qxi (Qjo N x2 0 x4 _ hf5),tv⟩ ?_
  obtain⟨x8,hf7,h⟩:=bno h
  refine wx tbk [(0,rp _ _),(1,rp [ci 1,ci 1,ci 1] Qzi),(2,rp _ _)] ⟨Qap (vs:=[I 10,I 1001]) rfl ts27 tz27 rfl (by rfl) rfl,Qea (vs:=[I 1,I 1,I 1]) rfl underlying25 ti3 tz3 rfl (by decide) rfl (by decide) (by rfl) (by rfl) (by rfl) rfl,apw Qvq (Qha N (⟨10,1001,0,0⟩:Qaa) ([1,1,1]) _ hf7),tv⟩ ?_
  obtain⟨x10,hf9,h⟩:=bno h
  obtain⟨x12,hf11,h⟩:=bno h
  obtain⟨x14,hf13,h⟩:=bno h
  refine wx tbk [(0,rp _ _),(1,rp _ _),(2,rp [(.tmp 25,(Qvm x12))] (Qyd x12)),(3,rp _ _)] ⟨apw Qnz (Qf6 2000  _ hf9),apw Qs7 (Qie 2000  _ hf11),Qea (vs:=[(Qvm x12)]) rfl underlying31 ti27 tz27 rfl (by decide) rfl (by decide) (by rfl) (by rfl) (by rfl) rfl,apw Qxh (Qiu N x10 ([x12]) _ hf13),tv⟩ ?_
  obtain⟨x16,hf15,h⟩:=bno h
  obtain⟨x18,hf17,h⟩:=bno h
  refine wx tbk [(0,rp _ _),(1,rp _ _)] ⟨apw Qnz (Qf6 2000  _ hf15),apw Qxg (Qhs N x16 125 _ hf17),tv⟩ ?_
  refine bfe h (fun hb19 h=>?_) fun hb19 h=>?_
  ·refine hpre (A:=(Qq7 x6)) ⟨asb hb19 (amv rfl),ag_ (Qap (vs:=[I 191,I 511116,I 50]) rfl ts27 tz27 rfl (by rfl) rfl),ag_ (Qap (vs:=[I 809,I 340884,I 121350]) rfl ts27 tz27 rfl (by rfl) rfl),ag_ (Qap (vs:=[Qq9,Qq8,I 1913,I 128650]) rfl ts48 tz48 rfl (by rfl) rfl),ag_ (Qf9 (ls:=[x6.1.Steam.Mass,x6.1.Steam.Heat,x6.1.Steam.Silica,x6.1.Steam.Gas,x6.1.Water.Mass,x6.1.Water.Heat,x6.1.Water.Silica,x6.1.Water.Gas,x6.1.Rest,x6.1.Scale]) (ks:=[191,511116,0,50,809,340884,121350,0,1913,128650]) rfl rfl Qzr (by kernel_rfl) rfl rfl),tv⟩ fun q1_=>?_
   refine bfe h (fun hb20 h=>?_) fun hb20 h=>?_
   ·refine hpre (A:=(Qq6 x6)) (hap q1_ ⟨asb hb20 (amv rfl),tv⟩) fun q2_=>?_
    refine bfe h (fun hb21 h=>?_) fun hb21 h=>?_
    ·refine hpre (A:=(Qq5 x6 x8)) (hap q2_ ⟨asb hb21 (amv rfl),ag_ (alq 4 Qae x8.1 underlying31),tv⟩) fun q3_=>?_
     refine bfe h (fun hb22 h=>?_) fun hb22 h=>?_
     ·obtain⟨x23,hg24,h⟩:=bno h
      obtain⟨hi25,hj26⟩:=gsm hg24
      refine hpre (A:=(Qq4 x6 x8 x23)) (hap q3_ ⟨asb hb22 (amv rfl),ag_ (aiq underlying31 ti27 Qae hi25 hj26),ag_ (Qap (vs:=[I 4,I 400]) rfl ts27 tz27 rfl (by rfl) rfl),ag_ (Qf9 (ls:=[x23.Mass,x23.Heat,x23.Silica,x23.Gas]) (ks:=[4,400,0,0]) rfl rfl Qsu (by kernel_rfl) rfl rfl),tv⟩) fun q4_=>?_
      refine bfe h (fun hb27 h=>?_) fun hb27 h=>?_
      ·refine hpre (A:=(Qq3 x6 x8 x23)) (hap q4_ ⟨asb hb27 (amv rfl),ag_ (Qap (vs:=[I 1]) rfl ts34 tz34 rfl (by rfl) rfl),ag_ (Qf9 (ls:=[x8.2.1.Heat,x8.2.1.Silica,x8.2.1.Gas]) (ks:=[1,0,0]) rfl rfl Qu1 (by kernel_rfl) rfl rfl),tv⟩) fun q5_=>?_
       refine bfe h (fun hb28 h=>?_) fun hb28 h=>?_
       ·refine hpre (A:=(Qq2 x6 x8 x23)) (hap q5_ ⟨asb hb28 (amv rfl),tv⟩) fun q6_=>?_
        refine bfe h (fun hb29 h=>?_) fun hb29 h=>?_
        ·refine hpre (A:=(Qom x6 x8 x23 x14)) (hap q6_ ⟨asb hb29 (amv rfl),tv⟩) fun q7_=>?_
         refine bfe h (fun hb30 h=>?_) fun hb30 h=>?_
         ·refine bfe h (fun hb31 h=>?_) fun hb31 h=>?_
          ·refine wx tbk (hcat (Qom x6 x8 x23 x14) [(38,rp [(.tmp 72,(B ((x14.1==1))))] (B true)),(42,rp [(.tmp 76,(B ((x18.2==0))))] (B true)),(44,rp [(.tmp 77,B true),ci 577,ci 2] (.agg [I 577,I 2])),(45,rp [(.tmp 77,B true),(.tmp 78,(.agg [I x18.1.N,I x18.1.D])),(.tmp 79,(.agg [I 577,I 2]))] (B ((([x18.1.N,x18.1.D]:List Int)==[577,2]))))]) (hap q7_ ⟨asb hb30 (amv rfl),asb hb31 (amv rfl),ag_ (Qap (vs:=[I 577,I 2]) rfl ts58 tz58 rfl (by rfl) rfl),ag_ (Qf9 (ls:=[x18.1.N,x18.1.D]) (ks:=[577,2]) rfl rfl Qzq (by kernel_rfl) rfl rfl),tv⟩)<|Qaf ?_
           obtain rfl:=osi h
           exact fend ⟨[(B ((([x18.1.N,x18.1.D]:List Int)==[577,2])))],⟨rot,tv⟩,rfl⟩ nll
          ·exact wx tbk (hcat (Qom x6 x8 x23 x14) [(38,rp [(.tmp 72,(B ((x14.1==1))))] (B true)),(42,rp [(.tmp 76,(B ((x18.2==0))))] (B false))]) (hap q7_ ⟨asb hb30 (amv rfl),asb hb31 (amv rfl),tv⟩)<|Qaf<|frb h
         ·exact wx tbk (hcat (Qom x6 x8 x23 x14) [(38,rp [(.tmp 72,(B ((x14.1==1))))] (B false))]) (hap q7_ ⟨asb hb30 (amv rfl),tv⟩)<|Qaf<|frb h
        ·exact wx tbk (hcat (Qq2 x6 x8 x23) [(34,rp [(.tmp 68,(B ((x14.2==0))))] (B false))]) (hap q6_ ⟨asb hb29 (amv rfl),tv⟩)<|Qaf<|frb h
       ·exact wx tbk (hcat (Qq3 x6 x8 x23) [(30,rp [(.tmp 64,(B ((([x8.2.1.Heat,x8.2.1.Silica,x8.2.1.Gas]:List Int)==[1,0,0]))))] (B false))]) (hap q5_ ⟨asb hb28 (amv rfl),tv⟩)<|Qaf<|frb h
      ·exact wx tbk (hcat (Qq4 x6 x8 x23) [(25,rp [(.tmp 59,(B ((([x23.Mass,x23.Heat,x23.Silica,x23.Gas]:List Int)==[4,400,0,0]))))] (B false))]) (hap q4_ ⟨asb hb27 (amv rfl),tv⟩)<|Qaf<|frb h
     ·exact wx tbk (hcat (Qq5 x6 x8) [(18,rp [(.tmp 52,(B (((x8.1.length:Int)==3))))] (B false))]) (hap q3_ ⟨asb hb22 (amv rfl),tv⟩)<|Qaf<|frb h
    ·exact wx tbk (hcat (Qq6 x6) [(13,rp [(.tmp 47,(B ((x8.2.2==0))))] (B false))]) (hap q2_ ⟨asb hb21 (amv rfl),tv⟩)<|Qaf<|frb h
   ·exact wx tbk (hcat (Qq7 x6) [(9,rp [(.tmp 43,(B ((([x6.1.Steam.Mass,x6.1.Steam.Heat,x6.1.Steam.Silica,x6.1.Steam.Gas,x6.1.Water.Mass,x6.1.Water.Heat,x6.1.Water.Silica,x6.1.Water.Gas,x6.1.Rest,x6.1.Scale]:List Int)==[191,511116,0,50,809,340884,121350,0,1913,128650]))))] (B false))]) (hap q1_ ⟨asb hb20 (amv rfl),tv⟩)<|Qaf<|frb h
  ·exact wx tbk [(2,rp [(.tmp 36,(B ((x6.2==0))))] (B false))] ⟨asb hb19 (amv rfl),tv⟩<|Qaf<|frb h
end
section
def Qeb (N:Nat) (p0:List Qaa) (p1:Qaa) (p2:List Int):Option Bool:=
  Qcd (fun _=>
    (Qej N p0).bind fun x3=>
    (Qgs N x3).bind fun x5=>
    (Qc3 N p1).bind fun x7=>
    chk (decide ((0+p2.length)*8≤140737488355328))<|
    (Qdm N x7 p2).bind fun x10=>
    Qcd (fun y11=>
      Qcd (fun _=>
        Qcd (fun _=>
          (Qfl N p1 p2).bind fun x16=>
          bif (x10.2.2==0) then
           (Qf5 N x10.1 x16.1).bind fun x19=>
           bif x19 then
            bif (([x10.2.1.Heat,x10.2.1.Silica,x10.2.1.Gas]:List Int)==[x16.2.Heat,x16.2.Silica,x16.2.Gas]) then
             (Qdx 2000 ).bind fun x23=>
             some x23
            else
             some false
           else
            some false
          else
           some false) fun k14:Unit→Option Bool=>
        (Qc5 N p1).bind fun x25=>
        bif (!x25) then
         bif (x10.2.2==1) then
          bif ((x10.1.length:Int)==0) then
           bif (([x10.2.1.Heat,x10.2.1.Silica,x10.2.1.Gas]:List Int)==[0,0,0]) then
            (Qdx 2000 ).bind fun x31=>
            some x31
           else
            some false
          else
           some false
         else
          some false
        else
         (Qdj N p2).bind fun x33=>
         bif (!x33) then
          bif (x10.2.2==1) then
           bif ((x10.1.length:Int)==0) then
            bif (([x10.2.1.Heat,x10.2.1.Silica,x10.2.1.Gas]:List Int)==[0,0,0]) then
             (Qdx 2000 ).bind fun x39=>
             some x39
            else
             some false
           else
            some false
          else
           some false
         else
          k14 ()) fun k13:Unit→Option Bool=>
      bif (y11==0) then
       bif (x5.2 != 0) then
        some false
       else
        (Qfb N p0).bind fun x43=>
        (Qc3 N x43).bind fun x45=>
        bif (!(([x5.1.Mass,x5.1.Heat,x5.1.Silica,x5.1.Gas]:List Int)==[x45.Mass,x45.Heat,x45.Silica,x45.Gas])) then
         some false
        else
         bif (y11 != 0) then
          bif (x5.2 != y11) then
           some false
          else
           bif (!(([x5.1.Mass,x5.1.Heat,x5.1.Silica,x5.1.Gas]:List Int)==[0,0,0,0])) then
            some false
           else
            k13 ()
         else
          k13 ()
      else
       bif (y11 != 0) then
        bif (x5.2 != y11) then
         some false
        else
         bif (!(([x5.1.Mass,x5.1.Heat,x5.1.Silica,x5.1.Gas]:List Int)==[0,0,0,0])) then
          some false
         else
          k13 ()
       else
        k13 ()) fun k12:Int→Option Bool=>
    bif (decide ((p0.length:Int)>40)) then
     k12 (3)
    else
     (Qei N p0).bind fun x55=>
     bif (!x55) then
      k12 (1)
     else
      (Qfb N p0).bind fun x58=>
      bif (decide (x58.Mass>1000000)) then
       k12 (3)
      else
       (Qfb N p0).bind fun x61=>
       bif (decide (x61.Gas>1000000000)) then
        k12 (3)
       else
        k12 (0)) fun k1:Unit→Option Bool=>
  bif (decide ((p0.length:Int)>45)) then
   (Qdx 2000 ).bind fun x65=>
   some x65
  else
   bif (decide ((p2.length:Int)>25)) then
    (Qdx 2000 ).bind fun x68=>
    some x68
   else
    k1 ()
def Qjg (p0:List Qaa):AV:=.dat 4 (p0.map Qae)
def Qhv (p1:Qaa):Slot:=.own 4 [[(I p1.Mass),(I p1.Heat),(I p1.Silica),(I p1.Gas)]]
def Qvv (x5:(Qaa×Int)):AV:=.agg [(I x5.1.Mass),(I x5.1.Heat),(I x5.1.Silica),(I x5.1.Gas)]
def Qy9 (p1:Qaa):AV:=.agg [(I p1.Mass),(I p1.Heat),(I p1.Silica),(I p1.Gas)]
def Qx0 (x7:Qaa):AV:=.agg [(I x7.Mass),(I x7.Heat),(I x7.Silica),(I x7.Gas)]
def Qhr (x10:((List Qaa)×Qdk×Int)):AV:=.dat 4 (x10.1.map Qae)
def Qqv (x10:((List Qaa)×Qdk×Int)):AV:=.agg [(I x10.2.1.Heat),(I x10.2.1.Silica),(I x10.2.1.Gas)]
def Qpd (x5:(Qaa×Int)):Slot:=.own 4 [[(I x5.1.Mass),(I x5.1.Heat),(I x5.1.Silica),(I x5.1.Gas)]]
def Qgp (x10:((List Qaa)×Qdk×Int)):Slot:=.own 3 [[(I x10.2.1.Heat),(I x10.2.1.Silica),(I x10.2.1.Gas)]]
def Qvh (x16:((List Qaa)×Qdk)):AV:=.agg [(I x16.2.Heat),(I x16.2.Silica),(I x16.2.Gas)]
def Qqu (x10:((List Qaa)×Qdk×Int)) (x16:((List Qaa)×Qdk)) (x19:Bool):List (Nat×Rec):=[(2,rp [((.tmp 112),(B ((x10.2.2==0))))] (B true)),(5,rp [((.tmp 113),(B true)),fu 14,((.tmp 114),(Qhr x10)),((.tmp 115),(.dat 4 (x16.1.map Qae)))] (B x19))]
def Qqt x10 x16 x19:=hcat (Qqu x10 x16 x19) [(7,rp [((.tmp 117),(B x19))] (B true)),(15,rp [((.tmp 118),(B true)),((.tmp 121),(I x16.2.Heat)),((.tmp 123),(I x16.2.Silica)),((.tmp 125),(I x16.2.Gas))] (Qvh x16)),(16,rp [((.tmp 118),(B true)),((.tmp 119),(Qqv x10)),((.tmp 126),(Qvh x16))] (B ((([x10.2.1.Heat,x10.2.1.Silica,x10.2.1.Gas]:List Int)==[x16.2.Heat,x16.2.Silica,x16.2.Gas]))))]
def Qqs (p1:Qaa) (x25:Bool):List (Nat×Rec):=[(1,rp [fu 11,((.tmp 82),(Qy9 p1))] (B x25))]
def Ql0 (x10:((List Qaa)×Qdk×Int)):List (Nat×Rec):=[(2,rp [((.tmp 91),(B ((x10.2.2==1))))] (B true)),(4,rp [((.tmp 92),(B true)),((.tmp 93),(Qhr x10))] (I ((x10.1.length:Int))))]
def Qvi:AV:=.agg [(I (0)),(I (0)),(I (0))]
def Qki x10:=hcat (Ql0 x10) [(7,rp [((.tmp 96),(B (((x10.1.length:Int)==0))))] (B true)),(9,rp [((.tmp 97),(B true))] Qvi),(10,rp [((.tmp 97),(B true)),((.tmp 98),(Qqv x10)),((.tmp 99),Qvi)] (B ((([x10.2.1.Heat,x10.2.1.Silica,x10.2.1.Gas]:List Int)==[0,0,0]))))]
def Qqr (y11:Int):List (Nat×Rec):=[(2,rp [((.tmp 56),(B ((y11==0))))] (B true))]
def Qvg (x43:Qaa):AV:=.agg [(I x43.Mass),(I x43.Heat),(I x43.Silica),(I x43.Gas)]
def Qvf (x45:Qaa):AV:=.agg [(I x45.Mass),(I x45.Heat),(I x45.Silica),(I x45.Gas)]
def Qqq y11 (x5:(Qaa×Int)) (p0:List Qaa) (x43 x45:Qaa):=hcat (Qqr y11) [(5,rp [((.tmp 57),(B true)),((.tmp 59),(B ((x5.2 != 0))))] (B false)),(8,rp [((.tmp 60),(B false)),fu 10,((.tmp 62),(Qjg p0))] (Qvg x43)),(9,rp [((.tmp 60),(B false)),fu 8,((.tmp 63),(Qvg x43))] (Qvf x45)),(10,rp [((.tmp 60),(B false)),((.tmp 61),(Qvv x5)),((.tmp 64),(Qvf x45))] (B ((!(([x5.1.Mass,x5.1.Heat,x5.1.Silica,x5.1.Gas]:List Int)==[x45.Mass,x45.Heat,x45.Silica,x45.Gas])))))]
def Qoj y11 x5 p0 x43 x45:=hcat (Qqq y11 x5 p0 x43 x45) [(13,rp [((.tmp 67),(B ((!(([x5.1.Mass,x5.1.Heat,x5.1.Silica,x5.1.Gas]:List Int)==[x45.Mass,x45.Heat,x45.Silica,x45.Gas])))))] (B false))]
def Qok:AV:=.agg [(I (0)),(I (0)),(I (0)),(I (0))]
def Qqp (y11:Int):List (Nat×Rec):=[(2,rp [((.tmp 56),(B ((y11==0))))] (B false)),(16,rp [((.tmp 68),(B false)),((.tmp 70),(B ((y11 != 0))))] (B true))]
def Qqo (p0:List Qaa) (x58:Qaa):List (Nat×Rec):=[(1,rp [fu 10,((.tmp 45),(Qjg p0))] (.agg [(I x58.Mass),(I x58.Heat),(I x58.Silica),(I x58.Gas)]))]
theorem Qht (N:Nat) (p0:List Qaa) (p1:Qaa) (p2:List Int) (r:Bool) (h:Qeb N p0 p1 p2=some r):Spec prog 3 [(.dat 4 (p0.map Qae)),(.agg (Qae p1)),(.dat 1 (p2.map Qab))] [] (B r) []:=by
  refine sA func3 0 fun _ _ _ hq hd0=>?_
  unfold Qeb at h
  refine wxz ?_
  obtain⟨k1,hk_k1,h⟩:=jko h
  refine wjn (τ:=Unit) (fun t=>k1 t=some r) (fun _=>⟨mk 132 [(0,(Qjg p0)),(2,(.dat 1 (p2.map Qab))),(4,.ref 0 4 0 0)],[(Qhv p1)]⟩) (fun t h=>?_) ?_
  ·subst hk_k1
   obtain⟨x3,hf2,h⟩:=bno h
   obtain⟨x5,hf4,h⟩:=bno h
   refine wx tbk [(1,rp _ _),(2,rp _ _)] ⟨apw Qyy (Qi1 N p0 _ hf2),apw Qyz (Qk9 N x3 _ hf4),tv⟩ ?_
   obtain⟨x7,hf6,h⟩:=bno h
   obtain⟨ha8,h⟩:=cko h
   obtain⟨x10,hf9,h⟩:=bno h
   refine wx tbk [(1,rp _ _),(3,⟨[((.const (.slice none 0 0)),nilS),(.tmp 33,(.dat 1 (p2.map Qab)))],[(2,.unused)],(.acc 2 3 1 (p2.map Qab)),[(2,.tok)],false⟩),(4,rp [fu 7,(.tmp 32,(Qx0 x7)),(.tmp 34,(.acc 2 3 1 (p2.map Qab)))] (.tup [(Qhr x10),(Qqv x10),I x10.2.2]))] ⟨apw Qo5 (Qel N p1 _ hf6),Qin rfl underlying25 te3 (Base.nil) rfl rfl (Quq Qab Qwn _) (Qvb Qab ha8) (Qva Qab ha8 (by decide)) (Qu9 Qab) rfl rfl,awk (rd':=(.func 7,(.fn (.func 7) [] []))::[(.tmp 32,(Qx0 x7)),(.tmp 34,(.dat 1 (p2.map Qab)))]) ⟨rfl,lrf,rfl,lrf,rfl,Less.acc,tv⟩ (apv Qvq (Qha N x7 p2 _ hf9) (nlc (NLt.agg _ (nlcc (nlcc nl0))) (nlc (nld Qac _) nl0)) (NLt.tup _ (nlc (nld Qai _) (nlc (NLt.agg _ (nlcc (nlc nll nl0))) (nlc nll nl0))))),tv⟩<|wxz ?_
   obtain⟨k12,hk_k12,h⟩:=jko h
   refine wjn (τ:=Int) (fun t=>k12 t=some r) (fun y11=>⟨mk 132 [(0,(Qjg p0)),(2,(.dat 1 (p2.map Qab))),(4,.ref 0 4 0 0),(7,.ref 1 4 0 0),(8,I x5.2),(9,(Qhr x10)),(10,.ref 2 3 0 0),(11,I x10.2.2),(12,I y11)],[(Qhv p1),(Qpd x5),(Qgp x10)]⟩) (fun y11 h=>?_) ?_
   ·subst hk_k12
    obtain⟨k13,hk_k13,h⟩:=jko h
    refine wjn (τ:=Unit) (fun t=>k13 t=some r) (fun _=>⟨mk 132 [(2,(.dat 1 (p2.map Qab))),(4,.ref 0 4 0 0),(9,(Qhr x10)),(10,.ref 1 3 0 0),(11,I x10.2.2)],[(Qhv p1),(Qgp x10)]⟩) (fun t h=>?_) ?_
    ·subst hk_k13
     obtain⟨k14,hk_k14,h⟩:=jko h
     refine wjn (τ:=Unit) (fun t=>k14 t=some r) (fun _=>⟨mk 132 [(2,(.dat 1 (p2.map Qab))),(4,.ref 0 4 0 0),(9,(Qhr x10)),(10,.ref 1 3 0 0),(11,I x10.2.2)],[(Qhv p1),(Qgp x10)]⟩) (fun t h=>?_) ?_
     ·subst hk_k14
      obtain⟨x16,hf15,h⟩:=bno h
      refine wx tbk [(2,rp _ _)] ⟨apw Qxk (Qju N p1 p2 _ hf15),tv⟩ ?_
      refine bfe h (fun hb17 h=>?_) fun hb17 h=>?_
      ·obtain⟨x19,hf18,h⟩:=bno h
       refine hpre (A:=(Qqu x10 x16 x19)) ⟨asb hb17 (amv rfl),ag_ (apv Qxj (Qkh N x10.1 x16.1 _ hf18) (nlc (nld Qai _) (nlc (nld Qai _) nl0)) nll),tv⟩ fun q1_=>?_
       refine bfe h (fun hb20 h=>?_) fun hb20 h=>?_
       ·refine hpre (A:=(Qqt x10 x16 x19)) (hap q1_ ⟨asb hb20 (amv rfl),ag_ (Qap (vs:=[I x16.2.Heat,I x16.2.Silica,I x16.2.Gas]) rfl ts34 tz34 rfl (by rfl) rfl),ag_ (Qf9 (ls:=[x10.2.1.Heat,x10.2.1.Silica,x10.2.1.Gas]) (ks:=[x16.2.Heat,x16.2.Silica,x16.2.Gas]) rfl rfl Qu1 (by kernel_rfl) rfl rfl),tv⟩) fun q2_=>?_
        refine bfe h (fun hb21 h=>?_) fun hb21 h=>?_
        ·obtain⟨x23,hf22,h⟩:=bno h
         exact wx tbk (hcat (Qqt x10 x16 x19) [(18,rp [(.tmp 128,(B ((([x10.2.1.Heat,x10.2.1.Silica,x10.2.1.Gas]:List Int)==[x16.2.Heat,x16.2.Silica,x16.2.Gas]))))] (B true)),(19,rp [(.tmp 129,B true),fu 4] (B x23))]) (hap q2_ ⟨asb hb21 (amv rfl),ag_ (apv Qmo (Qd8 2000  _ hf22) nl0 nll),tv⟩)<|Qaf<|frb h
        ·exact wx tbk (hcat (Qqt x10 x16 x19) [(18,rp [(.tmp 128,(B ((([x10.2.1.Heat,x10.2.1.Silica,x10.2.1.Gas]:List Int)==[x16.2.Heat,x16.2.Silica,x16.2.Gas]))))] (B false))]) (hap q2_ ⟨asb hb21 (amv rfl),tv⟩)<|Qaf<|frb h
       ·exact wx tbk (hcat (Qqu x10 x16 x19) [(7,rp [(.tmp 117,B x19)] (B false))]) (hap q1_ ⟨asb hb20 (amv rfl),tv⟩)<|Qaf<|frb h
      ·exact wx tbk [(2,rp [(.tmp 112,(B ((x10.2.2==0))))] (B false))] ⟨asb hb17 (amv rfl),tv⟩<|Qaf<|frb h
     ·skip
      obtain⟨x25,hf24,h⟩:=bno h
      refine hpre (A:=(Qqs p1 x25)) ⟨apv Qs8 (Qfm N p1 _ hf24) (nlc (NLt.agg _ (nlcc (nlcc nl0))) nl0) nll,tv⟩ fun q3_=>?_
      refine bfe h (fun hb26 h=>?_) fun hb26 h=>?_
      ·refine wx tbk (hcat (Qqs p1 x25) [(3,rp [(.tmp 84,(B ((!x25))))] (B true))]) (hap q3_ ⟨asb hb26 (amv rfl),tv⟩)<|wtr ?_
       refine bfe h (fun hb27 h=>?_) fun hb27 h=>?_
       ·refine hpre (A:=(Ql0 x10)) ⟨asb hb27 (amv rfl),ag_ (alq 4 Qae x10.1 underlying31),tv⟩ fun q4_=>?_
        refine bfe h (fun hb28 h=>?_) fun hb28 h=>?_
        ·refine hpre (A:=(Qki x10)) (hap q4_ ⟨asb hb28 (amv rfl),ag_ (Qap (vs:=[]) rfl ts34 tz34 rfl (by rfl) rfl),ag_ (Qf9 (ls:=[x10.2.1.Heat,x10.2.1.Silica,x10.2.1.Gas]) (ks:=[0,0,0]) rfl rfl Qu1 (by kernel_rfl) rfl rfl),tv⟩) fun q5_=>?_
         refine bfe h (fun hb29 h=>?_) fun hb29 h=>?_
         ·obtain⟨x31,hf30,h⟩:=bno h
          exact wx tbk (hcat (Qki x10) [(12,rp [(.tmp 101,(B ((([x10.2.1.Heat,x10.2.1.Silica,x10.2.1.Gas]:List Int)==[0,0,0]))))] (B true)),(13,rp [(.tmp 102,B true),fu 4] (B x31))]) (hap q5_ ⟨asb hb29 (amv rfl),ag_ (apv Qmo (Qd8 2000  _ hf30) nl0 nll),tv⟩)<|Qaf<|Qao<|frb h
         ·exact wx tbk (hcat (Qki x10) [(12,rp [(.tmp 101,(B ((([x10.2.1.Heat,x10.2.1.Silica,x10.2.1.Gas]:List Int)==[0,0,0]))))] (B false))]) (hap q5_ ⟨asb hb29 (amv rfl),tv⟩)<|Qaf<|Qao<|frb h
        ·exact wx tbk (hcat (Ql0 x10) [(7,rp [(.tmp 96,(B (((x10.1.length:Int)==0))))] (B false))]) (hap q4_ ⟨asb hb28 (amv rfl),tv⟩)<|Qaf<|Qao<|frb h
       ·exact wx tbk [(2,rp [(.tmp 91,(B ((x10.2.2==1))))] (B false))] ⟨asb hb27 (amv rfl),tv⟩<|Qaf<|Qao<|frb h
      ·obtain⟨x33,hf32,h⟩:=bno h
       refine wx tbk (hcat (Qqs p1 x25) [(3,rp [(.tmp 84,(B ((!x25))))] (B false)),(5,rp [(.tmp 85,B false),fu 12,(.tmp 86,(.dat 1 (p2.map Qab)))] (B x33))]) (hap q3_ ⟨asb hb26 (amv rfl),ag_ (apv Qxl (Qg3 N p2 _ hf32) (nlc (nld Qac _) nl0) nll),tv⟩) ?_
       refine bfe h (fun hc34 h=>?_) fun hc34 h=>?_
       ·refine wft hc34 ?_
        refine bfe h (fun hb35 h=>?_) fun hb35 h=>?_
        ·refine hpre (A:=(Ql0 x10)) ⟨asb hb35 (amv rfl),ag_ (alq 4 Qae x10.1 underlying31),tv⟩ fun q6_=>?_
         refine bfe h (fun hb36 h=>?_) fun hb36 h=>?_
         ·refine hpre (A:=(Qki x10)) (hap q6_ ⟨asb hb36 (amv rfl),ag_ (Qap (vs:=[]) rfl ts34 tz34 rfl (by rfl) rfl),ag_ (Qf9 (ls:=[x10.2.1.Heat,x10.2.1.Silica,x10.2.1.Gas]) (ks:=[0,0,0]) rfl rfl Qu1 (by kernel_rfl) rfl rfl),tv⟩) fun q7_=>?_
          refine bfe h (fun hb37 h=>?_) fun hb37 h=>?_
          ·obtain⟨x39,hf38,h⟩:=bno h
           exact wx tbk (hcat (Qki x10) [(12,rp [(.tmp 101,(B ((([x10.2.1.Heat,x10.2.1.Silica,x10.2.1.Gas]:List Int)==[0,0,0]))))] (B true)),(13,rp [(.tmp 102,B true),fu 4] (B x39))]) (hap q7_ ⟨asb hb37 (amv rfl),ag_ (apv Qmo (Qd8 2000  _ hf38) nl0 nll),tv⟩)<|Qaf<|Qao<|frb h
          ·exact wx tbk (hcat (Qki x10) [(12,rp [(.tmp 101,(B ((([x10.2.1.Heat,x10.2.1.Silica,x10.2.1.Gas]:List Int)==[0,0,0]))))] (B false))]) (hap q7_ ⟨asb hb37 (amv rfl),tv⟩)<|Qaf<|Qao<|frb h
         ·exact wx tbk (hcat (Ql0 x10) [(7,rp [(.tmp 96,(B (((x10.1.length:Int)==0))))] (B false))]) (hap q6_ ⟨asb hb36 (amv rfl),tv⟩)<|Qaf<|Qao<|frb h
        ·exact wx tbk [(2,rp [(.tmp 91,(B ((x10.2.2==1))))] (B false))] ⟨asb hb35 (amv rfl),tv⟩<|Qaf<|Qao<|frb h
       ·exact wfn hc34<|Qah<|thn<|⟨(),h,(mto (n:=132) [(2,(.dat 1 (p2.map Qab))),(4,.ref 0 4 0 0),(9,(Qhr x10)),(10,.ref 1 3 0 0),(11,I x10.2.2)] [0,1] [(Qhv p1),(Qgp x10)] hq (pc (rnd Qac) (prr (pc (rnd Qai) (prr (pw pn))))) (qb (lcc (lcc ln)) (qb (lcc (lc rwl ln)) qn)))⟩
    ·skip
     refine bfe h (fun hb40 h=>?_) fun hb40 h=>?_
     ·refine hpre (A:=(Qqr y11)) ⟨asb hb40 (amv rfl),tv⟩ fun q8_=>?_
      refine bfe h (fun hb41 h=>?_) fun hb41 h=>?_
      ·exact wxd tbk (hcat (Qqr y11) [(5,rp [(.tmp 57,B true),(.tmp 59,(B ((x5.2 != 0))))] (B true))]) (hap q8_ ⟨asb hb41 (ag_ (amv rfl)),tv⟩)<|wtr<|wxz<|Qaf<|Qao<|frb h
      ·obtain⟨x43,hf42,h⟩:=bno h
       obtain⟨x45,hf44,h⟩:=bno h
       refine hpre (A:=(Qqq y11 x5 p0 x43 x45)) (hap q8_ ⟨asb hb41 (ag_ (amv rfl)),ag_ (apv Qn0 (Qgy N p0 _ hf42) (nlc (nld Qai _) nl0) (NLt.agg _ (nlcc (nlcc nl0)))),ag_ (apv Qo5 (Qel N x43 _ hf44) (nlc (NLt.agg _ (nlcc (nlcc nl0))) nl0) (NLt.agg _ (nlcc (nlcc nl0)))),ag_ (Qim (ls:=[x5.1.Mass,x5.1.Heat,x5.1.Silica,x5.1.Gas]) (ks:=[x45.Mass,x45.Heat,x45.Silica,x45.Gas]) rfl rfl Qsu (by kernel_rfl) rfl rfl),tv⟩) fun q9_=>?_
       refine bfe h (fun hb46 h=>?_) fun hb46 h=>?_
       ·exact wxd tbk (hcat (Qqq y11 x5 p0 x43 x45) [(13,rp [(.tmp 67,(B ((!(([x5.1.Mass,x5.1.Heat,x5.1.Silica,x5.1.Gas]:List Int)==[x45.Mass,x45.Heat,x45.Silica,x45.Gas])))))] (B true))]) (hap q9_ ⟨asb hb46 (amv rfl),tv⟩)<|wtr<|wxz<|Qaf<|Qao<|frb h
       ·refine hpre (A:=(Qoj y11 x5 p0 x43 x45)) (hap q9_ ⟨asb hb46 (amv rfl),tv⟩) fun q10_=>?_
        refine bfe h (fun hb47 h=>?_) fun hb47 h=>?_
        ·refine bfe h (fun hb48 h=>?_) fun hb48 h=>?_
         ·exact wxd tbk (hcat (Qoj y11 x5 p0 x43 x45) [(16,rp [(.tmp 68,B false),(.tmp 70,(B ((y11 != 0))))] (B true)),(20,rp [(.tmp 71,B true),(.tmp 74,(B ((x5.2 != y11))))] (B true))]) (hap q10_ ⟨asb hb47 (ag_ (amv rfl)),asb hb48 (ag_ (amv rfl)),tv⟩)<|wtr<|wxz<|Qaf<|Qao<|frb h
         ·refine wxd tbk (hcat (Qoj y11 x5 p0 x43 x45) [(16,rp [(.tmp 68,B false),(.tmp 70,(B ((y11 != 0))))] (B true)),(20,rp [(.tmp 71,B true),(.tmp 74,(B ((x5.2 != y11))))] (B false)),(22,rp [(.tmp 75,B false)] Qok),(23,rp [(.tmp 75,B false),(.tmp 76,(Qvv x5)),(.tmp 77,Qok)] (B ((!(([x5.1.Mass,x5.1.Heat,x5.1.Silica,x5.1.Gas]:List Int)==[0,0,0,0])))))]) (hap q10_ ⟨asb hb47 (ag_ (amv rfl)),asb hb48 (ag_ (amv rfl)),ag_ (Qap (vs:=[]) rfl ts27 tz27 rfl (by rfl) rfl),ag_ (Qim (ls:=[x5.1.Mass,x5.1.Heat,x5.1.Silica,x5.1.Gas]) (ks:=[0,0,0,0]) rfl rfl Qsu (by kernel_rfl) rfl rfl),tv⟩) ?_
          refine bfe h (fun hc49 h=>?_) fun hc49 h=>?_
          ·exact wft hc49<|wxz<|Qaf<|Qao<|frb h
          ·exact wfn hc49<|Qah<|thn<|⟨(),h,(mto (n:=132) [(2,(.dat 1 (p2.map Qab))),(4,.ref 0 4 0 0),(9,(Qhr x10)),(10,.ref 2 3 0 0),(11,I x10.2.2)] [0,2] [(Qhv p1),(Qgp x10)] hq (pc (rnd Qac) (prr (pc (rnd Qai) (prr (pw pn))))) (qb (lcc (lcc ln)) (qb (lcc (lc rwl ln)) qn)))⟩
        ·exact wxd tbk (hcat (Qoj y11 x5 p0 x43 x45) [(16,rp [(.tmp 68,B false),(.tmp 70,(B ((y11 != 0))))] (B false))]) (hap q10_ ⟨asb hb47 (ag_ (amv rfl)),tv⟩)<|wfa<|Qah<|thn<|⟨(),h,(mto (n:=132) [(2,(.dat 1 (p2.map Qab))),(4,.ref 0 4 0 0),(9,(Qhr x10)),(10,.ref 2 3 0 0),(11,I x10.2.2)] [0,2] [(Qhv p1),(Qgp x10)] hq (pc (rnd Qac) (prr (pc (rnd Qai) (prr (pw pn))))) (qb (lcc (lcc ln)) (qb (lcc (lc rwl ln)) qn)))⟩
     ·refine bfe h (fun hb50 h=>?_) fun hb50 h=>?_
      ·refine hpre (A:=(Qqp y11)) ⟨asb hb40 (amv rfl),asb hb50 (ag_ (amv rfl)),tv⟩ fun q11_=>?_
       refine bfe h (fun hb51 h=>?_) fun hb51 h=>?_
       ·exact wxd tbk (hcat (Qqp y11) [(20,rp [(.tmp 71,B true),(.tmp 74,(B ((x5.2 != y11))))] (B true))]) (hap q11_ ⟨asb hb51 (ag_ (amv rfl)),tv⟩)<|wtr<|wxz<|Qaf<|Qao<|frb h
       ·refine wxd tbk (hcat (Qqp y11) [(20,rp [(.tmp 71,B true),(.tmp 74,(B ((x5.2 != y11))))] (B false)),(22,rp [(.tmp 75,B false)] Qok),(23,rp [(.tmp 75,B false),(.tmp 76,(Qvv x5)),(.tmp 77,Qok)] (B ((!(([x5.1.Mass,x5.1.Heat,x5.1.Silica,x5.1.Gas]:List Int)==[0,0,0,0])))))]) (hap q11_ ⟨asb hb51 (ag_ (amv rfl)),ag_ (Qap (vs:=[]) rfl ts27 tz27 rfl (by rfl) rfl),ag_ (Qim (ls:=[x5.1.Mass,x5.1.Heat,x5.1.Silica,x5.1.Gas]) (ks:=[0,0,0,0]) rfl rfl Qsu (by kernel_rfl) rfl rfl),tv⟩) ?_
        refine bfe h (fun hc52 h=>?_) fun hc52 h=>?_
        ·exact wft hc52<|wxz<|Qaf<|Qao<|frb h
        ·exact wfn hc52<|Qah<|thn<|⟨(),h,(mto (n:=132) [(2,(.dat 1 (p2.map Qab))),(4,.ref 0 4 0 0),(9,(Qhr x10)),(10,.ref 2 3 0 0),(11,I x10.2.2)] [0,2] [(Qhv p1),(Qgp x10)] hq (pc (rnd Qac) (prr (pc (rnd Qai) (prr (pw pn))))) (qb (lcc (lcc ln)) (qb (lcc (lc rwl ln)) qn)))⟩
      ·exact wxd tbk [(2,rp [(.tmp 56,(B ((y11==0))))] (B false)),(16,rp [(.tmp 68,B false),(.tmp 70,(B ((y11 != 0))))] (B false))] ⟨asb hb40 (amv rfl),asb hb50 (ag_ (amv rfl)),tv⟩<|wfa<|Qah<|thn<|⟨(),h,(mto (n:=132) [(2,(.dat 1 (p2.map Qab))),(4,.ref 0 4 0 0),(9,(Qhr x10)),(10,.ref 2 3 0 0),(11,I x10.2.2)] [0,2] [(Qhv p1),(Qgp x10)] hq (pc (rnd Qac) (prr (pc (rnd Qai) (prr (pw pn))))) (qb (lcc (lcc ln)) (qb (lcc (lc rwl ln)) qn)))⟩
   ·skip
    refine wx tbk [(1,rp _ _)] ⟨alq 4 Qae p0 underlying22,tv⟩ ?_
    refine bfe h (fun hc53 h=>?_) fun hc53 h=>?_
    ·exact wft hc53<|wxz1<|thn<|⟨(3),h,(mto (n:=132) [(0,(Qjg p0)),(2,(.dat 1 (p2.map Qab))),(4,.ref 0 4 0 0),(7,.ref 1 4 0 0),(8,I x5.2),(9,(Qhr x10)),(10,.ref 3 3 0 0),(11,I x10.2.2),(12,I 3)] [0,1,3] [(Qhv p1),(Qpd x5),(Qgp x10)] hq (pc (rnd Qai) (pc (rnd Qac) (prr (prr (pw (pc (rnd Qai) (prr (pw (pw pn))))))))) (qb (lcc (lcc ln)) (qb (lcc (lcc ln)) (qb (lcc (lc rwl ln)) qn))))⟩
    ·refine wfn hc53 ?_
     obtain⟨x55,hf54,h⟩:=bno h
     refine wx tbk [(1,rp _ _)] ⟨apw Qyx (Qiw N p0 _ hf54),tv⟩ ?_
     refine bfe h (fun hc56 h=>?_) fun hc56 h=>?_
     ·exact wft hc56<|wxz1<|thn<|⟨(1),h,(mto (n:=132) [(0,(Qjg p0)),(2,(.dat 1 (p2.map Qab))),(4,.ref 0 4 0 0),(7,.ref 1 4 0 0),(8,I x5.2),(9,(Qhr x10)),(10,.ref 3 3 0 0),(11,I x10.2.2),(12,I 1)] [0,1,3] [(Qhv p1),(Qpd x5),(Qgp x10)] hq (pc (rnd Qai) (pc (rnd Qac) (prr (prr (pw (pc (rnd Qai) (prr (pw (pw pn))))))))) (qb (lcc (lcc ln)) (qb (lcc (lcc ln)) (qb (lcc (lc rwl ln)) qn))))⟩
     ·refine wfn hc56 ?_
      obtain⟨x58,hf57,h⟩:=bno h
      refine hpre (A:=(Qqo p0 x58)) ⟨apv Qn0 (Qgy N p0 _ hf57) (nlc (nld Qai _) nl0) (NLt.agg _ (nlcc (nlcc nl0))),tv⟩ fun q12_=>?_
      refine bfe h (fun hb59 h=>?_) fun hb59 h=>?_
      ·exact wx tbk (hcat (Qqo p0 x58) [(4,rp [(.tmp 48,(B ((decide (x58.Mass>1000000)))))] (B true))]) (hap q12_ ⟨asb hb59 (amv rfl),tv⟩)<|wtr<|wxz1<|thn<|⟨(3),h,(mto (n:=132) [(0,(Qjg p0)),(2,(.dat 1 (p2.map Qab))),(4,.ref 0 4 0 0),(7,.ref 1 4 0 0),(8,I x5.2),(9,(Qhr x10)),(10,.ref 3 3 0 0),(11,I x10.2.2),(12,I 3)] [0,1,3] [(Qhv p1),(Qpd x5),(Qgp x10)] hq (pc (rnd Qai) (pc (rnd Qac) (prr (prr (pw (pc (rnd Qai) (prr (pw (pw pn))))))))) (qb (lcc (lcc ln)) (qb (lcc (lcc ln)) (qb (lcc (lc rwl ln)) qn))))⟩
      ·obtain⟨x61,hf60,h⟩:=bno h
       refine wx tbk (hcat (Qqo p0 x58) [(4,rp [(.tmp 48,(B ((decide (x58.Mass>1000000)))))] (B false)),(6,rp [(.tmp 49,B false),fu 10,(.tmp 50,(Qjg p0))] (.agg [I x61.Mass,I x61.Heat,I x61.Silica,I x61.Gas]))]) (hap q12_ ⟨asb hb59 (amv rfl),ag_ (apv Qn0 (Qgy N p0 _ hf60) (nlc (nld Qai _) nl0) (NLt.agg _ (nlcc (nlcc nl0)))),tv⟩) ?_
       refine bfe h (fun hc62 h=>?_) fun hc62 h=>?_
       ·exact wft hc62<|wxz1<|thn<|⟨(3),h,(mto (n:=132) [(0,(Qjg p0)),(2,(.dat 1 (p2.map Qab))),(4,.ref 0 4 0 0),(7,.ref 1 4 0 0),(8,I x5.2),(9,(Qhr x10)),(10,.ref 3 3 0 0),(11,I x10.2.2),(12,I 3)] [0,1,3] [(Qhv p1),(Qpd x5),(Qgp x10)] hq (pc (rnd Qai) (pc (rnd Qac) (prr (prr (pw (pc (rnd Qai) (prr (pw (pw pn))))))))) (qb (lcc (lcc ln)) (qb (lcc (lcc ln)) (qb (lcc (lc rwl ln)) qn))))⟩
       ·exact wfn hc62<|Qah<|thn<|⟨(0),h,(mto (n:=132) [(0,(Qjg p0)),(2,(.dat 1 (p2.map Qab))),(4,.ref 0 4 0 0),(7,.ref 1 4 0 0),(8,I x5.2),(9,(Qhr x10)),(10,.ref 3 3 0 0),(11,I x10.2.2),(12,I 0)] [0,1,3] [(Qhv p1),(Qpd x5),(Qgp x10)] hq (pc (rnd Qai) (pc (rnd Qac) (prr (prr (pw (pc (rnd Qai) (prr (pw (pw pn))))))))) (qb (lcc (lcc ln)) (qb (lcc (lcc ln)) (qb (lcc (lc rwl ln)) qn))))⟩
  ·skip
   refine bfe h (fun hb63 h=>?_) fun hb63 h=>?_
   ·refine wx tbk [(1,rp _ _),(3,rp [(.tmp 17,(B ((decide ((p0.length:Int)>45)))))] (B true))] ⟨alq 4 Qae p0 underlying22,asb hb63 (amv rfl),tv⟩<|wtr ?_
    obtain⟨x65,hf64,h⟩:=bno h
    exact wx tbk [(0,rp _ _)] ⟨apw Qmo (Qd8 2000  _ hf64),tv⟩<|Qaf<|Qao<|frb h
   ·refine wx tbk [(1,rp _ _),(3,rp [(.tmp 17,(B ((decide ((p0.length:Int)>45)))))] (B false)),(5,rp [(.tmp 18,B false),(.tmp 19,(.dat 1 (p2.map Qab)))] (I ((p2.length:Int))))] ⟨alq 4 Qae p0 underlying22,asb hb63 (amv rfl),ag_ (alq 1 Qab p2 underlying25),tv⟩ ?_
    refine bfe h (fun hc66 h=>?_) fun hc66 h=>?_
    ·refine wft hc66 ?_
     obtain⟨x68,hf67,h⟩:=bno h
     exact wx tbk [(0,rp _ _)] ⟨apw Qmo (Qd8 2000  _ hf67),tv⟩<|Qaf<|Qao<|frb h
    ·exact wfn hc66<|Qah<|thn<|⟨(),h,(mto (n:=132) [(0,(Qjg p0)),(2,(.dat 1 (p2.map Qab))),(4,.ref 0 4 0 0)] [0] [(Qhv p1)] hq (pc (rnd Qai) (pc (rnd Qac) (prr pn))) (qb (lcc (lcc ln)) qn))⟩
end
section
theorem Qb6 {x:Int}(h:-9223372036854775808≤x) (h':x≤9223372036854775807):w64 x=x:=by
 unfold w64
 rw[IntKind.wrap_i64]
 omega
theorem w64S {i:Nat}(h:(i:Int)+1≤9223372036854775807):w64 ((i:Int)+1)=((i+1:Nat):Int):=Qb6 (by omega) h
theorem dlt {α:Type}{l q:List α}{x:α}{i m:Nat}(hd:l.drop i=x::q) (hd':l.drop (i+1)=q) (h:(l.drop i).length<m+1):(l.drop (i+1)).length<m:=by
 rw[hd']
 rw[hd] at h
 simp at h
 omega
theorem dlI {α:Type}{l:List α}{i:Nat}(h:i<l.length):decide ((i:Int)<(l.length:Int))=true:=by simpa using h
theorem Qe4 {α:Type}{l:List α}{i:Nat}{x:α}(h:l[i]? = some x):getI l (i:Int)=some x:=by
 simp[getI,h]
def btw (a lo hi:Int):Bool:=decide (lo≤a)&&decide (a≤hi)
theorem Qh3 {a lo hi:Int}:btw a lo hi=true↔lo≤a∧a≤hi:=by simp[btw]
theorem Qi6 (a b:Int):w64 (w64 a+b)=w64 (a+b):=by
 unfold w64
 rw[IntKind.wrap_i64,IntKind.wrap_i64,IntKind.wrap_i64]
 omega
theorem Qo2 {κ β:Type}(k:κ) (f:κ→Option β):Qcd k f=f k:=by rw[Qcd]
theorem Qyu (N:Nat) (a lo hi:Int):Qe1 N a lo hi=some (btw a lo hi):=by
 unfold Qe1 btw
 by_cases h:lo≤a<;>simp[h]
theorem Qip (N:Nat) (a lo hi:Int):Qbq N a lo hi=some (btw a lo hi):=by
 unfold Qbq btw
 by_cases h:lo≤a<;>simp[h]
theorem Qdu {α:Type}{t:List α}{i:Nat}{a:α}{l:List α}(h:t.drop i=a::l):t[i]? = some a∧t.drop (i+1)=l∧i<t.length:=by
 have hlt:i<t.length:=by
  rcases Nat.lt_or_ge i t.length with h' |h'
  ·exact h'
  ·rw[List.drop_eq_nil_of_le h'] at h;cases h
 rw[List.drop_eq_getElem_cons hlt] at h
 injection h with h1 h2
 exact⟨by rw[List.getElem?_eq_getElem hlt,h1],h2,hlt⟩
theorem Qec {α:Type}{t:List α}{i:Nat}(h:t.drop i=[]):t.length≤i:=List.drop_eq_nil_iff.1 h
def strB (s:Qaa):Bool:=btw s.Mass 0 1000000&&btw s.Heat 0 (4000*s.Mass)&&btw s.Silica 0 (10000*s.Mass)&&btw s.Gas 0 1000000000
theorem Qjb {s:Qaa}(h:btw s.Mass 0 1000000=true):w64 (4000*s.Mass)=4000*s.Mass∧w64 (10000*s.Mass)=10000*s.Mass:=by
 simp only[btw,Bool.and_eq_true,decide_eq_true_eq] at h
 exact⟨Qb6 (by omega) (by omega),Qb6 (by omega) (by omega)⟩
theorem Qmd (N:Nat) (s:Qaa):Qc5 N s=some (strB s):=by
 unfold Qc5 strB
 simp only[Qyu,Option.bind_some]
 cases h:btw s.Mass 0 1000000 with
 |false=>rfl
 |true=>
  rw[(Qjb h).1,(Qjb h).2]
  cases btw s.Heat 0 (4000*s.Mass)<;>cases btw s.Silica 0 (10000*s.Mass)<;>cases btw s.Gas 0 1000000000<;>rfl
theorem Qk5 (N:Nat) (s:Qaa):Qcm N s=some (strB s):=by
 unfold Qcm strB
 simp only[Qip,Option.bind_some]
 cases h:btw s.Mass 0 1000000 with
 |false=>rfl
 |true=>
  rw[(Qjb h).1,(Qjb h).2]
  cases btw s.Heat 0 (4000*s.Mass)<;>cases btw s.Silica 0 (10000*s.Mass)<;>cases btw s.Gas 0 1000000000<;>rfl
structure RowV (r:GRow):Prop where
 l0:0≤r.Liquid
 l1:r.Liquid≤4000
 lv:r.Liquid<r.Vapour
 v1:r.Vapour≤4000
 s0:0≤r.Silica
 s1:r.Silica≤2000
structure StrV (s:Qaa):Prop where
 m0:0≤s.Mass
 m1:s.Mass≤1000000
 h0:0≤s.Heat
 h1:s.Heat≤4000*s.Mass
 s0:0≤s.Silica
 s1:s.Silica≤10000*s.Mass
 g0:0≤s.Gas
 g1:s.Gas≤1000000000
theorem Qk7 {s:Qaa}:strB s=true↔StrV s:=by
 simp only[strB,btw,Bool.and_eq_true,decide_eq_true_eq]
 exact⟨fun h=>⟨by omega,by omega,by omega,by omega,by omega,by omega,by omega,by omega⟩,fun h=>by obtain⟨_,_,_,_,_,_,_,_⟩:=h;omega⟩
theorem bdp {x y a b:Int}(hx:0≤x) (hx':x≤a) (hy:0≤y) (hy':y≤b) (ha:0≤a):0≤x*y∧x*y≤a*b:=
 ⟨Int.mul_nonneg hx hy,Int.mul_le_mul hx' hy' hy ha⟩
structure Qzv (r:GRow) (s:Qaa):Prop where
 a:w64 (s.Mass*r.Liquid)=s.Mass*r.Liquid
 b:w64 (s.Heat-s.Mass*r.Liquid)=s.Heat-s.Mass*r.Liquid
 c:w64 (s.Mass*r.Vapour)=s.Mass*r.Vapour
 d:w64 (r.Vapour-r.Liquid)=r.Vapour-r.Liquid
structure Qzw (s:Qaa) (p:Qfx):Prop where
 st:StrV p.Steam
 wa:StrV p.Water
 km:p.Steam.Mass+p.Water.Mass=s.Mass
 kh:p.Steam.Heat+p.Water.Heat=s.Heat
 ks:p.Water.Silica+p.Scale=s.Silica
 kg:p.Steam.Gas+p.Water.Gas=s.Gas
 z:p.Steam.Silica=0
 sc:0≤p.Scale
end
end Go.Proofs.Ytcoojdacfknboaa
