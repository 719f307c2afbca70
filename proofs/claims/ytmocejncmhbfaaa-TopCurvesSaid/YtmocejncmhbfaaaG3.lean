/-
  The texts X2, X3, X4, PTown, PStk, PTc, PTd, PTe of the proof, one behind the other. No conditions.
-/
import Derived.Test.YtmocejncmhbfaaaG2
namespace Go.Proofs.Ytmocejncmhbfaaa
open _root_.Go.Proofs.Try
open Go.RowKit
set_option maxRecDepth 100000
set_option maxHeartbeats 4000000
set_option synthInstance.maxSize 4000
set_option synthInstance.maxHeartbeats 400000
section
def Qb4 (_N:Nat) (p0:Qaa) (p1 p2:Int):Option Bool:=
  bif (decide (p1≤p0.Lo)) then
   bif (decide (p0.Lo≤p0.Hi)) then
    some (decide (p0.Hi≤p2))
   else
    some false
  else
   some false
theorem Qc5 (N:Nat) (p0:Qaa) (p1 p2:Int) (r:Bool) (h:Qb4 N p0 p1 p2=some r):Spec prog 33 [(.agg (Qar p0)),(I p1),(I p2)] [] (B r) []:=by
  refine sA func33 0 fun _ _ _ hq hd0=>?_
  unfold Qb4 at h
  refine wxz ?_
  refine bfe h (fun hb1 h=>?_) fun hb1 h=>?_
  ·refine bfe h (fun hb2 h=>?_) fun hb2 h=>?_
   ·refine wx tbk [(4,rp [(.tmp 10,(B ((decide (p1≤p0.Lo)))))] (B true)),(11,rp [(.tmp 17,(B ((decide (p0.Lo≤p0.Hi)))))] (B true))] ⟨asb hb1 (amv rfl),asb hb2 (amv rfl),tv⟩<|Qad ?_
    obtain rfl:=osi h
    exact fend ⟨[(B ((decide (p0.Hi≤p2))))],⟨rot,tv⟩,rfl⟩ nll
   ·exact wx tbk [(4,rp [(.tmp 10,(B ((decide (p1≤p0.Lo)))))] (B true)),(11,rp [(.tmp 17,(B ((decide (p0.Lo≤p0.Hi)))))] (B false))] ⟨asb hb1 (amv rfl),asb hb2 (amv rfl),tv⟩<|Qad<|frb h
  ·exact wx tbk [(4,rp [(.tmp 10,(B ((decide (p1≤p0.Lo)))))] (B false))] ⟨asb hb1 (amv rfl),tv⟩<|Qad<|frb h
def Qdf (_N:Nat) (p0 p1 p2:Int):Option Bool:=
  bif (decide (p1≤p0)) then
   some (decide (p0≤p2))
  else
   some false
theorem Qe1 (N:Nat) (p0 p1 p2:Int) (r:Bool) (h:Qdf N p0 p1 p2=some r):Spec prog 18 [(I p0),(I p1),(I p2)] [] (B r) []:=by
  refine sA func18 0 fun _ _ _ hq hd0=>?_
  unfold Qdf at h
  refine wxz ?_
  refine bfe h (fun hb1 h=>?_) fun hb1 h=>?_
  ·refine wx tbk [(3,rp [(.tmp 9,(B ((decide (p1≤p0)))))] (B true))] ⟨asb hb1 (amv rfl),tv⟩<|Qad ?_
   obtain rfl:=osi h
   exact fend ⟨[(B ((decide (p0≤p2))))],⟨rot,tv⟩,rfl⟩ nll
  ·exact wx tbk [(3,rp [(.tmp 9,(B ((decide (p1≤p0)))))] (B false))] ⟨asb hb1 (amv rfl),tv⟩<|Qad<|frb h
def Qdr (N:Nat) (p0:Qaa):Option Bool:=
  (Qb4 N p0 (-2000000000) 2000000000).bind fun x2=>
  some x2
theorem Qgb (N:Nat) (p0:Qaa) (r:Bool) (h:Qdr N p0=some r):Spec prog 34 [(.agg (Qar p0))] [] (B r) []:=by
  refine sA func34 0 fun _ _ _ hq hd0=>?_
  unfold Qdr at h
  refine wxz ?_
  obtain⟨x2,hf1,h⟩:=bno h
  exact wx tbk [(1,rp _ _)] ⟨apw Qk2 (Qc5 N p0 (-2000000000) 2000000000 _ hf1),tv⟩<|Qad<|frb h
def Qbv (N:Nat) (p0:Qa4) (k3:Unit→Option Int):Nat→Int→Option Int
  |0,_=>none
  |n6+1,y4=>
    bif (decide (y4<(p0.Steps.length:Int))) then
     (getI p0.Steps y4).bind fun x8=>
     (Qdf N x8.Flow 0 1000).bind fun x13=>
     bif (!x13) then
      some 1
     else
      (Qdr N (⟨x8.In.Lo,x8.In.Hi⟩:Qaa)).bind fun x16=>
      bif (!x16) then
       some 1
      else
       Qbv N p0 k3 n6 (w64 (y4+1))
    else
     k3 ()
def Qcm (N:Nat) (p0:Qa4):Option Int:=
  bif (decide ((p0.Steps.length:Int)>12)) then
   some 3
  else
   Qdc (fun _=>
     Qdc (fun _=>
       some 0) fun k3:Unit→Option Int=>
     Qbv N p0 k3 N 0) fun k2:Unit→Option Int=>
   (Qb4 N (⟨p0.A.Lo,p0.A.Hi⟩:Qaa) 0 100000).bind fun x19=>
   bif (!x19) then
    some 1
   else
    (Qb4 N (⟨p0.B.Lo,p0.B.Hi⟩:Qaa) 0 10000).bind fun x22=>
    bif (!x22) then
     some 1
    else
     (Qb4 N (⟨p0.C.Lo,p0.C.Hi⟩:Qaa) 0 1000).bind fun x25=>
     bif (!x25) then
      some 1
     else
      bif (decide ((w64 (p0.B.Hi-p0.B.Lo))≥40)) then
       some 1
      else
       bif (decide ((w64 (p0.C.Hi-p0.C.Lo))≥40)) then
        some 1
       else
        k2 ()
def Qqp (p0:Qa4):AV:=.dat 3 (p0.Steps.map Qbc)
def Qw7 (p0:Qa4):Slot:=.own 7 [[(I p0.A.Lo),(I p0.A.Hi),(I p0.B.Lo),(I p0.B.Hi),(I p0.C.Lo),(I p0.C.Hi),(Qqp p0)]]
def Qqo (x8:Qbd) (x13:Bool):List (Nat×Rec):=[(2,rp [fu 18,((.tmp 53),(I x8.Flow)),ci 0,ci 1000] (B x13))]
def Qqn (p0:Qa4) (x19:Bool):List (Nat×Rec):=[(2,rp [fu 33,((.tmp 10),(.agg [(I p0.A.Lo),(I p0.A.Hi)])),ci 0,ci 100000] (B x19))]
def Qqm p0 x19 (x22:Bool):=hcat (Qqn p0 x19) [(4,rp [((.tmp 12),(B ((!x19))))] (B false)),(7,rp [((.tmp 13),(B false)),fu 33,((.tmp 15),(.agg [(I p0.B.Lo),(I p0.B.Hi)])),ci 0,ci 10000] (B x22))]
def Qn1 p0 x19 x22 (x25:Bool):=hcat (Qqm p0 x19 x22) [(10,rp [((.tmp 18),(B ((!x22))))] (B false)),(13,rp [((.tmp 19),(B false)),fu 33,((.tmp 21),(.agg [(I p0.C.Lo),(I p0.C.Hi)])),ci 0,ci 1000] (B x25))]
theorem Qfc (N:Nat) (p0:Qa4) (r:Int) (h:Qcm N p0=some r):Spec prog 15 [(.agg (Qh2 p0))] [] (I r) []:=by
  refine sA func15 0 fun _ _ _ hq hd0=>?_
  unfold Qcm at h
  refine wxz<|wsq ?_
  refine wx tbk [(2,rp _ _)] ⟨alq 3 Qbc p0.Steps underlying28,tv⟩ ?_
  refine bfe h (fun hc1 h=>?_) fun hc1 h=>?_
  ·refine wft hc1<|wxz<|Qad<|Qac ?_
   obtain rfl:=osi h
   exact fend ⟨[I 3],⟨rot,tv⟩,rfl⟩ nll
  ·refine wfn hc1<|Qai<|thn ?_
   obtain⟨k2,hk_k2,h⟩:=jko h
   refine wjn (τ:=Unit) (fun t=>k2 t=some r) (fun _=>⟨mk 63 [(1,.ref 0 7 0 0)],[(Qw7 p0)]⟩) (fun t h=>?_) ?_
   ·subst hk_k2
    obtain⟨k3,hk_k3,h⟩:=jko h
    refine wjn (τ:=Unit) (fun t=>k3 t=some r) (fun _=>⟨mk 63 [],[]⟩) (fun t h=>?_) ?_
    ·subst hk_k3
     refine wxz<|Qad ?_
     obtain rfl:=osi h
     exact fend ⟨[I 0],⟨rot,tv⟩,rfl⟩ nll
    ·skip
     refine wx tbk [(2,rp _ _)] ⟨alq 3 Qbc p0.Steps underlying28,tv⟩<|Qal ?_
     refine wmr (mto (n:=63) (l':=[(46,(Qqp p0)),(47,(I ((p0.Steps.length:Int)))),(48,I 0)]) (own':=[]) [(46,(Qqp p0)),(47,(I ((p0.Steps.length:Int)))),(48,I 0)] [] [] hq (pc (rnd Qao) (pw (pw pn))) qn) ?_
     refine Qdk (τ:=Int) (fun n t=>Qbv N p0 k3 n t=some r) (fun y4=>⟨mk 63 [(46,(Qqp p0)),(47,(I ((p0.Steps.length:Int)))),(48,I y4)],[]⟩) (fun t h=>by rw[Qbv] at h;cases h) (fun n6 ih y4 h=>?_) N (0) h
     rw[Qbv] at h
     skip
     refine wxz<|wsq ?_
     refine bfe h (fun hc7 h=>?_) fun hc7 h=>?_
     ·refine wft hc7<|Qai<|thn<|wsq<|Qal ?_
      obtain⟨x8,hg9,h⟩:=bno h
      obtain⟨hi10,hj11⟩:=gsm hg9
      refine wx tbk [(0,rp _ _)] ⟨aiq underlying28 ti49 Qbc hi10 hj11,tv⟩ ?_
      obtain⟨x13,hf12,h⟩:=bno h
      refine hpre (A:=(Qqo x8 x13)) ⟨apv Qni (Qe1 N x8.Flow 0 1000 _ hf12) (nlcc (nlc nll nl0)) nll,tv⟩ fun q1_=>?_
      refine bfe h (fun hb14 h=>?_) fun hb14 h=>?_
      ·refine wx tbk (hcat (Qqo x8 x13) [(4,rp [(.tmp 55,(B ((!x13))))] (B true))]) (hap q1_ ⟨asb hb14 (amv rfl),tv⟩)<|wtr<|wxz<|Qad<|Qag<|Qac<|Qac<|Qag<|Qac ?_
       obtain rfl:=osi h
       exact fend ⟨[I 1],⟨rot,tv⟩,rfl⟩ nll
      ·obtain⟨x16,hf15,h⟩:=bno h
       refine wx tbk (hcat (Qqo x8 x13) [(4,rp [(.tmp 55,(B ((!x13))))] (B false)),(7,rp [(.tmp 56,B false),fu 34,(.tmp 58,(.agg [I x8.In.Lo,I x8.In.Hi]))] (B x16))]) (hap q1_ ⟨asb hb14 (amv rfl),ag_ (apv Qv9 (Qgb N (⟨x8.In.Lo,x8.In.Hi⟩:Qaa) _ hf15) (nlc (NLt.agg _ (nlcc nl0)) nl0) nll),tv⟩) ?_
       refine bfe h (fun hc17 h=>?_) fun hc17 h=>?_
       ·refine wft hc17<|wxz<|Qad<|Qag<|Qac<|Qac<|Qag<|Qac ?_
        obtain rfl:=osi h
        exact fend ⟨[I 1],⟨rot,tv⟩,rfl⟩ nll
       ·exact wfn hc17<|Qai<|bln<|thn<|wxz1<|thn<|arm (mto (n:=63) [(46,(Qqp p0)),(47,(I ((p0.Steps.length:Int)))),(48,(I (w64 (y4+1))))] [] [] hq (pc (rnd Qao) (pw (pw pn))) qn) (ih (w64 (y4+1)) h)
     ·exact wfn hc7<|Qcp<|Qbf<|Qbf<|Qco rfl<|thn<|⟨(),h,(mto (n:=63) [] [] [] hq pn qn)⟩
   ·skip
    obtain⟨x19,hf18,h⟩:=bno h
    refine hpre (A:=(Qqn p0 x19)) ⟨apv Qk2 (Qc5 N (⟨p0.A.Lo,p0.A.Hi⟩:Qaa) 0 100000 _ hf18) (nlc (NLt.agg _ (nlcc nl0)) (nlcc nl0)) nll,tv⟩ fun q2_=>?_
    refine bfe h (fun hb20 h=>?_) fun hb20 h=>?_
    ·refine wx tbk (hcat (Qqn p0 x19) [(4,rp [(.tmp 12,(B ((!x19))))] (B true))]) (hap q2_ ⟨asb hb20 (amv rfl),tv⟩)<|wtr<|wxz<|Qad<|Qac ?_
     obtain rfl:=osi h
     exact fend ⟨[I 1],⟨rot,tv⟩,rfl⟩ nll
    ·obtain⟨x22,hf21,h⟩:=bno h
     refine hpre (A:=(Qqm p0 x19 x22)) (hap q2_ ⟨asb hb20 (amv rfl),ag_ (apv Qk2 (Qc5 N (⟨p0.B.Lo,p0.B.Hi⟩:Qaa) 0 10000 _ hf21) (nlc (NLt.agg _ (nlcc nl0)) (nlcc nl0)) nll),tv⟩) fun q3_=>?_
     refine bfe h (fun hb23 h=>?_) fun hb23 h=>?_
     ·refine wx tbk (hcat (Qqm p0 x19 x22) [(10,rp [(.tmp 18,(B ((!x22))))] (B true))]) (hap q3_ ⟨asb hb23 (amv rfl),tv⟩)<|wtr<|wxz<|Qad<|Qac ?_
      obtain rfl:=osi h
      exact fend ⟨[I 1],⟨rot,tv⟩,rfl⟩ nll
     ·obtain⟨x25,hf24,h⟩:=bno h
      refine hpre (A:=(Qn1 p0 x19 x22 x25)) (hap q3_ ⟨asb hb23 (amv rfl),ag_ (apv Qk2 (Qc5 N (⟨p0.C.Lo,p0.C.Hi⟩:Qaa) 0 1000 _ hf24) (nlc (NLt.agg _ (nlcc nl0)) (nlcc nl0)) nll),tv⟩) fun q4_=>?_
      refine bfe h (fun hb26 h=>?_) fun hb26 h=>?_
      ·refine wx tbk (hcat (Qn1 p0 x19 x22 x25) [(16,rp [(.tmp 24,(B ((!x25))))] (B true))]) (hap q4_ ⟨asb hb26 (amv rfl),tv⟩)<|wtr<|wxz<|Qad<|Qac ?_
       obtain rfl:=osi h
       exact fend ⟨[I 1],⟨rot,tv⟩,rfl⟩ nll
      ·refine bfe h (fun hb27 h=>?_) fun hb27 h=>?_
       ·refine wx tbk (hcat (Qn1 p0 x19 x22 x25) [(16,rp [(.tmp 24,(B ((!x25))))] (B false)),(26,rp [(.tmp 34,(B ((decide ((w64 (p0.B.Hi-p0.B.Lo))≥40)))))] (B true))]) (hap q4_ ⟨asb hb26 (amv rfl),asb hb27 (amv rfl),tv⟩)<|wtr<|wxz<|Qad<|Qac ?_
        obtain rfl:=osi h
        exact fend ⟨[I 1],⟨rot,tv⟩,rfl⟩ nll
       ·refine wx tbk (hcat (Qn1 p0 x19 x22 x25) [(16,rp [(.tmp 24,(B ((!x25))))] (B false)),(26,rp [(.tmp 34,(B ((decide ((w64 (p0.B.Hi-p0.B.Lo))≥40)))))] (B false))]) (hap q4_ ⟨asb hb26 (amv rfl),asb hb27 (amv rfl),tv⟩) ?_
        refine bfe h (fun hc28 h=>?_) fun hc28 h=>?_
        ·refine wft hc28<|wxz<|Qad<|Qac ?_
         obtain rfl:=osi h
         exact fend ⟨[I 1],⟨rot,tv⟩,rfl⟩ nll
        ·exact wfn hc28<|Qai<|thn<|⟨(),h,(mto (n:=63) [(1,.ref 0 7 0 0)] [0] [(Qw7 p0)] hq (prr pn) (qb (lcc (lcc (lcc (lc (rnd Qao) ln)))) qn))⟩
def Qdq (_N:Nat) (_p0:Qa4):Option Unit:=
  some ()
abbrev Qql:AV:=.fn (.func 50) [] [(.ref 0 7 (0) 0)]
abbrev Qun (p0:Qa4):Slot:=.own 7 [[(I p0.A.Lo),(I p0.A.Hi),(I p0.B.Lo),(I p0.B.Hi),(I p0.C.Lo),(I p0.C.Hi),(.dat 3 (p0.Steps.map Qbc))]]
theorem Qga (N:Nat) (p0:Qa4) (r:Unit) (h:Qdq N p0=some r):Spec prog 35 [(.agg [(I p0.A.Lo),(I p0.A.Hi),(I p0.B.Lo),(I p0.B.Hi),(I p0.C.Lo),(I p0.C.Hi),(.dat 3 (p0.Steps.map Qbc))])] [] Qql [(Qun p0)]:=by
  refine sF func35 1 fun _ _ _ hq hd0=>?_
  unfold Qdq at h
  refine wxz<|wx tbk [(0,rp [(.tmp 1,.ref 0 7 0 0)] Qql)] ⟨Qcu (fs:=[]) (cs:=[.ref 0 7 0 0]) rfl rfl rfl rfl,tv⟩ ?_
  refine wmr (mto (n:=4) (l':=[(2,Qql)]) (own':=[(Qun p0)]) [(2,Qql)] [0] [(Qun p0)] hq (pc (.rn (Qdw rn0 (rnc (rqr rfl) rn0))) pn) (qb (lcc (lcc (lcc (lc (rnd Qao) ln)))) qn))<|Qad ?_
  obtain rfl:=osi h
  exact⟨_,Mor.rfl,fio [Qql] ⟨rot,tv⟩⟩
def Qdh (_N:Nat) (_p0:Qa4):Option Unit:=
  some ()
abbrev Qqk:AV:=.fn (.func 56) [] [(.ref 0 7 (0) 0)]
abbrev Qul (p0:Qa4):Slot:=.own 7 [[(I p0.A.Lo),(I p0.A.Hi),(I p0.B.Lo),(I p0.B.Hi),(I p0.C.Lo),(I p0.C.Hi),(.dat 3 (p0.Steps.map Qbc))]]
theorem Qf5 (N:Nat) (p0:Qa4) (r:Unit) (h:Qdh N p0=some r):Spec prog 51 [(.agg [(I p0.A.Lo),(I p0.A.Hi),(I p0.B.Lo),(I p0.B.Hi),(I p0.C.Lo),(I p0.C.Hi),(.dat 3 (p0.Steps.map Qbc))])] [] Qqk [(Qul p0)]:=by
  refine sF func51 1 fun _ _ _ hq hd0=>?_
  unfold Qdh at h
  refine wxz<|wx tbk [(0,rp [(.tmp 1,.ref 0 7 0 0)] Qqk)] ⟨Qcu (fs:=[]) (cs:=[.ref 0 7 0 0]) rfl rfl rfl rfl,tv⟩ ?_
  refine wmr (mto (n:=4) (l':=[(2,Qqk)]) (own':=[(Qul p0)]) [(2,Qqk)] [0] [(Qul p0)] hq (pc (.rn (Qdw rn0 (rnc (rqr rfl) rn0))) pn) (qb (lcc (lcc (lcc (lc (rnd Qao) ln)))) qn))<|Qad ?_
  obtain rfl:=osi h
  exact⟨_,Mor.rfl,fio [Qqk] ⟨rot,tv⟩⟩
def Qcb (_N:Nat) (p0:Qah) (p1:Int):Option Int:=
  (some (w64 ((w64 (p0.A+(w64 (p0.B*p1))))+(w64 ((w64 (p0.C*p1))*p1))))).bind fun x1=>
  some x1
theorem Qd1 (N:Nat) (p0:Qah) (p1 r:Int) (h:Qcb N p0 p1=some r):Spec prog 17 [(.agg (Qap p0)),(I p1)] [] (I r) []:=by
  refine sA func17 0 fun _ _ _ hq hd0=>?_
  unfold Qcb at h
  refine wxz ?_
  obtain⟨x1,hl2,h⟩:=bno h
  refine wx tbk [(13,rp [(.tmp 11,(I (w64 (p0.A+(w64 (p0.B*p1)))))),(.tmp 17,(I (w64 ((w64 (p0.C*p1))*p1))))] (I x1))] ⟨Qnt hl2 (abn rfl rfl),tv⟩<|Qad ?_
  obtain rfl:=osi h
  exact fend ⟨[I x1],⟨rot,tv⟩,rfl⟩ nll
def Qcx (_N:Nat) (p0:Qaa) (p1:Int):Option Qaa:=
  some (⟨w64 (p0.Lo-p1),w64 (p0.Hi-p1)⟩:Qaa)
theorem Qe4 (N:Nat) (p0:Qaa) (p1:Int) (r:Qaa) (h:Qcx N p0 p1=some r):Spec prog 36 [(.agg (Qar p0)),(I p1)] [] (.agg (Qar r)) []:=by
  refine sA func36 0 fun _ _ _ hq hd0=>?_
  unfold Qcx at h
  refine wxz<|wx tbk [(8,rp _ _)] ⟨Qay (vs:=[(I (w64 (p0.Lo-p1))),(I (w64 (p0.Hi-p1)))]) rfl ts27 tz27 rfl (by rfl) rfl,tv⟩<|Qad ?_
  obtain rfl:=osi h
  exact fie [(.agg [(I (w64 (p0.Lo-p1))),(I (w64 (p0.Hi-p1)))])] ⟨Qcz (n:=1) (m:=2) (j:=0) (i:=0) (xs:=[[(I (w64 (p0.Lo-p1))),(I (w64 (p0.Hi-p1)))]]) (by kernel_rfl) (by kernel_rfl) ti27 (by decide) rfl (nle rfl) rfl,tv⟩
def Qb0 (N:Nat) (p0:Qbd) (p1 p2 p3:Int):Option Qaa:=
  (Qcb N (⟨p1,p2,p3⟩:Qah) p0.Flow).bind fun x5=>
  (Qcx N (⟨p0.In.Lo,p0.In.Hi⟩:Qaa) x5).bind fun x7=>
  some x7
abbrev Qss (p1 p2 p3:Int):Slot:=.own 3 [[(I p1),(I p2),(I p3)]]
theorem Qfi (N:Nat) (p0:Qbd) (p1 p2 p3:Int) (r:Qaa) (h:Qb0 N p0 p1 p2 p3=some r):Spec prog 57 [(.agg [(I p0.Flow),(I p0.In.Lo),(I p0.In.Hi)]),(.ref 0 3 (0) 0)] [(Qss p1 p2 p3)] (.agg [(I r.Lo),(I r.Hi)]) [(Qss p1 p2 p3),(.own 2 [[(I r.Lo),(I r.Hi)]])]:=by
  refine sF func57 2 fun _ _ _ hq hd0=>?_
  unfold Qb0 at h
  refine wxz ?_
  obtain⟨x5,hf4,h⟩:=bno h
  obtain⟨x7,hf6,h⟩:=bno h
  refine wxd tbk [(5,rp _ _),(6,rp _ _)] ⟨apw Qnj (Qd1 N (⟨p1,p2,p3⟩:Qah) p0.Flow _ hf4),apw Qrv (Qe4 N (⟨p0.In.Lo,p0.In.Hi⟩:Qaa) x5 _ hf6),tv⟩ ?_
  refine wmr (mto (n:=11) (l':=[(3,.ref 1 2 0 0)]) (own':=[(Qss p1 p2 p3),(.own 2 [[I x7.Lo,I x7.Hi]])]) [(3,.ref 2 2 0 0)] [0,2] [(Qss p1 p2 p3),(.own 2 [[I x7.Lo,I x7.Hi]])] hq (prr pn) (qb (lcc (lc rwl ln)) (qb (lcc ln) qn)))<|Qad ?_
  obtain rfl:=osi h
  exact⟨_,Mor.rfl,fio [(.agg [I x7.Lo,I x7.Hi])] ⟨Qcz (n:=1) (m:=2) (j:=0) (i:=0) (xs:=[[I x7.Lo,I x7.Hi]]) (by kernel_rfl) (by kernel_rfl) ti27 (by decide) rfl (nle rfl) rfl,tv⟩⟩
def Qbi (N:Nat) (y1:Int) (p6:List Qbd) (y9:Int) (k19:(List Qaa)→Option (List (Qah×(List Qaa)))):Nat→(List Qaa)→Int→Option (List (Qah×(List Qaa)))
  |0,_,_=>none
  |n27+1,y21,y22=>
    bif (decide (y22<(p6.length:Int))) then
     (getI p6 y22).bind fun x29=>
     (Qb0 N (⟨x29.Flow,(⟨x29.In.Lo,x29.In.Hi⟩:Qaa)⟩:Qbd) 0 y1 y9).bind fun x34=>
     chk (decide ((y21.length+([x34]).length)*16≤140737488355328))<|
     Qbi N y1 p6 y9 k19 n27 (y21++([x34])) (w64 (y22+1))
    else
     k19 (y21)
def Qa8 (N:Nat) (p0 p1:Int) (y1 p5:Int) (p6:List Qbd) (k8:Unit→Option (List (Qah×(List Qaa)))):Nat→Int→Option (List (Qah×(List Qaa)))
  |0,_=>none
  |n13+1,y9=>
    bif (decide (y9≤p5)) then
     Qdc (fun _=>
       Qa8 N p0 p1 y1 p5 p6 k8 n13 (w64 (y9+1))) fun k16:Unit→Option (List (Qah×(List Qaa)))=>
     Qdc (fun y17=>
       yld ((⟨0,y1,y9⟩:Qah),y17)<|
       k16 ()) fun k19:(List Qaa)→Option (List (Qah×(List Qaa)))=>
     Qbi N y1 p6 y9 k19 N ([(⟨p0,p1⟩:Qaa)]) 0
    else
     k8 ()
def Qa9 (N:Nat) (p0 p1:Int) (p3 p4 p5:Int) (p6:List Qbd):Nat→Int→Option (List (Qah×(List Qaa)))
  |0,_=>none
  |n5+1,y1=>
    bif (decide (y1≤p3)) then
     Qdc (fun _=>
       Qa9 N p0 p1 p3 p4 p5 p6 n5 (w64 (y1+1))) fun k8:Unit→Option (List (Qah×(List Qaa)))=>
     Qa8 N p0 p1 y1 p5 p6 k8 N p4
    else
     some ([])
def Qdg (N:Nat) (p0 p1:Int) (p2 p3:Int) (p4 p5:Int) (p6:List Qbd):Option (List (Qah×(List Qaa))):=
  Qa9 N p0 p1 p3 p4 p5 p6 N p2
abbrev Qqj (p6:List Qbd):AV:=.dat 3 (p6.map Qbc)
abbrev Qft (p0 p1:Int) (p2 p3:Int) (p4 p5:Int) (p6:List Qbd):Slot:=.own 7 [[(I p0),(I p1),(I p2),(I p3),(I p4),(I p5),(Qqj p6)]]
def Qkn (y1 y9:Int):AV:=.agg [(I (0)),(I y1),(I y9)]
def Qqi:AV:=.fn (.func 57) [] [(.ref 2 3 (0) 0)]
def Qw4 (p0 p1:Int):AV:=.acc 3 27 2 (([(⟨p0,p1⟩:Qaa)]:List Qaa).map Qar)
def Qim (y17:List Qaa):AV:=.acc 3 27 2 (y17.map Qar)
def Qfn (y1 y9:Int):Slot:=.own 3 [[(I (0)),(I y1),(I y9)]]
def Qm4 (x34:Qaa):AV:=.agg [(I x34.Lo),(I x34.Hi)]
theorem Qf4 (N:Nat) (p0 p1:Int) (p2 p3:Int) (p4 p5:Int) (p6:List Qbd) (r:(List (Qah×(List Qaa)))) (h:Qdg N p0 p1 p2 p3 p4 p5 p6=some r):Qjq prog 56 [(.ref 0 7 (0) 0)] [(Qft p0 p1 p2 p3 p4 p5 p6)] (fun x=>[(.agg [(I x.1.A),(I x.1.B),(I x.1.C)]),(.dat 2 (x.2.map Qar))]) r:=by
  refine Qjx func56 rfl rfl (fun X φ0 w0 l J hq _ hy=>?_)
  unfold Qdg at h
  refine wxz<|Qal ?_
  refine wmr (mto (n:=56) (l':=[(0,(.lit (.func (.yield l) #[] #[]))),(1,.ref 0 7 0 0),(3,I p2)]) (own':=[(Qft p0 p1 p2 p3 p4 p5 p6),(.far (J (some r)))]) [(0,(.lit (.func (.yield l) #[] #[]))),(1,.ref 0 7 0 0),(3,I p2)] [0,1] [(Qft p0 p1 p2 p3 p4 p5 p6),(.far (J (some r)))] hq (pw (prr (pw pn))) (qb (lcc (lcc (lcc (lc (rnd Qao) ln)))) (qc (.far _) qn))) ?_
  refine Qdk (τ:=(Int)×List (Qah×(List Qaa))) (fun n t=>Qa9 N p0 p1 p3 p4 p5 p6 n t.1=some t.2) (fun ⟨y1,q2⟩=>⟨mk 56 [(0,(.lit (.func (.yield l) #[] #[]))),(1,.ref 0 7 0 0),(3,I y1)],[(Qft p0 p1 p2 p3 p4 p5 p6),(.far (J (some q2)))]⟩) (fun t h=>by rw[Qa9] at h;cases h) (fun n5 ih t h=>?_) N ((p2),r) h
  obtain⟨y1,q2⟩:=t
  rw[Qa9] at h
  try dsimp only at h
  refine wsq<|wxz ?_
  refine bfe h (fun hc6 h=>?_) fun hc6 h=>?_
  ·refine wft hc6<|Qai<|thn ?_
   obtain⟨k8,hk_k8,h⟩:=jko h
   refine wjn (τ:=(Unit)×List (Qah×(List Qaa))) (fun t=>k8 t.1=some t.2) (fun ⟨_,q7⟩=>⟨mk 56 [(0,(.lit (.func (.yield l) #[] #[]))),(1,.ref 0 7 0 0),(3,I y1)],[(Qft p0 p1 p2 p3 p4 p5 p6),(.far (J (some q7)))]⟩) (fun t h=>?_) ?_
   ·subst hk_k8
    obtain⟨_,q7⟩:=t
    exact wxz1<|thn<|arm (mto (n:=56) [(0,(.lit (.func (.yield l) #[] #[]))),(1,.ref 0 7 0 0),(3,(I (w64 (y1+1))))] [0,1] [(Qft p0 p1 p2 p3 p4 p5 p6),(.far (J (some q7)))] hq (pw (prr (pw pn))) (qb (lcc (lcc (lcc (lc (rnd Qao) ln)))) (qc (.far _) qn))) (ih ((w64 (y1+1)),q7) h)
   ·skip
    refine Qal<|wxz<|Qal ?_
    refine wmr (mto (n:=56) (l':=[(0,(.lit (.func (.yield l) #[] #[]))),(1,.ref 0 7 0 0),(3,I y1),(4,I p4)]) (own':=[(Qft p0 p1 p2 p3 p4 p5 p6),(.far (J (some q2)))]) [(0,(.lit (.func (.yield l) #[] #[]))),(1,.ref 0 7 0 0),(3,I y1),(4,I p4)] [0,1] [(Qft p0 p1 p2 p3 p4 p5 p6),(.far (J (some q2)))] hq (pw (prr (pw (pw pn)))) (qb (lcc (lcc (lcc (lc (rnd Qao) ln)))) (qc (.far _) qn))) ?_
    refine Qdk (τ:=(Int)×List (Qah×(List Qaa))) (fun n t=>Qa8 N p0 p1 y1 p5 p6 k8 n t.1=some t.2) (fun ⟨y9,q10⟩=>⟨mk 56 [(0,(.lit (.func (.yield l) #[] #[]))),(1,.ref 0 7 0 0),(3,I y1),(4,I y9)],[(Qft p0 p1 p2 p3 p4 p5 p6),(.far (J (some q10)))]⟩) (fun t h=>by rw[Qa8] at h;cases h) (fun n13 ih t h=>?_) N ((p4),q2) h
    obtain⟨y9,q10⟩:=t
    rw[Qa8] at h
    try dsimp only at h
    refine wsq<|wxz ?_
    refine bfe h (fun hc14 h=>?_) fun hc14 h=>?_
    ·refine wft hc14<|Qai<|thn ?_
     obtain⟨k16,hk_k16,h⟩:=jko h
     refine wjn (τ:=(Unit)×List (Qah×(List Qaa))) (fun t=>k16 t.1=some t.2) (fun ⟨_,q15⟩=>⟨mk 56 [(0,(.lit (.func (.yield l) #[] #[]))),(1,.ref 0 7 0 0),(3,I y1),(4,I y9)],[(Qft p0 p1 p2 p3 p4 p5 p6),(.far (J (some q15)))]⟩) (fun t h=>?_) ?_
     ·subst hk_k16
      obtain⟨_,q15⟩:=t
      exact wxz1<|thn<|arm (mto (n:=56) [(0,(.lit (.func (.yield l) #[] #[]))),(1,.ref 0 7 0 0),(3,I y1),(4,(I (w64 (y9+1))))] [0,1] [(Qft p0 p1 p2 p3 p4 p5 p6),(.far (J (some q15)))] hq (pw (prr (pw (pw pn)))) (qb (lcc (lcc (lcc (lc (rnd Qao) ln)))) (qc (.far _) qn))) (ih ((w64 (y9+1)),q15) h)
     ·skip
      refine Qal<|wx tbk [(2,rp _ _)] ⟨Qay (vs:=[I 0,I y1,I y9]) rfl ts38 tz38 rfl (by rfl) rfl,tv⟩ ?_
      refine wx tbk [(0,rp [(.tmp 5,.ref 2 3 0 0)] Qqi)] ⟨Qcu (fs:=[]) (cs:=[.ref 2 3 0 0]) rfl rfl rfl rfl,tv⟩ ?_
      refine wx tbk [(2,⟨[(.tmp 35,(.agg [I p0,I p1]))],[(3,.unused)],(Qw4 p0 p1),[(3,.tok)],false⟩)] ⟨Qho (vs:=[(.agg [I p0,I p1])]) rfl underlying102 ti27 tz27 rfl (by decide) rfl (by decide) (by rfl) (by rfl) (by rfl) rfl,tv⟩ ?_
      obtain⟨k19,hk_k19,h⟩:=jko h
      refine wjn (τ:=((List Qaa))×List (Qah×(List Qaa))) (fun t=>k19 t.1=some t.2) (fun ⟨y17,q18⟩=>⟨mk 56 [(0,(.lit (.func (.yield l) #[] #[]))),(1,.ref 0 7 0 0),(3,I y1),(4,I y9),(5,.ref 2 3 0 0),(7,(Qim y17))],[(Qft p0 p1 p2 p3 p4 p5 p6),(.far (J (some q18))),(Qfn y1 y9),.tok]⟩) (fun t h=>?_) ?_
      ·subst hk_k19
       obtain⟨y17,q18⟩:=t
       obtain⟨q20,hy_,hq_⟩:=Qqy h
       clear h
       try dsimp only at hq_
       subst hq_
       have h:=hy_
       clear hy_
       refine Qoj 3 [mv 0 (.lit (.func (.yield l) #[] #[])),rb [(.tmp 5,.ref 2 3 0 0)] [(2,(Qfn y1 y9))] (Qkn y1 y9),mv 7 (Qim y17),⟨[(.tmp 51,(.lit (.func (.yield l) #[] #[]))),(.tmp 52,(Qkn y1 y9)),(.tmp 53,(Qim y17))],[(1,(.far (J (some (((⟨0,y1,y9⟩:Qah),y17)::q20)))))],B true,[(1,(.far (J (some q20))))],false⟩,rp [(.tmp 54,B true)] (B false)] [mv 0 (.lit (.func (.yield l) #[] #[])),rb [(.tmp 5,.ref 2 3 0 0)] [(2,(Qfn y1 y9))] (Qkn y1 y9),mv 7 (Qim y17),⟨[(.tmp 51,(.lit (.func (.yield l) #[] #[]))),(.tmp 52,(Qkn y1 y9)),(.tmp 53,(Qim y17))],[(1,(.far (J (some (((⟨0,y1,y9⟩:Qah),y17)::q20)))))],B false,[(1,(.far (J none)))],false⟩,rp [(.tmp 54,B false)] (B true)] (by exact⟨by kernel_rfl,by kernel_rfl⟩) (by exact⟨by kernel_rfl,by kernel_rfl⟩) rfl rfl rfl rfl (Qjo (rd':=(.tmp 51,.lit (.func (.yield l) #[] #[]))::[(.tmp 52,(.agg [(I ((⟨0,y1,y9⟩:Qah).A)),(I ((⟨0,y1,y9⟩:Qah).B)),(I ((⟨0,y1,y9⟩:Qah).C))])),(.tmp 53,(.dat 2 (y17.map Qar)))]) ⟨rfl,lrf,rfl,lrf,rfl,Less.acc,tv⟩ (Qh5 (x:=((⟨0,y1,y9⟩:Qah),y17)) (rest:=q20) rfl rfl hy rfl)) (⟨fun _ _=>amv rfl,fun _ _=>ald rfl ti38 (by decide) rfl (nle rfl) rfl,fun _ _=>amv rfl,fun _ h=>absurd rfl h,fun _ _=>Qgl rfl,tv⟩) (⟨fun _ _=>amv rfl,fun _ _=>ald rfl ti38 (by decide) rfl (nle rfl) rfl,fun _ _=>amv rfl,fun _ h=>absurd rfl h,fun _ _=>Qgl rfl,tv⟩) ?_ ?_
       ·skip
        exact wfa<|Qai<|bln<|thn<|⟨((),q20),h,(mto (n:=56) [(0,(.lit (.func (.yield l) #[] #[]))),(1,.ref 0 7 0 0),(3,I y1),(4,I y9)] [0,1] [(Qft p0 p1 p2 p3 p4 p5 p6),(.far (J (some q20)))] hq (pw (prr (pw (pw pn)))) (qb (lcc (lcc (lcc (lc (rnd Qao) ln)))) (qc (.far _) qn)))⟩
       ·clear h
        refine wtr<|Qad<|Qag<|Qac<|Qac<|Qag<|Qag<|Qac<|Qac<|Qag ?_
        exact Or.inr (by kernel_rfl)
      ·skip
       refine wx tbk [(2,rp _ _)] ⟨alq 3 Qbc p6 underlying28,tv⟩<|Qal ?_
       refine wmr (mto (n:=56) (l':=[(0,(.lit (.func (.yield l) #[] #[]))),(1,.ref 0 7 0 0),(3,I y1),(4,I y9),(5,.ref 2 3 0 0),(6,Qqi),(7,(.acc 3 27 2 ((([(⟨p0,p1⟩:Qaa)]):List Qaa).map Qar))),(38,(Qqj p6)),(39,(I ((p6.length:Int)))),(40,I 0)]) (own':=[(Qft p0 p1 p2 p3 p4 p5 p6),(.far (J (some q10))),(Qfn y1 y9),.tok]) [(0,(.lit (.func (.yield l) #[] #[]))),(1,.ref 0 7 0 0),(3,I y1),(4,I y9),(5,.ref 2 3 0 0),(6,Qqi),(7,(Qw4 p0 p1)),(38,(Qqj p6)),(39,(I ((p6.length:Int)))),(40,I 0)] [0,1,2,3] [(Qft p0 p1 p2 p3 p4 p5 p6),(.far (J (some q10))),(Qfn y1 y9),.tok] hq (pw (prr (pw (pw (prr (pc (.rn (Qdw rn0 (rnc (rqr rfl) rn0))) (pc (.rn (Qax rfl (Qas Qdm _))) (pc (rnd Qao) (pw (pw pn)))))))))) (qb (lcc (lcc (lcc (lc (rnd Qao) ln)))) (qc (.far _) (qb (lcc (lc rwl ln)) (qc .tok qn))))) ?_
       refine Qdk (τ:=((List Qaa)×Int)×List (Qah×(List Qaa))) (fun n t=>Qbi N y1 p6 y9 k19 n t.1.1 t.1.2=some t.2) (fun ⟨⟨y21,y22⟩,q23⟩=>⟨mk 56 [(0,(.lit (.func (.yield l) #[] #[]))),(1,.ref 0 7 0 0),(3,I y1),(4,I y9),(5,.ref 2 3 0 0),(6,Qqi),(7,(.acc 3 27 2 (y21.map Qar))),(38,(Qqj p6)),(39,(I ((p6.length:Int)))),(40,I y22)],[(Qft p0 p1 p2 p3 p4 p5 p6),(.far (J (some q23))),(Qfn y1 y9),.tok]⟩) (fun t h=>by rw[Qbi] at h;cases h) (fun n27 ih t h=>?_) N (([(⟨p0,p1⟩:Qaa)],0),q10) h
       obtain⟨⟨y21,y22⟩,q23⟩:=t
       rw[Qbi] at h
       try dsimp only at h
       refine wxz<|wsq ?_
       refine bfe h (fun hc28 h=>?_) fun hc28 h=>?_
       ·refine wft hc28<|Qai<|thn<|wsq<|Qal ?_
        obtain⟨x29,hg30,h⟩:=bno h
        obtain⟨hi31,hj32⟩:=gsm hg30
        refine wx tbk [(0,rp _ _)] ⟨aiq underlying28 ti49 Qbc hi31 hj32,tv⟩ ?_
        obtain⟨x34,hf33,h⟩:=bno h
        obtain⟨ha35,h⟩:=cko h
        refine wx1 tbk [(3,⟨_,_,_,_,false⟩),(4,⟨[(.tmp 47,(Qm4 x34))],[(6,.unused)],(.acc 6 27 2 (([x34]:List Qaa).map Qar)),[(6,.tok)],false⟩),(5,⟨[(.tmp 44,(.acc 3 27 2 (y21.map Qar))),(.tmp 48,(.acc 6 27 2 (([x34]:List Qaa).map Qar)))],[(3,.tok),(7,.unused)],(.acc 7 27 2 ((y21++([x34]):List Qaa).map Qar)),[(3,.dead),(7,.tok)],false⟩)] ⟨Qc7 (first:=[]) (cap:=[.ref 2 3 0 0]) (vs:=[(.agg [(I ((⟨x29.Flow,(⟨x29.In.Lo,x29.In.Hi⟩:Qaa)⟩:Qbd).Flow)),(I ((⟨x29.Flow,(⟨x29.In.Lo,x29.In.Hi⟩:Qaa)⟩:Qbd).In.Lo)),(I ((⟨x29.Flow,(⟨x29.In.Lo,x29.In.Hi⟩:Qaa)⟩:Qbd).In.Hi))])]) (σr:=[(Qfn y1 y9)]) (σr':=[(Qfn y1 y9),(.own 2 [[I x34.Lo,I x34.Hi]])]) (res':=(Qm4 x34)) [2,5] rfl Qvs (Qfi N (⟨x29.Flow,(⟨x29.In.Lo,x29.In.Hi⟩:Qaa)⟩:Qbd) 0 y1 y9 _ hf33) rfl (Qdl (rnc (.plain _ (NLt.agg _ (nlcc (nlc nll nl0)))) (rnc (Qcn rfl) rn0))) (slc (Qaw (rncc (rnc (.plain _ nll) rn0))) Qbb) (slc (Qaw (rncc (rnc (.plain _ nll) rn0))) (slc (Qaw (rncc rn0)) Qbb)) (.plain _ (NLt.agg _ (nlcc nl0))) rfl rfl rfl,Qho (vs:=[(Qm4 x34)]) rfl underlying102 ti27 tz27 rfl (by decide) rfl (by decide) (by rfl) (by rfl) (by rfl) rfl,Qex rfl underlying102 te27 (Base.acc _ _) rfl rfl (by rfl) (Qgp Qar ha35) (Qgo Qar ha35 (by decide)) (Qgn Qar) rfl rfl,tv⟩<|bln<|thn<|wxz1<|thn ?_
        exact arm (mto (n:=56) [(0,(.lit (.func (.yield l) #[] #[]))),(1,.ref 0 7 0 0),(3,I y1),(4,I y9),(5,.ref 2 3 0 0),(6,Qqi),(7,(.acc 7 27 2 ((y21++([x34]):List Qaa).map Qar))),(38,(Qqj p6)),(39,(I ((p6.length:Int)))),(40,(I (w64 (y22+1))))] [0,1,2,7] [(Qft p0 p1 p2 p3 p4 p5 p6),(.far (J (some q23))),(Qfn y1 y9),.tok] hq (pw (prr (pw (pw (prr (pc (.rn (Qdw rn0 (rnc (rqr rfl) rn0))) (pc (.rn (Qax rfl (Qas Qdm _))) (pc (rnd Qao) (pw (pw pn)))))))))) (qb (lcc (lcc (lcc (lc (rnd Qao) ln)))) (qc (.far _) (qb (lcc (lc rwl ln)) (qc .tok qn))))) (ih ((y21++([x34]),w64 (y22+1)),q23) h)
       ·exact wfn hc28<|Qcp<|Qbf<|Qbf<|Qco rfl<|thn<|⟨((y21),q23),h,(mto (n:=56) [(0,(.lit (.func (.yield l) #[] #[]))),(1,.ref 0 7 0 0),(3,I y1),(4,I y9),(5,.ref 2 3 0 0),(7,(.acc 3 27 2 (y21.map Qar)))] [0,1,2,3] [(Qft p0 p1 p2 p3 p4 p5 p6),(.far (J (some q23))),(Qfn y1 y9),.tok] hq (pw (prr (pw (pw (prr (pc (.rn (Qax rfl (Qas Qdm _))) pn)))))) (qb (lcc (lcc (lcc (lc (rnd Qao) ln)))) (qc (.far _) (qb (lcc (lc rwl ln)) (qc .tok qn)))))⟩
    ·exact wfn hc14<|Qcp<|Qbf<|Qbf<|Qco rfl<|bln<|thn<|⟨((),q10),h,(mto (n:=56) [(0,(.lit (.func (.yield l) #[] #[]))),(1,.ref 0 7 0 0),(3,I y1)] [0,1] [(Qft p0 p1 p2 p3 p4 p5 p6),(.far (J (some q10)))] hq (pw (prr (pw pn))) (qb (lcc (lcc (lcc (lc (rnd Qao) ln)))) (qc (.far _) qn)))⟩
  ·refine wfn hc6<|Qcp<|Qbf<|Qbf<|Qco rfl ?_
   obtain rfl:=osi h
   exact Or.inl (by kernel_rfl)
def Qcr (N:Nat) (p0:List Qaa) (k7:Int×Int→Option Qaa):Nat→Int→Int→Int→Option Qaa
  |0,_,_,_=>none
  |n15+1,y9,y10,y11=>
    bif (decide (y9<((p0.drop (1:Int).toNat).length:Int))) then
     (getI (p0.drop (1:Int).toNat) y9).bind fun x17=>
     Qcr N p0 k7 n15 (w64 (y9+1)) (if x17.Lo>y10 then x17.Lo else y10) (if x17.Hi<y11 then x17.Hi else y11)
    else
     k7 (y10,y11)
def Qej (N:Nat) (p0:List Qaa):Option Qaa:=
  (getI p0 0).bind fun x1=>
  Qdc (fun ⟨y5,y6⟩=>
    some (⟨y5,y6⟩:Qaa)) fun k7:Int×Int→Option Qaa=>
  chk (decide (0≤1)&&decide (1≤(p0.length:Int))&&decide ((p0.length:Int)≤(p0.length:Int)))<|
  Qcr N p0 k7 N 0 x1.Lo x1.Hi
def Qos:Slot:=.own 2 [[(I (0)),(I (0))]]
def Qqh (p0:List Qaa):AV:=.dat 2 ((p0.drop (1:Int).toNat:List Qaa).map Qar)
theorem Qjr (N:Nat) (p0:List Qaa) (r:Qaa) (h:Qej N p0=some r):Spec prog 52 [(.dat 2 (p0.map Qar))] [] (.agg (Qar r)) []:=by
  refine sA func52 0 fun _ _ _ hq hd0=>?_
  unfold Qej at h
  refine wxz ?_
  obtain⟨x1,hg2,h⟩:=bno h
  obtain⟨hi3,hj4⟩:=gsm hg2
  refine wx tbk [(1,rp _ _)] ⟨aiq underlying102 ti27 Qar hi3 hj4,tv⟩ ?_
  obtain⟨k7,hk_k7,h⟩:=jko h
  refine wjn (τ:=Int×Int) (fun t=>k7 t=some r) (fun ⟨y5,y6⟩=>⟨mk 29 [(2,.ref 0 2 0 0),(3,.ref 1 2 0 0)],[Qos,(.own 2 [[I y5,I y6]])]⟩) (fun t h=>?_) ?_
  ·subst hk_k7
   obtain⟨y5,y6⟩:=t
   refine wxz<|Qad ?_
   obtain rfl:=osi h
   exact fie [(.agg [I y5,I y6])] ⟨Qcz (n:=0) (m:=2) (j:=0) (i:=0) (xs:=[[I y5,I y6]]) (by kernel_rfl) (by kernel_rfl) ti27 (by decide) rfl (nle rfl) rfl,tv⟩
  ·skip
   obtain⟨hs8,h⟩:=cko h
   refine wx tbk [(1,rp [(.tmp 9,(.dat 2 (p0.map Qar))),ci 1] (Qqh p0)),(2,rp _ _)] ⟨Qh6 (k:=.i64) (k':=.i64) (lo:=some (.const (.int .i64 1))) (hi:=none) (l:=1) (hh:=((p0.length:Nat):Int)) rfl underlying102 ti27 rfl (fun e=>nomatch e) (fun _=>by simp) (Qwx hs8) (Qww hs8) (Qx7 Qar hs8) (Qxg Qar),alq 2 Qar (p0.drop (1:Int).toNat) underlying102,tv⟩<|Qal ?_
   refine wmr (mto (n:=29) (l':=[(2,.ref 0 2 0 0),(3,.ref 1 2 0 0),(10,(Qqh p0)),(11,(I (((p0.drop (1:Int).toNat).length:Int)))),(12,I 0)]) (own':=[Qos,(.own 2 [[I x1.Lo,I x1.Hi]])]) [(2,.ref 0 2 0 0),(3,.ref 1 2 0 0),(10,(Qqh p0)),(11,(I (((p0.drop (1:Int).toNat).length:Int)))),(12,I 0)] [0,1] [Qos,(.own 2 [[I x1.Lo,I x1.Hi]])] hq (prr (prr (pc (rnd Qdm) (pw (pw pn))))) (qb (lcc ln) (qb (lcc ln) qn))) ?_
   refine Qdk (τ:=Int×Int×Int) (fun n t=>Qcr N p0 k7 n t.1 t.2.1 t.2.2=some r) (fun ⟨y9,y10,y11⟩=>⟨mk 29 [(2,.ref 0 2 0 0),(3,.ref 1 2 0 0),(10,(Qqh p0)),(11,(I (((p0.drop (1:Int).toNat).length:Int)))),(12,I y9)],[Qos,(.own 2 [[I y10,I y11]])]⟩) (fun t h=>by rw[Qcr] at h;cases h) (fun n15 ih t h=>?_) N (0,x1.Lo,x1.Hi) h
   obtain⟨y9,y10,y11⟩:=t
   rw[Qcr] at h
   skip
   refine wxz<|wsq ?_
   refine bfe h (fun hc16 h=>?_) fun hc16 h=>?_
   ·refine wft hc16<|Qai<|thn<|wsq<|Qal ?_
    obtain⟨x17,hg18,h⟩:=bno h
    obtain⟨hi19,hj20⟩:=gsm hg18
    refine wx tbk [(0,rp _ _)] ⟨aiq underlying102 ti27 Qar hi19 hj20,tv⟩ ?_
    refine wx1 tbk [(4,rp [(.tmp 17,I y10),(.tmp 19,I x17.Lo)] (I ((if x17.Lo>y10 then x17.Lo else y10)))),(9,rp [(.tmp 22,I y11),(.tmp 24,I x17.Hi)] (I ((if x17.Hi<y11 then x17.Hi else y11)))),(10,rp _ _)] ⟨Qjj rfl,Qji rfl,Qay (vs:=[(I ((if x17.Lo>y10 then x17.Lo else y10))),(I ((if x17.Hi<y11 then x17.Hi else y11)))]) rfl ts27 tz27 rfl (by rfl) rfl,tv⟩<|bln<|thn<|wxz1<|thn ?_
    exact arm (mto (n:=29) [(2,.ref 0 2 0 0),(3,.ref 1 2 0 0),(10,(Qqh p0)),(11,(I (((p0.drop (1:Int).toNat).length:Int)))),(12,(I (w64 (y9+1))))] [0,1] [Qos,(.own 2 [[(I ((if x17.Lo>y10 then x17.Lo else y10))),(I ((if x17.Hi<y11 then x17.Hi else y11)))]])] hq (prr (prr (pc (rnd Qdm) (pw (pw pn))))) (qb (lcc ln) (qb (lcc ln) qn))) (ih (w64 (y9+1),(if x17.Lo>y10 then x17.Lo else y10),(if x17.Hi<y11 then x17.Hi else y11)) h)
   ·exact wfn hc16<|Qcp<|Qbf<|Qbf<|Qco rfl<|thn<|⟨(y10,y11),h,(mto (n:=29) [(2,.ref 0 2 0 0),(3,.ref 1 2 0 0)] [0,1] [Qos,(.own 2 [[I y10,I y11]])] hq (prr (prr pn)) (qb (lcc ln) (qb (lcc ln) qn)))⟩
def Qa7 (N:Nat):(List (Qah×(List Qaa)))→Option (List (Qah×Qaa))
  |[]=>
    some ([])
  |x8::q9=>
    (Qej N x8.2).bind fun x18=>
    bif (decide (x18.Lo≤x18.Hi)) then
     yld ((⟨x8.1.A,x8.1.B,x8.1.C⟩:Qah),x18)<|
     Qa7 N q9
    else
     Qa7 N q9
def Qc4 (N:Nat) (p0 p1:Int) (p2 p3:Int) (p4 p5:Int) (p6:List Qbd):Option (List (Qah×Qaa)):=
  (Qdh N (⟨(⟨p0,p1⟩:Qaa),(⟨p2,p3⟩:Qaa),(⟨p4,p5⟩:Qaa),p6⟩:Qa4)).bind fun _=>
  (Qdg N ((⟨(⟨p0,p1⟩:Qaa),(⟨p2,p3⟩:Qaa),(⟨p4,p5⟩:Qaa),p6⟩:Qa4).A.Lo) ((⟨(⟨p0,p1⟩:Qaa),(⟨p2,p3⟩:Qaa),(⟨p4,p5⟩:Qaa),p6⟩:Qa4).A.Hi) ((⟨(⟨p0,p1⟩:Qaa),(⟨p2,p3⟩:Qaa),(⟨p4,p5⟩:Qaa),p6⟩:Qa4).B.Lo) ((⟨(⟨p0,p1⟩:Qaa),(⟨p2,p3⟩:Qaa),(⟨p4,p5⟩:Qaa),p6⟩:Qa4).B.Hi) ((⟨(⟨p0,p1⟩:Qaa),(⟨p2,p3⟩:Qaa),(⟨p4,p5⟩:Qaa),p6⟩:Qa4).C.Lo) ((⟨(⟨p0,p1⟩:Qaa),(⟨p2,p3⟩:Qaa),(⟨p4,p5⟩:Qaa),p6⟩:Qa4).C.Hi) ((⟨(⟨p0,p1⟩:Qaa),(⟨p2,p3⟩:Qaa),(⟨p4,p5⟩:Qaa),p6⟩:Qa4).Steps)).bind fun q3=>
  Qa7 N q3
abbrev Qin (p0 p1:Int) (p2 p3:Int) (p4 p5:Int) (p6:List Qbd):Slot:=.own 7 [[(I p0),(I p1),(I p2),(I p3),(I p4),(I p5),(.dat 3 (p6.map Qbc))]]
def Qum:AV:=.fn (.func 56) [] [(.ref 3 7 (0) 0)]
def Qst (p0 p1:Int) (p2 p3:Int) (p4 p5:Int) (p6:List Qbd):Slot:=.own 7 [[(I ((⟨(⟨p0,p1⟩:Qaa),(⟨p2,p3⟩:Qaa),(⟨p4,p5⟩:Qaa),p6⟩:Qa4).A.Lo)),(I ((⟨(⟨p0,p1⟩:Qaa),(⟨p2,p3⟩:Qaa),(⟨p4,p5⟩:Qaa),p6⟩:Qa4).A.Hi)),(I ((⟨(⟨p0,p1⟩:Qaa),(⟨p2,p3⟩:Qaa),(⟨p4,p5⟩:Qaa),p6⟩:Qa4).B.Lo)),(I ((⟨(⟨p0,p1⟩:Qaa),(⟨p2,p3⟩:Qaa),(⟨p4,p5⟩:Qaa),p6⟩:Qa4).B.Hi)),(I ((⟨(⟨p0,p1⟩:Qaa),(⟨p2,p3⟩:Qaa),(⟨p4,p5⟩:Qaa),p6⟩:Qa4).C.Lo)),(I ((⟨(⟨p0,p1⟩:Qaa),(⟨p2,p3⟩:Qaa),(⟨p4,p5⟩:Qaa),p6⟩:Qa4).C.Hi)),(.dat 3 (((⟨(⟨p0,p1⟩:Qaa),(⟨p2,p3⟩:Qaa),(⟨p4,p5⟩:Qaa),p6⟩:Qa4).Steps:List Qbd).map Qbc))]]
def Qlg (x18:Qaa):AV:=.agg [(I x18.Lo),(I x18.Hi)]
def Qg2 (x18:Qaa):Slot:=.own 2 [[(I x18.Lo),(I x18.Hi)]]
def Qn0 (x8:(Qah×(List Qaa))):AV:=.agg [(I x8.1.A),(I x8.1.B),(I x8.1.C)]
theorem Qf9 (N:Nat) (p0 p1:Int) (p2 p3:Int) (p4 p5:Int) (p6:List Qbd) (r:(List (Qah×Qaa))) (h:Qc4 N p0 p1 p2 p3 p4 p5 p6=some r):Qjq prog 50 [(.ref 0 7 (0) 0)] [(Qin p0 p1 p2 p3 p4 p5 p6)] (fun x=>[(.agg [(I x.1.A),(I x.1.B),(I x.1.C)]),(.agg [(I x.2.Lo),(I x.2.Hi)])]) r:=by
  refine Qjx func50 rfl rfl (fun X φ0 w0 l J hq hd0 hy=>?_)
  unfold Qc4 at h
  refine wxz ?_
  obtain⟨x2,hf1,h⟩:=bno h
  refine wx tbk [(1,⟨_,_,_,_,false⟩)] ⟨acq [(.agg [(I ((⟨(⟨p0,p1⟩:Qaa),(⟨p2,p3⟩:Qaa),(⟨p4,p5⟩:Qaa),p6⟩:Qa4).A.Lo)),(I ((⟨(⟨p0,p1⟩:Qaa),(⟨p2,p3⟩:Qaa),(⟨p4,p5⟩:Qaa),p6⟩:Qa4).A.Hi)),(I ((⟨(⟨p0,p1⟩:Qaa),(⟨p2,p3⟩:Qaa),(⟨p4,p5⟩:Qaa),p6⟩:Qa4).B.Lo)),(I ((⟨(⟨p0,p1⟩:Qaa),(⟨p2,p3⟩:Qaa),(⟨p4,p5⟩:Qaa),p6⟩:Qa4).B.Hi)),(I ((⟨(⟨p0,p1⟩:Qaa),(⟨p2,p3⟩:Qaa),(⟨p4,p5⟩:Qaa),p6⟩:Qa4).C.Lo)),(I ((⟨(⟨p0,p1⟩:Qaa),(⟨p2,p3⟩:Qaa),(⟨p4,p5⟩:Qaa),p6⟩:Qa4).C.Hi)),(.dat 3 (((⟨(⟨p0,p1⟩:Qaa),(⟨p2,p3⟩:Qaa),(⟨p4,p5⟩:Qaa),p6⟩:Qa4).Steps:List Qbd).map Qbc))])] [] [(Qst p0 p1 p2 p3 p4 p5 p6)] Qum [3] Qvx (Qf5 N (⟨(⟨p0,p1⟩:Qaa),(⟨p2,p3⟩:Qaa),(⟨p4,p5⟩:Qaa),p6⟩:Qa4) _ hf1) (Qdl (rnc (.plain _ (NLt.agg _ (nlcc (nlcc (nlcc (nlc (nld Qao _) nl0)))))) rn0)) Qbb (slc (Qaw (rncc (rncc (rncc (rnc (pld Qao) rn0))))) Qbb) (Qdw rn0 (rnc (Qkr rfl) rn0)),tv⟩<|Qal ?_
  obtain⟨q3,hL4,h⟩:=bno h
  refine wmr (mto (n:=24) (l':=[(2,.ref 2 1 0 0),(7,Qum)]) (own':=[(Qin p0 p1 p2 p3 p4 p5 p6),(.far (J (some r))),(.own 1 [[(.lit (.func (.yield l) #[] #[]))]]),(Qst p0 p1 p2 p3 p4 p5 p6)]) [(2,.ref 2 1 0 0),(7,Qum)] [0,1,2,3] [(Qin p0 p1 p2 p3 p4 p5 p6),(.far (J (some r))),(.own 1 [[(.lit (.func (.yield l) #[] #[]))]]),(Qst p0 p1 p2 p3 p4 p5 p6)] hq (prr (pc (.rn (Qdw rn0 (rnc (rqr rfl) rn0))) pn)) (qb (lcc (lcc (lcc (lc (rnd Qao) ln)))) (qc (.far _) (qb (lc rwl ln) (qb (lcc (lcc (lcc (lc (rnd Qao) ln)))) qn))))) ?_
  refine Qj7 (τ:=((List (Qah×Qaa)))) (kb:=4) (caps:=[.ref 3 7 0 0]) (σr:=[(Qst p0 p1 p2 p3 p4 p5 p6)]) (encs:=fun x=>[(.agg [I x.1.A,I x.1.B,I x.1.C]),(.dat 2 (x.2.map Qar))]) (fun x=>[(.agg [I x.1.A,I x.1.B,I x.1.C]),(.dat 2 (x.2.map Qar))]) [3] (fun n hn=>hq n (Nat.le_trans (nle rfl) hn)) hd0 (Qf4 N ((⟨(⟨p0,p1⟩:Qaa),(⟨p2,p3⟩:Qaa),(⟨p4,p5⟩:Qaa),p6⟩:Qa4).A.Lo) ((⟨(⟨p0,p1⟩:Qaa),(⟨p2,p3⟩:Qaa),(⟨p4,p5⟩:Qaa),p6⟩:Qa4).A.Hi) ((⟨(⟨p0,p1⟩:Qaa),(⟨p2,p3⟩:Qaa),(⟨p4,p5⟩:Qaa),p6⟩:Qa4).B.Lo) ((⟨(⟨p0,p1⟩:Qaa),(⟨p2,p3⟩:Qaa),(⟨p4,p5⟩:Qaa),p6⟩:Qa4).B.Hi) ((⟨(⟨p0,p1⟩:Qaa),(⟨p2,p3⟩:Qaa),(⟨p4,p5⟩:Qaa),p6⟩:Qa4).C.Lo) ((⟨(⟨p0,p1⟩:Qaa),(⟨p2,p3⟩:Qaa),(⟨p4,p5⟩:Qaa),p6⟩:Qa4).C.Hi) ((⟨(⟨p0,p1⟩:Qaa),(⟨p2,p3⟩:Qaa),(⟨p4,p5⟩:Qaa),p6⟩:Qa4).Steps) _ hL4) Qvt (by kernel_rfl) (by kernel_rfl) (Qdl (rnc (Qkr rfl) rn0)) (slc (Qaw (rncc (rncc (rncc (rnc (pld Qao) rn0))))) Qbb) (by kernel_rfl) (fun _=>rfl) (fun x=>(nlc (NLt.agg _ (nlcc (nlc nll nl0))) (nlc (nld Qdm _) nl0))) (fun x=>⟨lrf,lrf,tv⟩) (Qt8 (Qgv (NLt.ref _ _ _ _ (by decide)) (Qgv (NLt.fn _ _ _ nl0 (nlc (NLt.ref _ _ _ _ (by decide)) nl0)) Qrb))) (fun q5=>[(Qin p0 p1 p2 p3 p4 p5 p6),(.far (J (some q5))),(.own 1 [[(.lit (.func (.yield l) #[] #[]))]]),.dead]) (fun _=>rfl) (fun l t=>Qa7 N l=some t) r h (by kernel_rfl) ?_ ?_
  ·intro l10 o11 X14 φ15 w16 hφ13 x8 q9 q5 h
   rw[Qa7] at h
   refine wxz<|wxz1 ?_
   refine⟨by kernel_rfl,fun o12=>?_⟩
   refine Qal ?_
   obtain⟨x18,hf17,h⟩:=bno h
   refine wx tbk [(1,rp _ _)] ⟨apw Qvw (Qjr N x8.2 _ hf17),tv⟩ ?_
   refine bfe h (fun hb19 h=>?_) fun hb19 h=>?_
   ·obtain⟨q20,hy_,hq_⟩:=Qqy h
    clear h
    try dsimp only at hq_
    subst hq_
    have h:=hy_
    clear hy_
    refine Qoj 9 [rb [(.tmp 5,.ref 6 2 0 0)] [(6,(Qg2 x18))] (.ref 6 2 0 0),rb [(.tmp 12,.ref 6 2 0 0)] [(6,(Qg2 x18))] (I x18.Lo),rb [(.tmp 5,.ref 6 2 0 0)] [(6,(Qg2 x18))] (.ref 6 2 0 1),rb [(.tmp 14,.ref 6 2 0 1)] [(6,(Qg2 x18))] (I x18.Hi),rp [(.tmp 13,I x18.Lo),(.tmp 15,I x18.Hi)] (B ((decide (x18.Lo≤x18.Hi)))),rp [(.tmp 16,(B ((decide (x18.Lo≤x18.Hi)))))] (B true),rb [(.tmp 17,B true),(.tmp 2,.ref 2 1 0 0)] [(2,(.own 1 [[(.lit (.func (.yield l) #[] #[]))]]))] (.lit (.func (.yield l) #[] #[])),rb [(.tmp 17,B true),(.tmp 3,.ref 5 3 0 0)] [(5,.own 3 [[I x8.1.A,I x8.1.B,I x8.1.C]])] (Qn0 x8),rb [(.tmp 17,B true),(.tmp 5,.ref 6 2 0 0)] [(6,(Qg2 x18))] (Qlg x18),⟨[(.tmp 17,B true),(.tmp 18,(.lit (.func (.yield l) #[] #[]))),(.tmp 19,(Qn0 x8)),(.tmp 20,(Qlg x18))],[(1,(.far (J (some (((⟨x8.1.A,x8.1.B,x8.1.C⟩:Qah),x18)::q20)))))],B true,[(1,(.far (J (some q20))))],false⟩,rp [(.tmp 17,B true),(.tmp 21,B true)] (B false),rp [(.tmp 17,B true),(.tmp 22,B false),cb false] (B false)] [rb [(.tmp 5,.ref 6 2 0 0)] [(6,(Qg2 x18))] (.ref 6 2 0 0),rb [(.tmp 12,.ref 6 2 0 0)] [(6,(Qg2 x18))] (I x18.Lo),rb [(.tmp 5,.ref 6 2 0 0)] [(6,(Qg2 x18))] (.ref 6 2 0 1),rb [(.tmp 14,.ref 6 2 0 1)] [(6,(Qg2 x18))] (I x18.Hi),rp [(.tmp 13,I x18.Lo),(.tmp 15,I x18.Hi)] (B ((decide (x18.Lo≤x18.Hi)))),rp [(.tmp 16,(B ((decide (x18.Lo≤x18.Hi)))))] (B true),rb [(.tmp 17,B true),(.tmp 2,.ref 2 1 0 0)] [(2,(.own 1 [[(.lit (.func (.yield l) #[] #[]))]]))] (.lit (.func (.yield l) #[] #[])),rb [(.tmp 17,B true),(.tmp 3,.ref 5 3 0 0)] [(5,.own 3 [[I x8.1.A,I x8.1.B,I x8.1.C]])] (Qn0 x8),rb [(.tmp 17,B true),(.tmp 5,.ref 6 2 0 0)] [(6,(Qg2 x18))] (Qlg x18),⟨[(.tmp 17,B true),(.tmp 18,(.lit (.func (.yield l) #[] #[]))),(.tmp 19,(Qn0 x8)),(.tmp 20,(Qlg x18))],[(1,(.far (J (some (((⟨x8.1.A,x8.1.B,x8.1.C⟩:Qah),x18)::q20)))))],B false,[(1,(.far (J none)))],false⟩,rp [(.tmp 17,B true),(.tmp 21,B false)] (B true),rp [(.tmp 17,B true),(.tmp 22,B true),cb false] (B true)] (by exact⟨by kernel_rfl,by kernel_rfl⟩) (by exact⟨by kernel_rfl,by kernel_rfl⟩) rfl rfl rfl rfl (Qmq (Qjo (rd':=(.tmp 18,.lit (.func (.yield l) #[] #[]))::[(.tmp 19,(.agg [(I ((⟨x8.1.A,x8.1.B,x8.1.C⟩:Qah).A)),(I ((⟨x8.1.A,x8.1.B,x8.1.C⟩:Qah).B)),(I ((⟨x8.1.A,x8.1.B,x8.1.C⟩:Qah).C))])),(.tmp 20,(Qlg x18))]) ⟨rfl,lrf,rfl,lrf,rfl,lrf,tv⟩ (Qh5 (x:=((⟨x8.1.A,x8.1.B,x8.1.C⟩:Qah),x18)) (rest:=q20) rfl rfl hy rfl))) (⟨fun _ _=>afa rfl underlying27 rfl rfl ti3 (by decide) rfl,fun _ _=>ald rfl ti3 (by decide) rfl (nle rfl) rfl,fun _ _=>afa rfl underlying27 rfl rfl ti3 (by decide) rfl,fun _ _=>ald rfl ti3 (by decide) rfl (nle rfl) rfl,fun _ _=>abn rfl rfl,fun _ _=>asb hb19 (amv rfl),fun _ _=>ag_ (ald rfl ti98 (by decide) rfl (nle rfl) rfl),fun _ _=>ag_ (ald rfl ti38 (by decide) rfl (nle rfl) rfl),fun _ _=>ag_ (ald rfl ti27 (by decide) rfl (nle rfl) rfl),fun _ h=>absurd rfl h,fun _ _=>ag_ (Qgl rfl),fun _ _=>apk rfl rfl,tv⟩) (⟨fun _ _=>afa rfl underlying27 rfl rfl ti3 (by decide) rfl,fun _ _=>ald rfl ti3 (by decide) rfl (nle rfl) rfl,fun _ _=>afa rfl underlying27 rfl rfl ti3 (by decide) rfl,fun _ _=>ald rfl ti3 (by decide) rfl (nle rfl) rfl,fun _ _=>abn rfl rfl,fun _ _=>asb hb19 (amv rfl),fun _ _=>ag_ (ald rfl ti98 (by decide) rfl (nle rfl) rfl),fun _ _=>ag_ (ald rfl ti38 (by decide) rfl (nle rfl) rfl),fun _ _=>ag_ (ald rfl ti27 (by decide) rfl (nle rfl) rfl),fun _ h=>absurd rfl h,fun _ _=>ag_ (Qgl rfl),fun _ _=>apk rfl rfl,tv⟩) ?_ ?_
    ·skip
     exact wfa<|Qai<|bln<|⟨(q20),h,Qlo (own':=[(Qin p0 p1 p2 p3 p4 p5 p6),(.far (J (some q20))),(.own 1 [[(.lit (.func (.yield l) #[] #[]))]]),.dead,(.far (farL l10 o12))]) [0,1,2,3,4] [(Qin p0 p1 p2 p3 p4 p5 p6),(.far (J (some q20))),(.own 1 [[(.lit (.func (.yield l) #[] #[]))]]),.dead,(.far (farL l10 o12))] (by kernel_rfl) (by kernel_rfl) ⟨(spb (lcc (lcc (lcc (lc (rnd Qao) ln))))),.far _,(spb (lc rwl ln)),.dead,.far _,tv⟩⟩
    ·clear h
     refine wtr<|Qad<|Qag ?_
     refine⟨[(Qin p0 p1 p2 p3 p4 p5 p6),(.far (J none)),(.own 1 [[(.lit (.func (.yield l) #[] #[]))]]),.dead],by kernel_rfl,?_,Qlo (own':=[(Qin p0 p1 p2 p3 p4 p5 p6),(.far (J none)),(.own 1 [[(.lit (.func (.yield l) #[] #[]))]]),.dead,(.far (farL l10 o12))]) [0,1,2,3,4] [(Qin p0 p1 p2 p3 p4 p5 p6),(.far (J none)),(.own 1 [[(.lit (.func (.yield l) #[] #[]))]]),.dead,(.far (farL l10 o12))] (by kernel_rfl) (by kernel_rfl) ⟨(spb (lc (.rn (.plain _ nll)) (lc (.rn (.plain _ nll)) (lc (.rn (.plain _ nll)) (lc (.rn (.plain _ nll)) (lc (.rn (.plain _ nll)) (lc (.rn (.plain _ nll)) (lc (rnd Qao) ln)))))))),.far _,(spb (lc (.rn (.plain _ nll)) ln)),.dead,.far _,tv⟩⟩
     exact Qag<|Or.inr (by kernel_rfl)
   ·exact wx tbk [(5,rp [(.tmp 16,(B ((decide (x18.Lo≤x18.Hi)))))] (B false))] ⟨asb hb19 (amv rfl),tv⟩<|wfa<|Qai<|bln<|⟨(q5),h,Qlo (own':=[(Qin p0 p1 p2 p3 p4 p5 p6),(.far (J (some q5))),(.own 1 [[(.lit (.func (.yield l) #[] #[]))]]),.dead,(.far (farL l10 o12))]) [0,1,2,3,4] [(Qin p0 p1 p2 p3 p4 p5 p6),(.far (J (some q5))),(.own 1 [[(.lit (.func (.yield l) #[] #[]))]]),.dead,(.far (farL l10 o12))] (by kernel_rfl) (by kernel_rfl) ⟨(spb (lcc (lcc (lcc (lc (rnd Qao) ln))))),.far _,(spb (lc rwl ln)),.dead,.far _,tv⟩⟩
  ·intro q5 h
   rw[Qa7] at h
   refine bln ?_
   obtain rfl:=osi h
   exact Or.inl (by kernel_rfl)
def Qfb (_N:Nat) (p0 p1:Qaa):Option Qaa:=
  some (⟨(if p1.Lo<p0.Lo then p1.Lo else p0.Lo),(if p1.Hi>p0.Hi then p1.Hi else p0.Hi)⟩:Qaa)
def Qyi (p1 p0:Qaa):AV:=.agg [(I ((if p1.Lo<p0.Lo then p1.Lo else p0.Lo))),(I ((if p1.Hi>p0.Hi then p1.Hi else p0.Hi)))]
theorem Qg3 (N:Nat) (p0 p1 r:Qaa) (h:Qfb N p0 p1=some r):Spec prog 37 [(.agg (Qar p0)),(.agg (Qar p1))] [] (.agg (Qar r)) []:=by
  refine sA func37 0 fun _ _ _ hq hd0=>?_
  unfold Qfb at h
  refine wxz<|wx tbk [(4,rp [(.tmp 6,I p0.Lo),(.tmp 8,I p1.Lo)] (I ((if p1.Lo<p0.Lo then p1.Lo else p0.Lo)))),(9,rp [(.tmp 11,I p0.Hi),(.tmp 13,I p1.Hi)] (I ((if p1.Hi>p0.Hi then p1.Hi else p0.Hi)))),(10,rp _ _)] ⟨Qji rfl,Qjj rfl,Qay (vs:=[(I ((if p1.Lo<p0.Lo then p1.Lo else p0.Lo))),(I ((if p1.Hi>p0.Hi then p1.Hi else p0.Hi)))]) rfl ts27 tz27 rfl (by rfl) rfl,tv⟩<|Qad ?_
  obtain rfl:=osi h
  exact fie [(Qyi p1 p0)] ⟨Qcz (n:=2) (m:=2) (j:=0) (i:=0) (xs:=[[(I ((if p1.Lo<p0.Lo then p1.Lo else p0.Lo))),(I ((if p1.Hi>p0.Hi then p1.Hi else p0.Hi)))]]) (by kernel_rfl) (by kernel_rfl) ti27 (by decide) rfl (nle rfl) rfl,tv⟩
def Qat (N:Nat) (p1:Int) (k4:Int×Int×Bool→Option (Qaa×Bool)):(List (Qah×Qaa))→Int→Int→Bool→Option (Qaa×Bool)
  |[],y9,y10,y11=>
    k4 (y9,y10,y11)
  |x16::q17,y9,y10,y11=>
    (Qcb N (⟨x16.1.A,x16.1.B,x16.1.C⟩:Qah) p1).bind fun x26=>
    (Qcx N (⟨x16.2.Lo,x16.2.Hi⟩:Qaa) (w64 (0-x26))).bind fun x28=>
    bif (!y11) then
     (Qfb N x28 x28).bind fun x31=>
     Qat N p1 k4 q17 x31.Lo x31.Hi true
    else
     (Qfb N (⟨y9,y10⟩:Qaa) x28).bind fun x33=>
     Qat N p1 k4 q17 x33.Lo x33.Hi y11
def Qck (N:Nat) (p0:Qa4) (p1:Int):Option (Qaa×Bool):=
  Qdc (fun ⟨y1,y2,y3⟩=>
    some ((⟨y1,y2⟩:Qaa),y3)) fun k4:Int×Int×Bool→Option (Qaa×Bool)=>
  (Qdq N (⟨(⟨p0.A.Lo,p0.A.Hi⟩:Qaa),(⟨p0.B.Lo,p0.B.Hi⟩:Qaa),(⟨p0.C.Lo,p0.C.Hi⟩:Qaa),p0.Steps⟩:Qa4)).bind fun _=>
  (Qc4 N ((⟨(⟨p0.A.Lo,p0.A.Hi⟩:Qaa),(⟨p0.B.Lo,p0.B.Hi⟩:Qaa),(⟨p0.C.Lo,p0.C.Hi⟩:Qaa),p0.Steps⟩:Qa4).A.Lo) ((⟨(⟨p0.A.Lo,p0.A.Hi⟩:Qaa),(⟨p0.B.Lo,p0.B.Hi⟩:Qaa),(⟨p0.C.Lo,p0.C.Hi⟩:Qaa),p0.Steps⟩:Qa4).A.Hi) ((⟨(⟨p0.A.Lo,p0.A.Hi⟩:Qaa),(⟨p0.B.Lo,p0.B.Hi⟩:Qaa),(⟨p0.C.Lo,p0.C.Hi⟩:Qaa),p0.Steps⟩:Qa4).B.Lo) ((⟨(⟨p0.A.Lo,p0.A.Hi⟩:Qaa),(⟨p0.B.Lo,p0.B.Hi⟩:Qaa),(⟨p0.C.Lo,p0.C.Hi⟩:Qaa),p0.Steps⟩:Qa4).B.Hi) ((⟨(⟨p0.A.Lo,p0.A.Hi⟩:Qaa),(⟨p0.B.Lo,p0.B.Hi⟩:Qaa),(⟨p0.C.Lo,p0.C.Hi⟩:Qaa),p0.Steps⟩:Qa4).C.Lo) ((⟨(⟨p0.A.Lo,p0.A.Hi⟩:Qaa),(⟨p0.B.Lo,p0.B.Hi⟩:Qaa),(⟨p0.C.Lo,p0.C.Hi⟩:Qaa),p0.Steps⟩:Qa4).C.Hi) ((⟨(⟨p0.A.Lo,p0.A.Hi⟩:Qaa),(⟨p0.B.Lo,p0.B.Hi⟩:Qaa),(⟨p0.C.Lo,p0.C.Hi⟩:Qaa),p0.Steps⟩:Qa4).Steps)).bind fun q7=>
  Qat N p1 k4 q7 0 0 false
def Qw5:AV:=.fn (.func 50) [] [(.ref 4 7 (0) 0)]
def Qw6 (p0:Qa4):AV:=.dat 3 (((⟨(⟨p0.A.Lo,p0.A.Hi⟩:Qaa),(⟨p0.B.Lo,p0.B.Hi⟩:Qaa),(⟨p0.C.Lo,p0.C.Hi⟩:Qaa),p0.Steps⟩:Qa4).Steps:List Qbd).map Qbc)
def Qsu (p0:Qa4):Slot:=.own 7 [[(I ((⟨(⟨p0.A.Lo,p0.A.Hi⟩:Qaa),(⟨p0.B.Lo,p0.B.Hi⟩:Qaa),(⟨p0.C.Lo,p0.C.Hi⟩:Qaa),p0.Steps⟩:Qa4).A.Lo)),(I ((⟨(⟨p0.A.Lo,p0.A.Hi⟩:Qaa),(⟨p0.B.Lo,p0.B.Hi⟩:Qaa),(⟨p0.C.Lo,p0.C.Hi⟩:Qaa),p0.Steps⟩:Qa4).A.Hi)),(I ((⟨(⟨p0.A.Lo,p0.A.Hi⟩:Qaa),(⟨p0.B.Lo,p0.B.Hi⟩:Qaa),(⟨p0.C.Lo,p0.C.Hi⟩:Qaa),p0.Steps⟩:Qa4).B.Lo)),(I ((⟨(⟨p0.A.Lo,p0.A.Hi⟩:Qaa),(⟨p0.B.Lo,p0.B.Hi⟩:Qaa),(⟨p0.C.Lo,p0.C.Hi⟩:Qaa),p0.Steps⟩:Qa4).B.Hi)),(I ((⟨(⟨p0.A.Lo,p0.A.Hi⟩:Qaa),(⟨p0.B.Lo,p0.B.Hi⟩:Qaa),(⟨p0.C.Lo,p0.C.Hi⟩:Qaa),p0.Steps⟩:Qa4).C.Lo)),(I ((⟨(⟨p0.A.Lo,p0.A.Hi⟩:Qaa),(⟨p0.B.Lo,p0.B.Hi⟩:Qaa),(⟨p0.C.Lo,p0.C.Hi⟩:Qaa),p0.Steps⟩:Qa4).C.Hi)),(Qw6 p0)]]
theorem Qfu (N:Nat) (p0:Qa4) (p1:Int) (r:(Qaa×Bool)) (h:Qck N p0 p1=some r):Spec prog 19 [(.agg (Qh2 p0)),(I p1)] [] (.tup [(.agg (Qar r.1)),(B r.2)]) []:=by
  refine sA func19 0 fun _ _ _ hq hd0=>?_
  unfold Qck at h
  refine wxz ?_
  obtain⟨k4,hk_k4,h⟩:=jko h
  refine wjn (τ:=Int×Int×Bool) (fun t=>k4 t=some r) (fun ⟨y1,y2,y3⟩=>⟨mk 26 [(4,.ref 0 2 0 0),(5,.ref 1 1 0 0)],[(.own 2 [[I y1,I y2]]),(.own 1 [[B y3]])]⟩) (fun t h=>?_) ?_
  ·subst hk_k4
   obtain⟨y1,y2,y3⟩:=t
   refine wxe<|Qad ?_
   obtain rfl:=osi h
   exact fie [(.agg [I y1,I y2]),B y3] ⟨Qcz (n:=0) (m:=2) (j:=0) (i:=0) (xs:=[[I y1,I y2]]) (by kernel_rfl) (by kernel_rfl) ti27 (by decide) rfl (nle rfl) rfl,Qcz (n:=1) (m:=1) (j:=0) (i:=0) (xs:=[[B y3]]) (by kernel_rfl) (by kernel_rfl) ti4 (by decide) rfl (nle rfl) rfl,tv⟩
  ·skip
   obtain⟨x6,hf5,h⟩:=bno h
   refine wx tbk [(1,⟨_,_,_,_,false⟩)] ⟨acq [(.agg [(I ((⟨(⟨p0.A.Lo,p0.A.Hi⟩:Qaa),(⟨p0.B.Lo,p0.B.Hi⟩:Qaa),(⟨p0.C.Lo,p0.C.Hi⟩:Qaa),p0.Steps⟩:Qa4).A.Lo)),(I ((⟨(⟨p0.A.Lo,p0.A.Hi⟩:Qaa),(⟨p0.B.Lo,p0.B.Hi⟩:Qaa),(⟨p0.C.Lo,p0.C.Hi⟩:Qaa),p0.Steps⟩:Qa4).A.Hi)),(I ((⟨(⟨p0.A.Lo,p0.A.Hi⟩:Qaa),(⟨p0.B.Lo,p0.B.Hi⟩:Qaa),(⟨p0.C.Lo,p0.C.Hi⟩:Qaa),p0.Steps⟩:Qa4).B.Lo)),(I ((⟨(⟨p0.A.Lo,p0.A.Hi⟩:Qaa),(⟨p0.B.Lo,p0.B.Hi⟩:Qaa),(⟨p0.C.Lo,p0.C.Hi⟩:Qaa),p0.Steps⟩:Qa4).B.Hi)),(I ((⟨(⟨p0.A.Lo,p0.A.Hi⟩:Qaa),(⟨p0.B.Lo,p0.B.Hi⟩:Qaa),(⟨p0.C.Lo,p0.C.Hi⟩:Qaa),p0.Steps⟩:Qa4).C.Lo)),(I ((⟨(⟨p0.A.Lo,p0.A.Hi⟩:Qaa),(⟨p0.B.Lo,p0.B.Hi⟩:Qaa),(⟨p0.C.Lo,p0.C.Hi⟩:Qaa),p0.Steps⟩:Qa4).C.Hi)),(Qw6 p0)])] [] [(Qsu p0)] Qw5 [4] Qv8 (Qga N (⟨(⟨p0.A.Lo,p0.A.Hi⟩:Qaa),(⟨p0.B.Lo,p0.B.Hi⟩:Qaa),(⟨p0.C.Lo,p0.C.Hi⟩:Qaa),p0.Steps⟩:Qa4) _ hf5) (Qdl (rnc (.plain _ (NLt.agg _ (nlcc (nlcc (nlcc (nlc (nld Qao _) nl0)))))) rn0)) Qbb (slc (Qaw (rncc (rncc (rncc (rnc (pld Qao) rn0))))) Qbb) (Qdw rn0 (rnc (Qkr rfl) rn0)),tv⟩<|Qal ?_
   obtain⟨q7,hL8,h⟩:=bno h
   refine wmr (mto (n:=26) (l':=[(3,.ref 0 1 0 0),(4,.ref 1 2 0 0),(5,.ref 2 1 0 0),(9,(.fn (.func 50) [] [.ref 3 7 0 0]))]) (own':=[(.own 1 [[I p1]]),(.own 2 [[I 0,I 0]]),(.own 1 [[B false]]),(Qsu p0)]) [(3,.ref 1 1 0 0),(4,.ref 2 2 0 0),(5,.ref 3 1 0 0),(9,Qw5)] [1,2,3,4] [(.own 1 [[I p1]]),(.own 2 [[I 0,I 0]]),(.own 1 [[B false]]),(Qsu p0)] hq (prr (prr (prr (pc (.rn (Qdw rn0 (rnc (rqr rfl) rn0))) pn)))) (qb (lc rwl ln) (qb (lcc ln) (qb (lc rwl ln) (qb (lcc (lcc (lcc (lc (rnd Qao) ln)))) qn))))) ?_
   refine Qj7 (τ:=(Int×Int×Bool)) (kb:=4) (caps:=[.ref 3 7 0 0]) (σr:=[(Qsu p0)]) (encs:=fun x=>[(.agg [I x.1.A,I x.1.B,I x.1.C]),(.agg [I x.2.Lo,I x.2.Hi])]) (fun x=>[(.agg [I x.1.A,I x.1.B,I x.1.C]),(.agg [I x.2.Lo,I x.2.Hi])]) [3] (fun n hn=>hq n (Nat.le_trans (nle rfl) hn)) hd0 (Qf9 N ((⟨(⟨p0.A.Lo,p0.A.Hi⟩:Qaa),(⟨p0.B.Lo,p0.B.Hi⟩:Qaa),(⟨p0.C.Lo,p0.C.Hi⟩:Qaa),p0.Steps⟩:Qa4).A.Lo) ((⟨(⟨p0.A.Lo,p0.A.Hi⟩:Qaa),(⟨p0.B.Lo,p0.B.Hi⟩:Qaa),(⟨p0.C.Lo,p0.C.Hi⟩:Qaa),p0.Steps⟩:Qa4).A.Hi) ((⟨(⟨p0.A.Lo,p0.A.Hi⟩:Qaa),(⟨p0.B.Lo,p0.B.Hi⟩:Qaa),(⟨p0.C.Lo,p0.C.Hi⟩:Qaa),p0.Steps⟩:Qa4).B.Lo) ((⟨(⟨p0.A.Lo,p0.A.Hi⟩:Qaa),(⟨p0.B.Lo,p0.B.Hi⟩:Qaa),(⟨p0.C.Lo,p0.C.Hi⟩:Qaa),p0.Steps⟩:Qa4).B.Hi) ((⟨(⟨p0.A.Lo,p0.A.Hi⟩:Qaa),(⟨p0.B.Lo,p0.B.Hi⟩:Qaa),(⟨p0.C.Lo,p0.C.Hi⟩:Qaa),p0.Steps⟩:Qa4).C.Lo) ((⟨(⟨p0.A.Lo,p0.A.Hi⟩:Qaa),(⟨p0.B.Lo,p0.B.Hi⟩:Qaa),(⟨p0.C.Lo,p0.C.Hi⟩:Qaa),p0.Steps⟩:Qa4).C.Hi) ((⟨(⟨p0.A.Lo,p0.A.Hi⟩:Qaa),(⟨p0.B.Lo,p0.B.Hi⟩:Qaa),(⟨p0.C.Lo,p0.C.Hi⟩:Qaa),p0.Steps⟩:Qa4).Steps) _ hL8) Qvy (by kernel_rfl) (by kernel_rfl) (Qdl (rnc (Qkr rfl) rn0)) (slc (Qaw (rncc (rncc (rncc (rnc (pld Qao) rn0))))) Qbb) (by kernel_rfl) (fun _=>rfl) (fun x=>(nlc (NLt.agg _ (nlcc (nlc nll nl0))) (nlc (NLt.agg _ (nlcc nl0)) nl0))) (fun x=>⟨lrf,lrf,tv⟩) (Qt8 (Qgv (NLt.ref _ _ _ _ (by decide)) (Qgv (NLt.ref _ _ _ _ (by decide)) (Qgv (NLt.ref _ _ _ _ (by decide)) (Qgv (NLt.fn _ _ _ nl0 (nlc (NLt.ref _ _ _ _ (by decide)) nl0)) Qrb))))) (fun ⟨y9,y10,y11⟩=>[(.own 1 [[I p1]]),(.own 2 [[I y9,I y10]]),(.own 1 [[B y11]]),.dead]) (fun _=>rfl) (fun l t=>Qat N p1 k4 l t.1 t.2.1 t.2.2=some r) (0,0,false) h (by kernel_rfl) ?_ ?_
   ·intro l18 o19 X22 φ23 w24 hφ21 x16 q17 t h
    obtain⟨y9,y10,y11⟩:=t
    rw[Qat] at h
    refine wxz<|wxz1 ?_
    refine⟨by kernel_rfl,fun o20=>?_⟩
    refine Qal ?_
    obtain⟨x26,hf25,h⟩:=bno h
    obtain⟨x28,hf27,h⟩:=bno h
    refine wxd tbk [(3,rp _ _),(5,rp _ _)] ⟨apw Qnj (Qd1 N (⟨x16.1.A,x16.1.B,x16.1.C⟩:Qah) p1 _ hf25),apw Qrv (Qe4 N (⟨x16.2.Lo,x16.2.Hi⟩:Qaa) (w64 (0-x26)) _ hf27),tv⟩<|wsq<|wxz ?_
    refine bfe h (fun hc29 h=>?_) fun hc29 h=>?_
    ·refine wft hc29<|wxz1<|thn ?_
     obtain⟨x31,hf30,h⟩:=bno h
     exact wx1 tbk [(2,rp _ _)] ⟨apw Qru (Qg3 N x28 x28 _ hf30),tv⟩<|bln<|⟨(x31.Lo,x31.Hi,true),h,Qlo (own':=[(.own 1 [[I p1]]),(.own 2 [[I x31.Lo,I x31.Hi]]),(.own 1 [[B true]]),.dead,(.far (farL l18 o20))]) [0,1,2,3,4] [(.own 1 [[I p1]]),(.own 2 [[I x31.Lo,I x31.Hi]]),(.own 1 [[B true]]),.dead,(.far (farL l18 o20))] (by kernel_rfl) (by kernel_rfl) ⟨(spb (lc rwl ln)),(spb (lcc ln)),(spb (lc rwl ln)),.dead,.far _,tv⟩⟩
    ·refine wfn hc29<|Qai<|thn ?_
     obtain⟨x33,hf32,h⟩:=bno h
     exact wx1 tbk [(2,rp _ _)] ⟨apw Qru (Qg3 N (⟨y9,y10⟩:Qaa) x28 _ hf32),tv⟩<|bln<|⟨(x33.Lo,x33.Hi,y11),h,Qlo (own':=[(.own 1 [[I p1]]),(.own 2 [[I x33.Lo,I x33.Hi]]),(.own 1 [[B y11]]),.dead,(.far (farL l18 o20))]) [0,1,2,3,4] [(.own 1 [[I p1]]),(.own 2 [[I x33.Lo,I x33.Hi]]),(.own 1 [[B y11]]),.dead,(.far (farL l18 o20))] (by kernel_rfl) (by kernel_rfl) ⟨(spb (lc rwl ln)),(spb (lcc ln)),(spb (lc rwl ln)),.dead,.far _,tv⟩⟩
   ·intro t h
    obtain⟨y9,y10,y11⟩:=t
    rw[Qat] at h
    exact bln<|thn<|⟨(y9,y10,y11),h,(mto (n:=26) [(4,.ref 1 2 0 0),(5,.ref 2 1 0 0)] [1,2] [(.own 2 [[I y9,I y10]]),(.own 1 [[B y11]])] hq (prr (prr pn)) (qb (lcc ln) (qb (lc rwl ln) qn)))⟩
def Qc0 (N:Nat) (p0:Qa4) (p1:Int):Option (Qaa×Int):=
  (Qcm N (⟨(⟨p0.A.Lo,p0.A.Hi⟩:Qaa),(⟨p0.B.Lo,p0.B.Hi⟩:Qaa),(⟨p0.C.Lo,p0.C.Hi⟩:Qaa),p0.Steps⟩:Qa4)).bind fun x2=>
  bif (x2 != 0) then
   some ((⟨0,0⟩:Qaa),x2)
  else
   (Qdf N p1 0 1000).bind fun x5=>
   bif (!x5) then
    some ((⟨0,0⟩:Qaa),2)
   else
    (Qck N (⟨(⟨p0.A.Lo,p0.A.Hi⟩:Qaa),(⟨p0.B.Lo,p0.B.Hi⟩:Qaa),(⟨p0.C.Lo,p0.C.Hi⟩:Qaa),p0.Steps⟩:Qa4) p1).bind fun x8=>
    bif (!x8.2) then
     some ((⟨0,0⟩:Qaa),7)
    else
     some ((⟨x8.1.Lo,x8.1.Hi⟩:Qaa),0)
def Quo:AV:=.agg [(I (0)),(I (0))]
theorem Qfl (N:Nat) (p0:Qa4) (p1:Int) (r:(Qaa×Int)) (h:Qc0 N p0 p1=some r):Spec prog 9 [(.agg (Qh2 p0)),(I p1)] [] (.tup [(.agg (Qar r.1)),(I r.2)]) []:=by
  refine sA func9 0 fun _ _ _ hq hd0=>?_
  unfold Qc0 at h
  refine wxz<|wsq ?_
  obtain⟨x2,hf1,h⟩:=bno h
  refine wx tbk [(1,rp _ _)] ⟨apw Qr0 (Qfc N (⟨(⟨p0.A.Lo,p0.A.Hi⟩:Qaa),(⟨p0.B.Lo,p0.B.Hi⟩:Qaa),(⟨p0.C.Lo,p0.C.Hi⟩:Qaa),p0.Steps⟩:Qa4) _ hf1),tv⟩<|wxz ?_
  refine bfe h (fun hc3 h=>?_) fun hc3 h=>?_
  ·refine wft hc3<|wx tbk [(0,rp _ _)] ⟨Qay (vs:=[]) rfl ts27 tz27 rfl (by rfl) rfl,tv⟩<|Qad<|Qac ?_
   obtain rfl:=osi h
   exact fie [Quo,I x2] ⟨Qcz (n:=1) (m:=2) (j:=0) (i:=0) (xs:=[[I 0,I 0]]) (by kernel_rfl) (by kernel_rfl) ti27 (by decide) rfl (nle rfl) rfl,rot,tv⟩
  ·refine wfn hc3<|Qai<|thn<|wsq ?_
   obtain⟨x5,hf4,h⟩:=bno h
   refine wx tbk [(1,rp _ _)] ⟨apw Qni (Qe1 N p1 0 1000 _ hf4),tv⟩ ?_
   refine bfe h (fun hc6 h=>?_) fun hc6 h=>?_
   ·refine wft hc6<|wx tbk [(0,rp _ _)] ⟨Qay (vs:=[]) rfl ts27 tz27 rfl (by rfl) rfl,tv⟩<|Qad<|Qac ?_
    obtain rfl:=osi h
    exact fie [Quo,I 2] ⟨Qcz (n:=1) (m:=2) (j:=0) (i:=0) (xs:=[[I 0,I 0]]) (by kernel_rfl) (by kernel_rfl) ti27 (by decide) rfl (nle rfl) rfl,rot,tv⟩
   ·refine wfn hc6<|Qai<|thn ?_
    obtain⟨x8,hf7,h⟩:=bno h
    refine wx tbk [(2,rp _ _)] ⟨apw Qwi (Qfu N (⟨(⟨p0.A.Lo,p0.A.Hi⟩:Qaa),(⟨p0.B.Lo,p0.B.Hi⟩:Qaa),(⟨p0.C.Lo,p0.C.Hi⟩:Qaa),p0.Steps⟩:Qa4) p1 _ hf7),tv⟩<|wsq<|wxz ?_
    refine bfe h (fun hc9 h=>?_) fun hc9 h=>?_
    ·refine wft hc9<|wx tbk [(0,rp _ _)] ⟨Qay (vs:=[]) rfl ts27 tz27 rfl (by rfl) rfl,tv⟩<|Qad<|Qac ?_
     obtain rfl:=osi h
     exact fie [Quo,I 7] ⟨Qcz (n:=1) (m:=2) (j:=0) (i:=0) (xs:=[[I 0,I 0]]) (by kernel_rfl) (by kernel_rfl) ti27 (by decide) rfl (nle rfl) rfl,rot,tv⟩
    ·refine wfn hc9<|Qai<|thn<|wxz<|Qad ?_
     obtain rfl:=osi h
     exact fie [(.agg [I x8.1.Lo,I x8.1.Hi]),I 0] ⟨Qcz (n:=1) (m:=2) (j:=0) (i:=0) (xs:=[[I x8.1.Lo,I x8.1.Hi]]) (by kernel_rfl) (by kernel_rfl) ti27 (by decide) rfl (nle rfl) rfl,rot,tv⟩
def Qcy (N:Nat):Option Bool:=
  (Qc0 N (⟨(⟨3,3⟩:Qaa),(⟨2,2⟩:Qaa),(⟨0,0⟩:Qaa),[]⟩:Qa4) 5).bind fun x2=>
  bif (x2.2==0) then
   some (([x2.1.Lo,x2.1.Hi]:List Int)==[13,13])
  else
   some false
def Qyh:AV:=.agg [(I (3)),(I (3))]
def Qyg:AV:=.agg [(I (2)),(I (2))]
def Qyf:AV:=.agg [(I (3)),(I (3)),(I (2)),(I (2)),(I (0)),(I (0)),nilS]
def Qye:AV:=.agg [(I (3)),(I (3)),(I (2)),(I (2)),(I (0)),(I (0)),(.dat 3 (([]:List Qbd).map Qbc))]
theorem Qcs (N:Nat) (r:Bool) (h:Qcy N=some r):Spec prog 4 [] [] (B r) []:=by
  refine sA func4 0 fun _ _ _ hq hd0=>?_
  unfold Qcy at h
  refine wxz ?_
  obtain⟨x2,hf1,h⟩:=bno h
  refine wx tbk [(0,rp _ _),(1,rp _ _),(2,rp _ _),(3,rp [fu 9,(.tmp 6,Qyf),ci 5] (.tup [(.agg [I x2.1.Lo,I x2.1.Hi]),I x2.2]))] ⟨Qay (vs:=[I 3,I 3]) rfl ts27 tz27 rfl (by rfl) rfl,Qay (vs:=[I 2,I 2]) rfl ts27 tz27 rfl (by rfl) rfl,Qay (vs:=[Qyh,Qyg]) rfl ts30 tz30 rfl (by rfl) rfl,awk (rd':=(.func 9,(.fn (.func 9) [] []))::[(.tmp 6,Qye),(.const (.int .i64 5),I 5)]) ⟨rfl,lrf,rfl,(Less.agg ⟨lrf,lrf,lrf,lrf,lrf,lrf,Less.nil,tv⟩),rfl,lrf,tv⟩ (apv Qub (Qfl N (⟨(⟨3,3⟩:Qaa),(⟨2,2⟩:Qaa),(⟨0,0⟩:Qaa),[]⟩:Qa4) 5 _ hf1) (nlc (NLt.agg _ (nlcc (nlcc (nlcc (nlc (nld Qao _) nl0))))) (nlc nll nl0)) (NLt.tup _ (nlc (NLt.agg _ (nlcc nl0)) (nlc nll nl0)))),tv⟩ ?_
  refine bfe h (fun hb3 h=>?_) fun hb3 h=>?_
  ·refine wx tbk [(2,rp [(.tmp 11,(B ((x2.2==0))))] (B true)),(4,rp [(.tmp 12,B true),ci 13,ci 13] (.agg [I 13,I 13])),(5,rp [(.tmp 12,B true),(.tmp 13,(.agg [I x2.1.Lo,I x2.1.Hi])),(.tmp 14,(.agg [I 13,I 13]))] (B ((([x2.1.Lo,x2.1.Hi]:List Int)==[13,13]))))] ⟨asb hb3 (amv rfl),ag_ (Qay (vs:=[I 13,I 13]) rfl ts27 tz27 rfl (by rfl) rfl),ag_ (Qse (ls:=[x2.1.Lo,x2.1.Hi]) (ks:=[13,13]) rfl rfl Qy1 (by kernel_rfl) rfl rfl),tv⟩<|Qad ?_
   obtain rfl:=osi h
   exact fend ⟨[(B ((([x2.1.Lo,x2.1.Hi]:List Int)==[13,13])))],⟨rot,tv⟩,rfl⟩ nll
  ·exact wx tbk [(2,rp [(.tmp 11,(B ((x2.2==0))))] (B false))] ⟨asb hb3 (amv rfl),tv⟩<|Qad<|frb h
end
section
def Qcl (N:Nat) (p0:Qaa) (p1:Int):Option Bool:=
  (Qdf N p1 p0.Lo p0.Hi).bind fun x2=>
  some x2
theorem Qdi (N:Nat) (p0:Qaa) (p1:Int) (r:Bool) (h:Qcl N p0 p1=some r):Spec prog 16 [(.agg (Qar p0)),(I p1)] [] (B r) []:=by
  refine sA func16 0 fun _ _ _ hq hd0=>?_
  unfold Qcl at h
  refine wxz ?_
  obtain⟨x2,hf1,h⟩:=bno h
  exact wx tbk [(5,rp _ _)] ⟨apw Qni (Qe1 N p1 p0.Lo p0.Hi _ hf1),tv⟩<|Qad<|frb h
def Qca (N:Nat) (p0:Qa4) (p1:Qah) (k2:Unit→Option Bool):Nat→Int→Option Bool
  |0,_=>none
  |n5+1,y3=>
    bif (decide (y3<(p0.Steps.length:Int))) then
     (getI p0.Steps y3).bind fun x7=>
     (Qcb N p1 x7.Flow).bind fun x12=>
     (Qcl N (⟨x7.In.Lo,x7.In.Hi⟩:Qaa) x12).bind fun x14=>
     bif (!x14) then
      some false
     else
      Qca N p0 p1 k2 n5 (w64 (y3+1))
    else
     k2 ()
def Qdz (N:Nat) (p0:Qa4) (p1:Qah):Option Bool:=
  Qdc (fun _=>
    Qdc (fun _=>
      some true) fun k2:Unit→Option Bool=>
    Qca N p0 p1 k2 N 0) fun k1:Unit→Option Bool=>
  (Qcm N (⟨(⟨p0.A.Lo,p0.A.Hi⟩:Qaa),(⟨p0.B.Lo,p0.B.Hi⟩:Qaa),(⟨p0.C.Lo,p0.C.Hi⟩:Qaa),p0.Steps⟩:Qa4)).bind fun x17=>
  bif (x17 != 0) then
   some false
  else
   (Qcl N (⟨p0.A.Lo,p0.A.Hi⟩:Qaa) p1.A).bind fun x20=>
   bif (!x20) then
    some false
   else
    (Qcl N (⟨p0.B.Lo,p0.B.Hi⟩:Qaa) p1.B).bind fun x23=>
    bif (!x23) then
     some false
    else
     (Qcl N (⟨p0.C.Lo,p0.C.Hi⟩:Qaa) p1.C).bind fun x26=>
     bif (!x26) then
      some false
     else
      k1 ()
def Qor (p0:Qa4):AV:=.dat 3 (p0.Steps.map Qbc)
def Qw3 (p0:Qa4):Slot:=.own 7 [[(I p0.A.Lo),(I p0.A.Hi),(I p0.B.Lo),(I p0.B.Hi),(I p0.C.Lo),(I p0.C.Hi),(Qor p0)]]
def Qoq (p1:Qah):Slot:=.own 3 [[(I p1.A),(I p1.B),(I p1.C)]]
def Qyd (p0:Qa4):AV:=.agg [(I p0.A.Lo),(I p0.A.Hi),(I p0.B.Lo),(I p0.B.Hi),(I p0.C.Lo),(I p0.C.Hi),(Qor p0)]
def Qqg (p0:Qa4) (x17:Int):List (Nat×Rec):=[(1,rp [fu 15,((.tmp 7),(Qyd p0))] (I x17))]
def Qqf p0 x17 (p1:Qah) (x20:Bool):=hcat (Qqg p0 x17) [(3,rp [((.tmp 9),(B ((x17 != 0))))] (B false)),(8,rp [((.tmp 10),(B false)),fu 16,((.tmp 12),(.agg [(I p0.A.Lo),(I p0.A.Hi)])),((.tmp 14),(I p1.A))] (B x20))]
def Qqe p0 x17 p1 x20 (x23:Bool):=hcat (Qqf p0 x17 p1 x20) [(11,rp [((.tmp 17),(B ((!x20))))] (B false)),(16,rp [((.tmp 18),(B false)),fu 16,((.tmp 20),(.agg [(I p0.B.Lo),(I p0.B.Hi)])),((.tmp 22),(I p1.B))] (B x23))]
theorem Qif (N:Nat) (p0:Qa4) (p1:Qah) (r:Bool) (h:Qdz N p0 p1=some r):Spec prog 8 [(.agg (Qh2 p0)),(.agg (Qap p1))] [] (B r) []:=by
  refine sA func8 0 fun _ _ _ hq hd0=>?_
  unfold Qdz at h
  refine wxz ?_
  obtain⟨k1,hk_k1,h⟩:=jko h
  refine wjn (τ:=Unit) (fun t=>k1 t=some r) (fun _=>⟨mk 50 [(2,.ref 0 7 0 0),(3,.ref 1 3 0 0)],[(Qw3 p0),(Qoq p1)]⟩) (fun t h=>?_) ?_
  ·subst hk_k1
   obtain⟨k2,hk_k2,h⟩:=jko h
   refine wjn (τ:=Unit) (fun t=>k2 t=some r) (fun _=>⟨mk 50 [],[]⟩) (fun t h=>?_) ?_
   ·subst hk_k2
    exact wxz<|Qad<|frb h
   ·skip
    refine wx tbk [(2,rp _ _)] ⟨alq 3 Qbc p0.Steps underlying28,tv⟩<|Qal ?_
    refine wmr (mto (n:=50) (l':=[(3,.ref 0 3 0 0),(35,(Qor p0)),(36,(I ((p0.Steps.length:Int)))),(37,I 0)]) (own':=[(Qoq p1)]) [(3,.ref 1 3 0 0),(35,(Qor p0)),(36,(I ((p0.Steps.length:Int)))),(37,I 0)] [1] [(Qoq p1)] hq (prr (pc (rnd Qao) (pw (pw pn)))) (qb (lcc (lc rwl ln)) qn)) ?_
    refine Qdk (τ:=Int) (fun n t=>Qca N p0 p1 k2 n t=some r) (fun y3=>⟨mk 50 [(3,.ref 0 3 0 0),(35,(Qor p0)),(36,(I ((p0.Steps.length:Int)))),(37,I y3)],[(Qoq p1)]⟩) (fun t h=>by rw[Qca] at h;cases h) (fun n5 ih y3 h=>?_) N (0) h
    rw[Qca] at h
    skip
    refine wxz<|wsq ?_
    refine bfe h (fun hc6 h=>?_) fun hc6 h=>?_
    ·refine wft hc6<|Qai<|thn<|wsq<|Qal ?_
     obtain⟨x7,hg8,h⟩:=bno h
     obtain⟨hi9,hj10⟩:=gsm hg8
     refine wx tbk [(0,rp _ _)] ⟨aiq underlying28 ti49 Qbc hi9 hj10,tv⟩ ?_
     obtain⟨x12,hf11,h⟩:=bno h
     obtain⟨x14,hf13,h⟩:=bno h
     refine wxd tbk [(5,rp _ _),(6,rp _ _)] ⟨apw Qnj (Qd1 N p1 x7.Flow _ hf11),apw Qk3 (Qdi N (⟨x7.In.Lo,x7.In.Hi⟩:Qaa) x12 _ hf13),tv⟩ ?_
     refine bfe h (fun hc15 h=>?_) fun hc15 h=>?_
     ·exact wft hc15<|wxz<|Qad<|Qag<|Qac<|Qac<|Qag<|Qac<|frb h
     ·exact wfn hc15<|Qai<|bln<|thn<|wxz1<|thn<|arm (mto (n:=50) [(3,.ref 0 3 0 0),(35,(Qor p0)),(36,(I ((p0.Steps.length:Int)))),(37,(I (w64 (y3+1))))] [0] [(Qoq p1)] hq (prr (pc (rnd Qao) (pw (pw pn)))) (qb (lcc (lc rwl ln)) qn)) (ih (w64 (y3+1)) h)
    ·exact wfn hc6<|Qcp<|Qbf<|Qbf<|Qco rfl<|thn<|⟨(),h,(mto (n:=50) [] [] [] hq pn qn)⟩
  ·skip
   obtain⟨x17,hf16,h⟩:=bno h
   refine hpre (A:=(Qqg p0 x17)) ⟨apv Qr0 (Qfc N (⟨(⟨p0.A.Lo,p0.A.Hi⟩:Qaa),(⟨p0.B.Lo,p0.B.Hi⟩:Qaa),(⟨p0.C.Lo,p0.C.Hi⟩:Qaa),p0.Steps⟩:Qa4) _ hf16) (nlc (NLt.agg _ (nlcc (nlcc (nlcc (nlc (nld Qao _) nl0))))) nl0) nll,tv⟩ fun q1_=>?_
   refine bfe h (fun hb18 h=>?_) fun hb18 h=>?_
   ·exact wx tbk (hcat (Qqg p0 x17) [(3,rp [(.tmp 9,(B ((x17 != 0))))] (B true))]) (hap q1_ ⟨asb hb18 (amv rfl),tv⟩)<|wtr<|wxz<|Qad<|Qac<|frb h
   ·obtain⟨x20,hf19,h⟩:=bno h
    refine hpre (A:=(Qqf p0 x17 p1 x20)) (hap q1_ ⟨asb hb18 (amv rfl),ag_ (apv Qk3 (Qdi N (⟨p0.A.Lo,p0.A.Hi⟩:Qaa) p1.A _ hf19) (nlc (NLt.agg _ (nlcc nl0)) (nlc nll nl0)) nll),tv⟩) fun q2_=>?_
    refine bfe h (fun hb21 h=>?_) fun hb21 h=>?_
    ·exact wx tbk (hcat (Qqf p0 x17 p1 x20) [(11,rp [(.tmp 17,(B ((!x20))))] (B true))]) (hap q2_ ⟨asb hb21 (amv rfl),tv⟩)<|wtr<|wxz<|Qad<|Qac<|frb h
    ·obtain⟨x23,hf22,h⟩:=bno h
     refine hpre (A:=(Qqe p0 x17 p1 x20 x23)) (hap q2_ ⟨asb hb21 (amv rfl),ag_ (apv Qk3 (Qdi N (⟨p0.B.Lo,p0.B.Hi⟩:Qaa) p1.B _ hf22) (nlc (NLt.agg _ (nlcc nl0)) (nlc nll nl0)) nll),tv⟩) fun q3_=>?_
     refine bfe h (fun hb24 h=>?_) fun hb24 h=>?_
     ·exact wx tbk (hcat (Qqe p0 x17 p1 x20 x23) [(19,rp [(.tmp 25,(B ((!x23))))] (B true))]) (hap q3_ ⟨asb hb24 (amv rfl),tv⟩)<|wtr<|wxz<|Qad<|Qac<|frb h
     ·obtain⟨x26,hf25,h⟩:=bno h
      refine wx tbk (hcat (Qqe p0 x17 p1 x20 x23) [(19,rp [(.tmp 25,(B ((!x23))))] (B false)),(24,rp [(.tmp 26,B false),fu 16,(.tmp 28,(.agg [I p0.C.Lo,I p0.C.Hi])),(.tmp 30,I p1.C)] (B x26))]) (hap q3_ ⟨asb hb24 (amv rfl),ag_ (apv Qk3 (Qdi N (⟨p0.C.Lo,p0.C.Hi⟩:Qaa) p1.C _ hf25) (nlc (NLt.agg _ (nlcc nl0)) (nlc nll nl0)) nll),tv⟩) ?_
      refine bfe h (fun hc27 h=>?_) fun hc27 h=>?_
      ·exact wft hc27<|wxz<|Qad<|Qac<|frb h
      ·exact wfn hc27<|Qai<|thn<|⟨(),h,(mto (n:=50) [(2,.ref 0 7 0 0),(3,.ref 1 3 0 0)] [0,1] [(Qw3 p0),(Qoq p1)] hq (prr (prr pn)) (qb (lcc (lcc (lcc (lc (rnd Qao) ln)))) (qb (lcc (lc rwl ln)) qn)))⟩
def Qc3 (N:Nat) (p0 p1:Int) (p2 p3:Int) (p4:List Qaf):Option Int:=
  (Qbj N (⟨p0,p1,p2,p3⟩:Qam) p4).bind fun x3=>
  some x3
abbrev Qsp (p0 p1:Int) (p2 p3:Int):Slot:=.own 4 [[(I p0),(I p1),(I p2),(I p3)]]
abbrev Qso (p4:List Qaf):AV:=.dat 2 (p4.map Qae)
theorem Qfp (N:Nat) (p0 p1:Int) (p2 p3:Int) (p4:List Qaf) (r:Int) (h:Qc3 N p0 p1 p2 p3 p4=some r):Spec prog 38 [(.ref 0 4 (0) 0),(.ref 1 1 (0) 0)] [(Qsp p0 p1 p2 p3),(.own 1 [[(Qso p4)]])] (I r) [(Qsp p0 p1 p2 p3),(.own 1 [[(Qso p4)]])]:=by
  refine sF func38 2 fun _ _ _ hq hd0=>?_
  unfold Qc3 at h
  refine wxz ?_
  obtain⟨x3,hf2,h⟩:=bno h
  refine wx tbk [(2,rp _ _)] ⟨apw Qrw (Qei N (⟨p0,p1,p2,p3⟩:Qam) p4 _ hf2),tv⟩ ?_
  refine wmr (mto (n:=6) (l':=[(2,I x3)]) (own':=[(Qsp p0 p1 p2 p3),(.own 1 [[(Qso p4)]])]) [(2,I x3)] [0,1] [(Qsp p0 p1 p2 p3),(.own 1 [[(Qso p4)]])] hq (pw pn) (qb (lcc (lcc ln)) (qb (lc (rnd Qaj) ln) qn)))<|Qad ?_
  obtain rfl:=osi h
  exact⟨_,Mor.rfl,fio [I x3] ⟨rot,tv⟩⟩
def Qep (N:Nat) (p0 p1:Int) (p2 p3:Int) (p4 p5:Int) (p6 p7:Int) (p8:List Qaf):Option Int:=
  Qdc (fun _=>
    some 0) fun k2:Unit→Option Int=>
  (Qb6 N (⟨p0,p1,p2,p3⟩:Qam)).bind fun x4=>
  bif (x4 != 0) then
   some x4
  else
   (Qc3 N p4 p5 p6 p7 p8).bind fun x7=>
   bif (x7 != 0) then
    some x7
   else
    k2 ()
abbrev Qop (p0 p1:Int) (p2 p3:Int):AV:=.fn (.func 27) [(.agg [(I p0),(I p1),(I p2),(I p3)])] []
abbrev Qp7:AV:=.fn (.func 38) [] [(.ref 0 4 (0) 0),(.ref 1 1 (0) 0)]
abbrev Qic (p4 p5:Int) (p6 p7:Int):Slot:=.own 4 [[(I p4),(I p5),(I p6),(I p7)]]
abbrev Qib (p8:List Qaf):AV:=.dat 2 (p8.map Qae)
theorem Qhx (N:Nat) (p0 p1:Int) (p2 p3:Int) (p4 p5:Int) (p6 p7:Int) (p8:List Qaf) (r:Int) (h:Qep N p0 p1 p2 p3 p4 p5 p6 p7 p8=some r):Spec prog 20 [(.dat 1 [[(Qop p0 p1 p2 p3)],[Qp7]])] [(Qic p4 p5 p6 p7),(.own 1 [[(Qib p8)]])] (I r) [(Qic p4 p5 p6 p7),(.own 1 [[(Qib p8)]])]:=by
  refine sF func20 2 fun _ _ _ hq hd0=>?_
  unfold Qep at h
  refine wxz ?_
  obtain⟨k2,hk_k2,h⟩:=jko h
  refine wjn (τ:=Unit) (fun t=>k2 t=some r) (fun _=>⟨mk 18 [],[(Qic p4 p5 p6 p7),(.own 1 [[(Qib p8)]])]⟩) (fun t h=>?_) ?_
  ·subst hk_k2
   refine wxz<|wmr (mto (n:=18) (l':=[(2,I 0)]) (own':=[(Qic p4 p5 p6 p7),(.own 1 [[(Qib p8)]])]) [(2,I 0)] [0,1] [(Qic p4 p5 p6 p7),(.own 1 [[(Qib p8)]])] hq (pw pn) (qb (lcc (lcc ln)) (qb (lc (rnd Qaj) ln) qn)))<|Qad ?_
   obtain rfl:=osi h
   exact⟨_,Mor.rfl,fio [I 0] ⟨rot,tv⟩⟩
  ·skip
   refine wx tbk [(1,rp [(.tmp 6,(.dat 1 [[(Qop p0 p1 p2 p3)],[Qp7]]))] (I 2))] ⟨aln rfl underlying88 rfl,tv⟩<|Qal<|Qik 17<|Qgm<|wxz<|wsq<|wtr<|Qai<|thn<|wsq ?_
   refine Qal<|wx tbk [(0,rp [(.tmp 6,(.dat 1 [[(Qop p0 p1 p2 p3)],[Qp7]])),(.tmp 8,I 0)] (.dptr [(Qop p0 p1 p2 p3)] 0))] ⟨aid rfl underlying88 ti75 rfl rfl (by decide) rfl rfl,tv⟩ ?_
   obtain⟨x4,hf3,h⟩:=bno h
   refine wx tbk [(1,rp [(.tmp 12,(Qop p0 p1 p2 p3))] (I x4))] ⟨apc (first:=[(.agg [I p0,I p1,I p2,I p3])]) (cap:=[]) (vs:=[]) rfl Qrx (Qew N (⟨p0,p1,p2,p3⟩:Qam) _ hf3) rfl rfl (nlc (NLt.agg _ (nlcc (nlcc nl0))) nl0) nll rfl,tv⟩<|wxz ?_
   refine bfe h (fun hc5 h=>?_) fun hc5 h=>?_
   ·refine wft hc5<|wxz ?_
    refine wmr (mto (n:=18) (l':=[(2,I x4)]) (own':=[(Qic p4 p5 p6 p7),(.own 1 [[(Qib p8)]])]) [(2,I x4)] [0,1] [(Qic p4 p5 p6 p7),(.own 1 [[(Qib p8)]])] hq (pw pn) (qb (lcc (lcc ln)) (qb (lc (rnd Qaj) ln) qn)))<|Qad<|Qag<|Qac<|Qac<|Qag<|Qac ?_
    obtain rfl:=osi h
    exact⟨_,Mor.rfl,fio [I x4] ⟨rot,tv⟩⟩
   ·refine wfn hc5<|Qai<|bln<|thn<|wxz1<|thn<|Qgm<|wxz<|wsq<|wtr ?_
    refine Qai<|thn<|wsq<|Qal ?_
    refine wx tbk [(0,rp [(.tmp 6,(.dat 1 [[(Qop p0 p1 p2 p3)],[Qp7]])),(.tmp 8,I 1)] (.dptr [Qp7] 0))] ⟨aid rfl underlying88 ti75 rfl rfl (by decide) rfl rfl,tv⟩ ?_
    obtain⟨x7,hf6,h⟩:=bno h
    refine wx tbk [(1,⟨_,_,_,_,false⟩)] ⟨Qc7 (first:=[]) (cap:=[.ref 0 4 0 0,.ref 1 1 0 0]) (vs:=[]) (σr:=[(Qic p4 p5 p6 p7),(.own 1 [[(Qib p8)]])]) (σr':=[(Qic p4 p5 p6 p7),(.own 1 [[(Qib p8)]])]) (res':=(I x7)) [0,1] rfl Qv7 (Qfp N p4 p5 p6 p7 p8 _ hf6) rfl (Qdl (rnc (Qcn rfl) (rnc (Qcn rfl) rn0))) (slc (Qaw (rncc (rncc rn0))) (slc (Qaw (rnc (pld Qaj) rn0)) Qbb)) (slc (Qaw (rncc (rncc rn0))) (slc (Qaw (rnc (pld Qaj) rn0)) Qbb)) (.plain _ nll) rfl rfl rfl,tv⟩<|wxz ?_
    refine bfe h (fun hc8 h=>?_) fun hc8 h=>?_
    ·refine wft hc8<|wxz ?_
     refine wmr (mto (n:=18) (l':=[(2,I x7)]) (own':=[(Qic p4 p5 p6 p7),(.own 1 [[(Qib p8)]])]) [(2,I x7)] [0,1] [(Qic p4 p5 p6 p7),(.own 1 [[(Qib p8)]])] hq (pw pn) (qb (lcc (lcc ln)) (qb (lc (rnd Qaj) ln) qn)))<|Qad<|Qag<|Qac<|Qac<|Qag<|Qac ?_
     obtain rfl:=osi h
     exact⟨_,Mor.rfl,fio [I x7] ⟨rot,tv⟩⟩
    ·refine wfn hc8<|Qai<|bln<|thn<|wxz1<|thn<|Qgm<|wxz<|wsq<|wfa ?_
     exact Qcp<|Qbf<|Qbf<|Qco rfl<|thn<|⟨(),h,(mto (n:=18) [] [0,1] [(Qic p4 p5 p6 p7),(.own 1 [[(Qib p8)]])] hq pn (qb (lcc (lcc ln)) (qb (lc (rnd Qaj) ln) qn)))⟩
def Qct (N:Nat) (p0:Qam) (p1:List Qaf):Option Int:=
  (Qep N p0.X p0.Y p0.Z p0.Kinds p0.X p0.Y p0.Z p0.Kinds p1).bind fun x2=>
  some x2
def Quj (p0:Qam):AV:=.agg [(I p0.X),(I p0.Y),(I p0.Z),(I p0.Kinds)]
def Qp9 (p0:Qam):AV:=.fn (.func 27) [(Quj p0)] []
def Qp8:AV:=.fn (.func 38) [] [(.ref 0 4 (0) 0),(.ref 1 1 (0) 0)]
def Qwz (p0:Qam):Slot:=.own 4 [[(I p0.X),(I p0.Y),(I p0.Z),(I p0.Kinds)]]
theorem Qgj (N:Nat) (p0:Qam) (p1:List Qaf) (r:Int) (h:Qct N p0 p1=some r):Spec prog 22 [(.agg (Qc9 p0)),(.dat 2 (p1.map Qae))] [] (I r) []:=by
  refine sA func22 0 fun _ _ _ hq hd0=>?_
  unfold Qct at h
  refine wxz ?_
  obtain⟨x2,hf1,h⟩:=bno h
  refine wx tbk [(1,rp [(.tmp 5,(Quj p0))] (Qp9 p0)),(2,rp [(.tmp 2,.ref 0 4 0 0),(.tmp 3,.ref 1 1 0 0)] Qp8),(3,rp [(.tmp 6,(Qp9 p0)),(.tmp 7,Qp8)] (.dat 1 [[(Qp9 p0)],[Qp8]])),(4,⟨_,_,_,_,false⟩)] ⟨Qcu (fs:=[(Quj p0)]) (cs:=[]) rfl rfl rfl rfl,Qcu (fs:=[]) (cs:=[.ref 0 4 0 0,.ref 1 1 0 0]) rfl rfl rfl rfl,Qbn (vs:=[(Qp9 p0),Qp8]) rfl underlying88 ti75 tz75 rfl (by decide) rfl (by decide) (by rfl) (by rfl) (by rfl) rfl,acq [(.dat 1 [[(Qp9 p0)],[Qp8]])] [(Qwz p0),(.own 1 [[(.dat 2 (p1.map Qae))]])] [(Qwz p0),(.own 1 [[(.dat 2 (p1.map Qae))]])] (I x2) [0,1] Qnh (Qhx N p0.X p0.Y p0.Z p0.Kinds p0.X p0.Y p0.Z p0.Kinds p1 _ hf1) (Qdl (rnc (Qm9 ⟨(rnc (.plain _ (NLt.fn _ _ _ (nlc (NLt.agg _ (nlcc (nlcc nl0))) nl0) nl0)) rn0),(rnc (Qdw rn0 (rnc (Qcn rfl) (rnc (Qcn rfl) rn0))) rn0),tv⟩) rn0)) (slc (Qaw (rncc (rncc rn0))) (slc (Qaw (rnc (pld Qaj) rn0)) Qbb)) (slc (Qaw (rncc (rncc rn0))) (slc (Qaw (rnc (pld Qaj) rn0)) Qbb)) (.plain _ nll),tv⟩<|Qad ?_
  obtain rfl:=osi h
  exact fend ⟨[I x2],⟨rot,tv⟩,rfl⟩ nll
def Qdv (N:Nat) (p0 p1:Int) (p2 p3:Int) (p4:List Qaf):Option Int:=
  (Qct N (⟨p0,p1,p2,p3⟩:Qam) p4).bind fun x3=>
  some x3
abbrev Qsr (p0 p1:Int) (p2 p3:Int):Slot:=.own 4 [[(I p0),(I p1),(I p2),(I p3)]]
abbrev Qsq (p4:List Qaf):AV:=.dat 2 (p4.map Qae)
theorem Qgi (N:Nat) (p0 p1:Int) (p2 p3:Int) (p4:List Qaf) (r:Int) (h:Qdv N p0 p1 p2 p3 p4=some r):Spec prog 21 [(.ref 0 4 (0) 0),(.ref 1 1 (0) 0)] [(Qsr p0 p1 p2 p3),(.own 1 [[(Qsq p4)]])] (I r) [(Qsr p0 p1 p2 p3),(.own 1 [[(Qsq p4)]])]:=by
  refine sF func21 2 fun _ _ _ hq hd0=>?_
  unfold Qdv at h
  refine wxz ?_
  obtain⟨x3,hf2,h⟩:=bno h
  refine wx tbk [(2,rp _ _)] ⟨apw Qwg (Qgj N (⟨p0,p1,p2,p3⟩:Qam) p4 _ hf2),tv⟩ ?_
  refine wmr (mto (n:=6) (l':=[(2,I x3)]) (own':=[(Qsr p0 p1 p2 p3),(.own 1 [[(Qsq p4)]])]) [(2,I x3)] [0,1] [(Qsr p0 p1 p2 p3),(.own 1 [[(Qsq p4)]])] hq (pw pn) (qb (lcc (lcc ln)) (qb (lc (rnd Qaj) ln) qn)))<|Qad ?_
  obtain rfl:=osi h
  exact⟨_,Mor.rfl,fio [I x3] ⟨rot,tv⟩⟩
def Qdu (N:Nat) (p0 p1:Int) (p2 p3:Int) (p4:ByteArray) (p5:Int) (p6 p7:List Int) (p8 p9:Int):Option Int:=
  (Qbu N (⟨p0,p1,p2,p3⟩:Qam) (⟨p4,p5,p6,p7,(⟨p8,p9⟩:Qaa)⟩:Qab)).bind fun x3=>
  some x3
abbrev Qsn (p0 p1:Int) (p2 p3:Int):Slot:=.own 4 [[(I p0),(I p1),(I p2),(I p3)]]
abbrev Qsm (p4:ByteArray) (p5:Int) (p6 p7:List Int) (p8 p9:Int):Slot:=.own 6 [[(Sx p4),(I p5),(.dat 1 (p6.map Qan)),(.dat 1 (p7.map Qan)),(I p8),(I p9)]]
theorem Qgh (N:Nat) (p0 p1:Int) (p2 p3:Int) (p4:ByteArray) (p5:Int) (p6 p7:List Int) (p8 p9 r:Int) (h:Qdu N p0 p1 p2 p3 p4 p5 p6 p7 p8 p9=some r):Spec prog 23 [(.ref 0 4 (0) 0),(.ref 1 6 (0) 0)] [(Qsn p0 p1 p2 p3),(Qsm p4 p5 p6 p7 p8 p9)] (I r) [(Qsn p0 p1 p2 p3),(Qsm p4 p5 p6 p7 p8 p9)]:=by
  refine sF func23 2 fun _ _ _ hq hd0=>?_
  unfold Qdu at h
  refine wxz ?_
  obtain⟨x3,hf2,h⟩:=bno h
  refine wx tbk [(2,rp _ _)] ⟨apw Qrz (Qeg N (⟨p0,p1,p2,p3⟩:Qam) (⟨p4,p5,p6,p7,(⟨p8,p9⟩:Qaa)⟩:Qab) _ hf2),tv⟩ ?_
  refine wmr (mto (n:=6) (l':=[(2,I x3)]) (own':=[(Qsn p0 p1 p2 p3),(Qsm p4 p5 p6 p7 p8 p9)]) [(2,I x3)] [0,1] [(Qsn p0 p1 p2 p3),(Qsm p4 p5 p6 p7 p8 p9)] hq (pw pn) (qb (lcc (lcc ln)) (qb (lcc (lc (rnd Qak) (lc (rnd Qak) (lcc ln)))) qn)))<|Qad ?_
  obtain rfl:=osi h
  exact⟨_,Mor.rfl,fio [I x3] ⟨rot,tv⟩⟩
def Qeq (N:Nat) (p0 p1:Int) (p2 p3:Int) (p4:List Qaf) (p5:ByteArray) (p6:Int) (p7 p8:List Int) (p9 p10:Int):Option Int:=
  Qdc (fun _=>
    some 0) fun k2:Unit→Option Int=>
  (Qdv N p0 p1 p2 p3 p4).bind fun x4=>
  bif (x4 != 0) then
   some x4
  else
   (Qdu N p0 p1 p2 p3 p5 p6 p7 p8 p9 p10).bind fun x7=>
   bif (x7 != 0) then
    some x7
   else
    k2 ()
abbrev Qqb:AV:=.fn (.func 21) [] [(.ref 0 4 (0) 0),(.ref 1 1 (0) 0)]
abbrev Qqa:AV:=.fn (.func 23) [] [(.ref 0 4 (0) 0),(.ref 2 6 (0) 0)]
abbrev Qhd (p0 p1:Int) (p2 p3:Int):Slot:=.own 4 [[(I p0),(I p1),(I p2),(I p3)]]
abbrev Qie (p4:List Qaf):AV:=.dat 2 (p4.map Qae)
abbrev Qid (p5:ByteArray) (p6:Int) (p7 p8:List Int) (p9 p10:Int):Slot:=.own 6 [[(Sx p5),(I p6),(.dat 1 (p7.map Qan)),(.dat 1 (p8.map Qan)),(I p9),(I p10)]]
theorem Qhy (N:Nat) (p0 p1:Int) (p2 p3:Int) (p4:List Qaf) (p5:ByteArray) (p6:Int) (p7 p8:List Int) (p9 p10 r:Int) (h:Qeq N p0 p1 p2 p3 p4 p5 p6 p7 p8 p9 p10=some r):Spec prog 20 [(.dat 1 [[Qqb],[Qqa]])] [(Qhd p0 p1 p2 p3),(.own 1 [[(Qie p4)]]),(Qid p5 p6 p7 p8 p9 p10)] (I r) [(Qhd p0 p1 p2 p3),(.own 1 [[(Qie p4)]]),(Qid p5 p6 p7 p8 p9 p10)]:=by
  refine sF func20 3 fun _ _ _ hq hd0=>?_
  unfold Qeq at h
  refine wxz ?_
  obtain⟨k2,hk_k2,h⟩:=jko h
  refine wjn (τ:=Unit) (fun t=>k2 t=some r) (fun _=>⟨mk 18 [],[(Qhd p0 p1 p2 p3),(.own 1 [[(Qie p4)]]),(Qid p5 p6 p7 p8 p9 p10)]⟩) (fun t h=>?_) ?_
  ·subst hk_k2
   refine wxz<|wmr (mto (n:=18) (l':=[(2,I 0)]) (own':=[(Qhd p0 p1 p2 p3),(.own 1 [[(Qie p4)]]),(Qid p5 p6 p7 p8 p9 p10)]) [(2,I 0)] [0,1,2] [(Qhd p0 p1 p2 p3),(.own 1 [[(Qie p4)]]),(Qid p5 p6 p7 p8 p9 p10)] hq (pw pn) (qb (lcc (lcc ln)) (qb (lc (rnd Qaj) ln) (qb (lcc (lc (rnd Qak) (lc (rnd Qak) (lcc ln)))) qn))))<|Qad ?_
   obtain rfl:=osi h
   exact⟨_,Mor.rfl,fio [I 0] ⟨rot,tv⟩⟩
  ·skip
   refine wx tbk [(1,rp [(.tmp 6,.dat 1 [[Qqb],[Qqa]])] (I 2))] ⟨aln rfl underlying88 rfl,tv⟩<|Qal<|Qik 17<|Qgm<|wxz<|wsq<|wtr<|Qai<|thn<|wsq ?_
   refine Qal<|wx tbk [(0,rp [(.tmp 6,.dat 1 [[Qqb],[Qqa]]),(.tmp 8,I 0)] (.dptr [Qqb] 0))] ⟨aid rfl underlying88 ti75 rfl rfl (by decide) rfl rfl,tv⟩ ?_
   obtain⟨x4,hf3,h⟩:=bno h
   refine wx tbk [(1,⟨_,_,_,_,false⟩)] ⟨Qc7 (first:=[]) (cap:=[.ref 0 4 0 0,.ref 1 1 0 0]) (vs:=[]) (σr:=[(Qhd p0 p1 p2 p3),(.own 1 [[(Qie p4)]])]) (σr':=[(Qhd p0 p1 p2 p3),(.own 1 [[(Qie p4)]])]) (res':=(I x4)) [0,1] rfl Qwh (Qgi N p0 p1 p2 p3 p4 _ hf3) rfl (Qdl (rnc (Qcn rfl) (rnc (Qcn rfl) rn0))) (slc (Qaw (rncc (rncc rn0))) (slc (Qaw (rnc (pld Qaj) rn0)) Qbb)) (slc (Qaw (rncc (rncc rn0))) (slc (Qaw (rnc (pld Qaj) rn0)) Qbb)) (.plain _ nll) rfl rfl rfl,tv⟩<|wxz ?_
   refine bfe h (fun hc5 h=>?_) fun hc5 h=>?_
   ·refine wft hc5<|wxz ?_
    refine wmr (mto (n:=18) (l':=[(2,I x4)]) (own':=[(Qhd p0 p1 p2 p3),(.own 1 [[(Qie p4)]]),(Qid p5 p6 p7 p8 p9 p10)]) [(2,I x4)] [0,1,2] [(Qhd p0 p1 p2 p3),(.own 1 [[(Qie p4)]]),(Qid p5 p6 p7 p8 p9 p10)] hq (pw pn) (qb (lcc (lcc ln)) (qb (lc (rnd Qaj) ln) (qb (lcc (lc (rnd Qak) (lc (rnd Qak) (lcc ln)))) qn))))<|Qad<|Qag<|Qac<|Qac<|Qag<|Qac ?_
    obtain rfl:=osi h
    exact⟨_,Mor.rfl,fio [I x4] ⟨rot,tv⟩⟩
   ·refine wfn hc5<|Qai<|bln<|thn<|wxz1<|thn<|Qgm<|wxz<|wsq<|wtr ?_
    refine Qai<|thn<|wsq<|Qal ?_
    refine wx tbk [(0,rp [(.tmp 6,.dat 1 [[Qqb],[Qqa]]),(.tmp 8,I 1)] (.dptr [Qqa] 0))] ⟨aid rfl underlying88 ti75 rfl rfl (by decide) rfl rfl,tv⟩ ?_
    obtain⟨x7,hf6,h⟩:=bno h
    refine wx tbk [(1,⟨_,_,_,_,false⟩)] ⟨Qc7 (first:=[]) (cap:=[.ref 0 4 0 0,.ref 2 6 0 0]) (vs:=[]) (σr:=[(Qhd p0 p1 p2 p3),(Qid p5 p6 p7 p8 p9 p10)]) (σr':=[(Qhd p0 p1 p2 p3),(Qid p5 p6 p7 p8 p9 p10)]) (res':=(I x7)) [0,2] rfl Qwf (Qgh N p0 p1 p2 p3 p5 p6 p7 p8 p9 p10 _ hf6) rfl (Qdl (rnc (Qcn rfl) (rnc (Qcn rfl) rn0))) (slc (Qaw (rncc (rncc rn0))) (slc (Qaw (rncc (rnc (pld Qak) (rnc (pld Qak) (rncc rn0))))) Qbb)) (slc (Qaw (rncc (rncc rn0))) (slc (Qaw (rncc (rnc (pld Qak) (rnc (pld Qak) (rncc rn0))))) Qbb)) (.plain _ nll) rfl rfl rfl,tv⟩<|wxz ?_
    refine bfe h (fun hc8 h=>?_) fun hc8 h=>?_
    ·refine wft hc8<|wxz ?_
     refine wmr (mto (n:=18) (l':=[(2,I x7)]) (own':=[(Qhd p0 p1 p2 p3),(.own 1 [[(Qie p4)]]),(Qid p5 p6 p7 p8 p9 p10)]) [(2,I x7)] [0,1,2] [(Qhd p0 p1 p2 p3),(.own 1 [[(Qie p4)]]),(Qid p5 p6 p7 p8 p9 p10)] hq (pw pn) (qb (lcc (lcc ln)) (qb (lc (rnd Qaj) ln) (qb (lcc (lc (rnd Qak) (lc (rnd Qak) (lcc ln)))) qn))))<|Qad<|Qag<|Qac<|Qac<|Qag<|Qac ?_
     obtain rfl:=osi h
     exact⟨_,Mor.rfl,fio [I x7] ⟨rot,tv⟩⟩
    ·refine wfn hc8<|Qai<|bln<|thn<|wxz1<|thn<|Qgm<|wxz<|wsq<|wfa ?_
     exact Qcp<|Qbf<|Qbf<|Qco rfl<|thn<|⟨(),h,(mto (n:=18) [] [0,1,2] [(Qhd p0 p1 p2 p3),(.own 1 [[(Qie p4)]]),(Qid p5 p6 p7 p8 p9 p10)] hq pn (qb (lcc (lcc ln)) (qb (lc (rnd Qaj) ln) (qb (lcc (lc (rnd Qak) (lc (rnd Qak) (lcc ln)))) qn))))⟩
def Qa0 (N:Nat) (p0:List Qaf) (p1 p2:Int) (p3 p4 p5:Int) (p6 p7:List Int) (k11:Int×Int→Option Qaa):Nat→Int→Int→Int→Option Qaa
  |0,_,_,_=>none
  |n19+1,y13,y14,y15=>
    bif (decide (y13<((p0.drop (1:Int).toNat).length:Int))) then
     (getI (p0.drop (1:Int).toNat) y13).bind fun x21=>
     (Qbh N (⟨(⟨p1,p2,p3,p4⟩:Qam),p5,p6,p7⟩:Qey) x21).bind fun x26=>
     (Qbh N (⟨(⟨p1,p2,p3,p4⟩:Qam),p5,p6,p7⟩:Qey) x21).bind fun x28=>
     Qa0 N p0 p1 p2 p3 p4 p5 p6 p7 k11 n19 (w64 (y13+1)) (if x26<y14 then x26 else y14) (if x28>y15 then x28 else y15)
    else
     k11 (y14,y15)
def Qbr (N:Nat) (p0:List Qaf) (p1 p2:Int) (p3 p4 p5:Int) (p6 p7:List Int):Option Qaa:=
  (getI p0 0).bind fun x1=>
  (Qbh N (⟨(⟨p1,p2,p3,p4⟩:Qam),p5,p6,p7⟩:Qey) x1).bind fun x6=>
  (Qbh N (⟨(⟨p1,p2,p3,p4⟩:Qam),p5,p6,p7⟩:Qey) x1).bind fun x8=>
  Qdc (fun ⟨y9,y10⟩=>
    some (⟨y9,y10⟩:Qaa)) fun k11:Int×Int→Option Qaa=>
  chk (decide (0≤1)&&decide (1≤(p0.length:Int))&&decide ((p0.length:Int)≤(p0.length:Int)))<|
  Qa0 N p0 p1 p2 p3 p4 p5 p6 p7 k11 N 0 x6 x8
abbrev Qp6 (p1 p2:Int) (p3 p4 p5:Int) (p6 p7:List Int):AV:=.agg [(I p1),(I p2),(I p3),(I p4),(I p5),(.dat 1 (p6.map Qan)),(.dat 1 (p7.map Qan))]
abbrev Qkm (p1 p2:Int) (p3 p4 p5:Int) (p6 p7:List Int):AV:=.fn (.func 42) [(Qp6 p1 p2 p3 p4 p5 p6 p7)] []
def Qsl (x1:Qaf):AV:=.agg [(Sx x1.Name),(.dat 1 (x1.Values.map Qan))]
def Qoo:Slot:=.own 2 [[(I (0)),(I (0))]]
def Qp5 (p0:List Qaf):AV:=.dat 2 ((p0.drop (1:Int).toNat:List Qaf).map Qae)
def Qnz (x21:Qaf):AV:=.agg [(Sx x21.Name),(.dat 1 (x21.Values.map Qan))]
theorem Qe5 (N:Nat) (p0:List Qaf) (p1 p2:Int) (p3 p4 p5:Int) (p6 p7:List Int) (r:Qaa) (h:Qbr N p0 p1 p2 p3 p4 p5 p6 p7=some r):Spec prog 25 [(.dat 2 (p0.map Qae)),(Qkm p1 p2 p3 p4 p5 p6 p7)] [] (.agg [(I r.Lo),(I r.Hi)]) []:=by
  refine sA func25 0 fun _ _ _ hq hd0=>?_
  unfold Qbr at h
  refine wxz ?_
  obtain⟨x1,hg2,h⟩:=bno h
  obtain⟨hi3,hj4⟩:=gsm hg2
  obtain⟨x6,hf5,h⟩:=bno h
  obtain⟨x8,hf7,h⟩:=bno h
  refine wxd tbk [(2,rp _ _),(4,rp [(.tmp 8,(Qkm p1 p2 p3 p4 p5 p6 p7)),(.tmp 11,(Qsl x1))] (I x6)),(7,rp _ _),(9,rp [(.tmp 13,(Qkm p1 p2 p3 p4 p5 p6 p7)),(.tmp 16,(Qsl x1))] (I x8)),(10,rp _ _)] ⟨aiq underlying33 ti42 Qae hi3 hj4,apc (first:=[(Qp6 p1 p2 p3 p4 p5 p6 p7)]) (cap:=[]) (vs:=[(Qsl x1)]) rfl Qi7 (Qc6 N (⟨(⟨p1,p2,p3,p4⟩:Qam),p5,p6,p7⟩:Qey) x1 _ hf5) rfl rfl (nlc (NLt.agg _ (nlcc (nlcc (nlc nll (nlc (nld Qak _) (nlc (nld Qak _) nl0)))))) (nlc (NLt.agg _ (nlc nll (nlc (nld Qak _) nl0))) nl0)) nll rfl,aiq underlying33 ti42 Qae hi3 hj4,apc (first:=[(Qp6 p1 p2 p3 p4 p5 p6 p7)]) (cap:=[]) (vs:=[(Qsl x1)]) rfl Qi7 (Qc6 N (⟨(⟨p1,p2,p3,p4⟩:Qam),p5,p6,p7⟩:Qey) x1 _ hf7) rfl rfl (nlc (NLt.agg _ (nlcc (nlcc (nlc nll (nlc (nld Qak _) (nlc (nld Qak _) nl0)))))) (nlc (NLt.agg _ (nlc nll (nlc (nld Qak _) nl0))) nl0)) nll rfl,Qay (vs:=[I x6,I x8]) rfl ts50 tz50 rfl (by rfl) rfl,tv⟩ ?_
  obtain⟨k11,hk_k11,h⟩:=jko h
  refine wjn (τ:=Int×Int) (fun t=>k11 t=some r) (fun ⟨y9,y10⟩=>⟨mk 41 [(4,.ref 0 2 0 0),(5,.ref 1 2 0 0)],[Qoo,(.own 2 [[I y9,I y10]])]⟩) (fun t h=>?_) ?_
  ·subst hk_k11
   obtain⟨y9,y10⟩:=t
   refine wxz<|Qad ?_
   obtain rfl:=osi h
   exact fie [(.agg [I y9,I y10])] ⟨Qcz (n:=0) (m:=2) (j:=0) (i:=0) (xs:=[[I y9,I y10]]) (by kernel_rfl) (by kernel_rfl) ti50 (by decide) rfl (nle rfl) rfl,tv⟩
  ·skip
   obtain⟨hs12,h⟩:=cko h
   refine wx tbk [(1,rp [(.tmp 19,(.dat 2 (p0.map Qae))),ci 1] (Qp5 p0)),(2,rp _ _)] ⟨Qh6 (k:=.i64) (k':=.i64) (lo:=some (.const (.int .i64 1))) (hi:=none) (l:=1) (hh:=((p0.length:Nat):Int)) rfl underlying33 ti42 rfl (fun e=>nomatch e) (fun _=>by simp) (Qwx hs12) (Qww hs12) (Qx7 Qae hs12) (Qxg Qae),alq 2 Qae (p0.drop (1:Int).toNat) underlying33,tv⟩<|Qal ?_
   refine wmr (mto (n:=41) (l':=[(1,(Qkm p1 p2 p3 p4 p5 p6 p7)),(4,.ref 0 2 0 0),(5,.ref 1 2 0 0),(20,(Qp5 p0)),(21,(I (((p0.drop (1:Int).toNat).length:Int)))),(22,I 0)]) (own':=[Qoo,(.own 2 [[I x6,I x8]])]) [(1,(Qkm p1 p2 p3 p4 p5 p6 p7)),(4,.ref 0 2 0 0),(5,.ref 1 2 0 0),(20,(Qp5 p0)),(21,(I (((p0.drop (1:Int).toNat).length:Int)))),(22,I 0)] [0,1] [Qoo,(.own 2 [[I x6,I x8]])] hq (pc (.rn (Qdw (rnc (.plain _ (NLt.agg _ (nlcc (nlcc (nlc nll (nlc (nld Qak _) (nlc (nld Qak _) nl0))))))) rn0) rn0)) (prr (prr (pc (rnd Qaj) (pw (pw pn)))))) (qb (lcc ln) (qb (lcc ln) qn))) ?_
   refine Qdk (τ:=Int×Int×Int) (fun n t=>Qa0 N p0 p1 p2 p3 p4 p5 p6 p7 k11 n t.1 t.2.1 t.2.2=some r) (fun ⟨y13,y14,y15⟩=>⟨mk 41 [(1,(Qkm p1 p2 p3 p4 p5 p6 p7)),(4,.ref 0 2 0 0),(5,.ref 1 2 0 0),(20,(Qp5 p0)),(21,(I (((p0.drop (1:Int).toNat).length:Int)))),(22,I y13)],[Qoo,(.own 2 [[I y14,I y15]])]⟩) (fun t h=>by rw[Qa0] at h;cases h) (fun n19 ih t h=>?_) N (0,x6,x8) h
   obtain⟨y13,y14,y15⟩:=t
   rw[Qa0] at h
   skip
   refine wxz<|wsq ?_
   refine bfe h (fun hc20 h=>?_) fun hc20 h=>?_
   ·refine wft hc20<|Qai<|thn<|wsq<|Qal ?_
    obtain⟨x21,hg22,h⟩:=bno h
    obtain⟨hi23,hj24⟩:=gsm hg22
    refine wx tbk [(0,rp _ _)] ⟨aiq underlying33 ti42 Qae hi23 hj24,tv⟩ ?_
    obtain⟨x26,hf25,h⟩:=bno h
    obtain⟨x28,hf27,h⟩:=bno h
    refine wy1 tbk [(4,rp [(.tmp 28,(Qkm p1 p2 p3 p4 p5 p6 p7)),(.tmp 29,(Qnz x21))] (I x26)),(5,rp [(.tmp 27,I y14),(.tmp 30,I x26)] (I ((if x26<y14 then x26 else y14)))),(10,rp [(.tmp 34,(Qkm p1 p2 p3 p4 p5 p6 p7)),(.tmp 35,(Qnz x21))] (I x28)),(11,rp [(.tmp 33,I y15),(.tmp 36,I x28)] (I ((if x28>y15 then x28 else y15)))),(12,rp _ _)] ⟨apc (first:=[(Qp6 p1 p2 p3 p4 p5 p6 p7)]) (cap:=[]) (vs:=[(Qnz x21)]) rfl Qi7 (Qc6 N (⟨(⟨p1,p2,p3,p4⟩:Qam),p5,p6,p7⟩:Qey) x21 _ hf25) rfl rfl (nlc (NLt.agg _ (nlcc (nlcc (nlc nll (nlc (nld Qak _) (nlc (nld Qak _) nl0)))))) (nlc (NLt.agg _ (nlc nll (nlc (nld Qak _) nl0))) nl0)) nll rfl,Qji rfl,apc (first:=[(Qp6 p1 p2 p3 p4 p5 p6 p7)]) (cap:=[]) (vs:=[(Qnz x21)]) rfl Qi7 (Qc6 N (⟨(⟨p1,p2,p3,p4⟩:Qam),p5,p6,p7⟩:Qey) x21 _ hf27) rfl rfl (nlc (NLt.agg _ (nlcc (nlcc (nlc nll (nlc (nld Qak _) (nlc (nld Qak _) nl0)))))) (nlc (NLt.agg _ (nlc nll (nlc (nld Qak _) nl0))) nl0)) nll rfl,Qjj rfl,Qay (vs:=[(I ((if x26<y14 then x26 else y14))),(I ((if x28>y15 then x28 else y15)))]) rfl ts50 tz50 rfl (by rfl) rfl,tv⟩<|bln<|thn<|wxz1<|thn ?_
    exact arm (mto (n:=41) [(1,(Qkm p1 p2 p3 p4 p5 p6 p7)),(4,.ref 0 2 0 0),(5,.ref 1 2 0 0),(20,(Qp5 p0)),(21,(I (((p0.drop (1:Int).toNat).length:Int)))),(22,(I (w64 (y13+1))))] [0,1] [Qoo,(.own 2 [[(I ((if x26<y14 then x26 else y14))),(I ((if x28>y15 then x28 else y15)))]])] hq (pc (.rn (Qdw (rnc (.plain _ (NLt.agg _ (nlcc (nlcc (nlc nll (nlc (nld Qak _) (nlc (nld Qak _) nl0))))))) rn0) rn0)) (prr (prr (pc (rnd Qaj) (pw (pw pn)))))) (qb (lcc ln) (qb (lcc ln) qn))) (ih (w64 (y13+1),(if x26<y14 then x26 else y14),(if x28>y15 then x28 else y15)) h)
   ·exact wfn hc20<|Qcp<|Qbf<|Qbf<|Qco rfl<|thn<|⟨(y14,y15),h,(mto (n:=41) [(4,.ref 0 2 0 0),(5,.ref 1 2 0 0)] [0,1] [Qoo,(.own 2 [[I y14,I y15]])] hq (prr (prr pn)) (qb (lcc ln) (qb (lcc ln) qn)))⟩
def Qdp (N:Nat) (p0:Qam) (p1:List Qaf) (p2:Qab):Option (Qaa×Int):=
  (Qeq N p0.X p0.Y p0.Z p0.Kinds p1 p2.Name p2.Kind p2.Blocks p2.Weights p2.In.Lo p2.In.Hi).bind fun x2=>
  bif (x2 != 0) then
   some ((⟨0,0⟩:Qaa),x2)
  else
   (Qcc N p0 (⟨p2.Name,p2.Kind,p2.Blocks,p2.Weights,(⟨p2.In.Lo,p2.In.Hi⟩:Qaa)⟩:Qab)).bind fun _=>
   (Qbr N p1 p0.X p0.Y p0.Z p0.Kinds ((⟨p2.Name,p2.Kind,p2.Blocks,p2.Weights,(⟨p2.In.Lo,p2.In.Hi⟩:Qaa)⟩:Qab).Kind) ((⟨p2.Name,p2.Kind,p2.Blocks,p2.Weights,(⟨p2.In.Lo,p2.In.Hi⟩:Qaa)⟩:Qab).Blocks) ((⟨p2.Name,p2.Kind,p2.Blocks,p2.Weights,(⟨p2.In.Lo,p2.In.Hi⟩:Qaa)⟩:Qab).Weights)).bind fun x7=>
   some (x7,0)
def Qqd:AV:=.fn (.func 21) [] [(.ref 0 4 (0) 0),(.ref 1 1 (0) 0)]
def Qqc:AV:=.fn (.func 23) [] [(.ref 0 4 (0) 0),(.ref 2 6 (0) 0)]
def Qw2 (p0:Qam):Slot:=.own 4 [[(I p0.X),(I p0.Y),(I p0.Z),(I p0.Kinds)]]
def Quk (p1:List Qaf):AV:=.dat 2 (p1.map Qae)
def Qw0 (p2:Qab):Slot:=.own 6 [[(Sx p2.Name),(I p2.Kind),(.dat 1 (p2.Blocks.map Qan)),(.dat 1 (p2.Weights.map Qan)),(I p2.In.Lo),(I p2.In.Hi)]]
def Qyc (p0:Qam):AV:=.agg [(I p0.X),(I p0.Y),(I p0.Z),(I p0.Kinds)]
def Qt1 (p2:Qab):AV:=.dat 1 (((⟨p2.Name,p2.Kind,p2.Blocks,p2.Weights,(⟨p2.In.Lo,p2.In.Hi⟩:Qaa)⟩:Qab).Blocks:List Int).map Qan)
def Qt0 (p2:Qab):AV:=.dat 1 (((⟨p2.Name,p2.Kind,p2.Blocks,p2.Weights,(⟨p2.In.Lo,p2.In.Hi⟩:Qaa)⟩:Qab).Weights:List Int).map Qan)
def Qw1 (p0:Qam) (p2:Qab):AV:=.agg [(I p0.X),(I p0.Y),(I p0.Z),(I p0.Kinds),(I ((⟨p2.Name,p2.Kind,p2.Blocks,p2.Weights,(⟨p2.In.Lo,p2.In.Hi⟩:Qaa)⟩:Qab).Kind)),(Qt1 p2),(Qt0 p2)]
def Qtz (x7:Qaa):AV:=.agg [(I x7.Lo),(I x7.Hi)]
theorem Qh1 (N:Nat) (p0:Qam) (p1:List Qaf) (p2:Qab) (r:(Qaa×Int)) (h:Qdp N p0 p1 p2=some r):Spec prog 10 [(.agg (Qc9 p0)),(.dat 2 (p1.map Qae)),(.agg (Qaq p2))] [] (.tup [(.agg (Qar r.1)),(I r.2)]) []:=by
  refine sA func10 0 fun _ _ _ hq hd0=>?_
  unfold Qdp at h
  refine wxz<|wsq ?_
  obtain⟨x2,hf1,h⟩:=bno h
  refine wx tbk [(0,rp [(.tmp 3,.ref 0 4 0 0),(.tmp 4,.ref 1 1 0 0)] Qqd),(1,rp [(.tmp 3,.ref 0 4 0 0),(.tmp 5,.ref 2 6 0 0)] Qqc),(2,rp [(.tmp 9,Qqd),(.tmp 10,Qqc)] (.dat 1 [[Qqd],[Qqc]])),(3,⟨_,_,_,_,false⟩)] ⟨Qcu (fs:=[]) (cs:=[.ref 0 4 0 0,.ref 1 1 0 0]) rfl rfl rfl rfl,Qcu (fs:=[]) (cs:=[.ref 0 4 0 0,.ref 2 6 0 0]) rfl rfl rfl rfl,Qbn (vs:=[Qqd,Qqc]) rfl underlying88 ti75 tz75 rfl (by decide) rfl (by decide) (by rfl) (by rfl) (by rfl) rfl,acq [(.dat 1 [[Qqd],[Qqc]])] [(Qw2 p0),(.own 1 [[(Quk p1)]]),(Qw0 p2)] [(Qw2 p0),(.own 1 [[(Quk p1)]]),(Qw0 p2)] (I x2) [0,1,2] Qnh (Qhy N p0.X p0.Y p0.Z p0.Kinds p1 p2.Name p2.Kind p2.Blocks p2.Weights p2.In.Lo p2.In.Hi _ hf1) (Qdl (rnc (Qm9 ⟨(rnc (Qdw rn0 (rnc (Qcn rfl) (rnc (Qcn rfl) rn0))) rn0),(rnc (Qdw rn0 (rnc (Qcn rfl) (rnc (Qcn rfl) rn0))) rn0),tv⟩) rn0)) (slc (Qaw (rncc (rncc rn0))) (slc (Qaw (rnc (pld Qaj) rn0)) (slc (Qaw (rncc (rnc (pld Qak) (rnc (pld Qak) (rncc rn0))))) Qbb))) (slc (Qaw (rncc (rncc rn0))) (slc (Qaw (rnc (pld Qaj) rn0)) (slc (Qaw (rncc (rnc (pld Qak) (rnc (pld Qak) (rncc rn0))))) Qbb))) (.plain _ nll),tv⟩<|wxz ?_
  refine bfe h (fun hc3 h=>?_) fun hc3 h=>?_
  ·refine wft hc3<|wx tbk [(0,rp _ _)] ⟨Qay (vs:=[]) rfl ts50 tz50 rfl (by rfl) rfl,tv⟩<|Qad<|Qac ?_
   obtain rfl:=osi h
   exact fie [(.agg [I 0,I 0]),I x2] ⟨Qcz (n:=3) (m:=2) (j:=0) (i:=0) (xs:=[[I 0,I 0]]) (by kernel_rfl) (by kernel_rfl) ti50 (by decide) rfl (nle rfl) rfl,rot,tv⟩
  ·refine wfn hc3<|Qai<|thn ?_
   obtain⟨x5,hf4,h⟩:=bno h
   obtain⟨x7,hf6,h⟩:=bno h
   refine wxd tbk [(3,rp _ _),(4,rp _ _)] ⟨acq [(Qyc p0),(.agg [(Sx ((⟨p2.Name,p2.Kind,p2.Blocks,p2.Weights,(⟨p2.In.Lo,p2.In.Hi⟩:Qaa)⟩:Qab).Name)),(I ((⟨p2.Name,p2.Kind,p2.Blocks,p2.Weights,(⟨p2.In.Lo,p2.In.Hi⟩:Qaa)⟩:Qab).Kind)),(Qt1 p2),(Qt0 p2),(I ((⟨p2.Name,p2.Kind,p2.Blocks,p2.Weights,(⟨p2.In.Lo,p2.In.Hi⟩:Qaa)⟩:Qab).In.Lo)),(I ((⟨p2.Name,p2.Kind,p2.Blocks,p2.Weights,(⟨p2.In.Lo,p2.In.Hi⟩:Qaa)⟩:Qab).In.Hi))])] [] [] (.fn (.func 42) [(Qw1 p0 p2)] []) [] Qry (Qd9 N p0 (⟨p2.Name,p2.Kind,p2.Blocks,p2.Weights,(⟨p2.In.Lo,p2.In.Hi⟩:Qaa)⟩:Qab) _ hf4) (Qdl (rnc (.plain _ (NLt.agg _ (nlcc (nlcc nl0)))) (rnc (.plain _ (NLt.agg _ (nlcc (nlc (nld Qak _) (nlc (nld Qak _) (nlcc nl0)))))) rn0))) Qbb Qbb (.plain _ (NLt.fn _ _ _ (nlc (NLt.agg _ (nlcc (nlcc (nlc nll (nlc (nld Qak _) (nlc (nld Qak _) nl0)))))) nl0) nl0)),acq [(Quk p1),(.fn (.func 42) [(.agg [I p0.X,I p0.Y,I p0.Z,I p0.Kinds,(I (((⟨p2.Name,p2.Kind,p2.Blocks,p2.Weights,(⟨p2.In.Lo,p2.In.Hi⟩:Qaa)⟩:Qab).Kind))),(.dat 1 ((((⟨p2.Name,p2.Kind,p2.Blocks,p2.Weights,(⟨p2.In.Lo,p2.In.Hi⟩:Qaa)⟩:Qab).Blocks):List Int).map Qan)),(.dat 1 ((((⟨p2.Name,p2.Kind,p2.Blocks,p2.Weights,(⟨p2.In.Lo,p2.In.Hi⟩:Qaa)⟩:Qab).Weights):List Int).map Qan))])] [])] [] [] (Qtz x7) [] Qwe (Qe5 N p1 p0.X p0.Y p0.Z p0.Kinds ((⟨p2.Name,p2.Kind,p2.Blocks,p2.Weights,(⟨p2.In.Lo,p2.In.Hi⟩:Qaa)⟩:Qab).Kind) ((⟨p2.Name,p2.Kind,p2.Blocks,p2.Weights,(⟨p2.In.Lo,p2.In.Hi⟩:Qaa)⟩:Qab).Blocks) ((⟨p2.Name,p2.Kind,p2.Blocks,p2.Weights,(⟨p2.In.Lo,p2.In.Hi⟩:Qaa)⟩:Qab).Weights) _ hf6) (Qdl (rnc (pld Qaj) (rnc (.plain _ (NLt.fn _ _ _ (nlc (NLt.agg _ (nlcc (nlcc (nlc nll (nlc (nld Qak _) (nlc (nld Qak _) nl0)))))) nl0) nl0)) rn0))) Qbb Qbb (.plain _ (NLt.agg _ (nlcc nl0))),tv⟩<|Qad ?_
   obtain rfl:=osi h
   exact fie [(Qtz x7),I 0] ⟨Qcz (n:=3) (m:=2) (j:=0) (i:=0) (xs:=[[I x7.Lo,I x7.Hi]]) (by kernel_rfl) (by kernel_rfl) ti50 (by decide) rfl (nle rfl) rfl,rot,tv⟩
end
section
def Qd3 (_N:Nat) (p0 p1 p2:Int):Option Bool:=
  bif (decide (p0≥p1)) then
   some (decide (p0≤p2))
  else
   some false
theorem Qd8 (N:Nat) (p0 p1 p2:Int) (r:Bool) (h:Qd3 N p0 p1 p2=some r):Spec prog 5 [(I p0),(I p1),(I p2)] [] (B r) []:=by
  refine sA func5 0 fun _ _ _ hq hd0=>?_
  unfold Qd3 at h
  refine wxz ?_
  refine bfe h (fun hb1 h=>?_) fun hb1 h=>?_
  ·refine wx tbk [(3,rp [(.tmp 9,(B ((decide (p0≥p1)))))] (B true))] ⟨asb hb1 (amv rfl),tv⟩<|Qad ?_
   obtain rfl:=osi h
   exact fend ⟨[(B ((decide (p0≤p2))))],⟨rot,tv⟩,rfl⟩ nll
  ·exact wx tbk [(3,rp [(.tmp 9,(B ((decide (p0≥p1)))))] (B false))] ⟨asb hb1 (amv rfl),tv⟩<|Qad<|frb h
def Qd7 (N:Nat) (p0:Qaa) (p1 p2:Int):Option Bool:=
  (Qd3 N p0.Lo p1 p2).bind fun x2=>
  bif x2 then
   (Qd3 N p0.Hi p1 p2).bind fun x5=>
   bif x5 then
    some (decide (p0.Lo≤p0.Hi))
   else
    some false
  else
   some false
def Qug (p0:Qaa) (p1 p2:Int) (x2:Bool):List (Nat×Rec):=[(4,rp [fu 5,((.tmp 8),(I p0.Lo)),((.tmp 9),(I p1)),((.tmp 10),(I p2))] (B x2))]
def Quf p0 p1 p2 x2 (x5:Bool):=hcat (Qug p0 p1 p2 x2) [(5,rp [((.tmp 11),(B x2))] (B true)),(10,rp [((.tmp 12),(B true)),fu 5,((.tmp 14),(I p0.Hi)),((.tmp 15),(I p1)),((.tmp 16),(I p2))] (B x5))]
theorem Qiy (N:Nat) (p0:Qaa) (p1 p2:Int) (r:Bool) (h:Qd7 N p0 p1 p2=some r):Spec prog 6 [(.agg (Qar p0)),(I p1),(I p2)] [] (B r) []:=by
  refine sA func6 0 fun _ _ _ hq hd0=>?_
  unfold Qd7 at h
  refine wxz ?_
  obtain⟨x2,hf1,h⟩:=bno h
  refine hpre (A:=(Qug p0 p1 p2 x2)) ⟨apv Qj2 (Qd8 N p0.Lo p1 p2 _ hf1) (nlcc (nlc nll nl0)) nll,tv⟩ fun q1_=>?_
  refine bfe h (fun hb3 h=>?_) fun hb3 h=>?_
  ·obtain⟨x5,hf4,h⟩:=bno h
   refine hpre (A:=(Quf p0 p1 p2 x2 x5)) (hap q1_ ⟨asb hb3 (amv rfl),ag_ (apv Qj2 (Qd8 N p0.Hi p1 p2 _ hf4) (nlcc (nlc nll nl0)) nll),tv⟩) fun q2_=>?_
   refine bfe h (fun hb6 h=>?_) fun hb6 h=>?_
   ·refine wx tbk (hcat (Quf p0 p1 p2 x2 x5) [(12,rp [(.tmp 18,B x5)] (B true))]) (hap q2_ ⟨asb hb6 (amv rfl),tv⟩)<|Qad ?_
    obtain rfl:=osi h
    exact fend ⟨[(B ((decide (p0.Lo≤p0.Hi))))],⟨rot,tv⟩,rfl⟩ nll
   ·exact wx tbk (hcat (Quf p0 p1 p2 x2 x5) [(12,rp [(.tmp 18,B x5)] (B false))]) (hap q2_ ⟨asb hb6 (amv rfl),tv⟩)<|Qad<|frb h
  ·exact wx tbk (hcat (Qug p0 p1 p2 x2) [(5,rp [(.tmp 11,B x2)] (B false))]) (hap q1_ ⟨asb hb3 (amv rfl),tv⟩)<|Qad<|frb h
def Qbs (N:Nat) (p2 p3:Int) (x11:((List Int)×(List Qb1)×Int)) (k16:Int×(List Qaf)×(List Qbd)→Option Bool):Nat→(List Qaf)→(List Qah)→Int→(List Qaf)→Int→(List Qbd)→Option Bool
  |0,_,_,_,_,_,_=>none
  |n43+1,y31,y32,y33,y34,y35,y36=>
    bif (decide (y35<(y32.length:Int))) then
     (getI y32 y35).bind fun x45=>
     (Qdz N (⟨(⟨0,100000⟩:Qaa),(⟨(w64 p2).tmod 9961,w64 (((w64 p2).tmod 9961)+39)⟩:Qaa),(⟨(w64 p3).tmod 961,w64 (((w64 p3).tmod 961)+39)⟩:Qaa),y36⟩:Qa4) x45).bind fun x50=>
     Qdc (fun ⟨y51,y52,y53,y54⟩=>
       bif x50 then
        (getI y51 y35).bind fun x57=>
        chk (decide ((y53.length+([x57]).length)*40≤140737488355328))<|
        Qbs N p2 p3 x11 k16 n43 y51 y52 (w64 (y33+1)) (y53++([x57])) (w64 (y35+1)) y54
       else
        Qbs N p2 p3 x11 k16 n43 y51 y52 y33 y53 (w64 (y35+1)) y54) fun k55:(List Qaf)×(List Qah)×(List Qaf)×(List Qbd)→Option Bool=>
     bif (decide (y33<(x11.1.length:Int))) then
      (getI x11.1 y33).bind fun x63=>
      bif (!(x50==(x63==y35))) then
       some false
      else
       k55 (y31,y32,y34,y36)
     else
      bif (!(x50==false)) then
       some false
      else
       k55 (y31,y32,y34,y36)
    else
     k16 (y33,y34,y36)
def Qb3 (N:Nat) (p1:List Qbd) (k9:(List Qaf)×(List Qah)×(List Qab)×(List Qbd)→Option Bool):Nat→(List Qaf)→(List Qah)→(List Qab)→Int→(List Qbd)→Option Bool
  |0,_,_,_,_,_=>none
  |n79+1,y69,y70,y71,y72,y73=>
    bif (decide (y72<(p1.length:Int))) then
     (getI p1 y72).bind fun x81=>
     Qdc (fun ⟨y85,y86,y87,y88⟩=>
       chk (decide ((y88.length+([(⟨x81.Flow,(⟨x81.In.Lo,x81.In.Hi⟩:Qaa)⟩:Qbd)]).length)*24≤140737488355328))<|
       chk (decide (ByteArray.size (⟨#[115]⟩)+ByteArray.size (strOfNums [IntKind.wrap .u8 (w64 (97+y72))])≤9223372036854775807))<|
       chk (decide ((y87.length+([(⟨ByteArray.append (⟨#[115]⟩) (strOfNums [IntKind.wrap .u8 (w64 (97+y72))]),0,[0,1,2],[1,x81.Flow,w64 (x81.Flow*x81.Flow)],(⟨x81.In.Lo,x81.In.Hi⟩:Qaa)⟩:Qab)]).length)*88≤140737488355328))<|
       Qb3 N p1 k9 n79 y85 y86 (y87++([(⟨ByteArray.append (⟨#[115]⟩) (strOfNums [IntKind.wrap .u8 (w64 (97+y72))]),0,[0,1,2],[1,x81.Flow,w64 (x81.Flow*x81.Flow)],(⟨x81.In.Lo,x81.In.Hi⟩:Qaa)⟩:Qab)])) (w64 (y72+1)) (y88++([(⟨x81.Flow,(⟨x81.In.Lo,x81.In.Hi⟩:Qaa)⟩:Qbd)]))) fun k89:(List Qaf)×(List Qah)×(List Qab)×(List Qbd)→Option Bool=>
     (Qd3 N x81.Flow 0 31).bind fun x94=>
     bif (!x94) then
      (Qcy 2000 ).bind fun x97=>
      some x97
     else
      (Qd7 N (⟨x81.In.Lo,x81.In.Hi⟩:Qaa) (-2000000000) 2000000000).bind fun x99=>
      bif (!x99) then
       (Qcy 2000 ).bind fun x102=>
       some x102
      else
       k89 (y69,y70,y71,y73)
    else
     k9 (y69,y70,y71,y73)
def Qb2 (N:Nat) (p0:List Qah) (p2 p3:Int) (k4:(List Qaf)×(List Qah)→Option Bool):Nat→(List Qaf)→(List Qah)→Int→Option Bool
  |0,_,_,_=>none
  |n109+1,y103,y104,y105=>
    bif (decide (y105<(p0.length:Int))) then
     Qdc (fun ⟨y111,y112⟩=>
       (getI p0 y105).bind fun x114=>
       chk (decide ((y112.length+([(⟨x114.A,w64 (((w64 p2).tmod 9961)+x114.B),w64 (((w64 p3).tmod 961)+x114.C)⟩:Qah)]).length)*24≤140737488355328))<|
       chk (decide (ByteArray.size (⟨#[109]⟩)+ByteArray.size (strOfNums [IntKind.wrap .u8 (w64 (97+y105))])≤9223372036854775807))<|
       chk (decide ((y111.length+([(⟨ByteArray.append (⟨#[109]⟩) (strOfNums [IntKind.wrap .u8 (w64 (97+y105))]),[x114.A,w64 (((w64 p2).tmod 9961)+x114.B),w64 (((w64 p3).tmod 961)+x114.C)]⟩:Qaf)]).length)*40≤140737488355328))<|
       Qb2 N p0 p2 p3 k4 n109 (y111++([(⟨ByteArray.append (⟨#[109]⟩) (strOfNums [IntKind.wrap .u8 (w64 (97+y105))]),[x114.A,w64 (((w64 p2).tmod 9961)+x114.B),w64 (((w64 p3).tmod 961)+x114.C)]⟩:Qaf)])) (y112++([(⟨x114.A,w64 (((w64 p2).tmod 9961)+x114.B),w64 (((w64 p3).tmod 961)+x114.C)⟩:Qah)])) (w64 (y105+1))) fun k113:(List Qaf)×(List Qah)→Option Bool=>
     (getI p0 y105).bind fun x121=>
     (Qd3 N x121.A 0 100000).bind fun x126=>
     bif (!x126) then
      (Qcy 2000 ).bind fun x129=>
      some x129
     else
      (Qd3 N x121.B 0 39).bind fun x131=>
      bif (!x131) then
       (Qcy 2000 ).bind fun x134=>
       some x134
      else
       (Qd3 N x121.C 0 39).bind fun x136=>
       bif (!x136) then
        (Qcy 2000 ).bind fun x139=>
        some x139
       else
        k113 (y103,y104)
    else
     k4 (y103,y104)
def Qem (N:Nat) (p0:List Qah) (p1:List Qbd) (p2 p3 p4:Int):Option Bool:=
  Qdc (fun _=>
    Qdc (fun ⟨y2,y3⟩=>
      Qdc (fun ⟨y5,y6,y7,y8⟩=>
        (Qdo N (⟨3,1,1,1⟩:Qam) y5 y7).bind fun x11=>
        bif (x11.2.2 != 0) then
         some false
        else
         Qdc (fun ⟨y13,y14,y15⟩=>
           bif (y13 != (x11.1.length:Int)) then
            some false
           else
            bif ((y14.length:Int)==0) then
             (Qcy 2000 ).bind fun x20=>
             some x20
            else
             (Qc0 N (⟨(⟨0,100000⟩:Qaa),(⟨(w64 p2).tmod 9961,w64 (((w64 p2).tmod 9961)+39)⟩:Qaa),(⟨(w64 p3).tmod 961,w64 (((w64 p3).tmod 961)+39)⟩:Qaa),y15⟩:Qa4) ((w64 p4).tmod 32)).bind fun x22=>
             (Qdp N (⟨3,1,1,1⟩:Qam) y14 (⟨⟨#[120]⟩,0,[0,1,2],[1,(w64 p4).tmod 32,w64 (((w64 p4).tmod 32)*((w64 p4).tmod 32))],(⟨0,0⟩:Qaa)⟩:Qab)).bind fun x24=>
             bif (x22.2==0) then
              bif (x24.2==0) then
               bif (decide (x22.1.Lo≤x24.1.Lo)) then
                bif (decide (x24.1.Hi≤x22.1.Hi)) then
                 (Qcy 2000 ).bind fun x30=>
                 some x30
                else
                 some false
               else
                some false
              else
               some false
             else
              some false) fun k16:Int×(List Qaf)×(List Qbd)→Option Bool=>
         Qbs N p2 p3 x11 k16 N y5 y6 0 ([]) 0 y8) fun k9:(List Qaf)×(List Qah)×(List Qab)×(List Qbd)→Option Bool=>
      Qb3 N p1 k9 N y2 y3 ([]) 0 ([])) fun k4:(List Qaf)×(List Qah)→Option Bool=>
    Qb2 N p0 p2 p3 k4 N ([]) ([]) 0) fun k1:Unit→Option Bool=>
  bif (decide ((p0.length:Int)<1)) then
   (Qcy 2000 ).bind fun x142=>
   some x142
  else
   bif (decide ((p0.length:Int)>20)) then
    (Qcy 2000 ).bind fun x145=>
    some x145
   else
    bif (decide ((p1.length:Int)>12)) then
     (Qcy 2000 ).bind fun x148=>
     some x148
    else
     k1 ()
def Qhq (p0:List Qah):AV:=.dat 3 (p0.map Qap)
def Qf8 (p1:List Qbd):AV:=.dat 3 (p1.map Qbc)
def Qyb:AV:=.agg [(I (0)),(I (100000))]
def Qya (p2:Int):AV:=.agg [(I ((w64 p2).tmod 9961)),(I (w64 (((w64 p2).tmod 9961)+39)))]
def Qx9 (p3:Int):AV:=.agg [(I ((w64 p3).tmod 961)),(I (w64 (((w64 p3).tmod 961)+39)))]
def Qsk:AV:=.agg [(I (3)),(I (1)),(I (1)),(I (1))]
def Qlf (p2 p3:Int):Slot:=.own 7 [[(I (0)),(I (100000)),(I ((w64 p2).tmod 9961)),(I (w64 (((w64 p2).tmod 9961)+39))),(I ((w64 p3).tmod 961)),(I (w64 (((w64 p3).tmod 961)+39))),nilS]]
def Qdd:Slot:=.own 4 [[(I (3)),(I (1)),(I (1)),(I (1))]]
def Qny (y5:List Qaf):AV:=.acc 2 42 2 (y5.map Qae)
def Qm3 (p2 p3:Int) (y8:List Qbd):Slot:=.own 7 [[(I (0)),(I (100000)),(I ((w64 p2).tmod 9961)),(I (w64 (((w64 p2).tmod 9961)+39))),(I ((w64 p3).tmod 961)),(I (w64 (((w64 p3).tmod 961)+39))),(.acc 5 49 3 (y8.map Qbc))]]
def Qez (x11:((List Int)×(List Qb1)×Int)):AV:=.dat 1 (x11.1.map Qan)
def Qui (p2 p3:Int) (y15:List Qbd):AV:=.agg [(I (0)),(I (100000)),(I ((w64 p2).tmod 9961)),(I (w64 (((w64 p2).tmod 9961)+39))),(I ((w64 p3).tmod 961)),(I (w64 (((w64 p3).tmod 961)+39))),(.dat 3 (y15.map Qbc))]
def Qjt:AV:=.dat 1 (([0,1,2]:List Int).map Qan)
def Qm2 (p4:Int):AV:=.dat 1 (([1,(w64 p4).tmod 32,w64 (((w64 p4).tmod 32)*((w64 p4).tmod 32))]:List Int).map Qan)
def Qp4 (p4:Int):AV:=.agg [(Sx (⟨#[120]⟩)),(I (0)),Qjt,(Qm2 p4),(I (0)),(I (0))]
def Qmw (x22:(Qaa×Int)):List (Nat×Rec):=[(2,rp [((.tmp 274),(B ((x22.2==0))))] (B true))]
def Qki x22 (x24:(Qaa×Int)):=hcat (Qmw x22) [(6,rp [((.tmp 278),(B ((x24.2==0))))] (B true))]
def Qil (y32:List Qah):AV:=.acc 3 38 3 (y32.map Qap)
def Qkk (y34:List Qaf):AV:=.acc 4 42 2 (y34.map Qae)
def Qkl (p2 p3:Int) (y36:List Qbd):Slot:=.own 7 [[(I (0)),(I (100000)),(I ((w64 p2).tmod 9961)),(I (w64 (((w64 p2).tmod 9961)+39))),(I ((w64 p3).tmod 961)),(I (w64 (((w64 p3).tmod 961)+39))),(.acc 5 49 3 (y36.map Qbc))]]
def Qp3 (x45:Qah):AV:=.agg [(I x45.A),(I x45.B),(I x45.C)]
def Quh (p2 p3:Int) (y36:List Qbd):AV:=.agg [(I (0)),(I (100000)),(I ((w64 p2).tmod 9961)),(I (w64 (((w64 p2).tmod 9961)+39))),(I ((w64 p3).tmod 961)),(I (w64 (((w64 p3).tmod 961)+39))),(.dat 3 (y36.map Qbc))]
def Qkj (y51:List Qaf):AV:=.acc 2 42 2 (y51.map Qae)
def Qm1 (p2 p3:Int) (y54:List Qbd):Slot:=.own 7 [[(I (0)),(I (100000)),(I ((w64 p2).tmod 9961)),(I (w64 (((w64 p2).tmod 9961)+39))),(I ((w64 p3).tmod 961)),(I (w64 (((w64 p3).tmod 961)+39))),(.acc 5 49 3 (y54.map Qbc))]]
def Qm0 (p2 p3:Int) (y73:List Qbd):Slot:=.own 7 [[(I (0)),(I (100000)),(I ((w64 p2).tmod 9961)),(I (w64 (((w64 p2).tmod 9961)+39))),(I ((w64 p3).tmod 961)),(I (w64 (((w64 p3).tmod 961)+39))),(.acc 5 49 3 (y73.map Qbc))]]
def Qmz (x81:Qbd):AV:=.agg [(I x81.In.Lo),(I x81.In.Hi)]
def Qp1 (x81:Qbd):AV:=.agg [(I x81.Flow),(I x81.In.Lo),(I x81.In.Hi)]
def Qp0 (x81:Qbd):AV:=.dat 3 (([(⟨x81.Flow,(⟨x81.In.Lo,x81.In.Hi⟩:Qaa)⟩:Qbd)]:List Qbd).map Qbc)
def Qpz (y88:List Qbd) (x81:Qbd):AV:=.acc 7 49 3 ((y88++([(⟨x81.Flow,(⟨x81.In.Lo,x81.In.Hi⟩:Qaa)⟩:Qbd)]):List Qbd).map Qbc)
def Qp2 (y72:Int):AV:=.dat 1 (([IntKind.wrap .u8 (w64 (97+y72))]:List Int).map c_u8)
def Qmy (x81:Qbd):AV:=.dat 1 (([1,x81.Flow,w64 (x81.Flow*x81.Flow)]:List Int).map Qan)
def Qpy (y72:Int) (x81:Qbd):AV:=.agg [(Sx (ByteArray.append (⟨#[115]⟩) (strOfNums [IntKind.wrap .u8 (w64 (97+y72))]))),(I (0)),Qjt,(Qmy x81),(I x81.In.Lo),(I x81.In.Hi)]
def Qpx (y72:Int) (x81:Qbd):AV:=.dat 6 (([(⟨ByteArray.append (⟨#[115]⟩) (strOfNums [IntKind.wrap .u8 (w64 (97+y72))]),0,[0,1,2],[1,x81.Flow,w64 (x81.Flow*x81.Flow)],(⟨x81.In.Lo,x81.In.Hi⟩:Qaa)⟩:Qab)]:List Qab).map Qaq)
def Qpw (y87:List Qab) (y72:Int) (x81:Qbd):AV:=.acc 8 52 6 ((y87++([(⟨ByteArray.append (⟨#[115]⟩) (strOfNums [IntKind.wrap .u8 (w64 (97+y72))]),0,[0,1,2],[1,x81.Flow,w64 (x81.Flow*x81.Flow)],(⟨x81.In.Lo,x81.In.Hi⟩:Qaa)⟩:Qab)]):List Qab).map Qaq)
def Qmv (x81:Qbd) (x94:Bool):List (Nat×Rec):=[(1,rp [fu 5,((.tmp 155),(I x81.Flow)),ci 0,ci 31] (B x94))]
def Qpu (x114:Qah) (p2 p3:Int):AV:=.agg [(I x114.A),(I (w64 (((w64 p2).tmod 9961)+x114.B))),(I (w64 (((w64 p3).tmod 961)+x114.C)))]
def Qpt (x114:Qah) (p2 p3:Int):AV:=.dat 3 (([(⟨x114.A,w64 (((w64 p2).tmod 9961)+x114.B),w64 (((w64 p3).tmod 961)+x114.C)⟩:Qah)]:List Qah).map Qap)
def Qps (y112:List Qah) (x114:Qah) (p2 p3:Int):AV:=.acc 5 38 3 ((y112++([(⟨x114.A,w64 (((w64 p2).tmod 9961)+x114.B),w64 (((w64 p3).tmod 961)+x114.C)⟩:Qah)]):List Qah).map Qap)
def Qpv (y105:Int):AV:=.dat 1 (([IntKind.wrap .u8 (w64 (97+y105))]:List Int).map c_u8)
def Qmx (x114:Qah) (p2 p3:Int):AV:=.dat 1 (([x114.A,w64 (((w64 p2).tmod 9961)+x114.B),w64 (((w64 p3).tmod 961)+x114.C)]:List Int).map Qan)
def Qpr (y105:Int) (x114:Qah) (p2 p3:Int):AV:=.agg [(Sx (ByteArray.append (⟨#[109]⟩) (strOfNums [IntKind.wrap .u8 (w64 (97+y105))]))),(Qmx x114 p2 p3)]
def Qpq (y105:Int) (x114:Qah) (p2 p3:Int):AV:=.dat 2 (([(⟨ByteArray.append (⟨#[109]⟩) (strOfNums [IntKind.wrap .u8 (w64 (97+y105))]),[x114.A,w64 (((w64 p2).tmod 9961)+x114.B),w64 (((w64 p3).tmod 961)+x114.C)]⟩:Qaf)]:List Qaf).map Qae)
def Qpp (y111:List Qaf) (y105:Int) (x114:Qah) (p2 p3:Int):AV:=.acc 6 42 2 ((y111++([(⟨ByteArray.append (⟨#[109]⟩) (strOfNums [IntKind.wrap .u8 (w64 (97+y105))]),[x114.A,w64 (((w64 p2).tmod 9961)+x114.B),w64 (((w64 p3).tmod 961)+x114.C)]⟩:Qaf)]):List Qaf).map Qae)
def Qmu (p0:List Qah) (y105:Int) (x121:Qah) (x126:Bool):List (Nat×Rec):=[(2,rp [((.tmp 72),(Qhq p0)),((.tmp 73),(I y105))] (.dptr (Qap x121) 0)),(5,rp [fu 5,((.tmp 76),(I x121.A)),ci 0,ci 100000] (B x126))]
def Qmt p0 y105 x121 x126 (x131:Bool):=hcat (Qmu p0 y105 x121 x126) [(7,rp [((.tmp 78),(B ((!x126))))] (B false)),(10,rp [((.tmp 79),(B false)),((.tmp 80),(Qhq p0)),((.tmp 81),(I y105))] (.dptr (Qap x121) 0)),(13,rp [((.tmp 79),(B false)),fu 5,((.tmp 84),(I x121.B)),ci 0,ci 39] (B x131))]
def Qms (p0:List Qah):List (Nat×Rec):=[(1,rp [((.tmp 35),(Qhq p0))] (I ((p0.length:Int))))]
def Qmr p0:=hcat (Qms p0) [(3,rp [((.tmp 37),(B ((decide ((p0.length:Int)<1)))))] (B false)),(5,rp [((.tmp 38),(B false)),((.tmp 39),(Qhq p0))] (I ((p0.length:Int))))]
theorem Qhs (N:Nat) (p0:List Qah) (p1:List Qbd) (p2 p3 p4:Int) (r:Bool) (h:Qem N p0 p1 p2 p3 p4=some r):Spec prog 3 [(.dat 3 (p0.map Qap)),(.dat 3 (p1.map Qbc)),(K .u16 p2),(K .u16 p3),(K .u8 p4)] [] (B r) []:=by
  refine sA func3 0 fun _ _ _ hq hd0=>?_
  unfold Qem at h
  refine wxz ?_
  obtain⟨k1,hk_k1,h⟩:=jko h
  refine wjn (τ:=Unit) (fun t=>k1 t=some r) (fun _=>⟨mk 296 [(0,(Qhq p0)),(1,(Qf8 p1)),(2,(K .u16 p2)),(3,(K .u16 p3)),(4,(K .u8 p4))],[]⟩) (fun t h=>?_) ?_
  ·subst hk_k1
   refine wx tbk [(1,rp [(.tmp 49,(K .u16 p2))] (I (w64 p2))),(2,rp [(.tmp 50,I (w64 p2)),ci 9961] (I ((w64 p2).tmod 9961))),(4,rp [(.tmp 52,(K .u16 p3))] (I (w64 p3))),(5,rp [(.tmp 53,I (w64 p3)),ci 961] (I ((w64 p3).tmod 961)))] ⟨acv rfl (by rw[underlying24];rfl) underlying3,Qje rfl (by decide),acv rfl (by rw[underlying24];rfl) underlying3,Qje rfl (by decide),tv⟩ ?_
   refine wx tbk [(0,rp _ _),(4,rp _ _),(8,rp _ _),(9,rp _ _)] ⟨Qay (vs:=[I 100000]) rfl ts27 tz27 rfl (by rfl) rfl,Qay (vs:=[(I ((w64 p2).tmod 9961)),(I (w64 (((w64 p2).tmod 9961)+39)))]) rfl ts27 tz27 rfl (by rfl) rfl,Qay (vs:=[(I ((w64 p3).tmod 961)),(I (w64 (((w64 p3).tmod 961)+39)))]) rfl ts27 tz27 rfl (by rfl) rfl,Qay (vs:=[Qyb,(Qya p2),(Qx9 p3)]) rfl ts30 tz30 rfl (by rfl) rfl,tv⟩ ?_
   refine wx tbk [(0,rp _ _)] ⟨Qay (vs:=[I 3,I 1,I 1,I 1]) rfl ts32 tz32 rfl (by rfl) rfl,tv⟩<|wxz<|wxz ?_
   obtain⟨k4,hk_k4,h⟩:=jko h
   refine wjn (τ:=(List Qaf)×(List Qah)) (fun t=>k4 t=some r) (fun ⟨y2,y3⟩=>⟨mk 296 [(1,(Qf8 p1)),(4,(K .u8 p4)),(13,.ref 0 7 0 0),(14,.ref 1 4 0 0),(15,(.acc 2 42 2 (y2.map Qae))),(16,(.acc 3 38 3 (y3.map Qap)))],[(Qlf p2 p3),Qdd,.tok,.tok]⟩) (fun t h=>?_) ?_
   ·subst hk_k4
    obtain⟨y2,y3⟩:=t
    refine wxz ?_
    obtain⟨k9,hk_k9,h⟩:=jko h
    refine wjn (τ:=(List Qaf)×(List Qah)×(List Qab)×(List Qbd)) (fun t=>k9 t=some r) (fun ⟨y5,y6,y7,y8⟩=>⟨mk 296 [(4,(K .u8 p4)),(13,.ref 0 7 0 0),(14,.ref 1 4 0 0),(15,(Qny y5)),(16,(.acc 3 38 3 (y6.map Qap))),(19,(.acc 4 52 6 (y7.map Qaq)))],[(Qm3 p2 p3 y8),Qdd,.tok,.tok,.tok,.tok]⟩) (fun t h=>?_) ?_
    ·subst hk_k9
     obtain⟨y5,y6,y7,y8⟩:=t
     obtain⟨x11,hf10,h⟩:=bno h
     refine wx tbk [(3,rp [fu 7,(.tmp 198,Qsk),(.tmp 199,(Qny y5)),(.tmp 200,(.acc 4 52 6 (y7.map Qaq)))] (.tup [(Qez x11),(.dat 3 (x11.2.1.map Qcq)),I x11.2.2]))] ⟨awk (rd':=(.func 7,(.fn (.func 7) [] []))::[(.tmp 198,Qsk),(.tmp 199,(.dat 2 (y5.map Qae))),(.tmp 200,(.dat 6 (y7.map Qaq)))]) ⟨rfl,lrf,rfl,lrf,rfl,Less.acc,rfl,Less.acc,tv⟩ (apv Qxw (Qh0 N (⟨3,1,1,1⟩:Qam) y5 y7 _ hf10) (nlc (NLt.agg _ (nlcc (nlcc nl0))) (nlc (nld Qaj _) (nlc (nld Qa5 _) nl0))) (NLt.tup _ (nlc (nld Qak _) (nlc (nld Qe9 _) (nlc nll nl0))))),tv⟩<|wsq<|wxz ?_
     refine bfe h (fun hc12 h=>?_) fun hc12 h=>?_
     ·exact wft hc12<|wxz<|Qad<|Qac<|frb h
     ·refine wfn hc12<|Qai<|thn<|wxz<|wxz ?_
      obtain⟨k16,hk_k16,h⟩:=jko h
      refine wjn (τ:=Int×(List Qaf)×(List Qbd)) (fun t=>k16 t=some r) (fun ⟨y13,y14,y15⟩=>⟨mk 296 [(4,(K .u8 p4)),(13,.ref 0 7 0 0),(14,.ref 1 4 0 0),(23,(Qez x11)),(26,I y13),(27,(.acc 2 42 2 (y14.map Qae)))],[(.own 7 [[I 0,I 100000,(I ((w64 p2).tmod 9961)),(I (w64 (((w64 p2).tmod 9961)+39))),(I ((w64 p3).tmod 961)),(I (w64 (((w64 p3).tmod 961)+39))),(.acc 3 49 3 (y15.map Qbc))]]),Qdd,.tok,.tok]⟩) (fun t h=>?_) ?_
      ·subst hk_k16
       obtain⟨y13,y14,y15⟩:=t
       refine wsq<|wx tbk [(2,rp _ _)] ⟨alq 1 Qan x11.1 underlying40,tv⟩ ?_
       refine bfe h (fun hc17 h=>?_) fun hc17 h=>?_
       ·exact wft hc17<|wxz<|Qad<|Qac<|frb h
       ·refine wfn hc17<|Qai<|thn<|wsq ?_
        refine wx tbk [(1,rp [(.tmp 247,(.acc 2 42 2 (y14.map Qae)))] (I ((y14.length:Int))))] ⟨alm (c:=Qae) (l:=y14) (aln rfl underlying33 rfl),tv⟩ ?_
        refine bfe h (fun hc18 h=>?_) fun hc18 h=>?_
        ·refine wft hc18 ?_
         obtain⟨x20,hf19,h⟩:=bno h
         exact wx tbk [(0,rp _ _)] ⟨apw Qg4 (Qcs 2000  _ hf19),tv⟩<|Qad<|Qac<|frb h
        ·refine wfn hc18<|Qai<|thn ?_
         refine wx tbk [(1,rp [(.tmp 251,(K .u8 p4))] (I (w64 p4))),(2,rp [(.tmp 252,I (w64 p4)),ci 32] (I ((w64 p4).tmod 32)))] ⟨acv rfl (by rw[underlying5];rfl) underlying3,Qje rfl (by decide),tv⟩ ?_
         obtain⟨x22,hf21,h⟩:=bno h
         refine wx tbk [(2,rp [fu 9,(.tmp 255,(.agg [I 0,I 100000,(I ((w64 p2).tmod 9961)),(I (w64 (((w64 p2).tmod 9961)+39))),(I ((w64 p3).tmod 961)),(I (w64 (((w64 p3).tmod 961)+39))),(.acc 3 49 3 (y15.map Qbc))])),(.tmp 256,(I ((w64 p4).tmod 32)))] (.tup [(.agg [I x22.1.Lo,I x22.1.Hi]),I x22.2]))] ⟨awk (rd':=(.func 9,(.fn (.func 9) [] []))::[(.tmp 255,(Qui p2 p3 y15)),(.tmp 256,(I ((w64 p4).tmod 32)))]) ⟨rfl,lrf,rfl,(Less.agg ⟨lrf,lrf,lrf,lrf,lrf,lrf,Less.acc,tv⟩),rfl,lrf,tv⟩ (apv Qub (Qfl N (⟨(⟨0,100000⟩:Qaa),(⟨(w64 p2).tmod 9961,w64 (((w64 p2).tmod 9961)+39)⟩:Qaa),(⟨(w64 p3).tmod 961,w64 (((w64 p3).tmod 961)+39)⟩:Qaa),y15⟩:Qa4) ((w64 p4).tmod 32) _ hf21) (nlc (NLt.agg _ (nlcc (nlcc (nlcc (nlc (nld Qao _) nl0))))) (nlc nll nl0)) (NLt.tup _ (nlc (NLt.agg _ (nlcc nl0)) (nlc nll nl0)))),tv⟩ ?_
         obtain⟨x24,hf23,h⟩:=bno h
         refine wx tbk [(2,rp [ci 0,ci 1,ci 2] Qjt),(7,rp [ci 1,(.tmp 264,(I ((w64 p4).tmod 32))),(.tmp 267,(I (w64 (((w64 p4).tmod 32)*((w64 p4).tmod 32)))))] (Qm2 p4)),(8,rp _ _),(9,rp [fu 10,(.tmp 261,Qsk),(.tmp 262,(.acc 2 42 2 (y14.map Qae))),(.tmp 269,(Qp4 p4))] (.tup [(.agg [I x24.1.Lo,I x24.1.Hi]),I x24.2]))] ⟨Qbn (vs:=[I 0,I 1,I 2]) rfl underlying40 ti3 tz3 rfl (by decide) rfl (by decide) (by rfl) (by rfl) (by rfl) rfl,Qbn (vs:=[I 1,(I ((w64 p4).tmod 32)),(I (w64 (((w64 p4).tmod 32)*((w64 p4).tmod 32))))]) rfl underlying40 ti3 tz3 rfl (by decide) rfl (by decide) (by rfl) (by rfl) (by rfl) rfl,Qay (vs:=[(Sx (⟨#[120]⟩)),Qjt,(Qm2 p4)]) rfl ts52 tz52 rfl (by rfl) rfl,awk (rd':=(.func 10,(.fn (.func 10) [] []))::[(.tmp 261,Qsk),(.tmp 262,(.dat 2 (y14.map Qae))),(.tmp 269,(Qp4 p4))]) ⟨rfl,lrf,rfl,lrf,rfl,Less.acc,rfl,lrf,tv⟩ (apv Qwm (Qh1 N (⟨3,1,1,1⟩:Qam) y14 (⟨⟨#[120]⟩,0,[0,1,2],[1,(w64 p4).tmod 32,w64 (((w64 p4).tmod 32)*((w64 p4).tmod 32))],(⟨0,0⟩:Qaa)⟩:Qab) _ hf23) (nlc (NLt.agg _ (nlcc (nlcc nl0))) (nlc (nld Qaj _) (nlc (NLt.agg _ (nlcc (nlc (nld Qak _) (nlc (nld Qak _) (nlcc nl0))))) nl0))) (NLt.tup _ (nlc (NLt.agg _ (nlcc nl0)) (nlc nll nl0)))),tv⟩ ?_
         refine bfe h (fun hb25 h=>?_) fun hb25 h=>?_
         ·refine hpre (A:=(Qmw x22)) ⟨asb hb25 (amv rfl),tv⟩ fun q1_=>?_
          refine bfe h (fun hb26 h=>?_) fun hb26 h=>?_
          ·refine hpre (A:=(Qki x22 x24)) (hap q1_ ⟨asb hb26 (amv rfl),tv⟩) fun q2_=>?_
           refine bfe h (fun hb27 h=>?_) fun hb27 h=>?_
           ·refine bfe h (fun hb28 h=>?_) fun hb28 h=>?_
            ·obtain⟨x30,hf29,h⟩:=bno h
             exact wx tbk (hcat (Qki x22 x24) [(13,rp [(.tmp 285,(B ((decide (x22.1.Lo≤x24.1.Lo)))))] (B true)),(20,rp [(.tmp 292,(B ((decide (x24.1.Hi≤x22.1.Hi)))))] (B true)),(21,rp [(.tmp 293,B true),fu 4] (B x30))]) (hap q2_ ⟨asb hb27 (amv rfl),asb hb28 (amv rfl),ag_ (apv Qg4 (Qcs 2000  _ hf29) nl0 nll),tv⟩)<|Qad<|frb h
            ·exact wx tbk (hcat (Qki x22 x24) [(13,rp [(.tmp 285,(B ((decide (x22.1.Lo≤x24.1.Lo)))))] (B true)),(20,rp [(.tmp 292,(B ((decide (x24.1.Hi≤x22.1.Hi)))))] (B false))]) (hap q2_ ⟨asb hb27 (amv rfl),asb hb28 (amv rfl),tv⟩)<|Qad<|frb h
           ·exact wx tbk (hcat (Qki x22 x24) [(13,rp [(.tmp 285,(B ((decide (x22.1.Lo≤x24.1.Lo)))))] (B false))]) (hap q2_ ⟨asb hb27 (amv rfl),tv⟩)<|Qad<|frb h
          ·exact wx tbk (hcat (Qmw x22) [(6,rp [(.tmp 278,(B ((x24.2==0))))] (B false))]) (hap q1_ ⟨asb hb26 (amv rfl),tv⟩)<|Qad<|frb h
         ·exact wx tbk [(2,rp [(.tmp 274,(B ((x22.2==0))))] (B false))] ⟨asb hb25 (amv rfl),tv⟩<|Qad<|frb h
      ·skip
       refine wxz<|Qal ?_
       refine wmr (Mor.trans (Qhv 6 42 2 27 (by kernel_rfl) (by kernel_rfl)) (mto (n:=296) (l':=[(4,(K .u8 p4)),(13,.ref 0 7 0 0),(14,.ref 1 4 0 0),(15,(Qny y5)),(16,(.acc 3 38 3 (y6.map Qap))),(23,(Qez x11)),(26,I 0),(27,(.acc 4 42 2 ((([]):List Qaf).map Qae))),(28,I 0)]) (own':=[(Qm3 p2 p3 y8),Qdd,.tok,.tok,.tok,.tok]) [(4,(K .u8 p4)),(13,.ref 0 7 0 0),(14,.ref 1 4 0 0),(15,(Qny y5)),(16,(.acc 3 38 3 (y6.map Qap))),(23,(Qez x11)),(26,I 0),(27,(.acc 6 42 2 (([]:List Qaf).map Qae))),(28,I 0)] [0,1,2,3,6,5] [(Qm3 p2 p3 y8),Qdd,.tok,.tok,.tok,.tok] hq (pw (prr (prr (pc (.rn (Qax rfl (Qas Qaj _))) (pc (.rn (Qax rfl (Qas Qch _))) (pc (rnd Qak) (pw (pc (.rn (Qax rfl (Qas Qaj _))) (pw pn))))))))) (qb (lcc (lcc (lcc (lc (.rn (Qax rfl (Qas Qao _))) ln)))) (qb (lcc (lcc ln)) (qc .tok (qc .tok (qc .tok (qc .tok qn)))))))) ?_
       refine Qdk (τ:=(List Qaf)×(List Qah)×Int×(List Qaf)×Int×(List Qbd)) (fun n t=>Qbs N p2 p3 x11 k16 n t.1 t.2.1 t.2.2.1 t.2.2.2.1 t.2.2.2.2.1 t.2.2.2.2.2=some r) (fun ⟨y31,y32,y33,y34,y35,y36⟩=>⟨mk 296 [(4,(K .u8 p4)),(13,.ref 0 7 0 0),(14,.ref 1 4 0 0),(15,(.acc 2 42 2 (y31.map Qae))),(16,(Qil y32)),(23,(Qez x11)),(26,I y33),(27,(Qkk y34)),(28,I y35)],[(Qkl p2 p3 y36),Qdd,.tok,.tok,.tok,.tok]⟩) (fun t h=>by rw[Qbs] at h;cases h) (fun n43 ih t h=>?_) N (y5,y6,0,[],0,y8) h
       obtain⟨y31,y32,y33,y34,y35,y36⟩:=t
       rw[Qbs] at h
       skip
       refine wsq<|wx tbk [(2,rp [(.tmp 208,(Qil y32))] (I ((y32.length:Int))))] ⟨alm (c:=Qap) (l:=y32) (aln rfl underlying34 rfl),tv⟩ ?_
       refine bfe h (fun hc44 h=>?_) fun hc44 h=>?_
       ·refine wft hc44<|Qai<|thn<|wsq<|Qal ?_
        obtain⟨x45,hg46,h⟩:=bno h
        obtain⟨hi47,hj48⟩:=gsm hg46
        obtain⟨x50,hf49,h⟩:=bno h
        refine wxd tbk [(3,rp [(.tmp 214,(Qil y32)),(.tmp 215,I y35)] (.dptr (Qap x45) 0)),(5,rp [fu 8,(.tmp 213,(.agg [I 0,I 100000,(I ((w64 p2).tmod 9961)),(I (w64 (((w64 p2).tmod 9961)+39))),(I ((w64 p3).tmod 961)),(I (w64 (((w64 p3).tmod 961)+39))),(.acc 5 49 3 (y36.map Qbc))])),(.tmp 217,(Qp3 x45))] (B x50))] ⟨aid rfl underlying34 ti38 rfl rfl hi47 (mgt Qap hj48) rfl,awk (rd':=(.func 8,(.fn (.func 8) [] []))::[(.tmp 213,(Quh p2 p3 y36)),(.tmp 217,(Qp3 x45))]) ⟨rfl,lrf,rfl,(Less.agg ⟨lrf,lrf,lrf,lrf,lrf,lrf,Less.acc,tv⟩),rfl,lrf,tv⟩ (apv Qxv (Qif N (⟨(⟨0,100000⟩:Qaa),(⟨(w64 p2).tmod 9961,w64 (((w64 p2).tmod 9961)+39)⟩:Qaa),(⟨(w64 p3).tmod 961,w64 (((w64 p3).tmod 961)+39)⟩:Qaa),y36⟩:Qa4) x45 _ hf49) (nlc (NLt.agg _ (nlcc (nlcc (nlcc (nlc (nld Qao _) nl0))))) (nlc (NLt.agg _ (nlcc (nlc nll nl0))) nl0)) nll),tv⟩ ?_
        obtain⟨k55,hk_k55,h⟩:=jko h
        refine wjn (τ:=(List Qaf)×(List Qah)×(List Qaf)×(List Qbd)) (fun t=>k55 t=some r) (fun ⟨y51,y52,y53,y54⟩=>⟨mk 296 [(4,(K .u8 p4)),(13,.ref 0 7 0 0),(14,.ref 1 4 0 0),(15,(Qkj y51)),(16,(.acc 3 38 3 (y52.map Qap))),(23,(Qez x11)),(26,I y33),(27,(.acc 4 42 2 (y53.map Qae))),(28,I y35),(29,B x50)],[(Qm1 p2 p3 y54),Qdd,.tok,.tok,.tok,.tok]⟩) (fun t h=>?_) ?_
        ·subst hk_k55
         obtain⟨y51,y52,y53,y54⟩:=t
         refine wxz ?_
         refine bfe h (fun hc56 h=>?_) fun hc56 h=>?_
         ·refine wft hc56<|wxz ?_
          obtain⟨x57,hg58,h⟩:=bno h
          obtain⟨hi59,hj60⟩:=gsm hg58
          obtain⟨ha61,h⟩:=cko h
          refine wx1 tbk [(3,rp [(.tmp 237,(Qkj y51)),(.tmp 238,I y35)] (.dptr (Qae x57) 0)),(5,rp [(.tmp 240,(.agg [(Sx x57.Name),(.dat 1 (x57.Values.map Qan))]))] (.dat 2 (([x57]:List Qaf).map Qae))),(6,⟨[(.tmp 236,(.acc 4 42 2 (y53.map Qae))),(.tmp 241,(.dat 2 (([x57]:List Qaf).map Qae)))],[(4,.tok),(6,.unused)],(.acc 6 42 2 ((y53++([x57]):List Qaf).map Qae)),[(4,.dead),(6,.tok)],false⟩)] ⟨aid rfl underlying33 ti42 rfl rfl hi59 (mgt Qae hj60) rfl,Qbn (vs:=[(.agg [(Sx x57.Name),(.dat 1 (x57.Values.map Qan))])]) rfl underlying33 ti42 tz42 rfl (by decide) rfl (by decide) (by rfl) (by rfl) (by rfl) rfl,Qex rfl underlying33 te42 (Base.acc _ _) rfl rfl (by rfl) (Qgp Qae ha61) (Qgo Qae ha61 (by decide)) (Qgn Qae) rfl rfl,tv⟩<|bln<|thn<|wxz1<|thn ?_
          exact arm (mto (n:=296) [(4,(K .u8 p4)),(13,.ref 0 7 0 0),(14,.ref 1 4 0 0),(15,(Qkj y51)),(16,(.acc 3 38 3 (y52.map Qap))),(23,(Qez x11)),(26,(I (w64 (y33+1)))),(27,(.acc 6 42 2 ((y53++([x57]):List Qaf).map Qae))),(28,(I (w64 (y35+1))))] [0,1,2,3,6,5] [(Qm1 p2 p3 y54),Qdd,.tok,.tok,.tok,.tok] hq (pw (prr (prr (pc (.rn (Qax rfl (Qas Qaj _))) (pc (.rn (Qax rfl (Qas Qch _))) (pc (rnd Qak) (pw (pc (.rn (Qax rfl (Qas Qaj _))) (pw pn))))))))) (qb (lcc (lcc (lcc (lc (.rn (Qax rfl (Qas Qao _))) ln)))) (qb (lcc (lcc ln)) (qc .tok (qc .tok (qc .tok (qc .tok qn))))))) (ih (y51,y52,w64 (y33+1),y53++([x57]),w64 (y35+1),y54) h)
         ·exact wfn hc56<|Qai<|bln<|thn<|wxz1<|thn<|arm (mto (n:=296) [(4,(K .u8 p4)),(13,.ref 0 7 0 0),(14,.ref 1 4 0 0),(15,(Qkj y51)),(16,(.acc 3 38 3 (y52.map Qap))),(23,(Qez x11)),(26,I y33),(27,(.acc 4 42 2 (y53.map Qae))),(28,(I (w64 (y35+1))))] [0,1,2,3,4,5] [(Qm1 p2 p3 y54),Qdd,.tok,.tok,.tok,.tok] hq (pw (prr (prr (pc (.rn (Qax rfl (Qas Qaj _))) (pc (.rn (Qax rfl (Qas Qch _))) (pc (rnd Qak) (pw (pc (.rn (Qax rfl (Qas Qaj _))) (pw pn))))))))) (qb (lcc (lcc (lcc (lc (.rn (Qax rfl (Qas Qao _))) ln)))) (qb (lcc (lcc ln)) (qc .tok (qc .tok (qc .tok (qc .tok qn))))))) (ih (y51,y52,y33,y53,w64 (y35+1),y54) h)
        ·skip
         refine bfe h (fun hb62 h=>?_) fun hb62 h=>?_
         ·obtain⟨x63,hg64,h⟩:=bno h
          obtain⟨hi65,hj66⟩:=gsm hg64
          refine wx tbk [(3,rp _ _),(5,rp [(.tmp 223,(B ((decide (y33<(x11.1.length:Int))))))] (B true)),(8,rp [(.tmp 224,B true),(.tmp 225,(Qez x11)),(.tmp 226,I y33)] (.dptr (Qan x63) 0)),(13,rp [(.tmp 219,B x50),(.tmp 231,(B ((x63==y35))))] (B ((!(x50==(x63==y35))))))] ⟨alq 1 Qan x11.1 underlying40,asb hb62 (amv rfl),ag_ (aiq underlying40 ti3 Qan hi65 hj66),Qmk rfl underlying4,tv⟩ ?_
          refine bfe h (fun hc67 h=>?_) fun hc67 h=>?_
          ·exact wft hc67<|wxz<|Qad<|Qac<|Qag<|Qac<|Qac<|Qag<|Qac<|frb h
          ·exact wfn hc67<|Qai<|thn<|⟨(y31,y32,y34,y36),h,(mto (n:=296) [(4,(K .u8 p4)),(13,.ref 0 7 0 0),(14,.ref 1 4 0 0),(15,(.acc 2 42 2 (y31.map Qae))),(16,(Qil y32)),(23,(Qez x11)),(26,I y33),(27,(Qkk y34)),(28,I y35),(29,B x50)] [0,1,2,3,4,5] [(Qkl p2 p3 y36),Qdd,.tok,.tok,.tok,.tok] hq (pw (prr (prr (pc (.rn (Qax rfl (Qas Qaj _))) (pc (.rn (Qax rfl (Qas Qch _))) (pc (rnd Qak) (pw (pc (.rn (Qax rfl (Qas Qaj _))) (pw (pw pn)))))))))) (qb (lcc (lcc (lcc (lc (.rn (Qax rfl (Qas Qao _))) ln)))) (qb (lcc (lcc ln)) (qc .tok (qc .tok (qc .tok (qc .tok qn)))))))⟩
         ·refine wx tbk [(3,rp _ _),(5,rp [(.tmp 223,(B ((decide (y33<(x11.1.length:Int))))))] (B false)),(13,rp [(.tmp 219,B x50),(.tmp 231,B false)] (B ((!(x50==false)))))] ⟨alq 1 Qan x11.1 underlying40,asb hb62 (amv rfl),Qmk rfl underlying4,tv⟩ ?_
          refine bfe h (fun hc68 h=>?_) fun hc68 h=>?_
          ·exact wft hc68<|wxz<|Qad<|Qac<|Qag<|Qac<|Qac<|Qag<|Qac<|frb h
          ·exact wfn hc68<|Qai<|thn<|⟨(y31,y32,y34,y36),h,(mto (n:=296) [(4,(K .u8 p4)),(13,.ref 0 7 0 0),(14,.ref 1 4 0 0),(15,(.acc 2 42 2 (y31.map Qae))),(16,(Qil y32)),(23,(Qez x11)),(26,I y33),(27,(Qkk y34)),(28,I y35),(29,B x50)] [0,1,2,3,4,5] [(Qkl p2 p3 y36),Qdd,.tok,.tok,.tok,.tok] hq (pw (prr (prr (pc (.rn (Qax rfl (Qas Qaj _))) (pc (.rn (Qax rfl (Qas Qch _))) (pc (rnd Qak) (pw (pc (.rn (Qax rfl (Qas Qaj _))) (pw (pw pn)))))))))) (qb (lcc (lcc (lcc (lc (.rn (Qax rfl (Qas Qao _))) ln)))) (qb (lcc (lcc ln)) (qc .tok (qc .tok (qc .tok (qc .tok qn)))))))⟩
       ·exact wfn hc44<|Qcp<|Qbf<|Qbf<|Qco rfl<|thn<|⟨(y33,y34,y36),h,(mto (n:=296) [(4,(K .u8 p4)),(13,.ref 0 7 0 0),(14,.ref 1 4 0 0),(23,(Qez x11)),(26,I y33),(27,(Qkk y34))] [0,1,4,5] [(Qkl p2 p3 y36),Qdd,.tok,.tok] hq (pw (prr (prr (pc (rnd Qak) (pw (pc (.rn (Qax rfl (Qas Qaj _))) pn)))))) (qb (lcc (lcc (lcc (lc (.rn (Qax rfl (Qas Qao _))) ln)))) (qb (lcc (lcc ln)) (qc .tok (qc .tok qn)))))⟩
    ·skip
     refine wxz<|Qal ?_
     refine wmr (Mor.trans (Qhv 4 52 6 19 (by kernel_rfl) (by kernel_rfl)) (Mor.trans (Qti (n:=5) (ty:=49) (m:=3) (q:=0) (mq:=7) (c:=[I 0,I 100000,(I ((w64 p2).tmod 9961)),(I (w64 (((w64 p2).tmod 9961)+39))),(I ((w64 p3).tmod 961)),(I (w64 (((w64 p3).tmod 961)+39))),nilS]) 6 (by kernel_rfl) (by kernel_rfl) (by kernel_rfl) (by decide)) (mto (n:=296) (l':=[(1,(Qf8 p1)),(4,(K .u8 p4)),(13,.ref 0 7 0 0),(14,.ref 1 4 0 0),(15,(.acc 2 42 2 (y2.map Qae))),(16,(.acc 3 38 3 (y3.map Qap))),(19,(.acc 4 52 6 ((([]):List Qab).map Qaq))),(20,I 0)]) (own':=[(.own 7 [[I 0,I 100000,(I ((w64 p2).tmod 9961)),(I (w64 (((w64 p2).tmod 9961)+39))),(I ((w64 p3).tmod 961)),(I (w64 (((w64 p3).tmod 961)+39))),(.acc 5 49 3 ((([]):List Qbd).map Qbc))]]),Qdd,.tok,.tok,.tok,.tok]) [(1,(Qf8 p1)),(4,(K .u8 p4)),(13,.ref 0 7 0 0),(14,.ref 1 4 0 0),(15,(.acc 2 42 2 (y2.map Qae))),(16,(.acc 3 38 3 (y3.map Qap))),(19,(.acc 4 52 6 (([]:List Qab).map Qaq))),(20,I 0)] [0,1,2,3,4,5] [(.own 7 [[I 0,I 100000,(I ((w64 p2).tmod 9961)),(I (w64 (((w64 p2).tmod 9961)+39))),(I ((w64 p3).tmod 961)),(I (w64 (((w64 p3).tmod 961)+39))),(.acc 5 49 3 (([]:List Qbd).map Qbc))]]),Qdd,.tok,.tok,.tok,.tok] hq (pc (rnd Qao) (pw (prr (prr (pc (.rn (Qax rfl (Qas Qaj _))) (pc (.rn (Qax rfl (Qas Qch _))) (pc (.rn (Qax rfl (Qas Qa5 _))) (pw pn)))))))) (qb (lcc (lcc (lcc (lc (.rn (Qax rfl (Qas Qao _))) ln)))) (qb (lcc (lcc ln)) (qc .tok (qc .tok (qc .tok (qc .tok qn))))))))) ?_
     refine Qdk (τ:=(List Qaf)×(List Qah)×(List Qab)×Int×(List Qbd)) (fun n t=>Qb3 N p1 k9 n t.1 t.2.1 t.2.2.1 t.2.2.2.1 t.2.2.2.2=some r) (fun ⟨y69,y70,y71,y72,y73⟩=>⟨mk 296 [(1,(Qf8 p1)),(4,(K .u8 p4)),(13,.ref 0 7 0 0),(14,.ref 1 4 0 0),(15,(.acc 2 42 2 (y69.map Qae))),(16,(.acc 3 38 3 (y70.map Qap))),(19,(.acc 4 52 6 (y71.map Qaq))),(20,I y72)],[(Qm0 p2 p3 y73),Qdd,.tok,.tok,.tok,.tok]⟩) (fun t h=>by rw[Qb3] at h;cases h) (fun n79 ih t h=>?_) N (y2,y3,[],0,[]) h
     obtain⟨y69,y70,y71,y72,y73⟩:=t
     rw[Qb3] at h
     skip
     refine wsq<|wx tbk [(2,rp _ _)] ⟨alq 3 Qbc p1 underlying23,tv⟩ ?_
     refine bfe h (fun hc80 h=>?_) fun hc80 h=>?_
     ·refine wft hc80<|Qai<|thn<|wsq<|Qal ?_
      obtain⟨x81,hg82,h⟩:=bno h
      obtain⟨hi83,hj84⟩:=gsm hg82
      refine wxd tbk [(2,rp _ _),(7,rp _ _)] ⟨aiq underlying23 ti46 Qbc hi83 hj84,aiq underlying23 ti46 Qbc hi83 hj84,tv⟩ ?_
      obtain⟨k89,hk_k89,h⟩:=jko h
      refine wjn (τ:=(List Qaf)×(List Qah)×(List Qab)×(List Qbd)) (fun t=>k89 t=some r) (fun ⟨y85,y86,y87,y88⟩=>⟨mk 296 [(1,(Qf8 p1)),(4,(K .u8 p4)),(13,.ref 0 7 0 0),(14,.ref 1 4 0 0),(15,(.acc 2 42 2 (y85.map Qae))),(16,(.acc 3 38 3 (y86.map Qap))),(19,(.acc 4 52 6 (y87.map Qaq))),(20,I y72),(21,I x81.Flow),(22,.ref 5 2 0 0)],[(.own 7 [[I 0,I 100000,(I ((w64 p2).tmod 9961)),(I (w64 (((w64 p2).tmod 9961)+39))),(I ((w64 p3).tmod 961)),(I (w64 (((w64 p3).tmod 961)+39))),(.acc 6 49 3 (y88.map Qbc))]]),Qdd,.tok,.tok,.tok,(.own 2 [[I x81.In.Lo,I x81.In.Hi]]),.tok]⟩) (fun t h=>?_) ?_
      ·subst hk_k89
       obtain⟨y85,y86,y87,y88⟩:=t
       obtain⟨ha90,h⟩:=cko h
       refine wx tbk [(7,rp _ _),(8,rp _ _),(9,rp [(.tmp 172,(Qp1 x81))] (Qp0 x81)),(10,⟨[(.tmp 165,(.acc 6 49 3 (y88.map Qbc))),(.tmp 173,(Qp0 x81))],[(6,.tok),(7,.unused)],(Qpz y88 x81),[(6,.dead),(7,.tok)],false⟩)] ⟨Qay (vs:=[I x81.In.Lo,I x81.In.Hi]) rfl ts27 tz27 rfl (by rfl) rfl,Qay (vs:=[I x81.Flow,(Qmz x81)]) rfl ts49 tz49 rfl (by rfl) rfl,Qbn (vs:=[(Qp1 x81)]) rfl underlying28 ti49 tz49 rfl (by decide) rfl (by decide) (by rfl) (by rfl) (by rfl) rfl,Qex rfl underlying28 te49 (Base.acc _ _) rfl rfl (by rfl) (Qgp Qbc ha90) (Qgo Qbc ha90 (by decide)) (Qgn Qbc) rfl rfl,tv⟩ ?_
       obtain⟨hz91,h⟩:=cko h
       obtain⟨ha92,h⟩:=cko h
       refine wx1 tbk [(3,rp [(.tmp 178,(I (w64 (97+y72))))] (K .u8 (IntKind.wrap .u8 (w64 (97+y72))))),(4,rp [(.tmp 179,(K .u8 (IntKind.wrap .u8 (w64 (97+y72)))))] (Qp2 y72)),(5,rp [(.tmp 180,(Qp2 y72))] (Sx (strOfNums [IntKind.wrap .u8 (w64 (97+y72))]))),(6,rp [((.const (.string (.mk #[115]))),(Sx (⟨#[115]⟩))),(.tmp 181,(Sx (strOfNums [IntKind.wrap .u8 (w64 (97+y72))])))] (Sx (ByteArray.append (⟨#[115]⟩) (strOfNums [IntKind.wrap .u8 (w64 (97+y72))])))),(7,rp [ci 0,ci 1,ci 2] Qjt),(12,rp [ci 1,(.tmp 184,I x81.Flow),(.tmp 187,(I (w64 (x81.Flow*x81.Flow))))] (Qmy x81)),(17,rp _ _),(18,rp _ _),(19,rp [(.tmp 194,(Qpy y72 x81))] (Qpx y72 x81)),(20,⟨[(.tmp 176,(.acc 4 52 6 (y87.map Qaq))),(.tmp 195,(Qpx y72 x81))],[(4,.tok),(8,.unused)],(Qpw y87 y72 x81),[(4,.dead),(8,.tok)],false⟩)] ⟨acv rfl (by rw[underlying3];rfl) underlying5,Qbn (vs:=[(K .u8 (IntKind.wrap .u8 (w64 (97+y72))))]) rfl underlying39 ti5 tz5 rfl (by decide) rfl (by decide) (by rfl) (by rfl) (by rfl) rfl,Qjn (l:=[IntKind.wrap .u8 (w64 (97+y72))]) rfl underlying39 underlying5 underlying9 rfl (by simp),Qmn rfl hz91,Qbn (vs:=[I 0,I 1,I 2]) rfl underlying40 ti3 tz3 rfl (by decide) rfl (by decide) (by rfl) (by rfl) (by rfl) rfl,Qbn (vs:=[I 1,I x81.Flow,(I (w64 (x81.Flow*x81.Flow)))]) rfl underlying40 ti3 tz3 rfl (by decide) rfl (by decide) (by rfl) (by rfl) (by rfl) rfl,Qay (vs:=[I x81.In.Lo,I x81.In.Hi]) rfl ts50 tz50 rfl (by rfl) rfl,Qay (vs:=[(Sx (ByteArray.append (⟨#[115]⟩) (strOfNums [IntKind.wrap .u8 (w64 (97+y72))]))),Qjt,(Qmy x81),(Qmz x81)]) rfl ts52 tz52 rfl (by rfl) rfl,Qbn (vs:=[(Qpy y72 x81)]) rfl underlying43 ti52 tz52 rfl (by decide) rfl (by decide) (by rfl) (by rfl) (by rfl) rfl,Qex rfl underlying43 te52 (Base.acc _ _) rfl rfl (by rfl) (Qgp Qaq ha92) (Qgo Qaq ha92 (by decide)) (Qgn Qaq) rfl rfl,tv⟩<|bln<|thn<|wxz1<|thn ?_
       exact arm (mto (n:=296) [(1,(Qf8 p1)),(4,(K .u8 p4)),(13,.ref 0 7 0 0),(14,.ref 1 4 0 0),(15,(.acc 2 42 2 (y85.map Qae))),(16,(.acc 3 38 3 (y86.map Qap))),(19,(Qpw y87 y72 x81)),(20,(I (w64 (y72+1))))] [0,1,2,3,8,7] [(.own 7 [[I 0,I 100000,(I ((w64 p2).tmod 9961)),(I (w64 (((w64 p2).tmod 9961)+39))),(I ((w64 p3).tmod 961)),(I (w64 (((w64 p3).tmod 961)+39))),(Qpz y88 x81)]]),Qdd,.tok,.tok,.tok,.tok] hq (pc (rnd Qao) (pw (prr (prr (pc (.rn (Qax rfl (Qas Qaj _))) (pc (.rn (Qax rfl (Qas Qch _))) (pc (.rn (Qax rfl (Qas Qa5 _))) (pw pn)))))))) (qb (lcc (lcc (lcc (lc (.rn (Qax rfl (Qas Qao _))) ln)))) (qb (lcc (lcc ln)) (qc .tok (qc .tok (qc .tok (qc .tok qn))))))) (ih (y85,y86,y87++([(⟨ByteArray.append (⟨#[115]⟩) (strOfNums [IntKind.wrap .u8 (w64 (97+y72))]),0,[0,1,2],[1,x81.Flow,w64 (x81.Flow*x81.Flow)],(⟨x81.In.Lo,x81.In.Hi⟩:Qaa)⟩:Qab)]),w64 (y72+1),y88++([(⟨x81.Flow,(⟨x81.In.Lo,x81.In.Hi⟩:Qaa)⟩:Qbd)])) h)
      ·skip
       obtain⟨x94,hf93,h⟩:=bno h
       refine hpre (A:=(Qmv x81 x94)) ⟨apv Qj2 (Qd8 N x81.Flow 0 31 _ hf93) (nlcc (nlc nll nl0)) nll,tv⟩ fun q3_=>?_
       refine bfe h (fun hb95 h=>?_) fun hb95 h=>?_
       ·refine wx tbk (hcat (Qmv x81 x94) [(3,rp [(.tmp 157,(B ((!x94))))] (B true))]) (hap q3_ ⟨asb hb95 (amv rfl),tv⟩)<|wtr ?_
        obtain⟨x97,hf96,h⟩:=bno h
        exact wx tbk [(0,rp _ _)] ⟨apw Qg4 (Qcs 2000  _ hf96),tv⟩<|Qad<|Qac<|Qag<|Qac<|Qac<|Qag<|Qac<|frb h
       ·obtain⟨x99,hf98,h⟩:=bno h
        refine wx tbk (hcat (Qmv x81 x94) [(3,rp [(.tmp 157,(B ((!x94))))] (B false)),(5,rp [(.tmp 158,B false),fu 6,(.tmp 159,(Qmz x81)),ci (-2000000000),ci 2000000000] (B x99))]) (hap q3_ ⟨asb hb95 (amv rfl),ag_ (apv Qxx (Qiy N (⟨x81.In.Lo,x81.In.Hi⟩:Qaa) (-2000000000) 2000000000 _ hf98) (nlc (NLt.agg _ (nlcc nl0)) (nlcc nl0)) nll),tv⟩) ?_
        refine bfe h (fun hc100 h=>?_) fun hc100 h=>?_
        ·refine wft hc100 ?_
         obtain⟨x102,hf101,h⟩:=bno h
         exact wx tbk [(0,rp _ _)] ⟨apw Qg4 (Qcs 2000  _ hf101),tv⟩<|Qad<|Qac<|Qag<|Qac<|Qac<|Qag<|Qac<|frb h
        ·exact wfn hc100<|Qai<|thn<|⟨(y69,y70,y71,y73),h,(mto (n:=296) [(1,(Qf8 p1)),(4,(K .u8 p4)),(13,.ref 0 7 0 0),(14,.ref 1 4 0 0),(15,(.acc 2 42 2 (y69.map Qae))),(16,(.acc 3 38 3 (y70.map Qap))),(19,(.acc 4 52 6 (y71.map Qaq))),(20,I y72),(21,I x81.Flow),(22,.ref 6 2 0 0)] [0,1,2,3,4,6,5] [(Qm0 p2 p3 y73),Qdd,.tok,.tok,.tok,(.own 2 [[I x81.In.Lo,I x81.In.Hi]]),.tok] hq (pc (rnd Qao) (pw (prr (prr (pc (.rn (Qax rfl (Qas Qaj _))) (pc (.rn (Qax rfl (Qas Qch _))) (pc (.rn (Qax rfl (Qas Qa5 _))) (pw (pw (prr pn)))))))))) (qb (lcc (lcc (lcc (lc (.rn (Qax rfl (Qas Qao _))) ln)))) (qb (lcc (lcc ln)) (qc .tok (qc .tok (qc .tok (qb (lcc ln) (qc .tok qn))))))))⟩
     ·exact wfn hc80<|Qcp<|Qbf<|Qbf<|Qco rfl<|thn<|⟨(y69,y70,y71,y73),h,(mto (n:=296) [(4,(K .u8 p4)),(13,.ref 0 7 0 0),(14,.ref 1 4 0 0),(15,(.acc 2 42 2 (y69.map Qae))),(16,(.acc 3 38 3 (y70.map Qap))),(19,(.acc 4 52 6 (y71.map Qaq)))] [0,1,2,3,4,5] [(Qm0 p2 p3 y73),Qdd,.tok,.tok,.tok,.tok] hq (pw (prr (prr (pc (.rn (Qax rfl (Qas Qaj _))) (pc (.rn (Qax rfl (Qas Qch _))) (pc (.rn (Qax rfl (Qas Qa5 _))) pn)))))) (qb (lcc (lcc (lcc (lc (.rn (Qax rfl (Qas Qao _))) ln)))) (qb (lcc (lcc ln)) (qc .tok (qc .tok (qc .tok (qc .tok qn)))))))⟩
   ·skip
    refine wxz<|Qal ?_
    refine wmr (Mor.trans (Qhv 2 42 2 15 (by kernel_rfl) (by kernel_rfl)) (Mor.trans (Qhv 3 38 3 16 (by kernel_rfl) (by kernel_rfl)) (mto (n:=296) (l':=[(0,(Qhq p0)),(1,(Qf8 p1)),(4,(K .u8 p4)),(11,(I ((w64 p2).tmod 9961))),(12,(I ((w64 p3).tmod 961))),(13,.ref 0 7 0 0),(14,.ref 1 4 0 0),(15,(.acc 2 42 2 ((([]):List Qaf).map Qae))),(16,(.acc 3 38 3 ((([]):List Qah).map Qap))),(17,I 0)]) (own':=[(Qlf p2 p3),Qdd,.tok,.tok]) [(0,(Qhq p0)),(1,(Qf8 p1)),(4,(K .u8 p4)),(11,(I ((w64 p2).tmod 9961))),(12,(I ((w64 p3).tmod 961))),(13,.ref 0 7 0 0),(14,.ref 1 4 0 0),(15,(.acc 2 42 2 (([]:List Qaf).map Qae))),(16,(.acc 3 38 3 (([]:List Qah).map Qap))),(17,I 0)] [0,1,2,3] [(Qlf p2 p3),Qdd,.tok,.tok] hq (pc (rnd Qch) (pc (rnd Qao) (pw (pw (pw (prr (prr (pc (.rn (Qax rfl (Qas Qaj _))) (pc (.rn (Qax rfl (Qas Qch _))) (pw pn)))))))))) (qb (lcc (lcc (lcc (lc rwl ln)))) (qb (lcc (lcc ln)) (qc .tok (qc .tok qn))))))) ?_
    refine Qdk (τ:=(List Qaf)×(List Qah)×Int) (fun n t=>Qb2 N p0 p2 p3 k4 n t.1 t.2.1 t.2.2=some r) (fun ⟨y103,y104,y105⟩=>⟨mk 296 [(0,(Qhq p0)),(1,(Qf8 p1)),(4,(K .u8 p4)),(11,(I ((w64 p2).tmod 9961))),(12,(I ((w64 p3).tmod 961))),(13,.ref 0 7 0 0),(14,.ref 1 4 0 0),(15,(.acc 2 42 2 (y103.map Qae))),(16,(.acc 3 38 3 (y104.map Qap))),(17,I y105)],[(Qlf p2 p3),Qdd,.tok,.tok]⟩) (fun t h=>by rw[Qb2] at h;cases h) (fun n109 ih t h=>?_) N ([],[],0) h
    obtain⟨y103,y104,y105⟩:=t
    rw[Qb2] at h
    skip
    refine wsq<|wx tbk [(2,rp _ _)] ⟨alq 3 Qap p0 underlying22,tv⟩ ?_
    refine bfe h (fun hc110 h=>?_) fun hc110 h=>?_
    ·refine wft hc110<|Qai<|thn<|wsq<|Qal ?_
     obtain⟨k113,hk_k113,h⟩:=jko h
     refine wjn (τ:=(List Qaf)×(List Qah)) (fun t=>k113 t=some r) (fun ⟨y111,y112⟩=>⟨mk 296 [(0,(Qhq p0)),(1,(Qf8 p1)),(4,(K .u8 p4)),(11,(I ((w64 p2).tmod 9961))),(12,(I ((w64 p3).tmod 961))),(13,.ref 0 7 0 0),(14,.ref 1 4 0 0),(15,(.acc 2 42 2 (y111.map Qae))),(16,(.acc 3 38 3 (y112.map Qap))),(17,I y105)],[(Qlf p2 p3),Qdd,.tok,.tok]⟩) (fun t h=>?_) ?_
     ·subst hk_k113
      obtain⟨y111,y112⟩:=t
      obtain⟨x114,hg115,h⟩:=bno h
      obtain⟨hi116,hj117⟩:=gsm hg115
      refine wxd tbk [(2,rp _ _),(8,rp _ _),(15,rp _ _),(19,rp _ _)] ⟨aiq underlying22 ti37 Qap hi116 hj117,aiq underlying22 ti37 Qap hi116 hj117,aiq underlying22 ti37 Qap hi116 hj117,Qay (vs:=[I x114.A,(I (w64 (((w64 p2).tmod 9961)+x114.B))),(I (w64 (((w64 p3).tmod 961)+x114.C)))]) rfl ts38 tz38 rfl (by rfl) rfl,tv⟩ ?_
      obtain⟨ha118,h⟩:=cko h
      refine wx tbk [(2,rp [(.tmp 119,(Qpu x114 p2 p3))] (Qpt x114 p2 p3)),(3,⟨[(.tmp 118,(.acc 3 38 3 (y112.map Qap))),(.tmp 120,(Qpt x114 p2 p3))],[(3,.tok),(5,.unused)],(Qps y112 x114 p2 p3),[(3,.dead),(5,.tok)],false⟩)] ⟨Qbn (vs:=[(Qpu x114 p2 p3)]) rfl underlying34 ti38 tz38 rfl (by decide) rfl (by decide) (by rfl) (by rfl) (by rfl) rfl,Qex rfl underlying34 te38 (Base.acc _ _) rfl rfl (by rfl) (Qgp Qap ha118) (Qgo Qap ha118 (by decide)) (Qgn Qap) rfl rfl,tv⟩ ?_
      obtain⟨hz119,h⟩:=cko h
      obtain⟨ha120,h⟩:=cko h
      refine wx1 tbk [(3,rp [(.tmp 124,(I (w64 (97+y105))))] (K .u8 (IntKind.wrap .u8 (w64 (97+y105))))),(4,rp [(.tmp 125,(K .u8 (IntKind.wrap .u8 (w64 (97+y105)))))] (Qpv y105)),(5,rp [(.tmp 126,(Qpv y105))] (Sx (strOfNums [IntKind.wrap .u8 (w64 (97+y105))]))),(6,rp [((.const (.string (.mk #[109]))),(Sx (⟨#[109]⟩))),(.tmp 127,(Sx (strOfNums [IntKind.wrap .u8 (w64 (97+y105))])))] (Sx (ByteArray.append (⟨#[109]⟩) (strOfNums [IntKind.wrap .u8 (w64 (97+y105))])))),(13,rp [(.tmp 130,I x114.A),(.tmp 132,(I (w64 (((w64 p2).tmod 9961)+x114.B)))),(.tmp 134,(I (w64 (((w64 p3).tmod 961)+x114.C))))] (Qmx x114 p2 p3)),(14,rp _ _),(15,rp [(.tmp 136,(Qpr y105 x114 p2 p3))] (Qpq y105 x114 p2 p3)),(16,⟨[(.tmp 122,(.acc 2 42 2 (y111.map Qae))),(.tmp 137,(Qpq y105 x114 p2 p3))],[(2,.tok),(6,.unused)],(Qpp y111 y105 x114 p2 p3),[(2,.dead),(6,.tok)],false⟩)] ⟨acv rfl (by rw[underlying3];rfl) underlying5,Qbn (vs:=[(K .u8 (IntKind.wrap .u8 (w64 (97+y105))))]) rfl underlying39 ti5 tz5 rfl (by decide) rfl (by decide) (by rfl) (by rfl) (by rfl) rfl,Qjn (l:=[IntKind.wrap .u8 (w64 (97+y105))]) rfl underlying39 underlying5 underlying9 rfl (by simp),Qmn rfl hz119,Qbn (vs:=[I x114.A,(I (w64 (((w64 p2).tmod 9961)+x114.B))),(I (w64 (((w64 p3).tmod 961)+x114.C)))]) rfl underlying40 ti3 tz3 rfl (by decide) rfl (by decide) (by rfl) (by rfl) (by rfl) rfl,Qay (vs:=[(Sx (ByteArray.append (⟨#[109]⟩) (strOfNums [IntKind.wrap .u8 (w64 (97+y105))]))),(Qmx x114 p2 p3)]) rfl ts42 tz42 rfl (by rfl) rfl,Qbn (vs:=[(Qpr y105 x114 p2 p3)]) rfl underlying33 ti42 tz42 rfl (by decide) rfl (by decide) (by rfl) (by rfl) (by rfl) rfl,Qex rfl underlying33 te42 (Base.acc _ _) rfl rfl (by rfl) (Qgp Qae ha120) (Qgo Qae ha120 (by decide)) (Qgn Qae) rfl rfl,tv⟩<|bln<|thn<|wxz1<|thn ?_
      exact arm (mto (n:=296) [(0,(Qhq p0)),(1,(Qf8 p1)),(4,(K .u8 p4)),(11,(I ((w64 p2).tmod 9961))),(12,(I ((w64 p3).tmod 961))),(13,.ref 0 7 0 0),(14,.ref 1 4 0 0),(15,(Qpp y111 y105 x114 p2 p3)),(16,(Qps y112 x114 p2 p3)),(17,(I (w64 (y105+1))))] [0,1,6,5] [(Qlf p2 p3),Qdd,.tok,.tok] hq (pc (rnd Qch) (pc (rnd Qao) (pw (pw (pw (prr (prr (pc (.rn (Qax rfl (Qas Qaj _))) (pc (.rn (Qax rfl (Qas Qch _))) (pw pn)))))))))) (qb (lcc (lcc (lcc (lc rwl ln)))) (qb (lcc (lcc ln)) (qc .tok (qc .tok qn))))) (ih (y111++([(⟨ByteArray.append (⟨#[109]⟩) (strOfNums [IntKind.wrap .u8 (w64 (97+y105))]),[x114.A,w64 (((w64 p2).tmod 9961)+x114.B),w64 (((w64 p3).tmod 961)+x114.C)]⟩:Qaf)]),y112++([(⟨x114.A,w64 (((w64 p2).tmod 9961)+x114.B),w64 (((w64 p3).tmod 961)+x114.C)⟩:Qah)]),w64 (y105+1)) h)
     ·skip
      obtain⟨x121,hg122,h⟩:=bno h
      obtain⟨hi123,hj124⟩:=gsm hg122
      obtain⟨x126,hf125,h⟩:=bno h
      refine hpre (A:=(Qmu p0 y105 x121 x126)) ⟨aiq underlying22 ti37 Qap hi123 hj124,apv Qj2 (Qd8 N x121.A 0 100000 _ hf125) (nlcc (nlc nll nl0)) nll,tv⟩ fun q4_=>?_
      refine bfe h (fun hb127 h=>?_) fun hb127 h=>?_
      ·refine wx tbk (hcat (Qmu p0 y105 x121 x126) [(7,rp [(.tmp 78,(B ((!x126))))] (B true))]) (hap q4_ ⟨asb hb127 (amv rfl),tv⟩)<|wtr ?_
       obtain⟨x129,hf128,h⟩:=bno h
       exact wx tbk [(0,rp _ _)] ⟨apw Qg4 (Qcs 2000  _ hf128),tv⟩<|Qad<|Qac<|Qag<|Qac<|Qac<|Qag<|Qac<|frb h
      ·obtain⟨x131,hf130,h⟩:=bno h
       refine hpre (A:=(Qmt p0 y105 x121 x126 x131)) (hap q4_ ⟨asb hb127 (amv rfl),ag_ (aiq underlying22 ti37 Qap hi123 hj124),ag_ (apv Qj2 (Qd8 N x121.B 0 39 _ hf130) (nlcc (nlc nll nl0)) nll),tv⟩) fun q5_=>?_
       refine bfe h (fun hb132 h=>?_) fun hb132 h=>?_
       ·refine wx tbk (hcat (Qmt p0 y105 x121 x126 x131) [(16,rp [(.tmp 87,(B ((!x131))))] (B true))]) (hap q5_ ⟨asb hb132 (amv rfl),tv⟩)<|wtr ?_
        obtain⟨x134,hf133,h⟩:=bno h
        exact wx tbk [(0,rp _ _)] ⟨apw Qg4 (Qcs 2000  _ hf133),tv⟩<|Qad<|Qac<|Qag<|Qac<|Qac<|Qag<|Qac<|frb h
       ·obtain⟨x136,hf135,h⟩:=bno h
        refine wx tbk (hcat (Qmt p0 y105 x121 x126 x131) [(16,rp [(.tmp 87,(B ((!x131))))] (B false)),(19,rp [(.tmp 88,B false),(.tmp 89,(Qhq p0)),(.tmp 90,I y105)] (.dptr (Qap x121) 0)),(22,rp [(.tmp 88,B false),fu 5,(.tmp 93,I x121.C),ci 0,ci 39] (B x136))]) (hap q5_ ⟨asb hb132 (amv rfl),ag_ (aiq underlying22 ti37 Qap hi123 hj124),ag_ (apv Qj2 (Qd8 N x121.C 0 39 _ hf135) (nlcc (nlc nll nl0)) nll),tv⟩) ?_
        refine bfe h (fun hc137 h=>?_) fun hc137 h=>?_
        ·refine wft hc137 ?_
         obtain⟨x139,hf138,h⟩:=bno h
         exact wx tbk [(0,rp _ _)] ⟨apw Qg4 (Qcs 2000  _ hf138),tv⟩<|Qad<|Qac<|Qag<|Qac<|Qac<|Qag<|Qac<|frb h
        ·exact wfn hc137<|Qai<|thn<|⟨(y103,y104),h,(mto (n:=296) [(0,(Qhq p0)),(1,(Qf8 p1)),(4,(K .u8 p4)),(11,(I ((w64 p2).tmod 9961))),(12,(I ((w64 p3).tmod 961))),(13,.ref 0 7 0 0),(14,.ref 1 4 0 0),(15,(.acc 2 42 2 (y103.map Qae))),(16,(.acc 3 38 3 (y104.map Qap))),(17,I y105)] [0,1,2,3] [(Qlf p2 p3),Qdd,.tok,.tok] hq (pc (rnd Qch) (pc (rnd Qao) (pw (pw (pw (prr (prr (pc (.rn (Qax rfl (Qas Qaj _))) (pc (.rn (Qax rfl (Qas Qch _))) (pw pn)))))))))) (qb (lcc (lcc (lcc (lc rwl ln)))) (qb (lcc (lcc ln)) (qc .tok (qc .tok qn)))))⟩
    ·exact wfn hc110<|Qcp<|Qbf<|Qbf<|Qco rfl<|thn<|⟨(y103,y104),h,(mto (n:=296) [(1,(Qf8 p1)),(4,(K .u8 p4)),(13,.ref 0 7 0 0),(14,.ref 1 4 0 0),(15,(.acc 2 42 2 (y103.map Qae))),(16,(.acc 3 38 3 (y104.map Qap)))] [0,1,2,3] [(Qlf p2 p3),Qdd,.tok,.tok] hq (pc (rnd Qao) (pw (prr (prr (pc (.rn (Qax rfl (Qas Qaj _))) (pc (.rn (Qax rfl (Qas Qch _))) pn)))))) (qb (lcc (lcc (lcc (lc rwl ln)))) (qb (lcc (lcc ln)) (qc .tok (qc .tok qn)))))⟩
  ·skip
   refine hpre (A:=(Qms p0)) ⟨alq 3 Qap p0 underlying22,tv⟩ fun q6_=>?_
   refine bfe h (fun hb140 h=>?_) fun hb140 h=>?_
   ·refine wx tbk (hcat (Qms p0) [(3,rp [(.tmp 37,(B ((decide ((p0.length:Int)<1)))))] (B true))]) (hap q6_ ⟨asb hb140 (amv rfl),tv⟩)<|wtr ?_
    obtain⟨x142,hf141,h⟩:=bno h
    exact wx tbk [(0,rp _ _)] ⟨apw Qg4 (Qcs 2000  _ hf141),tv⟩<|Qad<|Qac<|frb h
   ·refine hpre (A:=(Qmr p0)) (hap q6_ ⟨asb hb140 (amv rfl),ag_ (alq 3 Qap p0 underlying22),tv⟩) fun q7_=>?_
    refine bfe h (fun hb143 h=>?_) fun hb143 h=>?_
    ·refine wx tbk (hcat (Qmr p0) [(8,rp [(.tmp 42,(B ((decide ((p0.length:Int)>20)))))] (B true))]) (hap q7_ ⟨asb hb143 (amv rfl),tv⟩)<|wtr ?_
     obtain⟨x145,hf144,h⟩:=bno h
     exact wx tbk [(0,rp _ _)] ⟨apw Qg4 (Qcs 2000  _ hf144),tv⟩<|Qad<|Qac<|frb h
    ·refine wx tbk (hcat (Qmr p0) [(8,rp [(.tmp 42,(B ((decide ((p0.length:Int)>20)))))] (B false)),(10,rp [(.tmp 43,B false),(.tmp 44,(Qf8 p1))] (I ((p1.length:Int))))]) (hap q7_ ⟨asb hb143 (amv rfl),ag_ (alq 3 Qbc p1 underlying23),tv⟩) ?_
     refine bfe h (fun hc146 h=>?_) fun hc146 h=>?_
     ·refine wft hc146 ?_
      obtain⟨x148,hf147,h⟩:=bno h
      exact wx tbk [(0,rp _ _)] ⟨apw Qg4 (Qcs 2000  _ hf147),tv⟩<|Qad<|Qac<|frb h
     ·exact wfn hc146<|Qai<|thn<|⟨(),h,(mto (n:=296) [(0,(Qhq p0)),(1,(Qf8 p1)),(2,(K .u16 p2)),(3,(K .u16 p3)),(4,(K .u8 p4))] [] [] hq (pc (rnd Qch) (pc (rnd Qao) (pw (pw (pw pn))))) qn)⟩
end
section
theorem Qb7 {x:Int}(h:-9223372036854775808≤x) (h':x≤9223372036854775807):w64 x=x:=by
 unfold w64
 rw[IntKind.wrap_i64]
 omega
theorem Qd2 {α:Type}{l:List α}{i:Nat}{x:α}(h:l[i]? = some x):getI l (i:Int)=some x:=by
 simp[getI,h]
def btw (a lo hi:Int):Bool:=decide (lo≤a)&&decide (a≤hi)
theorem Qdy {a lo hi:Int}:btw a lo hi=true↔lo≤a∧a≤hi:=by simp[btw]
theorem Qdx {α:Type}{t:List α}{i:Nat}{a:α}{l:List α}(h:t.drop i=a::l):t[i]? = some a∧t.drop (i+1)=l∧i<t.length:=by
 have hlt:i<t.length:=by
  rcases Nat.lt_or_ge i t.length with h' |h'
  ·exact h'
  ·rw[List.drop_eq_nil_of_le h'] at h;cases h
 rw[List.drop_eq_getElem_cons hlt] at h
 simp only[List.cons.injEq] at h
 exact⟨by rw[List.getElem?_eq_getElem hlt,h.1],h.2,hlt⟩
theorem Qeh {α:Type}{t:List α}{i:Nat}(h:t.drop i=[]):t.length≤i:=List.drop_eq_nil_iff.1 h
end
section
theorem Qk4 {α:Type}{F:Nat→Int→List ByteArray→Option Int}{p:List α}{q:α→Option (ByteArray×Int)}{nm:α→ByteArray}{k:Unit→Option Int}
  (h:∀n y s,F (n+1) y s=bif decide (y<(p.length:Int)) then(getI p y).bind fun x=>(q x).bind fun e=>bif (e.2 != 0) then some e.2 else bif s.contains e.1 then some 6 else F n (w64 (y+1)) (addS s e.1) else k ())
  (hq:∀x∈p,q x=some (nm x,0)) (hd:(p.map nm).Nodup) (hk:k ()=some 0) (hl:p.length≤1000):∀(n i:Nat),(p.drop i).length<n→F n i ((p.take i).map nm)=some 0:=by
 intro n
 induction n with
 |zero=>intro i h;exact absurd h (Nat.not_lt_zero _)
 |succ n ih=>
  intro i hn
  rw[h]
  cases hdr:p.drop i with
  |nil=>
   have:=Qeh hdr
   rw[decide_eq_false (show ¬((i:Int)<(p.length:Int)) by omega),cond_false,hk]
  |cons a l=>
   obtain⟨h1,h2,h3⟩:=Qdx hdr
   rw[decide_eq_true (show(i:Int)<(p.length:Int) by omega),cond_true,Qd2 h1,Option.bind_some,hq a (List.mem_of_getElem? h1),Option.bind_some]
   dsimp only
   rw[show((0:Int) != 0)=false from rfl,cond_false]
   have hc:((p.take i).map nm).contains (nm a)=false:=by
    have he:p.map nm=(p.take i).map nm++nm a::l.map nm:=by
     conv=>lhs;rw[←List.take_append_drop i p,hdr]
     simp
    rw[he] at hd
    rw[List.nodup_append] at hd
    cases hcc:((p.take i).map nm).contains (nm a) with
    |false=>rfl
    |true=>
     have hm:nm a∈(p.take i).map nm:=by simpa using hcc
     exact absurd rfl (hd.2.2 (nm a) hm (nm a) List.mem_cons_self)
   rw[hc,cond_false,Qb7 (x:=(i:Int)+1) (by omega) (by omega),show(i:Int)+1=((i+1:Nat):Int) by omega]
   unfold addS
   rw[hc,cond_false]
   have e:(p.take i).map nm++[nm a]=(p.take (i+1)).map nm:=by rw[List.take_add_one,h1];simp
   rw[e]
   exact ih (i+1) (by rw[h2];rw[hdr] at hn;simp at hn;omega)
def Qg7 (x:Qab) (s:Int):Int:=if s>x.In.Hi then s-x.In.Hi else if s<x.In.Lo then s-x.In.Lo else 0
def okM (S:Qab→Qaf→Int) (l:List Qab) (m:Qaf):Bool:=l.all fun x=>decide (x.In.Lo≤S x m)&&decide (S x m≤x.In.Hi)
def Qea (ok:Qaf→Bool):Nat→List Qaf→List Int
 |_,[]=>[]
 |k,m::ms=>bif ok m then(k:Int)::Qea ok (k+1) ms else Qea ok (k+1) ms
theorem Qrh {x:Qab}{s:Int}:(Qg7 x s != 0)=!(decide (x.In.Lo≤s)&&decide (s≤x.In.Hi)):=by
 unfold Qg7
 by_cases h1:s>x.In.Hi
 ·rw[if_pos h1,decide_eq_false (show ¬s≤x.In.Hi by omega),Bool.and_false]
  exact bne_iff_ne.2 (by omega)
 ·rw[if_neg h1,decide_eq_true (show s≤x.In.Hi by omega),Bool.and_true]
  by_cases h2:s<x.In.Lo
  ·rw[if_pos h2,decide_eq_false (by omega)];exact bne_iff_ne.2 (by omega)
  ·rw[if_neg h2,decide_eq_true (by omega)];rfl
section
variable {N : Nat} {F : Qam} {S : Qab → Qaf → Int} {l : List Qab} {m : Qaf}
structure Qpn (N:Nat) (F:Qam) (S:Qab→Qaf→Int) (x:Qab) (m:Qaf):Prop where
 run:Qbh N ⟨F,x.Kind,x.Blocks,x.Weights⟩ m=some (S x m)
 bd:-10000000000≤S x m∧S x m≤10000000000
 lo:-10000000000≤x.In.Lo
 le:x.In.Lo≤x.In.Hi
 hi:x.In.Hi≤10000000000
theorem Qtk {x:Qab}(h:Qpn N F S x m):Qda N ⟨x.In.Lo,x.In.Hi⟩ (S x m)=some (Qg7 x (S x m)):=by
 obtain⟨_,b,l1,l2,l3⟩:=h
 unfold Qda Qg7
 dsimp only
 by_cases h1:S x m>x.In.Hi
 ·rw[decide_eq_true h1,cond_true,if_pos h1,Qb7 (by omega) (by omega)]
 ·rw[decide_eq_false h1,cond_false,if_neg h1]
  by_cases h2:S x m<x.In.Lo
  ·rw[decide_eq_true h2,cond_true,if_pos h2,Qb7 (by omega) (by omega)]
  ·rw[decide_eq_false h2,cond_false,if_neg h2]
theorem Qng (hS:∀x∈l,Qpn N F S x m) (hl:l.length≤1000) (k:List Int→Option (List Int)):∀(n i:Nat),(l.drop i).length<n→i≤l.length →
  Qbk N F m l k n i ((l.take i).map (fun x=>Qg7 x (S x m))++List.replicate (l.length-i) 0)=k (l.map fun x=>Qg7 x (S x m)):=by
 intro n
 induction n with
 |zero=>intro i h;exact absurd h (Nat.not_lt_zero _)
 |succ n ih=>
  intro i hn hi
  rw[Qbk]
  cases hdr:l.drop i with
  |nil=>
   have:=Qeh hdr
   rw[decide_eq_false (show ¬((i:Int)<(l.length:Int)) by omega),cond_false,show l.length-i=0 by omega,List.take_of_length_le this,List.replicate_zero,List.append_nil]
  |cons a q=>
   obtain⟨h1,h2,h3⟩:=Qdx hdr
   have hs:=hS a (List.mem_of_getElem? h1)
   have hlen:((l.take i).map fun x=>Qg7 x (S x m)).length=i:=by simp;omega
   rw[decide_eq_true (show(i:Int)<(l.length:Int) by omega),cond_true,Qd2 h1,Option.bind_some]
   unfold Qcc chk
   rw[Option.bind_some,hs.run,Option.bind_some,Qtk hs,Option.bind_some,show(decide ((0:Int)≤(i:Int))&&decide ((i:Int).toNat<(l.length:Int).toNat))=true from by simp;omega,cond_true,Int.toNat_natCast]
   rw[List.getElem?_append_right (by omega),hlen,Nat.sub_self,show l.length-i=(l.length-(i+1))+1 by omega,List.replicate_succ,List.getElem?_cons_zero,Option.bind_some,List.set_append_right _ _ (by omega),hlen,Nat.sub_self,List.set_cons_zero,Qb7 (x:=(i:Int)+1) (by omega) (by omega),show(i:Int)+1=((i+1:Nat):Int) by omega]
   have e:(l.take i).map (fun x=>Qg7 x (S x m))++Qg7 a (S a m)::List.replicate (l.length-(i+1)) 0=(l.take (i+1)).map (fun x=>Qg7 x (S x m))++List.replicate (l.length-(i+1)) 0:=by
    rw[List.take_add_one,h1];simp
   rw[e]
   exact ih (i+1) (by rw[h2];rw[hdr] at hn;simp at hn;omega) h3
theorem Qrg (hS:∀x∈l,Qpn N F S x m) (hl:l.length≤1000) (hN:1001≤N):Qc1 N F m l=some (l.map fun x=>Qg7 x (S x m)):=by
 unfold Qc1 Qdc
 dsimp only
 have:=Qng hS hl (fun y4=>chk (decide ((l.length:Int).toNat≤y4.length))<|some (y4.take (l.length:Int).toNat)) N 0 (by simp;omega) (Nat.zero_le _)
 rw[List.take_zero,List.map_nil,List.nil_append,Nat.sub_zero,show((0:Nat):Int)=0 from rfl] at this
 unfold chk at this ⊢
 rw[show(decide (0≤(l.length:Int))&&decide (8*(l.length:Int)≤281474976710656)&&decide ((l.length:Int)≤9223372036854775807))=true from by simp;omega,cond_true,Int.toNat_natCast]
 rw[Int.toNat_natCast] at this
 rw[this,decide_eq_true (by simp),cond_true,List.take_of_length_le (by simp)]
theorem Qtn (N:Nat) (p:List Int) (hl:p.length≤1000):∀(n i:Nat),(p.drop i).length<n→∃x:Int,Qau N p (fun _=>some (-1)) n i=some x∧decide (x≥0)=(p.drop i).any (fun z=>z != 0)∧(x≥0→x.toNat<p.length):=by
 intro n
 induction n with
 |zero=>intro i h;exact absurd h (Nat.not_lt_zero _)
 |succ n ih=>
  intro i hn
  rw[Qau]
  cases hdr:p.drop i with
  |nil=>
   have:=Qeh hdr
   exact⟨-1,by rw[decide_eq_false (show ¬((i:Int)<(p.length:Int)) by omega),cond_false],rfl,fun h=>by omega⟩
  |cons a q=>
   obtain⟨h1,h2,h3⟩:=Qdx hdr
   rw[decide_eq_true (show(i:Int)<(p.length:Int) by omega),cond_true,Qd2 h1,Option.bind_some,List.any_cons]
   unfold Qd5
   rw[Option.bind_some]
   cases ha:(a != 0) with
   |true=>exact⟨i,rfl,by rw[Bool.true_or];exact decide_eq_true (by omega),fun _=>by omega⟩
   |false=>
    obtain⟨x,e,hx,hb⟩:=ih (i+1) (by rw[h2];rw[hdr] at hn;simp at hn;omega)
    rw[h2] at hx
    exact⟨x,by rw[cond_false,Qb7 (x:=(i:Int)+1) (by omega) (by omega),show(i:Int)+1=((i+1:Nat):Int) by omega,e],by rw[Bool.false_or];exact hx,hb⟩
theorem Qlk {ms:List Qaf}(hS:∀x∈l,∀m∈ms,Qpn N F S x m) (hl:l.length≤1000) (hm:ms.length≤1000) (hN:1001≤N) (k:List Int×List Qb1→Option (List Int×List Qb1×Int)):∀(n i:Nat) (L:List Int) (st:List Qb1),(ms.drop i).length<n→L.length≤i→st.length≤i →
  ∃st',Qbt N F ms l k n L st i=k (L++Qea (okM S l) i (ms.drop i),st'):=by
 intro n
 induction n with
 |zero=>intro i _ _ h;exact absurd h (Nat.not_lt_zero _)
 |succ n ih=>
  intro i L st hn hL hst
  rw[Qbt]
  cases hdr:ms.drop i with
  |nil=>
   have:=Qeh hdr
   exact⟨st,by rw[decide_eq_false (show ¬((i:Int)<(ms.length:Int)) by omega),cond_false,Qea,List.append_nil]⟩
  |cons a q=>
   obtain⟨h1,h2,h3⟩:=Qdx hdr
   have ha:=List.mem_of_getElem? h1
   rw[decide_eq_true (show(i:Int)<(ms.length:Int) by omega),cond_true,Qd2 h1,Option.bind_some,Qrg (fun x hx=>hS x hx a ha) hl hN,Option.bind_some]
   have hw:w64 ((i:Int)+1)=((i+1:Nat):Int):=Qb7 (by omega) (by omega)
   have hlen:(l.map fun x=>Qg7 x (S x a)).length=l.length:=List.length_map _
   obtain⟨x,e,hx,hb⟩:=Qtn N (l.map fun x=>Qg7 x (S x a)) (by omega) N 0 (by simp;omega)
   rw[show((0:Nat):Int)=0 from rfl] at e
   unfold Qce Qdc
   dsimp only
   rw[e,Option.bind_some]
   have hok:decide (x≥0)=!okM S l a:=by
    rw[hx,List.drop_zero,List.any_map]
    unfold okM
    rw[List.not_all_eq_any_not]
    have hc:∀z∈l,((fun z:Int=>z != 0) ∘ fun x=>Qg7 x (S x a)) z=!(decide (z.In.Lo≤S z a)&&decide (S z a≤z.In.Hi)):=fun z hz=>Qrh
    rw[Bool.eq_iff_iff,List.any_eq_true,List.any_eq_true]
    exact⟨fun ⟨z,hz,h⟩=>⟨z,hz,(hc z hz)▸h⟩,fun ⟨z,hz,h⟩=>⟨z,hz,(hc z hz).symm▸h⟩⟩
   rw[Qea]
   cases ho:okM S l a with
   |true=>
    rw[ho] at hok
    rw[hok,Bool.not_true,cond_false,cond_true]
    unfold chk
    rw[show decide ((L.length+([(i:Int)]).length)*8≤140737488355328)=true from by simp;omega,cond_true,hw]
    obtain⟨st',e'⟩:=ih (i+1) (L++[(i:Int)]) st (by rw[h2];rw[hdr] at hn;simp at hn;omega) (by simp;omega) (by omega)
    exact⟨st',by rw[e',h2,List.append_assoc];rfl⟩
   |false=>
    rw[ho] at hok
    have hx0:x≥0:=of_decide_eq_true hok
    have hxl:=hb hx0
    obtain⟨v,hg⟩:∃v,getI (l.map fun x=>Qg7 x (S x a)) x=some v:=by
     have:=Qd2 (i:=x.toNat) (List.getElem?_eq_getElem hxl)
     rw[Int.toNat_of_nonneg hx0] at this
     exact⟨_,this⟩
    rw[hok,Bool.not_false,cond_true,cond_false,hg,Option.bind_some]
    unfold chk
    rw[show ∀z:Qb1,decide ((st.length+([z]).length)*24≤140737488355328)=true from fun z=>by simp;omega,cond_true,hw]
    obtain⟨st',e'⟩:=ih (i+1) L (st++[(⟨(i:Int),x,v⟩:Qb1)]) (by rw[h2];rw[hdr] at hn;simp at hn;omega) (by omega) (by simp;omega)
    exact⟨st',by rw[e',h2]⟩
theorem Qow {ms:List Qaf}(hF:Qb6 N F=some 0) (hM:∀m∈ms,Qbm N F m=some 0) (hMd:(ms.map fun m=>m.Name).Nodup) (hm1:1≤ms.length) (hm:ms.length≤40)
  (hX:∀x∈l,Qbu N F x=some 0) (hXd:(l.map fun x=>x.Name).Nodup) (hl:l.length≤12) (hS:∀x∈l,∀m∈ms,Qpn N F S x m) (hN:1001≤N):∃st,Qdo N F ms l=some (Qea (okM S l) 0 ms,st,0):=by
 have e1:Qba N ms F.X F.Y F.Z F.Kinds=some 0:=by
  unfold Qba Qdc
  exact Qk4 (F:=Qa1 N ms F.X (fun _=>some 0) F.Y F.Z F.Kinds) (q:=fun x=>Qbp N x F.X F.Y F.Z F.Kinds) (nm:=fun m=>m.Name) (k:=fun _=>some 0) (fun n y s=>rfl)
   (fun x hx=>by unfold Qbp;rw[hM x hx,Option.bind_some]) hMd rfl (by omega) N 0 (by simp;omega)
 have e2:Qby N l F.X F.Y F.Z F.Kinds=some 0:=by
  unfold Qby Qdc
  exact Qk4 (F:=Qa3 N l F.X (fun _=>some 0) F.Y F.Z F.Kinds) (q:=fun x=>Qb8 N x F.X F.Y F.Z F.Kinds) (nm:=fun m=>m.Name) (k:=fun _=>some 0) (fun n y s=>rfl)
   (fun x hx=>by unfold Qb8;rw[hX x hx,Option.bind_some]) hXd rfl (by omega) N 0 (by simp;omega)
 have e3:Qbj N F ms=some 0:=by
  unfold Qbj Qbw
  rw[decide_eq_true (show(1:Int)≤(ms.length:Int) by omega),cond_true,decide_eq_true (show(ms.length:Int)≤40 by omega),Option.bind_some,Bool.not_true,cond_false,e1,Option.bind_some]
 have e4:Qcd N F l=some 0:=by
  unfold Qcd
  rw[decide_eq_false (show ¬((l.length:Int)>12) by omega),cond_false,e2,Option.bind_some]
 have e5:Qfg N F ms l=some 0:=by
  unfold Qfg Qer Qee Qed Qdc
  show(((Qb6 N F).bind _).bind _:Option Int)=_
  rw[hF,Option.bind_some,show((0:Int) != 0)=false from rfl,cond_false,show Qbj N ⟨F.X,F.Y,F.Z,F.Kinds⟩ ms=some 0 from e3,Option.bind_some,Option.bind_some,show((0:Int) != 0)=false from rfl,cond_false,show Qcd N ⟨F.X,F.Y,F.Z,F.Kinds⟩ l=some 0 from e4,Option.bind_some,Option.bind_some]
  rfl
 unfold Qdo Qdc
 dsimp only
 rw[e5,Option.bind_some,show((0:Int) != 0)=false from rfl,cond_false]
 obtain⟨st,e⟩:=Qlk hS (by omega) (by omega) hN (fun x=>some (x.1,x.2,0)) N 0 [] [] (by simp;omega) (Nat.le_refl _) (Nat.le_refl _)
 refine⟨st,?_⟩
 rw[show((0:Nat):Int)=0 from rfl,List.drop_zero,List.nil_append] at e
 exact e
end
end
section
theorem Qci {κ β:Type}(k:κ) (f:κ→Option β):Qdc k f=f k:=by rw[Qdc]
theorem Qes:Qcy 2000=some true:=by decide +kernel
theorem Qgq (N:Nat) (a lo hi:Int):Qdf N a lo hi=some (btw a lo hi):=by
 unfold Qdf btw
 by_cases h:lo≤a<;>simp[h]
theorem Qgr (N:Nat) (a lo hi:Int):Qbw N a lo hi=some (btw a lo hi):=by
 unfold Qbw btw
 by_cases h:lo≤a<;>simp[h]
theorem Qo3 (N:Nat) (a lo hi:Int):Qd3 N a lo hi=some (btw a lo hi):=by
 unfold Qd3 btw
 by_cases h:lo≤a<;>simp[h]
def rgB (r:Qaa) (lo hi:Int):Bool:=decide (lo≤r.Lo)&&decide (r.Lo≤r.Hi)&&decide (r.Hi≤hi)
theorem Qht {r:Qaa}{lo hi:Int}:rgB r lo hi=true↔lo≤r.Lo∧r.Lo≤r.Hi∧r.Hi≤hi:=by simp[rgB,and_assoc]
theorem Qln (N:Nat) (r:Qaa) (lo hi:Int):Qb4 N r lo hi=some (rgB r lo hi):=by
 unfold Qb4 rgB
 by_cases h:lo≤r.Lo<;>by_cases h':r.Lo≤r.Hi<;>simp[h,h']
theorem Qq4 (N:Nat) (r:Qaa) (lo hi:Int):Qd7 N r lo hi=some (rgB r lo hi):=by
 unfold Qd7
 rw[Qo3,Option.bind_some,Qo3]
 cases h:rgB r lo hi with
 |true=>
  obtain⟨h1,h2,h3⟩:=Qht.1 h
  rw[Qdy.2 ⟨h1,by omega⟩,cond_true,Option.bind_some,Qdy.2 ⟨by omega,h3⟩,cond_true,decide_eq_true h2]
 |false=>
  have hn:¬(lo≤r.Lo∧r.Lo≤r.Hi∧r.Hi≤hi):=fun hh=>by rw[Qht.2 hh] at h;cases h
  cases h1:btw r.Lo lo hi with
  |false=>rfl
  |true=>
   rw[cond_true,Option.bind_some]
   cases h2:btw r.Hi lo hi with
   |false=>rfl
   |true=>
    have:=Qdy.1 h1
    have:=Qdy.1 h2
    rw[cond_true,decide_eq_false (fun h3=>hn ⟨by omega,h3,by omega⟩)]
theorem Qlx {x y a b:Int}(hx:0≤x∧x≤a) (hy:0≤y∧y≤b):0≤x*y∧x*y≤a*b:=
 ⟨Int.mul_nonneg hx.1 hy.1,Int.mul_le_mul hx.2 hy.2 hy.1 (Int.le_trans hx.1 hx.2)⟩
def dr (A B C q:Int):Int:=A+B*q+C*q*q
theorem Qr2 {A B C q:Int}(hA:0≤A∧A≤100000) (hB:0≤B∧B≤10000) (hC:0≤C∧C≤1000) (hq:0≤q∧q≤31):(0≤B*q∧B*q≤310000)∧(0≤C*q∧C*q≤31000)∧(0≤C*q*q∧C*q*q≤961000)∧0≤dr A B C q∧dr A B C q≤1371000:=by
 have h1:=Qlx hB hq
 have h2:=Qlx hC hq
 have h3:=Qlx (a:=31000) ⟨h2.1,by omega⟩ hq
 unfold dr
 omega
theorem Qnk (N:Nat) {A B C q:Int}(hA:0≤A∧A≤100000) (hB:0≤B∧B≤10000) (hC:0≤C∧C≤1000) (hq:0≤q∧q≤31):Qcb N ⟨A,B,C⟩ q=some (dr A B C q):=by
 obtain⟨h1,h2,h3,h4⟩:=Qr2 hA hB hC hq
 unfold dr at h4
 unfold Qcb dr
 dsimp only
 rw[Option.bind_some,Qb7 (x:=B*q) (by omega) (by omega),Qb7 (x:=C*q) (by omega) (by omega),Qb7 (x:=C*q*q) (by omega) (by omega),Qb7 (x:=A+B*q) (by omega) (by omega),Qb7 (by omega) (by omega)]
structure StpV (s:Qbd):Prop where
 q:0≤s.Flow∧s.Flow≤31
 lo:-2000000000≤s.In.Lo
 le:s.In.Lo≤s.In.Hi
 hi:s.In.Hi≤2000000000
def tst (b c:Int) (l:List Qbd):Qa4:=⟨⟨0,100000⟩,⟨b,b+39⟩,⟨c,c+39⟩,l⟩
section
variable {b c : Int} {l : List Qbd}
theorem Qpb (N:Nat) (t:Qa4) (ht:t.Steps=l) (hs:∀s∈l,StpV s) (hl:l.length≤12) (k:Unit→Option Int):∀(n i:Nat),(l.drop i).length<n→Qbv N t k n i=k ():=by
 intro n
 induction n with
 |zero=>intro i h;exact absurd h (Nat.not_lt_zero _)
 |succ n ih=>
  intro i hn
  rw[Qbv,ht]
  cases hd:l.drop i with
  |nil=>
   have:=Qeh hd
   rw[decide_eq_false (show ¬((i:Int)<(l.length:Int)) by omega),cond_false]
  |cons a q=>
   obtain⟨h1,h2,h3⟩:=Qdx hd
   obtain⟨g1,g2,g3,g4⟩:=hs a (List.mem_of_getElem? h1)
   rw[decide_eq_true (show(i:Int)<(l.length:Int) by omega),cond_true,Qd2 h1,Option.bind_some,Qgq,Qdy.2 ⟨g1.1,show a.Flow≤1000 by omega⟩,Option.bind_some,Bool.not_true,cond_false]
   unfold Qdr
   rw[Qln,Qht.2 ⟨g2,g3,g4⟩,Option.bind_some,Option.bind_some,Bool.not_true,cond_false,Qb7 (x:=(i:Int)+1) (by omega) (by omega),show(i:Int)+1=((i+1:Nat):Int) by omega]
   exact ih (i+1) (by rw[h2];rw[hd] at hn;simp at hn;omega)
theorem Qoh (hb:0≤b∧b≤9960) (hc:0≤c∧c≤960) (hs:∀s∈l,StpV s) (hl:l.length≤12):Qcm 2000 (tst b c l)=some 0:=by
 unfold Qcm
 rw[Qci,Qci]
 show(bif decide ((l.length:Int)>12) then _ else _)=_
 rw[decide_eq_false (show ¬((l.length:Int)>12) by omega),cond_false]
 simp only[Qln,Option.bind_some]
 unfold tst
 dsimp only
 rw[show rgB (⟨0,100000⟩:Qaa) 0 100000=true from rfl,Bool.not_true,cond_false,Qht.2 ⟨show 0≤b by omega,show b≤b+39 by omega,show b+39≤10000 by omega⟩,Bool.not_true,cond_false,Qht.2 ⟨show 0≤c by omega,show c≤c+39 by omega,show c+39≤1000 by omega⟩,Bool.not_true,cond_false]
 rw[show b+39-b=39 by omega,show c+39-c=39 by omega,show decide (w64 39≥40)=false from by decide,cond_false,cond_false]
 have:=Qpb (l:=l) 2000 ⟨⟨0,100000⟩,⟨b,b+39⟩,⟨c,c+39⟩,l⟩ rfl hs hl (fun _=>some 0) 2000 0 (by simp;omega)
 exact this
def agB (l:List Qbd) (A B C:Int):Bool:=l.all fun s=>btw (dr A B C s.Flow) s.In.Lo s.In.Hi
theorem Qnw (N:Nat) (t:Qa4) (ht:t.Steps=l) (hs:∀s∈l,StpV s) (hl:l.length≤12) {A B C:Int}(hA:0≤A∧A≤100000) (hB:0≤B∧B≤10000) (hC:0≤C∧C≤1000) (k:Unit→Option Bool) (hk:k ()=some true):∀(n i:Nat),(l.drop i).length<n→Qca N t ⟨A,B,C⟩ k n i=some (agB (l.drop i) A B C):=by
 intro n
 induction n with
 |zero=>intro i h;exact absurd h (Nat.not_lt_zero _)
 |succ n ih=>
  intro i hn
  rw[Qca,ht]
  cases hd:l.drop i with
  |nil=>
   have:=Qeh hd
   rw[decide_eq_false (show ¬((i:Int)<(l.length:Int)) by omega),cond_false,hk]
   rfl
  |cons a q=>
   obtain⟨h1,h2,h3⟩:=Qdx hd
   obtain⟨g1,g2,g3,g4⟩:=hs a (List.mem_of_getElem? h1)
   unfold Qcl
   rw[decide_eq_true (show(i:Int)<(l.length:Int) by omega),cond_true,Qd2 h1,Option.bind_some,Qnk N hA hB hC g1,Option.bind_some,Qgq,Option.bind_some,Option.bind_some]
   unfold agB
   rw[List.all_cons]
   cases h:btw (dr A B C a.Flow) a.In.Lo a.In.Hi with
   |false=>rfl
   |true=>
    rw[Bool.not_true,cond_false,Qb7 (x:=(i:Int)+1) (by omega) (by omega),show(i:Int)+1=((i+1:Nat):Int) by omega,ih (i+1) (by rw[h2];rw[hd] at hn;simp at hn;omega),h2,Bool.true_and]
    rfl
theorem Qsj (hb:0≤b∧b≤9960) (hc:0≤c∧c≤960) (hs:∀s∈l,StpV s) (hl:l.length≤12) {A B C:Int}(hA:0≤A∧A≤100000) (hB:b≤B∧B≤b+39) (hC:c≤C∧C≤c+39):Qdz 2000 (tst b c l) ⟨A,B,C⟩=some (agB l A B C):=by
 unfold Qdz
 rw[Qci]
 show((Qcm 2000 (tst b c l)).bind _)=_
 rw[Qoh hb hc hs hl,Option.bind_some,show((0:Int) != 0)=false from rfl,cond_false]
 unfold Qcl
 simp only[Qgq,Option.bind_some]
 unfold tst
 dsimp only
 rw[Qdy.2 hA,Bool.not_true,cond_false,Qdy.2 hB,Bool.not_true,cond_false,Qdy.2 hC,Bool.not_true,cond_false,Qci]
 have:=Qnw (l:=l) 2000 ⟨⟨0,100000⟩,⟨b,b+39⟩,⟨c,c+39⟩,l⟩ rfl hs hl hA (B:=B) (C:=C) (by omega) (by omega) (fun _=>some true) rfl 2000 0 (by simp;omega)
 rw[List.drop_zero] at this
 exact this
def room (B C:Int) (s:Qbd):Qaa:=⟨s.In.Lo-dr 0 B C s.Flow,s.In.Hi-dr 0 B C s.Flow⟩
def rms (l:List Qbd) (B C:Int):List Qaa:=⟨0,100000⟩::l.map (room B C)
theorem Qvc (N:Nat) {s:Qbd}(hs:StpV s) {B C:Int}(hB:0≤B∧B≤10000) (hC:0≤C∧C≤1000):Qb0 N s 0 B C=some (room B C s):=by
 obtain⟨g1,g2,g3,g4⟩:=hs
 obtain⟨_,_,_,h5,h6⟩:=Qr2 (A:=0) (by omega) hB hC g1
 unfold Qb0 Qcx room
 rw[Qnk N (A:=0) (by omega) hB hC g1,Option.bind_some,Option.bind_some]
 dsimp only
 rw[Qb7 (by omega) (by omega),Qb7 (by omega) (by omega)]
theorem Qxj (N:Nat) (hs:∀s∈l,StpV s) (hl:l.length≤12) {B C:Int}(hB:0≤B∧B≤10000) (hC:0≤C∧C≤1000) (k:List Qaa→Option (List (Qah×List Qaa))):∀(n i:Nat),(l.drop i).length<n→i≤l.length →
  Qbi N B l C k n (⟨0,100000⟩::(l.take i).map (room B C)) i=k (rms l B C):=by
 intro n
 induction n with
 |zero=>intro i h;exact absurd h (Nat.not_lt_zero _)
 |succ n ih=>
  intro i hn hi
  rw[Qbi]
  cases hd:l.drop i with
  |nil=>
   have:=Qeh hd
   rw[decide_eq_false (show ¬((i:Int)<(l.length:Int)) by omega),cond_false,List.take_of_length_le this]
   rfl
  |cons a q=>
   obtain⟨h1,h2,h3⟩:=Qdx hd
   unfold chk
   rw[decide_eq_true (show(i:Int)<(l.length:Int) by omega),cond_true,Qd2 h1,Option.bind_some]
   show((Qb0 N a 0 B C).bind _)=_
   rw[Qvc N (hs a (List.mem_of_getElem? h1)) hB hC,Option.bind_some]
   rw[decide_eq_true (by simp;omega),cond_true,Qb7 (x:=(i:Int)+1) (by omega) (by omega),show(i:Int)+1=((i+1:Nat):Int) by omega]
   have e:(⟨0,100000⟩::(l.take i).map (room B C))++[room B C a]=(⟨0,100000⟩:Qaa)::(l.take (i+1)).map (room B C):=by
    rw[List.take_add_one,h1];simp
   rw[e]
   exact ih (i+1) (by rw[h2];rw[hd] at hn;simp at hn;omega) h3
theorem Qxk (N:Nat) (hN:100≤N) (hs:∀s∈l,StpV s) (hl:l.length≤12) {B H:Int}(hB:0≤B∧B≤10000) (hH:0≤H∧H≤1000) (R:List (Qah×List Qaa)) (k:Unit→Option (List (Qah×List Qaa))) (hk:k ()=some R):∀(n m:Nat) (C:Int),m<n→0≤C→C+m=H+1 →
  ∃L,Qa8 N 0 100000 B H l k n C=some (L++R)∧∀x,x∈L↔∃C',C≤C'∧C'≤H∧x=(⟨0,B,C'⟩,rms l B C'):=by
 intro n
 induction n with
 |zero=>intro m C h;exact absurd h (Nat.not_lt_zero _)
 |succ n ih=>
  intro m C hm hC he
  rw[Qa8]
  cases m with
  |zero=>
   refine⟨[],?_,fun x=>⟨fun h=>by simp at h,fun ⟨C',h1,h2,_⟩=>by omega⟩⟩
   rw[decide_eq_false (show ¬(C≤H) by omega),cond_false,hk]
   rfl
  |succ m=>
   obtain⟨L,h1,h2⟩:=ih m (C+1) (by omega) (by omega) (by omega)
   refine⟨(⟨0,B,C⟩,rms l B C)::L,?_,fun x=>?_⟩
   ·rw[decide_eq_true (show C≤H by omega),cond_true,Qci,Qci]
    have:=Qxj (l:=l) N hs hl hB (C:=C) (by omega) (fun y17=>yld ((⟨0,B,C⟩:Qah),y17)<|Qa8 N 0 100000 B H l k n (w64 (C+1))) N 0 (by simp;omega) (Nat.zero_le _)
    rw[List.take_zero,List.map_nil] at this
    refine Eq.trans this ?_
    rw[Qb7 (by omega) (by omega),h1]
    rfl
   ·rw[List.mem_cons,h2]
    constructor
    ·rintro (rfl |⟨C',h3,h4,rfl⟩)
     ·exact⟨C,Int.le_refl _,by omega,rfl⟩
     ·exact⟨C',by omega,h4,rfl⟩
    ·rintro ⟨C',h3,h4,rfl⟩
     by_cases e:C'=C
     ·left;rw[e]
     ·right;exact⟨C',by omega,h4,rfl⟩
theorem Qxl (N:Nat) (hN:100≤N) (hs:∀s∈l,StpV s) (hl:l.length≤12) {c G:Int}(hG:0≤G∧G≤10000) (hc:0≤c∧c≤960):∀(n m:Nat) (B:Int),m<n→0≤B→B+m=G+1 →
  ∃L,Qa9 N 0 100000 G c (c+39) l n B=some L∧∀x,x∈L↔∃B' C',B≤B'∧B'≤G∧c≤C'∧C'≤c+39∧x=(⟨0,B',C'⟩,rms l B' C'):=by
 intro n
 induction n with
 |zero=>intro m B h;exact absurd h (Nat.not_lt_zero _)
 |succ n ih=>
  intro m B hm hB he
  rw[Qa9]
  cases m with
  |zero=>
   refine⟨[],?_,fun x=>⟨fun h=>by simp at h,fun ⟨B',C',h1,h2,_⟩=>by omega⟩⟩
   rw[decide_eq_false (show ¬(B≤G) by omega),cond_false]
  |succ m=>
   obtain⟨L,h1,h2⟩:=ih m (B+1) (by omega) (by omega) (by omega)
   have hw:w64 (B+1)=B+1:=Qb7 (by omega) (by omega)
   obtain⟨L2,h3,h4⟩:=Qxk (l:=l) N hN hs hl (B:=B) (H:=c+39) (by omega) (by omega) L (fun _=>Qa9 N 0 100000 G c (c+39) l n (w64 (B+1))) (by rw[hw,h1]) N 40 c (by omega) (by omega) (by omega)
   refine⟨L2++L,?_,fun x=>?_⟩
   ·rw[decide_eq_true (show B≤G by omega),cond_true,Qci]
    exact h3
   ·rw[List.mem_append,h4,h2]
    constructor
    ·rintro (⟨C',h5,h6,rfl⟩ |⟨B',C',h5,h6,h7,h8,rfl⟩)
     ·exact⟨B,C',Int.le_refl _,by omega,h5,h6,rfl⟩
     ·exact⟨B',C',by omega,h6,h7,h8,rfl⟩
    ·rintro ⟨B',C',h5,h6,h7,h8,rfl⟩
     by_cases e:B'=B
     ·left;rw[e];exact⟨C',h7,h8,rfl⟩
     ·right;exact⟨B',C',by omega,h6,h7,h8,rfl⟩
theorem Qrk (N:Nat) (r0:Qaa) (rs:List Qaa) (hl:rs.length≤100) (k:Int×Int→Option Qaa):∀(n i:Nat) (lo hi:Int),(rs.drop i).length<n →
  ∃lo' hi',Qcr N (r0::rs) k n i lo hi=k (lo',hi')∧∀A:Int,(lo'≤A↔lo≤A∧∀x∈rs.drop i,x.Lo≤A)∧(A≤hi'↔A≤hi∧∀x∈rs.drop i,A≤x.Hi):=by
 intro n
 induction n with
 |zero=>intro i _ _ h;exact absurd h (Nat.not_lt_zero _)
 |succ n ih=>
  intro i lo hi hn
  rw[Qcr,show(r0::rs).drop (1:Int).toNat=rs from rfl]
  cases hd:rs.drop i with
  |nil=>
   have:=Qeh hd
   refine⟨lo,hi,?_,fun A=>by simp⟩
   rw[decide_eq_false (show ¬((i:Int)<(rs.length:Int)) by omega),cond_false]
  |cons a q=>
   obtain⟨h1,h2,h3⟩:=Qdx hd
   obtain⟨lo',hi',e,h⟩:=ih (i+1) (if a.Lo>lo then a.Lo else lo) (if a.Hi<hi then a.Hi else hi) (by rw[h2];rw[hd] at hn;simp at hn;omega)
   refine⟨lo',hi',?_,fun A=>?_⟩
   ·rw[decide_eq_true (show(i:Int)<(rs.length:Int) by omega),cond_true,Qd2 h1,Option.bind_some,Qb7 (x:=(i:Int)+1) (by omega) (by omega),show(i:Int)+1=((i+1:Nat):Int) by omega,e]
   ·obtain⟨g1,g2⟩:=h A
    rw[h2] at g1 g2
    rw[g1,g2]
    simp only[List.forall_mem_cons]
    have e1:(if a.Lo>lo then a.Lo else lo)≤A↔lo≤A∧a.Lo≤A:=by split<;>omega
    have e2:A≤(if a.Hi<hi then a.Hi else hi)↔A≤hi∧A≤a.Hi:=by split<;>omega
    rw[e1,e2,and_assoc,and_assoc]
    exact⟨Iff.rfl,Iff.rfl⟩
theorem Qvl (r0:Qaa) (rs:List Qaa) (hl:rs.length≤100):∃r,Qej 2000 (r0::rs)=some r∧∀A:Int,(r.Lo≤A↔∀x∈r0::rs,x.Lo≤A)∧(A≤r.Hi↔∀x∈r0::rs,A≤x.Hi):=by
 obtain⟨lo,hi,e,h⟩:=Qrk 2000 r0 rs hl (fun x=>some ⟨x.1,x.2⟩) 2000 0 r0.Lo r0.Hi (by simp;omega)
 refine⟨⟨lo,hi⟩,?_,fun A=>?_⟩
 ·unfold Qej chk
  rw[show getI (r0::rs) 0=some r0 from rfl,Option.bind_some,Qci]
  rw[show(decide (0≤1)&&decide ((1:Int)≤((r0::rs).length:Int))&&decide (((r0::rs).length:Int)≤((r0::rs).length:Int)))=true from by simp;omega,cond_true]
  exact e
 ·have:=h A
  rw[List.drop_zero] at this
  simp only[List.forall_mem_cons]
  exact this
theorem Qll (l:List Qbd) (hl:l.length≤12):∀R:List (Qah×List Qaa),(∀x∈R,x.2=rms l x.1.B x.1.C)→∃L,Qa7 2000 R=some L ∧
  (∀y∈L,(0≤y.2.Lo∧y.2.Lo≤y.2.Hi∧y.2.Hi≤100000)∧∃x∈R,x.1=y.1)∧∀x∈R,∀A:Int,0≤A→A≤100000→(∀s∈l,(room x.1.B x.1.C s).Lo≤A∧A≤(room x.1.B x.1.C s).Hi)→∃y∈L,y.1=x.1∧y.2.Lo≤A∧A≤y.2.Hi
 |[],_=>⟨[],rfl,fun y h=>by simp at h,fun x h=>by simp at h⟩
 |x::R,h=>by
  obtain⟨L,e,h1,h2⟩:=Qll l hl R fun y hy=>h y (List.mem_cons_of_mem _ hy)
  obtain⟨r,er,hr⟩:=Qvl ⟨0,100000⟩ (l.map (room x.1.B x.1.C)) (by simp;omega)
  have hx:x.2=rms l x.1.B x.1.C:=h x List.mem_cons_self
  have ex:Qej 2000 x.2=some r:=by rw[hx];exact er
  have hin:∀A:Int,0≤A→A≤100000→(∀s∈l,(room x.1.B x.1.C s).Lo≤A∧A≤(room x.1.B x.1.C s).Hi)→r.Lo≤A∧A≤r.Hi:=fun A a1 a2 a3=>by
   refine⟨(hr A).1.2 fun z hz=>?_,(hr A).2.2 fun z hz=>?_⟩
   ·rcases List.mem_cons.1 hz with rfl |hz
    ·exact a1
    ·obtain⟨s,hs,rfl⟩:=List.mem_map.1 hz
     exact(a3 s hs).1
   ·rcases List.mem_cons.1 hz with rfl |hz
    ·exact a2
    ·obtain⟨s,hs,rfl⟩:=List.mem_map.1 hz
     exact(a3 s hs).2
  rw[Qa7,ex,Option.bind_some]
  by_cases hle:r.Lo≤r.Hi
  ·refine⟨(x.1,r)::L,?_,fun y hy=>?_,fun z hz A a1 a2 a3=>?_⟩
   ·rw[decide_eq_true hle,cond_true,e];rfl
   ·rcases List.mem_cons.1 hy with rfl |hy
    ·have b1:=(hr r.Lo).1.1 (Int.le_refl _) ⟨0,100000⟩ List.mem_cons_self
     have b2:=(hr r.Hi).2.1 (Int.le_refl _) ⟨0,100000⟩ List.mem_cons_self
     exact⟨⟨b1,hle,b2⟩,x,List.mem_cons_self,rfl⟩
    ·obtain⟨g1,z,g2,g3⟩:=h1 y hy
     exact⟨g1,z,List.mem_cons_of_mem _ g2,g3⟩
   ·rcases List.mem_cons.1 hz with rfl |hz
    ·exact⟨(z.1,r),List.mem_cons_self,rfl,hin A a1 a2 a3⟩
    ·obtain⟨y,g1,g2⟩:=h2 z hz A a1 a2 a3
     exact⟨y,List.mem_cons_of_mem _ g1,g2⟩
  ·refine⟨L,?_,fun y hy=>?_,fun z hz A a1 a2 a3=>?_⟩
   ·rw[decide_eq_false hle,cond_false,e]
   ·obtain⟨g1,z,g2,g3⟩:=h1 y hy
    exact⟨g1,z,List.mem_cons_of_mem _ g2,g3⟩
   ·rcases List.mem_cons.1 hz with rfl |hz
    ·have:=hin A a1 a2 a3;omega
    ·exact h2 z hz A a1 a2 a3
theorem Qte {A B C:Int}{s:Qbd}:((room B C s).Lo≤A∧A≤(room B C s).Hi)↔btw (dr A B C s.Flow) s.In.Lo s.In.Hi=true:=by
 rw[Qdy]
 unfold room dr
 dsimp only
 generalize B*s.Flow=u
 generalize C*s.Flow*s.Flow=v
 omega
theorem Qu9 (hb:0≤b∧b≤9960) (hc:0≤c∧c≤960) (hs:∀s∈l,StpV s) (hl:l.length≤12):∃L,Qc4 2000 0 100000 b (b+39) c (c+39) l=some L ∧
  (∀y∈L,(0≤y.2.Lo∧y.2.Lo≤y.2.Hi∧y.2.Hi≤100000)∧y.1.A=0∧(b≤y.1.B∧y.1.B≤b+39)∧c≤y.1.C∧y.1.C≤c+39) ∧
  ∀A B C:Int,0≤A→A≤100000→b≤B→B≤b+39→c≤C→C≤c+39→agB l A B C=true→∃y∈L,y.1=⟨0,B,C⟩∧y.2.Lo≤A∧A≤y.2.Hi:=by
 obtain⟨R,e,hR⟩:=Qxl (l:=l) 2000 (by omega) hs hl (c:=c) (G:=b+39) (by omega) hc 2000 40 b (by omega) (by omega) (by omega)
 obtain⟨L,e2,h1,h2⟩:=Qll l hl R fun x hx=>by
  obtain⟨B',C',_,_,_,_,rfl⟩:=(hR x).1 hx
  rfl
 refine⟨L,?_,fun y hy=>?_,fun A B C a1 a2 b1 b2 c1 c2 hag=>?_⟩
 ·unfold Qc4 Qdh Qdg
  rw[Option.bind_some]
  dsimp only
  rw[e,Option.bind_some,e2]
 ·obtain⟨g1,x,hx,g2⟩:=h1 y hy
  obtain⟨B',C',q1,q2,q3,q4,rfl⟩:=(hR x).1 hx
  rw[←g2]
  exact⟨g1,rfl,⟨q1,q2⟩,q3,q4⟩
 ·have hx:=(hR (⟨0,B,C⟩,rms l B C)).2 ⟨B,C,b1,b2,c1,c2,rfl⟩
  obtain⟨y,y1,y2,y3⟩:=h2 _ hx A a1 a2 fun s hs=>Qte.2 (List.all_eq_true.1 hag s hs)
  exact⟨y,y1,y2,y3⟩
theorem Qi8 {q:Int}(hq:0≤q∧q≤31) (k:Int×Int×Bool→Option (Qaa×Bool)):∀(L:List (Qah×Qaa)) (lo hi:Int) (sm:Bool),(∀y∈L,(0≤y.2.Lo∧y.2.Lo≤y.2.Hi∧y.2.Hi≤100000)∧y.1.A=0∧(0≤y.1.B∧y.1.B≤10000)∧0≤y.1.C∧y.1.C≤1000) →
  ∃lo' hi',Qat 2000 q k L lo hi sm=k (lo',hi',sm||!L.isEmpty)∧(sm=true→lo'≤lo∧hi≤hi')∧∀y∈L,lo'≤y.2.Lo+dr 0 y.1.B y.1.C q∧y.2.Hi+dr 0 y.1.B y.1.C q≤hi'
 |[],lo,hi,sm,_=>⟨lo,hi,by rw[Qat];simp,fun _=>⟨Int.le_refl _,Int.le_refl _⟩,fun y h=>by simp at h⟩
 |y::L,lo,hi,sm,h=>by
  obtain⟨⟨h1,h2,h3⟩,h4,h5,h6⟩:=h y List.mem_cons_self
  have hd:Qcb 2000 ⟨y.1.A,y.1.B,y.1.C⟩ q=some (dr 0 y.1.B y.1.C q):=by rw[h4];exact Qnk 2000 (by omega) h5 h6 hq
  obtain⟨_,_,_,d1,d2⟩:=Qr2 (A:=0) (by omega) h5 h6 hq
  rw[Qat,hd,Option.bind_some]
  unfold Qcx Qfb
  dsimp only
  generalize hdd:dr 0 y.1.B y.1.C q=d at *
  rw[Qb7 (x:=0-d) (by omega) (by omega),Qb7 (x:=y.2.Lo-(0-d)) (by omega) (by omega),Qb7 (x:=y.2.Hi-(0-d)) (by omega) (by omega),Option.bind_some]
  have hrest:=fun z hz=>h z (List.mem_cons_of_mem y hz)
  cases sm with
  |false=>
   rw[Bool.not_false,cond_true,Option.bind_some]
   dsimp only
   obtain⟨lo',hi',e,g1,g2⟩:=Qi8 hq k L (if y.2.Lo-(0-d)<y.2.Lo-(0-d) then y.2.Lo-(0-d) else y.2.Lo-(0-d)) (if y.2.Hi-(0-d)>y.2.Hi-(0-d) then y.2.Hi-(0-d) else y.2.Hi-(0-d)) true hrest
   refine⟨lo',hi',(by rw[e];rfl),(fun h=>by cases h),fun z hz=>?_⟩
   rcases List.mem_cons.1 hz with rfl |hz
   ·have:=g1 rfl
    rw[hdd]
    simp only[ite_self] at this
    omega
   ·exact g2 z hz
  |true=>
   rw[Bool.not_true,cond_false,Option.bind_some]
   dsimp only
   obtain⟨lo',hi',e,g1,g2⟩:=Qi8 hq k L (if y.2.Lo-(0-d)<lo then y.2.Lo-(0-d) else lo) (if y.2.Hi-(0-d)>hi then y.2.Hi-(0-d) else hi) true hrest
   have:=g1 rfl
   refine⟨lo',hi',by rw[e];rfl,fun _=>?_,fun z hz=>?_⟩
   ·constructor
    ·have:=this.1;split at this<;>omega
    ·have:=this.2;split at this<;>omega
   ·rcases List.mem_cons.1 hz with rfl |hz
    ·rw[hdd]
     constructor
     ·have:=this.1;split at this<;>omega
     ·have:=this.2;split at this<;>omega
    ·exact g2 z hz
theorem Qnl (hb:0≤b∧b≤9960) (hc:0≤c∧c≤960) (hs:∀s∈l,StpV s) (hl:l.length≤12) {q:Int}(hq:0≤q∧q≤31) (hex:∃A B C:Int,(0≤A∧A≤100000)∧(b≤B∧B≤b+39)∧(c≤C∧C≤c+39)∧agB l A B C=true) :
  ∃r,Qc0 2000 (tst b c l) q=some (r,0)∧∀A B C:Int,0≤A→A≤100000→b≤B→B≤b+39→c≤C→C≤c+39→agB l A B C=true→r.Lo≤dr A B C q∧dr A B C q≤r.Hi:=by
 obtain⟨L,e,h1,h2⟩:=Qu9 hb hc hs hl
 obtain⟨lo,hi,e2,_,h3⟩:=Qi8 hq (fun x=>some (⟨x.1,x.2.1⟩,x.2.2)) L 0 0 false fun y hy=>by
  obtain⟨g1,g2,g3,g4⟩:=h1 y hy
  exact⟨g1,g2,by omega,by omega⟩
 have hne:L.isEmpty=false:=by
  obtain⟨A,B,C,hA,hB,hC,hag⟩:=hex
  obtain⟨y,hy,_⟩:=h2 A B C hA.1 hA.2 hB.1 hB.2 hC.1 hC.2 hag
  cases L with
  |nil=>simp at hy
  |cons _ _=>rfl
 refine⟨⟨lo,hi⟩,?_,fun A B C a1 a2 b1 b2 c1 c2 hag=>?_⟩
 ·unfold Qc0
  show((Qcm 2000 (tst b c l)).bind _)=_
  rw[Qoh hb hc hs hl,Option.bind_some,show((0:Int) != 0)=false from rfl,cond_false,Qgq,Qdy.2 ⟨hq.1,show q≤1000 by omega⟩,Option.bind_some,Bool.not_true,cond_false]
  have ed:Qck 2000 (tst b c l) q=some (⟨lo,hi⟩,true):=by
   unfold Qck Qdq tst
   rw[Qci,Option.bind_some]
   dsimp only
   rw[e,Option.bind_some]
   refine Eq.trans e2 ?_
   rw[hne]
   rfl
  show((Qck 2000 (tst b c l) q).bind _)=_
  rw[ed,Option.bind_some]
  rfl
 ·obtain⟨y,hy,g1,g2,g3⟩:=h2 A B C a1 a2 b1 b2 c1 c2 hag
  have:=h3 y hy
  rw[g1] at this
  dsimp only at this
  unfold dr at this ⊢
  dsimp only
  omega
end
end
section
theorem Ql3 {α:Type}{l:List α}{i:Nat}(d:α) (h:i<l.length):getI l (i:Int)=some (l.getD i d):=by
 rw[Qd2 (List.getElem?_eq_getElem h),List.getD_eq_getElem?_getD,List.getElem?_eq_getElem h,Option.getD_some]
def nmM (i:Nat):ByteArray:=ByteArray.append ⟨#[109]⟩ (strOfNums [IntKind.wrap .u8 (w64 (97+(i:Int)))])
def nmS (i:Nat):ByteArray:=ByteArray.append ⟨#[115]⟩ (strOfNums [IntKind.wrap .u8 (w64 (97+(i:Int)))])
theorem Qvj:∀i:_root_.Fin 20,Qde 2000 (nmM i)=some true:=by decide +kernel
theorem Qxi:∀i:_root_.Fin 20,decide (ByteArray.size ⟨#[109]⟩+ByteArray.size (strOfNums [IntKind.wrap .u8 (w64 (97+((i:Nat):Int)))])≤9223372036854775807)=true:=by decide +kernel
theorem Qy0:∀i j:_root_.Fin 20,nmM i=nmM j→i=j:=by decide +kernel
theorem Qvi:∀i:_root_.Fin 12,Qde 2000 (nmS i)=some true:=by decide +kernel
theorem Qxh:∀i:_root_.Fin 12,decide (ByteArray.size ⟨#[115]⟩+ByteArray.size (strOfNums [IntKind.wrap .u8 (w64 (97+((i:Nat):Int)))])≤9223372036854775807)=true:=by decide +kernel
theorem Qyz:∀i j:_root_.Fin 12,nmS i=nmS j→i=j:=by decide +kernel
theorem Qvh:Qde 2000 ⟨#[120]⟩=some true:=by decide +kernel
def fld:Qam:=⟨3,1,1,1⟩
theorem Qn3:Qb6 2000 fld=some 0:=by decide +kernel
theorem Qjc:Qbz 2000 fld=some 3:=by decide +kernel
def c0:Qah:=⟨0,0,0⟩
def s0:Qbd:=⟨0,⟨0,0⟩⟩
def cv (b c:Int) (x:Qah):Qah:=⟨x.A,b+x.B,c+x.C⟩
def md (i:Nat) (x:Qah):Qaf:=⟨nmM i,[x.A,x.B,x.C]⟩
def mea (nm:ByteArray) (q:Int) (r:Qaa):Qab:=⟨nm,0,[0,1,2],[1,q,w64 (q*q)],⟨r.Lo,r.Hi⟩⟩
def cvL (b c:Int) (l:List Qah) (i:Nat):List Qah:=(List.range i).map fun j=>cv b c (l.getD j c0)
def mdL (b c:Int) (l:List Qah) (i:Nat):List Qaf:=(List.range i).map fun j=>md j (cv b c (l.getD j c0))
def stL (l:List Qbd) (i:Nat):List Qbd:=(List.range i).map fun j=>l.getD j s0
def meL (l:List Qbd) (i:Nat):List Qab:=(List.range i).map fun j=>mea (nmS j) (l.getD j s0).Flow (l.getD j s0).In
theorem Qks {α:Type}(f:Nat→α) (i:Nat):(List.range (i+1)).map f=(List.range i).map f++[f i]:=by rw[List.range_succ,List.map_append];rfl
theorem Qq5 {α:Type}(f:Nat→α) {i n:Nat}(h:i<n):((List.range n).map f)[i]? = some (f i):=by
 rw[List.getElem?_map,List.getElem?_range h];rfl
theorem Qt5 (l:List Qbd):stL l l.length=l:=by
 refine List.ext_getElem? fun i=>?_
 rcases Nat.lt_or_ge i l.length with h |h
 ·unfold stL
  rw[Qq5 _ h,List.getD_eq_getElem?_getD,List.getElem?_eq_getElem h,Option.getD_some]
 ·rw[List.getElem?_eq_none h,List.getElem?_eq_none (by simp[stL,h])]
structure CurV (x:Qah):Prop where
 A:0≤x.A∧x.A≤100000
 B:0≤x.B∧x.B≤39
 C:0≤x.C∧x.C≤39
theorem Qwy {v:List Int}(hv:∀x∈v,0≤x∧x≤100000) (hl:v.length≤8):Qdn 2000 v=some true:=by
 have hc:∀(n i:Nat),(v.drop i).length<n→Qav 2000 v (fun _=>some (-1)) n i=some (-1):=by
  intro n
  induction n with
  |zero=>intro i h;exact absurd h (Nat.not_lt_zero _)
  |succ n ih=>
   intro i hn
   rw[Qav]
   cases hd:v.drop i with
   |nil=>
    have:=Qeh hd
    rw[decide_eq_false (show ¬((i:Int)<(v.length:Int)) by omega),cond_false]
   |cons a q=>
    obtain⟨g1,g2,g3⟩:=Qdx hd
    have:=hv a (List.mem_of_getElem? g1)
    unfold Qdt Qc8
    rw[decide_eq_true (show(i:Int)<(v.length:Int) by omega),cond_true,Qd2 g1,Option.bind_some,Qgr,Qdy.2 ⟨by omega,by omega⟩,Option.bind_some,Option.bind_some,Option.bind_some,Bool.not_true,cond_false,Qb7 (x:=(i:Int)+1) (by omega) (by omega),show(i:Int)+1=((i+1:Nat):Int) by omega]
    exact ih (i+1) (by rw[g2];rw[hd] at hn;simp at hn;omega)
 unfold Qdn Qb5 Qcf Qdc
 dsimp only
 have:=hc 2000 0 (by simp;omega)
 rw[show((0:Nat):Int)=0 from rfl] at this
 rw[this]
 rfl
structure CvV (x:Qah):Prop where
 A:0≤x.A∧x.A≤100000
 B:0≤x.B∧x.B≤10000
 C:0≤x.C∧x.C≤1000
theorem Qtj {i:Nat}(hi:i<20) {x:Qah}(h:CvV x):Qbm 2000 fld (md i x)=some 0:=by
 unfold Qbm md
 dsimp only
 rw[Qvj ⟨i,hi⟩,Option.bind_some,Bool.not_true,cond_false,Qjc,Option.bind_some]
 rw[show((([x.A,x.B,x.C]:List Int).length:Int) != w64 (fld.Kinds*3))=false from rfl,cond_false,Qwy (fun z hz=>?_) (Nat.le_of_ble_eq_true rfl),Option.bind_some]
 ·rfl
 ·obtain⟨h1,h2,h3⟩:=h
  simp only[List.mem_cons,List.not_mem_nil,or_false] at hz
  rcases hz with rfl |rfl |rfl<;>omega
theorem Qiq {q w:Int}(k:Unit→Option Bool) (n:Nat) {y3 y4 x v:Int}(h1:decide (y4<(([0,1,2]:List Int).length:Int))=true) (h2:getI ([0,1,2]:List Int) y4=some x) (h3:decide (x≤y3)=false) (h4:decide (x≥3)=false) (h5:getI [1,q,w] y4=some v) (h6:-1000≤v∧v≤1000) :
  Qa6 2000 fld k [0,1,2] [1,q,w] (n+1) y3 y4=Qa6 2000 fld k [0,1,2] [1,q,w] n x (w64 (y4+1)):=by
 rw[Qa6,h1,cond_true,h2,Option.bind_some,h3,cond_false,Qjc,Option.bind_some,h4,cond_false,h5,Option.bind_some,Qgr,Qdy.2 h6,Option.bind_some,Bool.not_true,cond_false]
theorem Qrl {nm:ByteArray}(hn:Qde 2000 nm=some true) {q:Int}(hq:0≤q∧q≤31) {r:Qaa}(h0:-2000000000≤r.Lo) (h1:r.Lo≤r.Hi) (h2:r.Hi≤2000000000):Qbu 2000 fld (mea nm q r)=some 0:=by
 have hqq:=Qlx hq hq
 have hs:Qdb 2000 fld 0 [0,1,2] [1,q,w64 (q*q)]=some true:=by
  unfold Qdb
  rw[Qci,Qci,Qgr,show btw 0 0 (w64 (fld.Kinds-1))=true from rfl,Option.bind_some,Bool.not_true,cond_false]
  rw[show decide ((([0,1,2]:List Int).length:Int)<1)=false from rfl,cond_false,show((([0,1,2]:List Int).length:Int) != (([1,q,w64 (q*q)]:List Int).length:Int))=false from rfl,cond_false]
  rw[show(2000:Nat)=1996+1+1+1+1 from rfl]
  rw[show 1996+1+1+1+1=2000 from rfl]
  refine Eq.trans (Qiq _ 1999 (x:=0) (v:=1) rfl rfl rfl rfl rfl (by omega)) ?_
  refine Eq.trans (Qiq _ 1998 (x:=1) (v:=q) rfl rfl rfl rfl rfl (by omega)) ?_
  refine Eq.trans (Qiq _ 1997 (x:=2) (v:=w64 (q*q)) rfl rfl rfl rfl rfl (by rw[Qb7 (by omega) (by omega)];omega)) ?_
  rw[Qa6,show decide (w64 (w64 (w64 (0+1)+1)+1)<(([0,1,2]:List Int).length:Int))=false from rfl,cond_false]
 unfold Qbu mea
 dsimp only
 rw[hn,Option.bind_some,Bool.not_true,cond_false,hs,Option.bind_some,Bool.not_true,cond_false]
 unfold Qd0
 dsimp only
 rw[decide_eq_true (show -10000000000≤r.Lo by omega),cond_true,decide_eq_true h1,cond_true,decide_eq_true (show r.Hi≤10000000000 by omega),Option.bind_some]
 rfl
def SI (x:Qab) (m:Qaf):Int:=dr (m.Values.getD 0 0) (m.Values.getD 1 0) (m.Values.getD 2 0) (x.Weights.getD 1 0)
theorem Qnf {q w:Int}{nm:ByteArray}{V:List Int}(k:Int→Option Int) (n:Nat) {y3 y4 x v u z:Int}(h1:decide (y4<(([0,1,2]:List Int).length:Int))=true) (h2:getI ([0,1,2]:List Int) y4=some x) (h3:getI [1,q,w] y4=some v) (hx:w64 (w64 (0*3)+x)=x) (h4:getI V x=some u) (h5:w64 (y3+w64 (v*u))=z) :
  Qbg 2000 ⟨fld,0,[0,1,2],[1,q,w]⟩ ⟨nm,V⟩ k (n+1) y3 y4=Qbg 2000 ⟨fld,0,[0,1,2],[1,q,w]⟩ ⟨nm,V⟩ k n z (w64 (y4+1)):=by
 rw[Qbg]
 dsimp only
 rw[h1,cond_true,h2,Option.bind_some,h3,Option.bind_some,show Qbz 2000 ⟨fld.X,fld.Y,fld.Z,fld.Kinds⟩=some 3 from Qjc,Option.bind_some,hx,h4,Option.bind_some,Option.bind_some,h5]
theorem Qxn {q:Int}(hq:0≤q∧q≤31) (i:Nat) {x:Qah}(h:CvV x):Qbh 2000 ⟨fld,0,[0,1,2],[1,q,w64 (q*q)]⟩ (md i x)=some (dr x.A x.B x.C q):=by
 obtain⟨hA,hB,hC⟩:=h
 obtain⟨b1,b2,b3,b4⟩:=Qr2 hA hB hC hq
 have hqq:=Qlx hq hq
 unfold Qbh md
 rw[Qci]
 have e2:q*x.B=x.B*q:=Int.mul_comm _ _
 have e3:w64 (q*q)*x.C=x.C*q*q:=by rw[Qb7 (by omega) (by omega),Int.mul_comm,Int.mul_assoc]
 unfold dr at b4 ⊢
 refine Eq.trans (Qnf _ 1999 (x:=0) (v:=1) (u:=x.A) (z:=x.A) rfl rfl rfl rfl rfl (by rw[Int.one_mul,Qb7 (x:=x.A) (by omega) (by omega),Int.zero_add,Qb7 (by omega) (by omega)])) ?_
 refine Eq.trans (Qnf _ 1998 (x:=1) (v:=q) (u:=x.B) (z:=x.A+x.B*q) rfl rfl rfl rfl rfl (by rw[e2,Qb7 (x:=x.B*q) (by omega) (by omega),Qb7 (by omega) (by omega)])) ?_
 refine Eq.trans (Qnf _ 1997 (x:=2) (v:=w64 (q*q)) (u:=x.C) (z:=x.A+x.B*q+x.C*q*q) rfl rfl rfl rfl rfl (by rw[e3,Qb7 (x:=x.C*q*q) (by omega) (by omega),Qb7 (by omega) (by omega)])) ?_
 rw[Qbg,show decide (w64 (w64 (w64 (0+1)+1)+1)<(([0,1,2]:List Int).length:Int))=false from rfl,cond_false]
theorem Qxf {nm:ByteArray}{q:Int}(hq:0≤q∧q≤31) {r:Qaa}(h0:-2000000000≤r.Lo) (h1:r.Lo≤r.Hi) (h2:r.Hi≤2000000000) (i:Nat) {x:Qah}(h:CvV x):Qpn 2000 fld SI (mea nm q r) (md i x):=by
 obtain⟨_,_,_,b4⟩:=Qr2 h.A h.B h.C hq
 refine⟨Qxn hq i h,?_,show -10000000000≤r.Lo by omega,h1,show r.Hi≤10000000000 by omega⟩
 show -10000000000≤dr x.A x.B x.C q∧dr x.A x.B x.C q≤10000000000
 omega
theorem Qre {ms:List Qaf}(hM:∀m∈ms,Qbm 2000 fld m=some 0) (hMd:(ms.map fun m=>m.Name).Nodup) (hm1:1≤ms.length) (hm:ms.length≤40):Qct 2000 fld ms=some 0:=by
 have e1:Qba 2000 ms 3 1 1 1=some 0:=by
  unfold Qba
  rw[Qci]
  exact Qk4 (F:=Qa1 2000 ms 3 (fun _=>some 0) 1 1 1) (q:=fun x=>Qbp 2000 x 3 1 1 1) (nm:=fun m=>m.Name) (k:=fun _=>some 0) (fun n y s=>rfl)
   (fun x hx=>by unfold Qbp;rw[show Qbm 2000 ⟨3,1,1,1⟩ x=some 0 from hM x hx,Option.bind_some]) hMd rfl (by omega) 2000 0 (by simp;omega)
 have e3:Qbj 2000 fld ms=some 0:=by
  unfold Qbj
  rw[Qgr,Qdy.2 ⟨by omega,by omega⟩,Option.bind_some,Bool.not_true,cond_false,show Qba 2000 ms fld.X fld.Y fld.Z fld.Kinds=some 0 from e1,Option.bind_some]
 unfold Qct Qep Qc3
 rw[Qci]
 show(((Qb6 2000 fld).bind _).bind _:Option Int)=_
 rw[Qn3,Option.bind_some,show((0:Int) != 0)=false from rfl,cond_false]
 show(((((Qbj 2000 fld ms).bind _).bind _:Option Int)).bind _:Option Int)=_
 rw[e3,Option.bind_some,Option.bind_some,show((0:Int) != 0)=false from rfl,cond_false,Option.bind_some]
def SQ (q:Int) (m:Qaf):Int:=dr (m.Values.getD 0 0) (m.Values.getD 1 0) (m.Values.getD 2 0) q
theorem Qq0 {q:Int}(m0:Qaf) (rs:List Qaf) (hl:rs.length≤100) (hr:∀m∈rs,Qbh 2000 ⟨fld,0,[0,1,2],[1,q,w64 (q*q)]⟩ m=some (SQ q m)) (k:Int×Int→Option Qaa):∀(n i:Nat) (lo hi:Int),(rs.drop i).length<n →
  ∃lo' hi',Qa0 2000 (m0::rs) 3 1 1 1 0 [0,1,2] [1,q,w64 (q*q)] k n i lo hi=k (lo',hi')∧(lo'=lo∨∃m∈rs,lo'=SQ q m)∧(hi'=hi∨∃m∈rs,hi'=SQ q m):=by
 intro n
 induction n with
 |zero=>intro i _ _ h;exact absurd h (Nat.not_lt_zero _)
 |succ n ih=>
  intro i lo hi hn
  rw[Qa0,show(m0::rs).drop (1:Int).toNat=rs from rfl]
  cases hd:rs.drop i with
  |nil=>
   have:=Qeh hd
   refine⟨lo,hi,?_,.inl rfl,.inl rfl⟩
   rw[decide_eq_false (show ¬((i:Int)<(rs.length:Int)) by omega),cond_false]
  |cons a t=>
   obtain⟨h1,h2,h3⟩:=Qdx hd
   have ha:=List.mem_of_getElem? h1
   obtain⟨lo',hi',e,g1,g2⟩:=ih (i+1) (if SQ q a<lo then SQ q a else lo) (if SQ q a>hi then SQ q a else hi) (by rw[h2];rw[hd] at hn;simp at hn;omega)
   refine⟨lo',hi',?_,?_,?_⟩
   ·rw[decide_eq_true (show(i:Int)<(rs.length:Int) by omega),cond_true,Qd2 h1,Option.bind_some,show Qbh 2000 ⟨⟨3,1,1,1⟩,0,[0,1,2],[1,q,w64 (q*q)]⟩ a=some (SQ q a) from hr a ha,Option.bind_some,Option.bind_some,Qb7 (x:=(i:Int)+1) (by omega) (by omega),show(i:Int)+1=((i+1:Nat):Int) by omega,e]
   ·rcases g1 with g1 |g1
    ·rw[g1]
     split
     ·exact .inr ⟨a,ha,rfl⟩
     ·exact .inl rfl
    ·exact .inr g1
   ·rcases g2 with g2 |g2
    ·rw[g2]
     split
     ·exact .inr ⟨a,ha,rfl⟩
     ·exact .inl rfl
    ·exact .inr g2
theorem Qo7 {q:Int}(hq:0≤q∧q≤31) {ms:List Qaf}(hM:∀m∈ms,Qbm 2000 fld m=some 0) (hMd:(ms.map fun m=>m.Name).Nodup) (hm1:1≤ms.length) (hm:ms.length≤40) (hr:∀m∈ms,Qbh 2000 ⟨fld,0,[0,1,2],[1,q,w64 (q*q)]⟩ m=some (SQ q m)) :
  ∃r,Qdp 2000 fld ms ⟨⟨#[120]⟩,0,[0,1,2],[1,q,w64 (q*q)],⟨0,0⟩⟩=some (r,0)∧(∃m∈ms,r.Lo=SQ q m)∧∃m∈ms,r.Hi=SQ q m:=by
 cases ms with
 |nil=>simp at hm1
 |cons m0 rs=>
  obtain⟨lo,hi,e,g1,g2⟩:=Qq0 m0 rs (by simp at hm;omega) (fun m h=>hr m (List.mem_cons_of_mem _ h)) (fun x=>some ⟨x.1,x.2⟩) 2000 0 (SQ q m0) (SQ q m0) (by simp at hm ⊢;omega)
  have h0:=hr m0 List.mem_cons_self
  refine⟨⟨lo,hi⟩,?_,?_,?_⟩
  ·unfold Qdp Qeq Qdv Qdu Qcc
   rw[Qci]
   show((((Qct 2000 fld (m0::rs)).bind _).bind _:Option Int).bind _:Option (Qaa×Int))=_
   rw[Qre hM hMd hm1 hm,Option.bind_some,Option.bind_some,show((0:Int) != 0)=false from rfl,cond_false]
   show((((Qbu 2000 fld (mea ⟨#[120]⟩ q ⟨0,0⟩)).bind _).bind _:Option Int).bind _:Option (Qaa×Int))=_
   rw[Qrl Qvh hq (by decide) (by decide) (by decide),Option.bind_some,Option.bind_some,show((0:Int) != 0)=false from rfl,cond_false,Option.bind_some,show((0:Int) != 0)=false from rfl,cond_false,Option.bind_some]
   dsimp only
   have es:Qbr 2000 (m0::rs) 3 1 1 1 0 [0,1,2] [1,q,w64 (q*q)]=some ⟨lo,hi⟩:=by
    unfold Qbr chk
    rw[show getI (m0::rs) 0=some m0 from rfl,Option.bind_some,show Qbh 2000 ⟨⟨3,1,1,1⟩,0,[0,1,2],[1,q,w64 (q*q)]⟩ m0=some (SQ q m0) from h0,Option.bind_some,Option.bind_some,Qci]
    rw[show(decide (0≤1)&&decide ((1:Int)≤((m0::rs).length:Int))&&decide (((m0::rs).length:Int)≤((m0::rs).length:Int)))=true from by simp;omega,cond_true]
    exact e
   show((Qbr 2000 (m0::rs) 3 1 1 1 0 [0,1,2] [1,q,w64 (q*q)]).bind _)=_
   rw[es,Option.bind_some]
  ·rcases g1 with rfl |⟨m,hm',g⟩
   ·exact⟨m0,List.mem_cons_self,rfl⟩
   ·exact⟨m,List.mem_cons_of_mem _ hm',g⟩
  ·rcases g2 with rfl |⟨m,hm',g⟩
   ·exact⟨m0,List.mem_cons_self,rfl⟩
   ·exact⟨m,List.mem_cons_of_mem _ hm',g⟩
end
section
theorem Qu3 {s:Qbd}(h1:btw s.Flow 0 31=true) (h2:rgB s.In (-2000000000) 2000000000=true):StpV s:=by
 obtain⟨a,b,c⟩:=Qht.1 h2
 exact⟨Qdy.1 h1,a,b,c⟩
theorem Qtp {l:List Qah}{p2 p3 b c:Int}(hb:(w64 p2).tmod 9961=b) (hc:(w64 p3).tmod 961=c) (bb:0≤b∧b≤9960) (cc:0≤c∧c≤960) {n:Nat}(hl:l.length=n) (h20:n≤20) (k:List Qaf×List Qah→Option Bool)
  (hk:(∀j,j<n→CurV (l.getD j c0))→k (mdL b c l n,cvL b c l n)=some true):∀(d i:Nat),n-i<d→i≤n→(∀j,j<i→CurV (l.getD j c0)) →
  Qb2 2000 l p2 p3 k d (mdL b c l i) (cvL b c l i) i=some true:=by
 intro d
 induction d with
 |zero=>intro i h;omega
 |succ d ih=>
  intro i hd hi hv
  rw[Qb2,hb,hc]
  rcases Nat.lt_or_ge i n with hlt |hge
  ·have gu:getI l (i:Int)=some (l.getD i c0):=Ql3 c0 (by omega)
   rw[decide_eq_true (show(i:Int)<(l.length:Int) by omega),cond_true,Qci,gu,Option.bind_some,Qo3,Option.bind_some]
   cases h1:btw (l.getD i c0).A 0 100000 with
   |false=>rw[Bool.not_false,cond_true,Qes,Option.bind_some]
   |true=>
   rw[Bool.not_true,cond_false,Qo3,Option.bind_some]
   cases h2:btw (l.getD i c0).B 0 39 with
   |false=>rw[Bool.not_false,cond_true,Qes,Option.bind_some]
   |true=>
   rw[Bool.not_true,cond_false,Qo3,Option.bind_some]
   cases h3:btw (l.getD i c0).C 0 39 with
   |false=>rw[Bool.not_false,cond_true,Qes,Option.bind_some]
   |true=>
   rw[Bool.not_true,cond_false]
   dsimp only
   rw[Option.bind_some]
   have v1:=Qdy.1 h1
   have v2:=Qdy.1 h2
   have v3:=Qdy.1 h3
   rw[Qb7 (x:=b+(l.getD i c0).B) (by omega) (by omega),Qb7 (x:=c+(l.getD i c0).C) (by omega) (by omega)]
   unfold chk
   rw[show ∀z:Qah,decide (((cvL b c l i).length+([z]).length)*24≤140737488355328)=true from fun z=>decide_eq_true (by simp[cvL];omega),cond_true,Qxi ⟨i,by omega⟩,cond_true,show ∀z:Qaf,decide (((mdL b c l i).length+([z]).length)*40≤140737488355328)=true from fun z=>decide_eq_true (by simp[mdL];omega),cond_true,Qb7 (x:=(i:Int)+1) (by omega) (by omega),show(i:Int)+1=((i+1:Nat):Int) by omega]
   have e1:cvL b c l i++[(⟨(l.getD i c0).A,b+(l.getD i c0).B,c+(l.getD i c0).C⟩:Qah)]=cvL b c l (i+1):=(Qks _ _).symm
   have e2:mdL b c l i++[(⟨ByteArray.append ⟨#[109]⟩ (strOfNums [IntKind.wrap .u8 (w64 (97+(i:Int)))]),[(l.getD i c0).A,b+(l.getD i c0).B,c+(l.getD i c0).C]⟩:Qaf)]=mdL b c l (i+1):=(Qks _ _).symm
   rw[e1,e2]
   refine ih (i+1) (by omega) hlt fun j hj=>?_
   rcases Nat.lt_or_ge j i with h |h
   ·exact hv j h
   ·rw[show j=i by omega];exact⟨v1,v2,v3⟩
  ·have:i=n:=by omega
   subst this
   rw[decide_eq_false (show ¬((i:Int)<(l.length:Int)) by omega),cond_false]
   exact hk hv
theorem Qs9 {s:List Qbd}{n:Nat}(hl:s.length=n) (h12:n≤12) (ms:List Qaf) (cs:List Qah) (k:List Qaf×List Qah×List Qab×List Qbd→Option Bool)
  (hk:(∀j,j<n→StpV (s.getD j s0))→k (ms,cs,meL s n,stL s n)=some true):∀(d i:Nat),n-i<d→i≤n→(∀j,j<i→StpV (s.getD j s0)) →
  Qb3 2000 s k d ms cs (meL s i) i (stL s i)=some true:=by
 intro d
 induction d with
 |zero=>intro i h;omega
 |succ d ih=>
  intro i hd hi hv
  rw[Qb3]
  rcases Nat.lt_or_ge i n with hlt |hge
  ·have gu:getI s (i:Int)=some (s.getD i s0):=Ql3 s0 (by omega)
   rw[decide_eq_true (show(i:Int)<(s.length:Int) by omega),cond_true,gu,Option.bind_some,Qci,Qo3,Option.bind_some]
   cases h1:btw (s.getD i s0).Flow 0 31 with
   |false=>rw[Bool.not_false,cond_true,Qes,Option.bind_some]
   |true=>
   rw[Bool.not_true,cond_false]
   rw[show Qd7 2000 ⟨(s.getD i s0).In.Lo,(s.getD i s0).In.Hi⟩ (-2000000000) 2000000000=some (rgB (s.getD i s0).In (-2000000000) 2000000000) from Qq4 _ _ _ _,Option.bind_some]
   cases h2:rgB (s.getD i s0).In (-2000000000) 2000000000 with
   |false=>rw[Bool.not_false,cond_true,Qes,Option.bind_some]
   |true=>
   rw[Bool.not_true,cond_false]
   dsimp only
   unfold chk
   rw[show ∀z:Qbd,decide (((stL s i).length+([z]).length)*24≤140737488355328)=true from fun z=>decide_eq_true (by simp[stL];omega),cond_true,Qxh ⟨i,by omega⟩,cond_true,show ∀z:Qab,decide (((meL s i).length+([z]).length)*88≤140737488355328)=true from fun z=>decide_eq_true (by simp[meL];omega),cond_true,Qb7 (x:=(i:Int)+1) (by omega) (by omega),show(i:Int)+1=((i+1:Nat):Int) by omega]
   have e1:stL s i++[(⟨(s.getD i s0).Flow,⟨(s.getD i s0).In.Lo,(s.getD i s0).In.Hi⟩⟩:Qbd)]=stL s (i+1):=(Qks _ _).symm
   have e2:meL s i++[(⟨ByteArray.append ⟨#[115]⟩ (strOfNums [IntKind.wrap .u8 (w64 (97+(i:Int)))]),0,[0,1,2],[1,(s.getD i s0).Flow,w64 ((s.getD i s0).Flow*(s.getD i s0).Flow)],⟨(s.getD i s0).In.Lo,(s.getD i s0).In.Hi⟩⟩:Qab)]=meL s (i+1):=(Qks _ _).symm
   rw[e1,e2]
   refine ih (i+1) (by omega) hlt fun j hj=>?_
   rcases Nat.lt_or_ge j i with h |h
   ·exact hv j h
   ·rw[show j=i by omega];exact Qu3 h1 h2
  ·have:i=n:=by omega
   subst this
   rw[decide_eq_false (show ¬((i:Int)<(s.length:Int)) by omega),cond_false]
   exact hk hv
theorem Qky {ok:Qaf→Bool}:∀{ms:List Qaf}{i:Nat}{x:Int},x∈Qea ok i ms→(i:Int)≤x
 |[],_,_,h=>by rw[Qea] at h;simp at h
 |m::ms,i,x,h=>by
  rw[Qea] at h
  cases hm:ok m with
  |true=>
   rw[hm,cond_true] at h
   rcases List.mem_cons.1 h with rfl |h
   ·exact Int.le_refl _
   ·have:=Qky h;omega
  |false=>
   rw[hm,cond_false] at h
   have:=Qky h;omega
theorem Ql1 {ok:Qaf→Bool}:∀{ms:List Qaf}{i:Nat},(Qea ok i ms).length≤ms.length
 |[],_=>by rw[Qea];exact Nat.le_refl _
 |m::ms,i=>by
  rw[Qea]
  have:=Ql1 (ok:=ok) (ms:=ms) (i:=i+1)
  cases ok m<;>simp<;>omega
theorem Qtm {b c p2 p3:Int}(hb:(w64 p2).tmod 9961=b) (hc:(w64 p3).tmod 961=c) (bb:0≤b∧b≤9960) (cc:0≤c∧c≤960) {ok:Qaf→Bool}{ms:List Qaf}{cs:List Qah}{st:List Qbd}{zs:List Qb1}{e:Int}{n:Nat}(hn:ms.length=n) (hcs:cs.length=n) (h20:n≤20)
  (hag:∀(i:Nat) m x,ms[i]? = some m→cs[i]? = some x→Qdz 2000 (tst b c st) x=some (ok m)) (k:Int×List Qaf×List Qbd→Option Bool) (hk:k (((Qea ok 0 ms).length:Int),ms.filter ok,st)=some true) :
  ∀(d i cnt:Nat),n-i<d→i≤n→cnt≤(Qea ok 0 ms).length→(Qea ok 0 ms).drop cnt=Qea ok i (ms.drop i) →
  Qbs 2000 p2 p3 (Qea ok 0 ms,zs,e) k d ms cs cnt ((ms.take i).filter ok) i st=some true:=by
 intro d
 induction d with
 |zero=>intro i _ h;omega
 |succ d ih=>
  intro i cnt hd hi hcnt hL
  rw[Qbs,hb,hc]
  rcases Nat.lt_or_ge i n with hlt |hge
  ·have gc:cs[i]? = some (cs[i]'(by omega)):=List.getElem?_eq_getElem _
   generalize cs[i]'(by omega)=x at gc
   have gm:ms[i]? = some (ms[i]'(by omega)):=List.getElem?_eq_getElem _
   have hdr:ms.drop i=ms[i]'(by omega)::ms.drop (i+1):=List.drop_eq_getElem_cons _
   generalize ms[i]'(by omega)=m at gm hdr
   rw[decide_eq_true (show(i:Int)<(cs.length:Int) by omega),cond_true,Qd2 gc,Option.bind_some]
   have ha:=hag i m x gm gc
   unfold tst at ha
   rw[Qb7 (x:=b+39) (by omega) (by omega),Qb7 (x:=c+39) (by omega) (by omega),ha,Option.bind_some,Qci]
   rw[hdr,Qea] at hL
   have hw:w64 ((i:Int)+1)=((i+1:Nat):Int):=Qb7 (by omega) (by omega)
   have hll:(Qea ok 0 ms).length≤20:=Nat.le_trans Ql1 (by omega)
   have hwc:w64 ((cnt:Int)+1)=((cnt+1:Nat):Int):=Qb7 (by omega) (by omega)
   dsimp only
   cases ho:ok m with
   |true=>
    rw[ho,cond_true] at hL
    obtain⟨g1,g2,g3⟩:=Qdx hL
    have ih':=ih (i+1) (cnt+1) (by omega) hlt g3 g2
    rw[decide_eq_true (show(cnt:Int)<((Qea ok 0 ms).length:Int) by omega),cond_true,Qd2 g1,Option.bind_some,beq_self_eq_true,beq_self_eq_true,Bool.not_true,cond_false,cond_true,Qd2 gm,Option.bind_some]
    unfold chk
    have hf:((ms.take i).filter ok).length≤i:=Nat.le_trans (List.length_filter_le _ _) (by simp;omega)
    rw[decide_eq_true (by simp;omega),cond_true,hw,hwc]
    have es:(ms.take i).filter ok++[m]=(ms.take (i+1)).filter ok:=by
     rw[List.take_add_one,gm,List.filter_append]
     simp[ho]
    rw[es]
    exact ih'
   |false=>
    rw[ho,cond_false] at hL
    have ih':=ih (i+1) cnt (by omega) hlt hcnt hL
    have es:(ms.take (i+1)).filter ok=(ms.take i).filter ok:=by
     rw[List.take_add_one,gm,List.filter_append]
     simp[ho]
    rw[es] at ih'
    rcases Nat.lt_or_ge cnt (Qea ok 0 ms).length with hlc |hgc
    ·have g1:(Qea ok 0 ms)[cnt]? = some ((Qea ok 0 ms)[cnt]'hlc):=List.getElem?_eq_getElem _
     have hmem:(Qea ok 0 ms)[cnt]'hlc∈Qea ok (i+1) (ms.drop (i+1)):=by
      rw[←hL,List.drop_eq_getElem_cons hlc]
      exact List.mem_cons_self
     generalize (Qea ok 0 ms)[cnt]'hlc=v at g1 hmem
     have hv:=Qky hmem
     rw[decide_eq_true (show(cnt:Int)<((Qea ok 0 ms).length:Int) by omega),cond_true,Qd2 g1,Option.bind_some,show(v==(i:Int))=false from beq_eq_false_iff_ne.2 (by omega),beq_self_eq_true,Bool.not_true,cond_false,cond_false,hw]
     exact ih'
    ·rw[decide_eq_false (show ¬((cnt:Int)<((Qea ok 0 ms).length:Int)) by omega),cond_false,beq_self_eq_true,Bool.not_true,cond_false,cond_false,hw]
     exact ih'
  ·have hi':i=n:=by omega
   subst hi'
   rw[decide_eq_false (show ¬((i:Int)<(cs.length:Int)) by omega),cond_false]
   have hz:ms.drop i=[]:=List.drop_eq_nil_of_le (by omega)
   rw[hz,Qea] at hL
   have:=Qeh hL
   rw[List.take_of_length_le (by omega),show(cnt:Int)=((Qea ok 0 ms).length:Int) by omega]
   exact hk
theorem Qt4 {x:Int}(h:Qod x):0≤x∧x≤65535:=by
 have h':IntKind.u16.min≤x∧x≤IntKind.u16.max:=by simpa [Qod,Lit.wf] using h
 have e1:IntKind.u16.min=0:=by decide
 have e2:IntKind.u16.max=65535:=by decide
 omega
theorem Qys {x:Int}(h:Qvm x):0≤x∧x≤255:=by
 have h':IntKind.u8.min≤x∧x≤IntKind.u8.max:=by simpa [Qvm,Lit.wf] using h
 have e1:IntKind.u8.min=0:=by decide
 have e2:IntKind.u8.max=255:=by decide
 omega
theorem Qm6 {x k:Int}(h:0≤x∧x≤65535) (hk:0<k):0≤(w64 x).tmod k∧(w64 x).tmod k≤k-1:=by
 rw[Qb7 (by omega) (by omega),Int.tmod_eq_emod_of_nonneg h.1]
 have h1:=Int.emod_nonneg x (show k≠0 by omega)
 have h2:=Int.emod_lt_of_pos x hk
 omega
theorem Qi3 {α:Type}{f:Nat→α}{nm:Nat→ByteArray}{g:α→ByteArray}(hg:∀j,g (f j)=nm j) {m n:Nat}(hi:∀i j:_root_.Fin m,nm i=nm j→i=j) (h:n≤m):(((List.range n).map f).map g).Nodup:=by
 rw[List.map_map]
 refine List.pairwise_map.2 ((List.nodup_range (n:=n)).imp_of_mem fun {a b} ha hb hne e=>?_)
 have h1:=List.mem_range.1 ha
 have h2:=List.mem_range.1 hb
 have e':nm a=nm b:=by rw[←hg a,←hg b];exact e
 have:=hi ⟨a,by omega⟩ ⟨b,by omega⟩ e'
 exact hne (by simpa using this)
theorem Qo9 (l:List Qah) (s:List Qbd) (p2 p3 p4:Int) (_:Qj1 l) (_:Ql4 s) (g2:Qod p2) (g3:Qod p3) (g4:Qvm p4):Qem 2000 l s p2 p3 p4=some true:=by
 have b2:=Qm6 (k:=9961) (Qt4 g2) (by omega)
 have b3:=Qm6 (k:=961) (Qt4 g3) (by omega)
 have b4:=Qm6 (x:=p4) (k:=32) (by have:=Qys g4;omega) (by omega)
 obtain⟨b,hb⟩:∃b,(w64 p2).tmod 9961=b:=⟨_,rfl⟩
 obtain⟨c,hc⟩:∃c,(w64 p3).tmod 961=c:=⟨_,rfl⟩
 obtain⟨q,hq⟩:∃q,(w64 p4).tmod 32=q:=⟨_,rfl⟩
 rw[hb] at b2
 rw[hc] at b3
 rw[hq] at b4
 have bb:0≤b∧b≤9960:=by omega
 have cc:0≤c∧c≤960:=by omega
 have qq:0≤q∧q≤31:=by omega
 unfold Qem
 rw[Qci]
 by_cases h1:(l.length:Int)<1
 ·rw[decide_eq_true h1,cond_true,Qes,Option.bind_some]
 rw[decide_eq_false h1,cond_false]
 by_cases h20:(l.length:Int)>20
 ·rw[decide_eq_true h20,cond_true,Qes,Option.bind_some]
 rw[decide_eq_false h20,cond_false]
 by_cases h12:(s.length:Int)>12
 ·rw[decide_eq_true h12,cond_true,Qes,Option.bind_some]
 rw[decide_eq_false h12,cond_false,Qci]
 refine Qtp hb hc bb cc (n:=l.length) rfl (by omega) _ (fun hv=>?_) 2000 0 (by omega) (by omega) (fun j hj=>by omega)
 dsimp only
 rw[Qci]
 refine Qs9 (n:=s.length) rfl (by omega) _ _ _ (fun hw=>?_) 2000 0 (by omega) (by omega) (fun j hj=>by omega)
 dsimp only
 rw[Qt5]
 have hs:∀x∈s,StpV x:=fun x hx=>by
  obtain⟨j,hj⟩:=List.mem_iff_getElem?.1 hx
  have hlt:=(List.getElem?_eq_some_iff.1 hj).1
  have:=hw j hlt
  rwa [List.getD_eq_getElem?_getD,hj,Option.getD_some] at this
 have hsl:s.length≤12:=by omega
 have cvv:∀j,j<l.length→CvV (cv b c (l.getD j c0)):=fun j hj=>by
  obtain⟨a1,a2,a3⟩:=hv j hj
  exact⟨a1,by unfold cv;dsimp only;omega,by unfold cv;dsimp only;omega⟩
 have memM:∀m∈mdL b c l l.length,∃j,j<l.length∧m=md j (cv b c (l.getD j c0)):=fun m hm=>by
  obtain⟨j,hj,rfl⟩:=List.mem_map.1 hm
  exact⟨j,List.mem_range.1 hj,rfl⟩
 have memX:∀x∈meL s s.length,∃j,j<s.length∧x=mea (nmS j) (s.getD j s0).Flow (s.getD j s0).In:=fun x hx=>by
  obtain⟨j,hj,rfl⟩:=List.mem_map.1 hx
  exact⟨j,List.mem_range.1 hj,rfl⟩
 have hM:∀m∈mdL b c l l.length,Qbm 2000 fld m=some 0:=fun m hm=>by
  obtain⟨j,hj,rfl⟩:=memM m hm
  exact Qtj (by omega) (cvv j hj)
 have hMd:((mdL b c l l.length).map fun m=>m.Name).Nodup:=Qi3 (f:=fun j=>md j (cv b c (l.getD j c0))) (g:=fun m=>m.Name) (nm:=nmM) (fun _=>rfl) Qy0 (by omega)
 have hml:(mdL b c l l.length).length=l.length:=by simp[mdL]
 have hok:∀j,j<l.length→okM SI (meL s s.length) (md j (cv b c (l.getD j c0)))=agB s (cv b c (l.getD j c0)).A (cv b c (l.getD j c0)).B (cv b c (l.getD j c0)).C:=fun j _=>by
  unfold okM agB meL
  rw[List.all_map]
  have e:s=stL s s.length:=(Qt5 s).symm
  conv=>rhs;rw[e]
  unfold stL
  rw[List.all_map]
  rfl
 obtain⟨zs,ez⟩:=Qow (N:=2000) (F:=fld) (S:=SI) (l:=meL s s.length) (ms:=mdL b c l l.length) Qn3 hM hMd (by omega) (by omega) (fun x hx=>by
  obtain⟨j,hj,rfl⟩:=memX x hx
  obtain⟨a1,a2,a3,a4⟩:=hw j hj
  exact Qrl (Qvi ⟨j,by omega⟩) a1 a2 a3 a4) (Qi3 (f:=fun j=>mea (nmS j) (s.getD j s0).Flow (s.getD j s0).In) (g:=fun m=>m.Name) (nm:=nmS) (fun _=>rfl) Qyz (by omega)) (by simp[meL];omega) (fun x hx m hm=>by
  obtain⟨j,hj,rfl⟩:=memX x hx
  obtain⟨i,hi,rfl⟩:=memM m hm
  obtain⟨a1,a2,a3,a4⟩:=hw j hj
  exact Qxf a1 a2 a3 a4 i (cvv i hi)) (Nat.le_of_ble_eq_true rfl)
 show((Qdo 2000 fld (mdL b c l l.length) (meL s s.length)).bind _)=_
 rw[ez,Option.bind_some]
 dsimp only
 rw[show((0:Int) != 0)=false from rfl,cond_false,Qci]
 generalize hokd:okM SI (meL s s.length)=ok at *
 refine Qtm hb hc bb cc (ok:=ok) (n:=l.length) hml (by simp[cvL]) (by omega) (fun i m x hm hx=>?_) _ ?_ 2000 0 0 (by omega) (by omega) (Nat.zero_le _) rfl
 ·have hi:i<l.length:=by
   have:=(List.getElem?_eq_some_iff.1 hm).1
   omega
  have e1:=Qq5 (fun j=>md j (cv b c (l.getD j c0))) hi
  have e2:=Qq5 (fun j=>cv b c (l.getD j c0)) hi
  rw[show mdL b c l l.length=(List.range l.length).map fun j=>md j (cv b c (l.getD j c0)) from rfl,e1] at hm
  rw[show cvL b c l l.length=(List.range l.length).map fun j=>cv b c (l.getD j c0) from rfl,e2] at hx
  cases hm
  cases hx
  obtain⟨a1,a2,a3⟩:=hv i hi
  rw[hok i hi]
  exact Qsj bb cc hs hsl a1 (by omega) (by omega)
 ·dsimp only
  rw[bne_self_eq_false,cond_false]
  rw[hb,hc,hq,Qb7 (x:=b+39) (by omega) (by omega),Qb7 (x:=c+39) (by omega) (by omega)]
  by_cases h0:((mdL b c l l.length).filter ok).length=0
  ·rw[show((((mdL b c l l.length).filter ok).length:Int)==0)=true from by rw[h0];rfl,cond_true,Qes,Option.bind_some]
  ·rw[show((((mdL b c l l.length).filter ok).length:Int)==0)=false from beq_eq_false_iff_ne.2 (by omega),cond_false]
   have memS:∀m∈(mdL b c l l.length).filter ok,∃x:Qah,CvV x∧(∃j,m=md j x)∧(b≤x.B∧x.B≤b+39)∧(c≤x.C∧x.C≤c+39)∧agB s x.A x.B x.C=true:=fun m hm=>by
    obtain⟨hm1,hm2⟩:=List.mem_filter.1 hm
    obtain⟨j,hj,rfl⟩:=memM m hm1
    obtain⟨a1,a2,a3⟩:=hv j hj
    rw[hok j hj] at hm2
    exact⟨_,cvv j hj,⟨j,rfl⟩,by unfold cv;dsimp only;omega,by unfold cv;dsimp only;omega,hm2⟩
   obtain⟨r,er,hr⟩:=Qnl (b:=b) (c:=c) (l:=s) bb cc hs hsl qq (by
    have hp:0<((mdL b c l l.length).filter ok).length:=by omega
    obtain⟨x,v,_,v2,v3,v4⟩:=memS _ (List.getElem_mem hp)
    exact⟨x.A,x.B,x.C,v.A,v2,v3,v4⟩)
   obtain⟨y,ey,⟨m1,hm1,e1⟩,m2,hm2,e2⟩:=Qo7 qq (ms:=(mdL b c l l.length).filter ok) (fun m hm=>hM m (List.mem_filter.1 hm).1) (hMd.sublist (List.filter_sublist.map _)) (by omega) (Nat.le_trans (List.length_filter_le _ _) (by omega)) (fun m hm=>by
    obtain⟨x,v,⟨j,rfl⟩,_⟩:=memS m hm
    exact Qxn qq j v)
   have hin:∀m∈(mdL b c l l.length).filter ok,r.Lo≤SQ q m∧SQ q m≤r.Hi:=fun m hm=>by
    obtain⟨x,v,⟨j,rfl⟩,v2,v3,v4⟩:=memS m hm
    exact hr x.A x.B x.C v.A.1 v.A.2 v2.1 v2.2 v3.1 v3.2 v4
   show((Qc0 2000 (tst b c s) q).bind _)=_
   rw[er,Option.bind_some]
   show((Qdp 2000 fld ((mdL b c l l.length).filter ok) ⟨⟨#[120]⟩,0,[0,1,2],[1,q,w64 (q*q)],⟨0,0⟩⟩).bind _)=_
   rw[ey,Option.bind_some]
   dsimp only
   have i1:=(hin m1 hm1).1
   have i2:=(hin m2 hm2).2
   rw[←e1] at i1
   rw[←e2] at i2
   rw[show((0:Int)==0)=true from rfl,cond_true,cond_true,decide_eq_true i1,cond_true,decide_eq_true i2,cond_true,Qes,Option.bind_some]
end
end Go.Proofs.Ytmocejncmhbfaaa
