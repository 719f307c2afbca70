/-
  The texts X4, X5, PNt of the proof, one behind the other. No conditions.
-/
import Derived.Test.YtjpfjfdaomckhaaG3
namespace Go.Proofs.Ytjpfjfdaomckhaa
open _root_.Go.Proofs.Try
open Go.RowKit
set_option maxRecDepth 100000
set_option maxHeartbeats 4000000
set_option synthInstance.maxSize 4000
set_option synthInstance.maxHeartbeats 400000
section
def Qf2 (_N:Nat):Option (List Qaz):=
  some ([(⟨(-1),0,0,0⟩:Qaz),(⟨0,5,100,0⟩:Qaz),(⟨1,3,50,2⟩:Qaz),(⟨1,2,60,1⟩:Qaz)])
def Q0z:AV:=.agg [(I ((-1))),(I (0)),(I (0)),(I (0))]
def Q0y:AV:=.agg [(I (0)),(I (5)),(I (100)),(I (0))]
def Q0x:AV:=.agg [(I (1)),(I (3)),(I (50)),(I (2))]
def Q0w:AV:=.agg [(I (1)),(I (2)),(I (60)),(I (1))]
def Q0v:AV:=.dat 4 (([(⟨(-1),0,0,0⟩:Qaz),(⟨0,5,100,0⟩:Qaz),(⟨1,3,50,2⟩:Qaz),(⟨1,2,60,1⟩:Qaz)]:List Qaz).map Qas)
theorem Qf8 (N:Nat) (r:List Qaz) (h:Qf2 N=some r):Spec prog 23 [] [] (.dat 4 (r.map Qas)) []:=by
  refine sA func23 0 fun _ _ _ hq hd0=>?_
  unfold Qf2 at h
  refine wxz<|wx tbk [(0,rp _ _),(1,rp _ _),(2,rp _ _),(3,rp _ _),(4,rp [(.tmp 1,Q0z),(.tmp 2,Q0y),(.tmp 3,Q0x),(.tmp 4,Q0w)] Q0v)] ⟨Qak (vs:=[(I ((-1)))]) rfl Qv5 Qrd rfl (by rfl) rfl,Qak (vs:=[I 5,I 100]) rfl Qv5 Qrd rfl (by rfl) rfl,Qak (vs:=[I 1,I 3,I 50,I 2]) rfl Qv5 Qrd rfl (by rfl) rfl,Qak (vs:=[I 1,I 2,I 60,I 1]) rfl Qv5 Qrd rfl (by rfl) rfl,Qa6 (vs:=[Q0z,Q0y,Q0x,Q0w]) rfl underlying69 Qjm Qrd rfl (by decide) rfl (by decide) (by rfl) (by rfl) (by rfl) rfl,tv⟩<|Qac ?_
  obtain rfl:=osi h
  exact fie [Q0v] ⟨rot,tv⟩
def Qgq (_N:Nat) (p0:Qaz):Option Int:=
  some p0.Rank
theorem Qh9 (N:Nat) (p0:Qaz) (r:Int) (h:Qgq N p0=some r):Spec prog 92 [(.agg (Qas p0))] [] (I r) []:=by
  refine sA func92 0 fun _ _ _ hq hd0=>?_
  unfold Qgq at h
  refine wxz<|wxz<|Qac ?_
  obtain rfl:=osi h
  exact fend ⟨[I p0.Rank],⟨rot,tv⟩,rfl⟩ nll
def Qb4 (N:Nat) (p0 p1:Int) (p2:List Qaz):Option Int:=
  (getI p2 p0).bind fun x2=>
  (Qgq N x2).bind fun x7=>
  (getI p2 p1).bind fun x8=>
  (Qgq N x8).bind fun x13=>
  some (w64 (x7-x13))
abbrev Qvr:Slot:=.own 1 [[(.fn (.func 92) [] [])]]
abbrev Qvq (p2:List Qaz):AV:=.dat 4 (p2.map Qas)
theorem Qcu (N:Nat) (p0 p1:Int) (p2:List Qaz) (r:Int) (h:Qb4 N p0 p1 p2=some r):Spec prog 111 [(I p0),(I p1),(.ref 0 1 (0) 0),(.ref 1 1 (0) 0)] [Qvr,(.own 1 [[(Qvq p2)]])] (I r) [Qvr,(.own 1 [[(Qvq p2)]])]:=by
  refine sF func111 2 fun _ _ _ hq hd0=>?_
  unfold Qb4 at h
  refine wxz ?_
  obtain⟨x2,hg3,h⟩:=bno h
  obtain⟨hi4,hj5⟩:=gsm hg3
  obtain⟨x7,hf6,h⟩:=bno h
  obtain⟨x8,hg9,h⟩:=bno h
  obtain⟨hi10,hj11⟩:=gsm hg9
  obtain⟨x13,hf12,h⟩:=bno h
  refine wxd tbk [(3,rp _ _),(5,rp _ _),(9,rp _ _),(11,rp _ _)] ⟨aiq underlying68 Qjm Qas hi4 hj5,apw Que (Qh9 N x2 _ hf6),aiq underlying68 Qjm Qas hi10 hj11,apw Que (Qh9 N x8 _ hf12),tv⟩ ?_
  refine wmr (mto (n:=20) (l':=[(6,(I (w64 (x7-x13))))]) (own':=[Qvr,(.own 1 [[(Qvq p2)]])]) [(6,(I (w64 (x7-x13))))] [0,1] [Qvr,(.own 1 [[(Qvq p2)]])] hq (pw pn) (qb (lc (.rn (Qap rn0 rn0)) ln) (qb (lc (rnd Qad) ln) qn)))<|Qac ?_
  obtain rfl:=osi h
  exact⟨_,Mor.rfl,fio [(I (w64 (x7-x13)))] ⟨rot,tv⟩⟩
def Qa4 (N p0:Nat) (p1:Int) (p4:List Qaz) (k9:(List Int)→Option (List Int)):Nat→Int→(List Int)→Option (List Int)
  |0,_,_=>none
  |n14+1,y10,y11=>
    Qcx (fun _=>
      chk (decide (0≤w64 (y10-1))&&decide ((w64 (y10-1)).toNat<p0))<|
      (y11[(w64 (y10-1)).toNat]?).bind fun x17=>
      chk (decide (0≤y10)&&decide (y10.toNat<p0))<|
      (y11[y10.toNat]?).bind fun x20=>
      chk (decide (0≤y10)&&decide (y10.toNat<p0))<|
      (y11[y10.toNat]?).bind fun _=>
      chk (decide (0≤w64 (y10-1))&&decide ((w64 (y10-1)).toNat<p0))<|
      ((y11.set y10.toNat x17)[(w64 (y10-1)).toNat]?).bind fun _=>
      Qa4 N p0 p1 p4 k9 n14 (w64 (y10-1)) ((y11.set y10.toNat x17).set ((w64 (y10-1)).toNat) x20)) fun k15:Unit→Option (List Int)=>
    bif (decide (y10>p1)) then
     chk (decide (0≤y10)&&decide (y10.toNat<p0))<|
     (y11[y10.toNat]?).bind fun x30=>
     chk (decide (0≤w64 (y10-1))&&decide ((w64 (y10-1)).toNat<p0))<|
     (y11[(w64 (y10-1)).toNat]?).bind fun x33=>
     (Qb4 N x30 x33 p4).bind fun x36=>
     bif (decide (x36<0)) then
      k15 ()
     else
      k9 (y11)
    else
     k9 (y11)
def Qa5 (N p0:Nat) (p1 p2:Int) (p4:List Qaz):Nat→Int→(List Int)→Option (List Int)
  |0,_,_=>none
  |n6+1,y2,y3=>
    bif (decide (y2<p2)) then
     Qcx (fun y8=>
       Qa5 N p0 p1 p2 p4 n6 (w64 (y2+1)) y8) fun k9:(List Int)→Option (List Int)=>
     Qa4 N p0 p1 p4 k9 N y2 y3
    else
     some y3
def Qcc (N p0:Nat) (p1 p2:Int) (p3:List Int) (p4:List Qaz):Option (List Int):=
  Qa5 N p0 p1 p2 p4 N (w64 (p1+1)) p3
abbrev Qjf:AV:=.fn (.func 111) [] [(.ref 1 1 (0) 0),(.ref 2 1 (0) 0)]
abbrev Qhj:Slot:=.own 1 [[(.fn (.func 92) [] [])]]
abbrev Qhi (p4:List Qaz):AV:=.dat 4 (p4.map Qas)
theorem Qdm (N p0:Nat) (p1 p2:Int) (p3:List Int) (p4:List Qaz) (r:List Int) (h:Qcc N p0 p1 p2 p3 p4=some r):Spec prog 120 [(.own 0 1 (0) p0),(I p1),(I p2),Qjf] [(.own 1 (p3.map Qaa)),Qhj,(.own 1 [[(Qhi p4)]])] (.tup []) [(.own 1 (r.map Qaa)),Qhj,(.own 1 [[(Qhi p4)]])]:=by
  refine sF func120 3 fun _ _ _ hq hd0=>?_
  unfold Qcc at h
  refine wxz<|Qai ?_
  refine wmr (mto (n:=53) (l':=[(0,(.own 0 1 (0) p0)),(1,I p1),(2,I p2),(3,Qjf),(8,(I ((w64 (p1+1)))))]) (own':=[(.own 1 (p3.map Qaa)),Qhj,(.own 1 [[(Qhi p4)]])]) [(0,(.own 0 1 (0) p0)),(1,I p1),(2,I p2),(3,Qjf),(8,(I (w64 (p1+1))))] [0,1,2] [(.own 1 (p3.map Qaa)),Qhj,(.own 1 [[(Qhi p4)]])] hq (pc (.rn (Qae rfl)) (pw (pw (pc (.rn (Qap rn0 (rnc (rqr rfl) (rnc (rqr rfl) rn0)))) (pw pn))))) (qc (spr Qab) (qb (lc (.rn (Qap rn0 rn0)) ln) (qb (lc (rnd Qad) ln) qn)))) ?_
  refine Qb0 (τ:=Int×(List Int)) (fun n t=>Qa5 N p0 p1 p2 p4 n t.1 t.2=some r) (fun ⟨y2,y3⟩=>⟨mk 53 [(0,(.own 0 1 (0) p0)),(1,I p1),(2,I p2),(3,Qjf),(8,I y2)],[(.own 1 (y3.map Qaa)),Qhj,(.own 1 [[(Qhi p4)]])]⟩) (fun t h=>by rw[Qa5] at h;cases h) (fun n6 ih t h=>?_) N (w64 (p1+1),p3) h
  obtain⟨y2,y3⟩:=t
  rw[Qa5] at h
  skip
  refine wsq<|wxz ?_
  refine bfe h (fun hc7 h=>?_) fun hc7 h=>?_
  ·refine wft hc7<|Qaf<|thn ?_
   obtain⟨k9,hk_k9,h⟩:=jko h
   refine wjn (τ:=(List Int)) (fun t=>k9 t=some r) (fun y8=>⟨mk 53 [(0,(.own 0 1 (0) p0)),(1,I p1),(2,I p2),(3,Qjf),(8,I y2)],[(.own 1 (y8.map Qaa)),Qhj,(.own 1 [[(Qhi p4)]])]⟩) (fun y8 h=>?_) ?_
   ·subst hk_k9
    exact wxz1<|thn<|arm (mto (n:=53) [(0,(.own 0 1 (0) p0)),(1,I p1),(2,I p2),(3,Qjf),(8,(I (w64 (y2+1))))] [0,1,2] [(.own 1 (y8.map Qaa)),Qhj,(.own 1 [[(Qhi p4)]])] hq (pc (.rn (Qae rfl)) (pw (pw (pc (.rn (Qap rn0 (rnc (rqr rfl) (rnc (rqr rfl) rn0)))) (pw pn))))) (qc (spr Qab) (qb (lc (.rn (Qap rn0 rn0)) ln) (qb (lc (rnd Qad) ln) qn)))) (ih (w64 (y2+1),y8) h)
   ·skip
    refine Qai<|wxz<|Qai ?_
    refine wmr (mto (n:=53) (l':=[(0,(.own 0 1 (0) p0)),(1,I p1),(2,I p2),(3,Qjf),(8,I y2),(9,I y2)]) (own':=[(.own 1 (y3.map Qaa)),Qhj,(.own 1 [[(Qhi p4)]])]) [(0,(.own 0 1 (0) p0)),(1,I p1),(2,I p2),(3,Qjf),(8,I y2),(9,I y2)] [0,1,2] [(.own 1 (y3.map Qaa)),Qhj,(.own 1 [[(Qhi p4)]])] hq (pc (.rn (Qae rfl)) (pw (pw (pc (.rn (Qap rn0 (rnc (rqr rfl) (rnc (rqr rfl) rn0)))) (pw (pw pn)))))) (qc (spr Qab) (qb (lc (.rn (Qap rn0 rn0)) ln) (qb (lc (rnd Qad) ln) qn)))) ?_
    refine Qb0 (τ:=Int×(List Int)) (fun n t=>Qa4 N p0 p1 p4 k9 n t.1 t.2=some r) (fun ⟨y10,y11⟩=>⟨mk 53 [(0,(.own 0 1 (0) p0)),(1,I p1),(2,I p2),(3,Qjf),(8,I y2),(9,I y10)],[(.own 1 (y11.map Qaa)),Qhj,(.own 1 [[(Qhi p4)]])]⟩) (fun t h=>by rw[Qa4] at h;cases h) (fun n14 ih t h=>?_) N (y2,y3) h
    obtain⟨y10,y11⟩:=t
    rw[Qa4] at h
    skip
    obtain⟨k15,hk_k15,h⟩:=jko h
    refine wjn (τ:=Unit) (fun t=>k15 t=some r) (fun _=>⟨mk 53 [(0,(.own 0 1 (0) p0)),(1,I p1),(2,I p2),(3,Qjf),(8,I y2),(9,I y10)],[(.own 1 (y11.map Qaa)),Qhj,(.own 1 [[(Qhi p4)]])]⟩) (fun t h=>?_) ?_
    ·subst hk_k15
     refine wsq<|Qai ?_
     obtain⟨hi16,h⟩:=cko h
     obtain⟨hi16a,hi16b⟩:=Qat hi16
     obtain⟨x17,hg18,h⟩:=bno h
     obtain⟨hi19,h⟩:=cko h
     obtain⟨hi19a,hi19b⟩:=Qat hi19
     obtain⟨x20,hg21,h⟩:=bno h
     obtain⟨hi22,h⟩:=cko h
     obtain⟨hi22a,hi22b⟩:=Qat hi22
     obtain⟨x23,hg24,h⟩:=bno h
     obtain⟨hi25,h⟩:=cko h
     obtain⟨hi25a,hi25b⟩:=Qat hi25
     obtain⟨x26,hg27,h⟩:=bno h
     refine wy1 tbk [(8,rb [(.tmp 42,(.own 0 1 (0) p0)),(.tmp 44,(I (w64 (y10-1))))] [(0,(.own 1 (y11.map Qaa)))] (.ref 0 1 ((w64 (y10-1)).toNat) 0)),(9,rb [(.tmp 45,(.ref 0 1 ((w64 (y10-1)).toNat) 0))] [(0,(.own 1 (y11.map Qaa)))] (I x17)),(12,rb [(.tmp 47,(.own 0 1 (0) p0)),(.tmp 48,I y10)] [(0,(.own 1 (y11.map Qaa)))] (.ref 0 1 y10.toNat 0)),(13,rb [(.tmp 49,(.ref 0 1 y10.toNat 0))] [(0,(.own 1 (y11.map Qaa)))] (I x20)),(14,rb [(.tmp 37,(.own 0 1 (0) p0)),(.tmp 38,I y10)] [(0,(.own 1 (y11.map Qaa)))] (.ref 0 1 y10.toNat 0)),(15,⟨[(.tmp 51,(.ref 0 1 y10.toNat 0)),(.tmp 46,I x17)],[(0,(.own 1 (y11.map Qaa)))],.any,[(0,(.own 1 ((y11.set y10.toNat x17:List Int).map Qaa)))],false⟩),(16,rb [(.tmp 39,(.own 0 1 (0) p0)),(.tmp 41,(I (w64 (y10-1))))] [(0,(.own 1 ((y11.set y10.toNat x17:List Int).map Qaa)))] (.ref 0 1 ((w64 (y10-1)).toNat) 0)),(17,⟨[(.tmp 52,(.ref 0 1 ((w64 (y10-1)).toNat) 0)),(.tmp 50,I x20)],[(0,(.own 1 ((y11.set y10.toNat x17:List Int).map Qaa)))],.any,[(0,(.own 1 (((y11.set y10.toNat x17).set ((w64 (y10-1)).toNat) x20:List Int).map Qaa)))],false⟩)] ⟨aio rfl underlying25 ti3 (odt hi16a) (odt hi16b) (Nat.zero_add _),ald rfl ti3 (by decide) (mgt Qaa hg18) (nle rfl) rfl,aio rfl underlying25 ti3 (odt hi19a) (odt hi19b) (Nat.zero_add _),ald rfl ti3 (by decide) (mgt Qaa hg21) (nle rfl) rfl,aio rfl underlying25 ti3 (odt hi22a) (odt hi22b) (Nat.zero_add _),ast rfl ti3 (by rfl) (mgt Qaa hg24) (nle rfl) (Qd2 Qaa rfl),aio rfl underlying25 ti3 (odt hi25a) (odt hi25b) (Nat.zero_add _),ast rfl ti3 (by rfl) (mgt Qaa hg27) (nle rfl) (Qd2 Qaa rfl),tv⟩<|bln<|thn<|wxz1<|thn ?_
     exact arm (mto (n:=53) [(0,(.own 0 1 (0) p0)),(1,I p1),(2,I p2),(3,Qjf),(8,I y2),(9,(I (w64 (y10-1))))] [0,1,2] [(.own 1 (((y11.set y10.toNat x17).set ((w64 (y10-1)).toNat) x20:List Int).map Qaa)),Qhj,(.own 1 [[(Qhi p4)]])] hq (pc (.rn (Qae rfl)) (pw (pw (pc (.rn (Qap rn0 (rnc (rqr rfl) (rnc (rqr rfl) rn0)))) (pw (pw pn)))))) (qc (spr Qab) (qb (lc (.rn (Qap rn0 rn0)) ln) (qb (lc (rnd Qad) ln) qn)))) (ih (w64 (y10-1),(y11.set y10.toNat x17).set ((w64 (y10-1)).toNat) x20) h)
    ·skip
     refine bfe h (fun hb28 h=>?_) fun hb28 h=>?_
     ·obtain⟨hi29,h⟩:=cko h
      obtain⟨hi29a,hi29b⟩:=Qat hi29
      obtain⟨x30,hg31,h⟩:=bno h
      obtain⟨hi32,h⟩:=cko h
      obtain⟨hi32a,hi32b⟩:=Qat hi32
      obtain⟨x33,hg34,h⟩:=bno h
      obtain⟨x36,hf35,h⟩:=bno h
      refine wxd tbk [(3,rp [(.tmp 20,(B ((decide (y10>p1)))))] (B true)),(7,rb [(.tmp 21,B true),(.tmp 23,(.own 0 1 (0) p0)),(.tmp 24,I y10)] [(0,(.own 1 (y11.map Qaa)))] (.ref 0 1 y10.toNat 0)),(8,rb [(.tmp 21,B true),(.tmp 25,(.ref 0 1 y10.toNat 0))] [(0,(.own 1 (y11.map Qaa)))] (I x30)),(12,rb [(.tmp 21,B true),(.tmp 27,(.own 0 1 (0) p0)),(.tmp 29,(I (w64 (y10-1))))] [(0,(.own 1 (y11.map Qaa)))] (.ref 0 1 ((w64 (y10-1)).toNat) 0)),(13,rb [(.tmp 21,B true),(.tmp 30,(.ref 0 1 ((w64 (y10-1)).toNat) 0))] [(0,(.own 1 (y11.map Qaa)))] (I x33)),(14,⟨[(.tmp 21,B true),(.tmp 22,Qjf),(.tmp 26,I x30),(.tmp 31,I x33)],[(1,Qhj),(2,(.own 1 [[(Qhi p4)]]))],I x36,[(1,Qhj),(2,(.own 1 [[(Qhi p4)]]))],false⟩)] ⟨asb hb28 (amv rfl),ag_ (aio rfl underlying25 ti3 (odt hi29a) (odt hi29b) (Nat.zero_add _)),ag_ (ald rfl ti3 (by decide) (mgt Qaa hg31) (nle rfl) rfl),ag_ (aio rfl underlying25 ti3 (odt hi32a) (odt hi32b) (Nat.zero_add _)),ag_ (ald rfl ti3 (by decide) (mgt Qaa hg34) (nle rfl) rfl),ag_ (Qeb (first:=[]) (cap:=[.ref 1 1 0 0,.ref 2 1 0 0]) (vs:=[I x30,I x33]) (σr:=[Qhj,(.own 1 [[(Qhi p4)]])]) (σr':=[Qhj,(.own 1 [[(Qhi p4)]])]) (res':=(I x36)) [1,2] rfl Qld (Qcu N x30 x33 p4 _ hf35) rfl (Qb9 (rncc (rnc (Qbg rfl) (rnc (Qbg rfl) rn0)))) (slc (Qaj (rnc (.plain _ (NLt.fn _ _ _ nl0 nl0)) rn0)) (slc (Qaj (rnc (pld Qad) rn0)) Qam)) (slc (Qaj (rnc (.plain _ (NLt.fn _ _ _ nl0 nl0)) rn0)) (slc (Qaj (rnc (pld Qad) rn0)) Qam)) (.plain _ nll) rfl rfl rfl),tv⟩ ?_
      refine bfe h (fun hc37 h=>?_) fun hc37 h=>?_
      ·exact wft hc37<|Qaf<|thn<|⟨(),h,(mto (n:=53) [(0,(.own 0 1 (0) p0)),(1,I p1),(2,I p2),(3,Qjf),(8,I y2),(9,I y10)] [0,1,2] [(.own 1 (y11.map Qaa)),Qhj,(.own 1 [[(Qhi p4)]])] hq (pc (.rn (Qae rfl)) (pw (pw (pc (.rn (Qap rn0 (rnc (rqr rfl) (rnc (rqr rfl) rn0)))) (pw (pw pn)))))) (qc (spr Qab) (qb (lc (.rn (Qap rn0 rn0)) ln) (qb (lc (rnd Qad) ln) qn))))⟩
      ·exact wfn hc37<|Qax<|Qan<|Qan<|Qaw rfl<|bln<|thn<|⟨(y11),h,(mto (n:=53) [(0,(.own 0 1 (0) p0)),(1,I p1),(2,I p2),(3,Qjf),(8,I y2)] [0,1,2] [(.own 1 (y11.map Qaa)),Qhj,(.own 1 [[(Qhi p4)]])] hq (pc (.rn (Qae rfl)) (pw (pw (pc (.rn (Qap rn0 (rnc (rqr rfl) (rnc (rqr rfl) rn0)))) (pw pn))))) (qc (spr Qab) (qb (lc (.rn (Qap rn0 rn0)) ln) (qb (lc (rnd Qad) ln) qn))))⟩
     ·exact wxd tbk [(3,rp [(.tmp 20,(B ((decide (y10>p1)))))] (B false))] ⟨asb hb28 (amv rfl),tv⟩<|wfa<|Qax<|Qan<|Qan<|Qaw rfl<|bln<|thn<|⟨(y11),h,(mto (n:=53) [(0,(.own 0 1 (0) p0)),(1,I p1),(2,I p2),(3,Qjf),(8,I y2)] [0,1,2] [(.own 1 (y11.map Qaa)),Qhj,(.own 1 [[(Qhi p4)]])] hq (pc (.rn (Qae rfl)) (pw (pw (pc (.rn (Qap rn0 (rnc (rqr rfl) (rnc (rqr rfl) rn0)))) (pw pn))))) (qc (spr Qab) (qb (lc (.rn (Qap rn0 rn0)) ln) (qb (lc (rnd Qad) ln) qn))))⟩
  ·refine wfn hc7<|Qax<|Qan<|Qan<|Qaw rfl ?_
   obtain rfl:=osi h
   exact⟨_,(mto (n:=53) (l':=[]) (own':=[(.own 1 (y3.map Qaa)),Qhj,(.own 1 [[(Qhi p4)]])]) [] [0,1,2] [(.own 1 (y3.map Qaa)),Qhj,(.own 1 [[(Qhi p4)]])] hq pn (qc (spr Qab) (qb (lc (.rn (Qap rn0 rn0)) ln) (qb (lc (rnd Qad) ln) qn)))),fio [] tv⟩
def Qbf (N p0:Nat) (p1 p2 p3:Int):Nat→Int→(List Int)→Option (List Int)
  |0,_,_=>none
  |n6+1,y2,y3=>
    bif (decide (y2<p3)) then
     chk (decide (0≤w64 (p2+y2))&&decide ((w64 (p2+y2)).toNat<p0))<|
     (y3[(w64 (p2+y2)).toNat]?).bind fun x9=>
     chk (decide (0≤w64 (p1+y2))&&decide ((w64 (p1+y2)).toNat<p0))<|
     (y3[(w64 (p1+y2)).toNat]?).bind fun x12=>
     chk (decide (0≤w64 (p1+y2))&&decide ((w64 (p1+y2)).toNat<p0))<|
     (y3[(w64 (p1+y2)).toNat]?).bind fun _=>
     chk (decide (0≤w64 (p2+y2))&&decide ((w64 (p2+y2)).toNat<p0))<|
     ((y3.set ((w64 (p1+y2)).toNat) x9)[(w64 (p2+y2)).toNat]?).bind fun _=>
     Qbf N p0 p1 p2 p3 n6 (w64 (y2+1)) ((y3.set ((w64 (p1+y2)).toNat) x9).set ((w64 (p2+y2)).toNat) x12)
    else
     some y3
def Qb2 (N p0:Nat) (p1 p2 p3:Int) (p4:List Int) (_p5:List Qaz):Option (List Int):=
  Qbf N p0 p1 p2 p3 N 0 p4
abbrev Qn7:Slot:=.own 1 [[(.fn (.func 92) [] [])]]
abbrev Qn6 (p5:List Qaz):AV:=.dat 4 (p5.map Qas)
def Qsw (y3:List Int) (p1 y2 x9:Int):Slot:=.own 1 ((y3.set ((w64 (p1+y2)).toNat) x9:List Int).map Qaa)
theorem Qc5 (N p0:Nat) (p1 p2 p3:Int) (p4:List Int) (p5:List Qaz) (r:List Int) (h:Qb2 N p0 p1 p2 p3 p4 p5=some r):Spec prog 123 [(.own 0 1 (0) p0),(I p1),(I p2),(I p3),(.fn (.func 111) [] [(.ref 1 1 (0) 0),(.ref 2 1 (0) 0)])] [(.own 1 (p4.map Qaa)),Qn7,(.own 1 [[(Qn6 p5)]])] (.tup []) [(.own 1 (r.map Qaa)),Qn7,(.own 1 [[(Qn6 p5)]])]:=by
  refine sF func123 3 fun _ _ _ hq hd0=>?_
  unfold Qb2 at h
  refine wxz<|Qai ?_
  refine wmr (mto (n:=38) (l':=[(0,(.own 0 1 (0) p0)),(1,I p1),(2,I p2),(3,I p3),(10,I 0)]) (own':=[(.own 1 (p4.map Qaa)),Qn7,(.own 1 [[(Qn6 p5)]])]) [(0,(.own 0 1 (0) p0)),(1,I p1),(2,I p2),(3,I p3),(10,I 0)] [0,1,2] [(.own 1 (p4.map Qaa)),Qn7,(.own 1 [[(Qn6 p5)]])] hq (pc (.rn (Qae rfl)) (pw (pw (pw (pw pn))))) (qc (spr Qab) (qb (lc (.rn (Qap rn0 rn0)) ln) (qb (lc (rnd Qad) ln) qn)))) ?_
  refine Qb0 (τ:=Int×(List Int)) (fun n t=>Qbf N p0 p1 p2 p3 n t.1 t.2=some r) (fun ⟨y2,y3⟩=>⟨mk 38 [(0,(.own 0 1 (0) p0)),(1,I p1),(2,I p2),(3,I p3),(10,I y2)],[(.own 1 (y3.map Qaa)),Qn7,(.own 1 [[(Qn6 p5)]])]⟩) (fun t h=>by rw[Qbf] at h;cases h) (fun n6 ih t h=>?_) N (0,p4) h
  obtain⟨y2,y3⟩:=t
  rw[Qbf] at h
  skip
  refine wsq<|wxz ?_
  refine bfe h (fun hc7 h=>?_) fun hc7 h=>?_
  ·refine wft hc7<|Qaf<|thn<|wsq<|Qai ?_
   obtain⟨hi8,h⟩:=cko h
   obtain⟨hi8a,hi8b⟩:=Qat hi8
   obtain⟨x9,hg10,h⟩:=bno h
   obtain⟨hi11,h⟩:=cko h
   obtain⟨hi11a,hi11b⟩:=Qat hi11
   obtain⟨x12,hg13,h⟩:=bno h
   obtain⟨hi14,h⟩:=cko h
   obtain⟨hi14a,hi14b⟩:=Qat hi14
   obtain⟨x15,hg16,h⟩:=bno h
   obtain⟨hi17,h⟩:=cko h
   obtain⟨hi17a,hi17b⟩:=Qat hi17
   obtain⟨x18,hg19,h⟩:=bno h
   refine wy1 tbk [(12,rb [(.tmp 24,(.own 0 1 (0) p0)),(.tmp 27,(I (w64 (p2+y2))))] [(0,(.own 1 (y3.map Qaa)))] (.ref 0 1 ((w64 (p2+y2)).toNat) 0)),(13,rb [(.tmp 28,(.ref 0 1 ((w64 (p2+y2)).toNat) 0))] [(0,(.own 1 (y3.map Qaa)))] (I x9)),(18,rb [(.tmp 30,(.own 0 1 (0) p0)),(.tmp 33,(I (w64 (p1+y2))))] [(0,(.own 1 (y3.map Qaa)))] (.ref 0 1 ((w64 (p1+y2)).toNat) 0)),(19,rb [(.tmp 34,(.ref 0 1 ((w64 (p1+y2)).toNat) 0))] [(0,(.own 1 (y3.map Qaa)))] (I x12)),(20,rb [(.tmp 16,(.own 0 1 (0) p0)),(.tmp 19,(I (w64 (p1+y2))))] [(0,(.own 1 (y3.map Qaa)))] (.ref 0 1 ((w64 (p1+y2)).toNat) 0)),(21,⟨[(.tmp 36,(.ref 0 1 ((w64 (p1+y2)).toNat) 0)),(.tmp 29,I x9)],[(0,(.own 1 (y3.map Qaa)))],.any,[(0,(Qsw y3 p1 y2 x9))],false⟩),(22,rb [(.tmp 20,(.own 0 1 (0) p0)),(.tmp 23,(I (w64 (p2+y2))))] [(0,(Qsw y3 p1 y2 x9))] (.ref 0 1 ((w64 (p2+y2)).toNat) 0)),(23,⟨[(.tmp 37,(.ref 0 1 ((w64 (p2+y2)).toNat) 0)),(.tmp 35,I x12)],[(0,(Qsw y3 p1 y2 x9))],.any,[(0,(.own 1 (((y3.set ((w64 (p1+y2)).toNat) x9).set ((w64 (p2+y2)).toNat) x12:List Int).map Qaa)))],false⟩)] ⟨aio rfl underlying25 ti3 (odt hi8a) (odt hi8b) (Nat.zero_add _),ald rfl ti3 (by decide) (mgt Qaa hg10) (nle rfl) rfl,aio rfl underlying25 ti3 (odt hi11a) (odt hi11b) (Nat.zero_add _),ald rfl ti3 (by decide) (mgt Qaa hg13) (nle rfl) rfl,aio rfl underlying25 ti3 (odt hi14a) (odt hi14b) (Nat.zero_add _),ast rfl ti3 (by rfl) (mgt Qaa hg16) (nle rfl) (Qd2 Qaa rfl),aio rfl underlying25 ti3 (odt hi17a) (odt hi17b) (Nat.zero_add _),ast rfl ti3 (by rfl) (mgt Qaa hg19) (nle rfl) (Qd2 Qaa rfl),tv⟩<|bln<|thn<|wxz1<|thn ?_
   exact arm (mto (n:=38) [(0,(.own 0 1 (0) p0)),(1,I p1),(2,I p2),(3,I p3),(10,(I (w64 (y2+1))))] [0,1,2] [(.own 1 (((y3.set ((w64 (p1+y2)).toNat) x9).set ((w64 (p2+y2)).toNat) x12:List Int).map Qaa)),Qn7,(.own 1 [[(Qn6 p5)]])] hq (pc (.rn (Qae rfl)) (pw (pw (pw (pw pn))))) (qc (spr Qab) (qb (lc (.rn (Qap rn0 rn0)) ln) (qb (lc (rnd Qad) ln) qn)))) (ih (w64 (y2+1),(y3.set ((w64 (p1+y2)).toNat) x9).set ((w64 (p2+y2)).toNat) x12) h)
  ·refine wfn hc7<|Qax<|Qan<|Qan<|Qaw rfl ?_
   obtain rfl:=osi h
   exact⟨_,(mto (n:=38) (l':=[]) (own':=[(.own 1 (y3.map Qaa)),Qn7,(.own 1 [[(Qn6 p5)]])]) [] [0,1,2] [(.own 1 (y3.map Qaa)),Qn7,(.own 1 [[(Qn6 p5)]])] hq pn (qc (spr Qab) (qb (lc (.rn (Qap rn0 rn0)) ln) (qb (lc (rnd Qad) ln) qn)))),fio [] tv⟩
def Qa8 (N p0:Nat) (p2:Int) (k4:Int×(List Int)→Option (List Int)) (p5:List Qaz):Nat→Int→Int→(List Int)→Option (List Int)
  |0,_,_,_=>none
  |n13+1,y7,y8,y9=>
    bif (y7 != y8) then
     bif (decide (y7>y8)) then
      (Qb2 N p0 (w64 (p2-y7)) p2 y8 y9 p5).bind fun x17=>
      Qa8 N p0 p2 k4 p5 n13 (w64 (y7-y8)) y8 x17
     else
      (Qb2 N p0 (w64 (p2-y7)) (w64 ((w64 (p2+y8))-y7)) y7 y9 p5).bind fun x19=>
      Qa8 N p0 p2 k4 p5 n13 y7 (w64 (y8-y7)) x19
    else
     k4 (y7,y9)
def Qdu (N p0:Nat) (p1 p2 p3:Int) (p4:List Int) (p5:List Qaz):Option (List Int):=
  Qcx (fun ⟨y2,y3⟩=>
    (Qb2 N p0 (w64 (p2-y2)) p2 y2 y3 p5).bind fun x6=>
    some x6) fun k4:Int×(List Int)→Option (List Int)=>
  Qa8 N p0 p2 k4 p5 N (w64 (p2-p1)) (w64 (p3-p2)) p4
abbrev Qle:AV:=.fn (.func 111) [] [(.ref 1 1 (0) 0),(.ref 2 1 (0) 0)]
abbrev Qig:Slot:=.own 1 [[(.fn (.func 92) [] [])]]
abbrev Qif (p5:List Qaz):AV:=.dat 4 (p5.map Qas)
theorem Qgc (N p0:Nat) (p1 p2 p3:Int) (p4:List Int) (p5:List Qaz) (r:List Int) (h:Qdu N p0 p1 p2 p3 p4 p5=some r):Spec prog 122 [(.own 0 1 (0) p0),(I p1),(I p2),(I p3),Qle] [(.own 1 (p4.map Qaa)),Qig,(.own 1 [[(Qif p5)]])] (.tup []) [(.own 1 (r.map Qaa)),Qig,(.own 1 [[(Qif p5)]])]:=by
  refine sF func122 3 fun _ _ _ hq hd0=>?_
  unfold Qdu at h
  refine wxz<|wxz ?_
  obtain⟨k4,hk_k4,h⟩:=jko h
  refine wjn (τ:=Int×(List Int)) (fun t=>k4 t=some r) (fun ⟨y2,y3⟩=>⟨mk 58 [(0,(.own 0 1 (0) p0)),(2,I p2),(4,Qle),(10,I y2)],[(.own 1 (y3.map Qaa)),Qig,(.own 1 [[(Qif p5)]])]⟩) (fun t h=>?_) ?_
  ·subst hk_k4
   obtain⟨y2,y3⟩:=t
   obtain⟨x6,hf5,h⟩:=bno h
   refine wx1 tbk [(7,⟨_,_,_,_,false⟩)] ⟨acq [(.own 0 1 (0) p0),(I (w64 (p2-y2))),I p2,I y2,Qle] [(.own 1 (y3.map Qaa)),Qig,(.own 1 [[(Qif p5)]])] [(.own 1 (x6.map Qaa)),Qig,(.own 1 [[(Qif p5)]])] (.tup []) [0,1,2] Qnq (Qc5 N p0 (w64 (p2-y2)) p2 y2 y3 p5 _ hf5) (Qb9 (rnc (Qea rfl) (rncc (rnc (.plain _ nll) (rnc (Qap rn0 (rnc (Qbg rfl) (rnc (Qbg rfl) rn0))) rn0))))) (slc (Qbo Qab) (slc (Qaj (rnc (.plain _ (NLt.fn _ _ _ nl0 nl0)) rn0)) (slc (Qaj (rnc (pld Qad) rn0)) Qam))) (slc (Qbo Qab) (slc (Qaj (rnc (.plain _ (NLt.fn _ _ _ nl0 nl0)) rn0)) (slc (Qaj (rnc (pld Qad) rn0)) Qam))) (.plain _ (NLt.tup _ nl0)),tv⟩ ?_
   obtain rfl:=osi h
   exact⟨_,(mto (n:=58) (l':=[]) (own':=[(.own 1 (x6.map Qaa)),Qig,(.own 1 [[(Qif p5)]])]) [] [0,1,2] [(.own 1 (x6.map Qaa)),Qig,(.own 1 [[(Qif p5)]])] hq pn (qc (spr Qab) (qb (lc (.rn (Qap rn0 rn0)) ln) (qb (lc (rnd Qad) ln) qn)))),fio [] tv⟩
  ·skip
   refine Qai<|wmr (mto (n:=58) (l':=[(0,(.own 0 1 (0) p0)),(2,I p2),(4,Qle),(10,(I ((w64 (p2-p1))))),(11,(I ((w64 (p3-p2)))))]) (own':=[(.own 1 (p4.map Qaa)),Qig,(.own 1 [[(Qif p5)]])]) [(0,(.own 0 1 (0) p0)),(2,I p2),(4,Qle),(10,(I (w64 (p2-p1)))),(11,(I (w64 (p3-p2))))] [0,1,2] [(.own 1 (p4.map Qaa)),Qig,(.own 1 [[(Qif p5)]])] hq (pc (.rn (Qae rfl)) (pw (pc (.rn (Qap rn0 (rnc (rqr rfl) (rnc (rqr rfl) rn0)))) (pw (pw pn))))) (qc (spr Qab) (qb (lc (.rn (Qap rn0 rn0)) ln) (qb (lc (rnd Qad) ln) qn)))) ?_
   refine Qb0 (τ:=Int×Int×(List Int)) (fun n t=>Qa8 N p0 p2 k4 p5 n t.1 t.2.1 t.2.2=some r) (fun ⟨y7,y8,y9⟩=>⟨mk 58 [(0,(.own 0 1 (0) p0)),(2,I p2),(4,Qle),(10,I y7),(11,I y8)],[(.own 1 (y9.map Qaa)),Qig,(.own 1 [[(Qif p5)]])]⟩) (fun t h=>by rw[Qa8] at h;cases h) (fun n13 ih t h=>?_) N (w64 (p2-p1),w64 (p3-p2),p4) h
   obtain⟨y7,y8,y9⟩:=t
   rw[Qa8] at h
   skip
   refine wsq<|wxz ?_
   refine bfe h (fun hc14 h=>?_) fun hc14 h=>?_
   ·refine wft hc14<|Qaf<|thn<|Qai<|wxz ?_
    refine bfe h (fun hc15 h=>?_) fun hc15 h=>?_
    ·refine wft hc15 ?_
     obtain⟨x17,hf16,h⟩:=bno h
     refine wx tbk [(7,⟨_,_,_,_,false⟩)] ⟨acq [(.own 0 1 (0) p0),(I (w64 (p2-y7))),I p2,I y8,Qle] [(.own 1 (y9.map Qaa)),Qig,(.own 1 [[(Qif p5)]])] [(.own 1 (x17.map Qaa)),Qig,(.own 1 [[(Qif p5)]])] (.tup []) [0,1,2] Qnq (Qc5 N p0 (w64 (p2-y7)) p2 y8 y9 p5 _ hf16) (Qb9 (rnc (Qea rfl) (rncc (rnc (.plain _ nll) (rnc (Qap rn0 (rnc (Qbg rfl) (rnc (Qbg rfl) rn0))) rn0))))) (slc (Qbo Qab) (slc (Qaj (rnc (.plain _ (NLt.fn _ _ _ nl0 nl0)) rn0)) (slc (Qaj (rnc (pld Qad) rn0)) Qam))) (slc (Qbo Qab) (slc (Qaj (rnc (.plain _ (NLt.fn _ _ _ nl0 nl0)) rn0)) (slc (Qaj (rnc (pld Qad) rn0)) Qam))) (.plain _ (NLt.tup _ nl0)),tv⟩<|wxz1<|bln<|thn ?_
     exact arm (mto (n:=58) [(0,(.own 0 1 (0) p0)),(2,I p2),(4,Qle),(10,(I (w64 (y7-y8)))),(11,I y8)] [0,1,2] [(.own 1 (x17.map Qaa)),Qig,(.own 1 [[(Qif p5)]])] hq (pc (.rn (Qae rfl)) (pw (pc (.rn (Qap rn0 (rnc (rqr rfl) (rnc (rqr rfl) rn0)))) (pw (pw pn))))) (qc (spr Qab) (qb (lc (.rn (Qap rn0 rn0)) ln) (qb (lc (rnd Qad) ln) qn)))) (ih (w64 (y7-y8),y8,x17) h)
    ·refine wfn hc15 ?_
     obtain⟨x19,hf18,h⟩:=bno h
     refine wx tbk [(11,⟨_,_,_,_,false⟩)] ⟨acq [(.own 0 1 (0) p0),(I (w64 (p2-y7))),(I (w64 ((w64 (p2+y8))-y7))),I y7,Qle] [(.own 1 (y9.map Qaa)),Qig,(.own 1 [[(Qif p5)]])] [(.own 1 (x19.map Qaa)),Qig,(.own 1 [[(Qif p5)]])] (.tup []) [0,1,2] Qnq (Qc5 N p0 (w64 (p2-y7)) (w64 ((w64 (p2+y8))-y7)) y7 y9 p5 _ hf18) (Qb9 (rnc (Qea rfl) (rncc (rnc (.plain _ nll) (rnc (Qap rn0 (rnc (Qbg rfl) (rnc (Qbg rfl) rn0))) rn0))))) (slc (Qbo Qab) (slc (Qaj (rnc (.plain _ (NLt.fn _ _ _ nl0 nl0)) rn0)) (slc (Qaj (rnc (pld Qad) rn0)) Qam))) (slc (Qbo Qab) (slc (Qaj (rnc (.plain _ (NLt.fn _ _ _ nl0 nl0)) rn0)) (slc (Qaj (rnc (pld Qad) rn0)) Qam))) (.plain _ (NLt.tup _ nl0)),tv⟩<|wxz1<|bln<|thn ?_
     exact arm (mto (n:=58) [(0,(.own 0 1 (0) p0)),(2,I p2),(4,Qle),(10,I y7),(11,(I (w64 (y8-y7))))] [0,1,2] [(.own 1 (x19.map Qaa)),Qig,(.own 1 [[(Qif p5)]])] hq (pc (.rn (Qae rfl)) (pw (pc (.rn (Qap rn0 (rnc (rqr rfl) (rnc (rqr rfl) rn0)))) (pw (pw pn))))) (qc (spr Qab) (qb (lc (.rn (Qap rn0 rn0)) ln) (qb (lc (rnd Qad) ln) qn)))) (ih (y7,w64 (y8-y7),x19) h)
   ·exact wfn hc14<|Qax<|Qan<|Qan<|Qaw rfl<|thn<|⟨(y7,y9),h,(mto (n:=58) [(0,(.own 0 1 (0) p0)),(2,I p2),(4,Qle),(10,I y7)] [0,1,2] [(.own 1 (y9.map Qaa)),Qig,(.own 1 [[(Qif p5)]])] hq (pc (.rn (Qae rfl)) (pw (pc (.rn (Qap rn0 (rnc (rqr rfl) (rnc (rqr rfl) rn0)))) (pw pn)))) (qc (spr Qab) (qb (lc (.rn (Qap rn0 rn0)) ln) (qb (lc (rnd Qad) ln) qn))))⟩
def Qa3 (N p0:Nat) (p4:List Int) (p5:List Qaz) (x10:Int) (k13:Int→Option (List Int)):Nat→Int→Int→Option (List Int)
  |0,_,_=>none
  |n36+1,y32,y33=>
    bif (decide (y32<y33)) then
     (some (w64 ((IntKind.wrap .u64 (w64 (y32+y33)))/2))).bind fun x38=>
     chk (decide (0≤w64 (x10-x38))&&decide ((w64 (x10-x38)).toNat<p0))<|
     (p4[(w64 (x10-x38)).toNat]?).bind fun x41=>
     chk (decide (0≤x38)&&decide (x38.toNat<p0))<|
     (p4[x38.toNat]?).bind fun x44=>
     (Qb4 N x41 x44 p5).bind fun x47=>
     bif (!(decide (x47<0))) then
      Qa3 N p0 p4 p5 x10 k13 n36 (w64 (x38+1)) y33
     else
      Qa3 N p0 p4 p5 x10 k13 n36 y32 x38
    else
     k13 (y32)
def Qbi (N p0:Nat) (y53:Int) (k56:(List Int)→Option (List Int)):Nat→Int→(List Int)→Option (List Int)
  |0,_,_=>none
  |n61+1,y57,y58=>
    bif (decide (y57>y53)) then
     chk (decide (0≤w64 (y57-1))&&decide ((w64 (y57-1)).toNat<p0))<|
     (y58[(w64 (y57-1)).toNat]?).bind fun x64=>
     chk (decide (0≤y57)&&decide (y57.toNat<p0))<|
     (y58[y57.toNat]?).bind fun x67=>
     chk (decide (0≤y57)&&decide (y57.toNat<p0))<|
     (y58[y57.toNat]?).bind fun _=>
     chk (decide (0≤w64 (y57-1))&&decide ((w64 (y57-1)).toNat<p0))<|
     ((y58.set y57.toNat x64)[(w64 (y57-1)).toNat]?).bind fun _=>
     Qbi N p0 y53 k56 n61 (w64 (y57-1)) ((y58.set y57.toNat x64).set ((w64 (y57-1)).toNat) x67)
    else
     k56 (y58)
def Qa2 (N p0:Nat) (p2:Int) (p4:List Int) (p5:List Qaz) (k54:Int→Option (List Int)):Nat→Int→Int→Option (List Int)
  |0,_,_=>none
  |n79+1,y75,y76=>
    bif (decide (y75<y76)) then
     (some (w64 ((IntKind.wrap .u64 (w64 (y75+y76)))/2))).bind fun x81=>
     chk (decide (0≤p2)&&decide (p2.toNat<p0))<|
     (p4[p2.toNat]?).bind fun x84=>
     chk (decide (0≤x81)&&decide (x81.toNat<p0))<|
     (p4[x81.toNat]?).bind fun x87=>
     (Qb4 N x84 x87 p5).bind fun x90=>
     bif (!(decide (x90<0))) then
      Qa2 N p0 p2 p4 p5 k54 n79 (w64 (x81+1)) y76
     else
      Qa2 N p0 p2 p4 p5 k54 n79 y75 x81
    else
     k54 (y75)
def Qbh (N p0:Nat) (y93:Int) (k96:(List Int)→Option (List Int)):Nat→Int→(List Int)→Option (List Int)
  |0,_,_=>none
  |n101+1,y97,y98=>
    bif (decide (y97<(w64 (y93-1)))) then
     chk (decide (0≤w64 (y97+1))&&decide ((w64 (y97+1)).toNat<p0))<|
     (y98[(w64 (y97+1)).toNat]?).bind fun x104=>
     chk (decide (0≤y97)&&decide (y97.toNat<p0))<|
     (y98[y97.toNat]?).bind fun x107=>
     chk (decide (0≤y97)&&decide (y97.toNat<p0))<|
     (y98[y97.toNat]?).bind fun _=>
     chk (decide (0≤w64 (y97+1))&&decide ((w64 (y97+1)).toNat<p0))<|
     ((y98.set y97.toNat x104)[(w64 (y97+1)).toNat]?).bind fun _=>
     Qbh N p0 y93 k96 n101 (w64 (y97+1)) ((y98.set y97.toNat x104).set ((w64 (y97+1)).toNat) x107)
    else
     k96 (y98)
def Qa1 (N p0:Nat) (p1:Int) (p4:List Int) (p5:List Qaz) (k94:Int→Option (List Int)):Nat→Int→Int→Option (List Int)
  |0,_,_=>none
  |n119+1,y115,y116=>
    bif (decide (y115<y116)) then
     (some (w64 ((IntKind.wrap .u64 (w64 (y115+y116)))/2))).bind fun x121=>
     chk (decide (0≤x121)&&decide (x121.toNat<p0))<|
     (p4[x121.toNat]?).bind fun x124=>
     chk (decide (0≤p1)&&decide (p1.toNat<p0))<|
     (p4[p1.toNat]?).bind fun x127=>
     (Qb4 N x124 x127 p5).bind fun x130=>
     bif (decide (x130<0)) then
      Qa1 N p0 p1 p4 p5 k94 n119 (w64 (x121+1)) y116
     else
      Qa1 N p0 p1 p4 p5 k94 n119 y115 x121
    else
     k94 (y115)
def Qc1 (N:Nat) (rec_:Nat→Int→Int→Int→(List Int)→(List Qaz)→Option (List Int)) (p0:Nat) (p1 p2 p3:Int) (p4:List Int) (p5:List Qaz):Option (List Int):=
  Qcx (fun _=>
    Qcx (fun _=>
      (some (w64 ((IntKind.wrap .u64 (w64 (p1+p3)))/2))).bind fun x5=>
      Qcx (fun ⟨y7,y8⟩=>
        (some (w64 ((w64 (x5+p2))-1))).bind fun x10=>
        Qcx (fun y12=>
          (some (w64 ((w64 (x5+p2))-y12))).bind fun x14=>
          Qcx (fun y16=>
            Qcx (fun y18=>
              bif (decide (x5<x14)) then
               bif (decide (x14<p3)) then
                (rec_ p0 x5 x14 p3 y18 p5).bind fun x23=>
                some x23
               else
                some y18
              else
               some y18) fun k19:(List Int)→Option (List Int)=>
            bif (decide (p1<y12)) then
             bif (decide (y12<x5)) then
              (rec_ p0 p1 y12 x5 y16 p5).bind fun x27=>
              k19 (x27)
             else
              k19 (y16)
            else
             k19 y16) fun k17:(List Int)→Option (List Int)=>
          bif (decide (y12<p2)) then
           bif (decide (p2<x14)) then
            (Qdu N p0 y12 p2 x14 p4 p5).bind fun x31=>
            k17 (x31)
           else
            k17 (p4)
          else
           k17 p4) fun k13:Int→Option (List Int)=>
        Qa3 N p0 p4 p5 x10 k13 N y7 y8) fun k9:Int×Int→Option (List Int)=>
      bif (decide (p2>x5)) then
       (some (w64 ((w64 (x5+p2))-p3))).bind fun x50=>
       k9 (x50,x5)
      else
       k9 (p1,p2)) fun k4:Unit→Option (List Int)=>
    bif ((w64 (p3-p2))==1) then
     Qcx (fun y53=>
       Qcx (fun y55=>
         some y55) fun k56:(List Int)→Option (List Int)=>
       Qbi N p0 y53 k56 N p2 p4) fun k54:Int→Option (List Int)=>
     Qa2 N p0 p2 p4 p5 k54 N p1 p2
    else
     k4 ()) fun k3:Unit→Option (List Int)=>
  bif ((w64 (p2-p1))==1) then
   Qcx (fun y93=>
     Qcx (fun y95=>
       some y95) fun k96:(List Int)→Option (List Int)=>
     Qbh N p0 y93 k96 N p1 p4) fun k94:Int→Option (List Int)=>
   Qa1 N p0 p1 p4 p5 k94 N p2 p3
  else
   k3 ()
def Qca:Nat→Nat→Int→Int→Int→(List Int)→(List Qaz)→Option (List Int)
  |0,_,_,_,_,_,_=>none
  |N+1,p0,p1,p2,p3,p4,p5=>Qc1 N (Qca N) p0 p1 p2 p3 p4 p5
abbrev Qeu:AV:=.fn (.func 111) [] [(.ref 1 1 (0) 0),(.ref 2 1 (0) 0)]
abbrev Qcj:Slot:=.own 1 [[(.fn (.func 92) [] [])]]
abbrev Qci (p5:List Qaz):AV:=.dat 4 (p5.map Qas)
theorem Qec:∀(N p0:Nat) (p1 p2 p3:Int) (p4:List Int) (p5:List Qaz) (r:List Int) (_:Qca N p0 p1 p2 p3 p4 p5=some r),Spec prog 121 [(.own 0 1 (0) p0),(I p1),(I p2),(I p3),Qeu] [(.own 1 (p4.map Qaa)),Qcj,(.own 1 [[(Qci p5)]])] (.tup []) [(.own 1 (r.map Qaa)),Qcj,(.own 1 [[(Qci p5)]])]:=by
  intro N
  induction N with
  |zero=>intro p0 p1 p2 p3 p4 p5 r h;exact nomatch (show(none:Option (List Int))=some r from h)
  |succ N ihX=>
  intro p0 p1 p2 p3 p4 p5 r h
  replace h:Qc1 N (Qca N) p0 p1 p2 p3 p4 p5=some r:=h
  refine sF func121 3 fun _ _ _ hq hd0=>?_
  unfold Qc1 at h
  obtain⟨k3,hk_k3,h⟩:=jko h
  refine wjn (τ:=Unit) (fun t=>k3 t=some r) (fun _=>⟨mk 220 [(0,(.own 0 1 (0) p0)),(1,I p1),(2,I p2),(3,I p3),(4,Qeu)],[(.own 1 (p4.map Qaa)),Qcj,(.own 1 [[(Qci p5)]])]⟩) (fun t h=>?_) ?_
  ·subst hk_k3
   obtain⟨k4,hk_k4,h⟩:=jko h
   refine wjn (τ:=Unit) (fun t=>k4 t=some r) (fun _=>⟨mk 220 [(0,(.own 0 1 (0) p0)),(1,I p1),(2,I p2),(3,I p3),(4,Qeu)],[(.own 1 (p4.map Qaa)),Qcj,(.own 1 [[(Qci p5)]])]⟩) (fun t h=>?_) ?_
   ·subst hk_k4
    obtain⟨x5,hl6,h⟩:=bno h
    refine wx tbk [(3,rp [(.tmp 131,(I (w64 (p1+p3))))] (K .u64 (IntKind.wrap .u64 (w64 (p1+p3))))),(4,rp [(.tmp 132,(K .u64 (IntKind.wrap .u64 (w64 (p1+p3))))),(.const (.int .u64 1),(K .u64 (1)))] (K .u64 ((IntKind.wrap .u64 (w64 (p1+p3)))/2))),(5,rp [(.tmp 133,(K .u64 ((IntKind.wrap .u64 (w64 (p1+p3)))/2)))] (I (w64 ((IntKind.wrap .u64 (w64 (p1+p3)))/2)))),(6,rp [(.tmp 134,(I (w64 ((IntKind.wrap .u64 (w64 (p1+p3)))/2))))] (I x5))] ⟨acv rfl (by rw[underlying3];rfl) underlying193,Qkd rfl (by decide) (by decide),acv rfl (by rw[underlying193];rfl) underlying3,Qdp hl6 (aas rfl),tv⟩<|wxz<|wxz ?_
    obtain⟨k9,hk_k9,h⟩:=jko h
    refine wjn (τ:=Int×Int) (fun t=>k9 t=some r) (fun ⟨y7,y8⟩=>⟨mk 220 [(0,(.own 0 1 (0) p0)),(1,I p1),(2,I p2),(3,I p3),(4,Qeu),(18,I x5),(19,(I (w64 (x5+p2)))),(20,I y7),(21,I y8)],[(.own 1 (p4.map Qaa)),Qcj,(.own 1 [[(Qci p5)]])]⟩) (fun t h=>?_) ?_
    ·subst hk_k9
     obtain⟨y7,y8⟩:=t
     obtain⟨x10,hl11,h⟩:=bno h
     refine wx tbk [(2,rp [(.tmp 148,(I (w64 ((w64 (x5+p2))-1))))] (I x10))] ⟨Qdp hl11 (aas rfl),tv⟩ ?_
     obtain⟨k13,hk_k13,h⟩:=jko h
     refine wjn (τ:=Int) (fun t=>k13 t=some r) (fun y12=>⟨mk 220 [(0,(.own 0 1 (0) p0)),(1,I p1),(2,I p2),(3,I p3),(4,Qeu),(18,I x5),(19,(I (w64 (x5+p2)))),(20,I y12)],[(.own 1 (p4.map Qaa)),Qcj,(.own 1 [[(Qci p5)]])]⟩) (fun y12 h=>?_) ?_
     ·subst hk_k13
      obtain⟨x14,hl15,h⟩:=bno h
      refine wx tbk [(3,rp [(.tmp 177,(I (w64 ((w64 (x5+p2))-y12))))] (I x14))] ⟨Qdp hl15 (aas rfl),tv⟩ ?_
      obtain⟨k17,hk_k17,h⟩:=jko h
      refine wjn (τ:=(List Int)) (fun t=>k17 t=some r) (fun y16=>⟨mk 220 [(0,(.own 0 1 (0) p0)),(1,I p1),(3,I p3),(4,Qeu),(18,I x5),(20,I y12),(24,I x14)],[(.own 1 (y16.map Qaa)),Qcj,(.own 1 [[(Qci p5)]])]⟩) (fun y16 h=>?_) ?_
      ·subst hk_k17
       obtain⟨k19,hk_k19,h⟩:=jko h
       refine wjn (τ:=(List Int)) (fun t=>k19 t=some r) (fun y18=>⟨mk 220 [(0,(.own 0 1 (0) p0)),(3,I p3),(4,Qeu),(18,I x5),(24,I x14)],[(.own 1 (y18.map Qaa)),Qcj,(.own 1 [[(Qci p5)]])]⟩) (fun y18 h=>?_) ?_
       ·subst hk_k19
        refine bfe h (fun hb20 h=>?_) fun hb20 h=>?_
        ·refine wx tbk [(3,rp [(.tmp 208,(B ((decide (x5<x14)))))] (B true))] ⟨asb hb20 (amv rfl),tv⟩ ?_
         refine bfe h (fun hc21 h=>?_) fun hc21 h=>?_
         ·refine wft hc21 ?_
          obtain⟨x23,hf22,h⟩:=bno h
          refine wx1 tbk [(5,⟨_,_,_,_,false⟩)] ⟨acq [(.own 0 1 (0) p0),I x5,I x14,I p3,Qeu] [(.own 1 (y18.map Qaa)),Qcj,(.own 1 [[(Qci p5)]])] [(.own 1 (x23.map Qaa)),Qcj,(.own 1 [[(Qci p5)]])] (.tup []) [0,1,2] Qlc (ihX p0 x5 x14 p3 y18 p5 _ hf22) (Qb9 (rnc (Qea rfl) (rncc (rnc (.plain _ nll) (rnc (Qap rn0 (rnc (Qbg rfl) (rnc (Qbg rfl) rn0))) rn0))))) (slc (Qbo Qab) (slc (Qaj (rnc (.plain _ (NLt.fn _ _ _ nl0 nl0)) rn0)) (slc (Qaj (rnc (pld Qad) rn0)) Qam))) (slc (Qbo Qab) (slc (Qaj (rnc (.plain _ (NLt.fn _ _ _ nl0 nl0)) rn0)) (slc (Qaj (rnc (pld Qad) rn0)) Qam))) (.plain _ (NLt.tup _ nl0)),tv⟩ ?_
          obtain rfl:=osi h
          exact⟨_,(mto (n:=220) (l':=[]) (own':=[(.own 1 (x23.map Qaa)),Qcj,(.own 1 [[(Qci p5)]])]) [] [0,1,2] [(.own 1 (x23.map Qaa)),Qcj,(.own 1 [[(Qci p5)]])] hq pn (qc (spr Qab) (qb (lc (.rn (Qap rn0 rn0)) ln) (qb (lc (rnd Qad) ln) qn)))),fio [] tv⟩
         ·refine wfn hc21<|Qaf ?_
          obtain rfl:=osi h
          exact⟨_,(mto (n:=220) (l':=[]) (own':=[(.own 1 (y18.map Qaa)),Qcj,(.own 1 [[(Qci p5)]])]) [] [0,1,2] [(.own 1 (y18.map Qaa)),Qcj,(.own 1 [[(Qci p5)]])] hq pn (qc (spr Qab) (qb (lc (.rn (Qap rn0 rn0)) ln) (qb (lc (rnd Qad) ln) qn)))),fio [] tv⟩
        ·refine wx tbk [(3,rp [(.tmp 208,(B ((decide (x5<x14)))))] (B false))] ⟨asb hb20 (amv rfl),tv⟩<|wfa<|Qaf ?_
         obtain rfl:=osi h
         exact⟨_,(mto (n:=220) (l':=[]) (own':=[(.own 1 (y18.map Qaa)),Qcj,(.own 1 [[(Qci p5)]])]) [] [0,1,2] [(.own 1 (y18.map Qaa)),Qcj,(.own 1 [[(Qci p5)]])] hq pn (qc (spr Qab) (qb (lc (.rn (Qap rn0 rn0)) ln) (qb (lc (rnd Qad) ln) qn)))),fio [] tv⟩
       ·skip
        refine bfe h (fun hb24 h=>?_) fun hb24 h=>?_
        ·refine wx tbk [(3,rp [(.tmp 194,(B ((decide (p1<y12)))))] (B true))] ⟨asb hb24 (amv rfl),tv⟩ ?_
         refine bfe h (fun hc25 h=>?_) fun hc25 h=>?_
         ·refine wft hc25 ?_
          obtain⟨x27,hf26,h⟩:=bno h
          refine wx1 tbk [(5,⟨_,_,_,_,false⟩)] ⟨acq [(.own 0 1 (0) p0),I p1,I y12,I x5,Qeu] [(.own 1 (y16.map Qaa)),Qcj,(.own 1 [[(Qci p5)]])] [(.own 1 (x27.map Qaa)),Qcj,(.own 1 [[(Qci p5)]])] (.tup []) [0,1,2] Qlc (ihX p0 p1 y12 x5 y16 p5 _ hf26) (Qb9 (rnc (Qea rfl) (rncc (rnc (.plain _ nll) (rnc (Qap rn0 (rnc (Qbg rfl) (rnc (Qbg rfl) rn0))) rn0))))) (slc (Qbo Qab) (slc (Qaj (rnc (.plain _ (NLt.fn _ _ _ nl0 nl0)) rn0)) (slc (Qaj (rnc (pld Qad) rn0)) Qam))) (slc (Qbo Qab) (slc (Qaj (rnc (.plain _ (NLt.fn _ _ _ nl0 nl0)) rn0)) (slc (Qaj (rnc (pld Qad) rn0)) Qam))) (.plain _ (NLt.tup _ nl0)),tv⟩<|thn ?_
          exact⟨(x27),h,(mto (n:=220) [(0,(.own 0 1 (0) p0)),(3,I p3),(4,Qeu),(18,I x5),(24,I x14)] [0,1,2] [(.own 1 (x27.map Qaa)),Qcj,(.own 1 [[(Qci p5)]])] hq (pc (.rn (Qae rfl)) (pw (pc (.rn (Qap rn0 (rnc (rqr rfl) (rnc (rqr rfl) rn0)))) (pw (pw pn))))) (qc (spr Qab) (qb (lc (.rn (Qap rn0 rn0)) ln) (qb (lc (rnd Qad) ln) qn))))⟩
         ·exact wfn hc25<|Qaf<|thn<|⟨(y16),h,(mto (n:=220) [(0,(.own 0 1 (0) p0)),(3,I p3),(4,Qeu),(18,I x5),(24,I x14)] [0,1,2] [(.own 1 (y16.map Qaa)),Qcj,(.own 1 [[(Qci p5)]])] hq (pc (.rn (Qae rfl)) (pw (pc (.rn (Qap rn0 (rnc (rqr rfl) (rnc (rqr rfl) rn0)))) (pw (pw pn))))) (qc (spr Qab) (qb (lc (.rn (Qap rn0 rn0)) ln) (qb (lc (rnd Qad) ln) qn))))⟩
        ·exact wx tbk [(3,rp [(.tmp 194,(B ((decide (p1<y12)))))] (B false))] ⟨asb hb24 (amv rfl),tv⟩<|wfa<|Qaf<|thn<|⟨(y16),h,(mto (n:=220) [(0,(.own 0 1 (0) p0)),(3,I p3),(4,Qeu),(18,I x5),(24,I x14)] [0,1,2] [(.own 1 (y16.map Qaa)),Qcj,(.own 1 [[(Qci p5)]])] hq (pc (.rn (Qae rfl)) (pw (pc (.rn (Qap rn0 (rnc (rqr rfl) (rnc (rqr rfl) rn0)))) (pw (pw pn))))) (qc (spr Qab) (qb (lc (.rn (Qap rn0 rn0)) ln) (qb (lc (rnd Qad) ln) qn))))⟩
      ·skip
       refine bfe h (fun hb28 h=>?_) fun hb28 h=>?_
       ·refine wx tbk [(3,rp [(.tmp 180,(B ((decide (y12<p2)))))] (B true))] ⟨asb hb28 (amv rfl),tv⟩ ?_
        refine bfe h (fun hc29 h=>?_) fun hc29 h=>?_
        ·refine wft hc29 ?_
         obtain⟨x31,hf30,h⟩:=bno h
         refine wx1 tbk [(5,⟨_,_,_,_,false⟩)] ⟨acq [(.own 0 1 (0) p0),I y12,I p2,I x14,Qeu] [(.own 1 (p4.map Qaa)),Qcj,(.own 1 [[(Qci p5)]])] [(.own 1 (x31.map Qaa)),Qcj,(.own 1 [[(Qci p5)]])] (.tup []) [0,1,2] Qwl (Qgc N p0 y12 p2 x14 p4 p5 _ hf30) (Qb9 (rnc (Qea rfl) (rncc (rnc (.plain _ nll) (rnc (Qap rn0 (rnc (Qbg rfl) (rnc (Qbg rfl) rn0))) rn0))))) (slc (Qbo Qab) (slc (Qaj (rnc (.plain _ (NLt.fn _ _ _ nl0 nl0)) rn0)) (slc (Qaj (rnc (pld Qad) rn0)) Qam))) (slc (Qbo Qab) (slc (Qaj (rnc (.plain _ (NLt.fn _ _ _ nl0 nl0)) rn0)) (slc (Qaj (rnc (pld Qad) rn0)) Qam))) (.plain _ (NLt.tup _ nl0)),tv⟩<|thn ?_
         exact⟨(x31),h,(mto (n:=220) [(0,(.own 0 1 (0) p0)),(1,I p1),(3,I p3),(4,Qeu),(18,I x5),(20,I y12),(24,I x14)] [0,1,2] [(.own 1 (x31.map Qaa)),Qcj,(.own 1 [[(Qci p5)]])] hq (pc (.rn (Qae rfl)) (pw (pw (pc (.rn (Qap rn0 (rnc (rqr rfl) (rnc (rqr rfl) rn0)))) (pw (pw (pw pn))))))) (qc (spr Qab) (qb (lc (.rn (Qap rn0 rn0)) ln) (qb (lc (rnd Qad) ln) qn))))⟩
        ·exact wfn hc29<|Qaf<|thn<|⟨(p4),h,(mto (n:=220) [(0,(.own 0 1 (0) p0)),(1,I p1),(3,I p3),(4,Qeu),(18,I x5),(20,I y12),(24,I x14)] [0,1,2] [(.own 1 (p4.map Qaa)),Qcj,(.own 1 [[(Qci p5)]])] hq (pc (.rn (Qae rfl)) (pw (pw (pc (.rn (Qap rn0 (rnc (rqr rfl) (rnc (rqr rfl) rn0)))) (pw (pw (pw pn))))))) (qc (spr Qab) (qb (lc (.rn (Qap rn0 rn0)) ln) (qb (lc (rnd Qad) ln) qn))))⟩
       ·exact wx tbk [(3,rp [(.tmp 180,(B ((decide (y12<p2)))))] (B false))] ⟨asb hb28 (amv rfl),tv⟩<|wfa<|Qaf<|thn<|⟨(p4),h,(mto (n:=220) [(0,(.own 0 1 (0) p0)),(1,I p1),(3,I p3),(4,Qeu),(18,I x5),(20,I y12),(24,I x14)] [0,1,2] [(.own 1 (p4.map Qaa)),Qcj,(.own 1 [[(Qci p5)]])] hq (pc (.rn (Qae rfl)) (pw (pw (pc (.rn (Qap rn0 (rnc (rqr rfl) (rnc (rqr rfl) rn0)))) (pw (pw (pw pn))))))) (qc (spr Qab) (qb (lc (.rn (Qap rn0 rn0)) ln) (qb (lc (rnd Qad) ln) qn))))⟩
     ·skip
      refine Qai<|wmr (mto (n:=220) (l':=[(0,(.own 0 1 (0) p0)),(1,I p1),(2,I p2),(3,I p3),(4,Qeu),(18,I x5),(19,(I (w64 (x5+p2)))),(20,I y7),(21,I y8),(22,I x10)]) (own':=[(.own 1 (p4.map Qaa)),Qcj,(.own 1 [[(Qci p5)]])]) [(0,(.own 0 1 (0) p0)),(1,I p1),(2,I p2),(3,I p3),(4,Qeu),(18,I x5),(19,(I (w64 (x5+p2)))),(20,I y7),(21,I y8),(22,I x10)] [0,1,2] [(.own 1 (p4.map Qaa)),Qcj,(.own 1 [[(Qci p5)]])] hq (pc (.rn (Qae rfl)) (pw (pw (pw (pc (.rn (Qap rn0 (rnc (rqr rfl) (rnc (rqr rfl) rn0)))) (pw (pw (pw (pw (pw pn)))))))))) (qc (spr Qab) (qb (lc (.rn (Qap rn0 rn0)) ln) (qb (lc (rnd Qad) ln) qn)))) ?_
      refine Qb0 (τ:=Int×Int) (fun n t=>Qa3 N p0 p4 p5 x10 k13 n t.1 t.2=some r) (fun ⟨y32,y33⟩=>⟨mk 220 [(0,(.own 0 1 (0) p0)),(1,I p1),(2,I p2),(3,I p3),(4,Qeu),(18,I x5),(19,(I (w64 (x5+p2)))),(20,I y32),(21,I y33),(22,I x10)],[(.own 1 (p4.map Qaa)),Qcj,(.own 1 [[(Qci p5)]])]⟩) (fun t h=>by rw[Qa3] at h;cases h) (fun n36 ih t h=>?_) N (y7,y8) h
      obtain⟨y32,y33⟩:=t
      rw[Qa3] at h
      skip
      refine wsq<|wxz ?_
      refine bfe h (fun hc37 h=>?_) fun hc37 h=>?_
      ·refine wft hc37<|Qaf<|thn<|Qai ?_
       obtain⟨x38,hl39,h⟩:=bno h
       refine wx tbk [(3,rp [(.tmp 154,(I (w64 (y32+y33))))] (K .u64 (IntKind.wrap .u64 (w64 (y32+y33))))),(4,rp [(.tmp 155,(K .u64 (IntKind.wrap .u64 (w64 (y32+y33))))),(.const (.int .u64 1),(K .u64 (1)))] (K .u64 ((IntKind.wrap .u64 (w64 (y32+y33)))/2))),(5,rp [(.tmp 156,(K .u64 ((IntKind.wrap .u64 (w64 (y32+y33)))/2)))] (I (w64 ((IntKind.wrap .u64 (w64 (y32+y33)))/2)))),(6,rp [(.tmp 157,(I (w64 ((IntKind.wrap .u64 (w64 (y32+y33)))/2))))] (I x38))] ⟨acv rfl (by rw[underlying3];rfl) underlying193,Qkd rfl (by decide) (by decide),acv rfl (by rw[underlying193];rfl) underlying3,Qdp hl39 (aas rfl),tv⟩ ?_
       obtain⟨hi40,h⟩:=cko h
       obtain⟨hi40a,hi40b⟩:=Qat hi40
       obtain⟨x41,hg42,h⟩:=bno h
       obtain⟨hi43,h⟩:=cko h
       obtain⟨hi43a,hi43b⟩:=Qat hi43
       obtain⟨x44,hg45,h⟩:=bno h
       obtain⟨x47,hf46,h⟩:=bno h
       refine wxd tbk [(5,rb [(.tmp 159,(.own 0 1 (0) p0)),(.tmp 162,(I (w64 (x10-x38))))] [(0,(.own 1 (p4.map Qaa)))] (.ref 0 1 ((w64 (x10-x38)).toNat) 0)),(6,rb [(.tmp 163,(.ref 0 1 ((w64 (x10-x38)).toNat) 0))] [(0,(.own 1 (p4.map Qaa)))] (I x41)),(9,rb [(.tmp 165,(.own 0 1 (0) p0)),(.tmp 166,I x38)] [(0,(.own 1 (p4.map Qaa)))] (.ref 0 1 x38.toNat 0)),(10,rb [(.tmp 167,(.ref 0 1 x38.toNat 0))] [(0,(.own 1 (p4.map Qaa)))] (I x44)),(11,⟨_,_,_,_,false⟩)] ⟨aio rfl underlying25 ti3 (odt hi40a) (odt hi40b) (Nat.zero_add _),ald rfl ti3 (by decide) (mgt Qaa hg42) (nle rfl) rfl,aio rfl underlying25 ti3 (odt hi43a) (odt hi43b) (Nat.zero_add _),ald rfl ti3 (by decide) (mgt Qaa hg45) (nle rfl) rfl,Qeb (first:=[]) (cap:=[.ref 1 1 0 0,.ref 2 1 0 0]) (vs:=[I x41,I x44]) (σr:=[Qcj,(.own 1 [[(Qci p5)]])]) (σr':=[Qcj,(.own 1 [[(Qci p5)]])]) (res':=(I x47)) [1,2] rfl Qld (Qcu N x41 x44 p5 _ hf46) rfl (Qb9 (rncc (rnc (Qbg rfl) (rnc (Qbg rfl) rn0)))) (slc (Qaj (rnc (.plain _ (NLt.fn _ _ _ nl0 nl0)) rn0)) (slc (Qaj (rnc (pld Qad) rn0)) Qam)) (slc (Qaj (rnc (.plain _ (NLt.fn _ _ _ nl0 nl0)) rn0)) (slc (Qaj (rnc (pld Qad) rn0)) Qam)) (.plain _ nll) rfl rfl rfl,tv⟩ ?_
       refine bfe h (fun hc48 h=>?_) fun hc48 h=>?_
       ·exact wft hc48<|wxz1<|bln<|thn<|arm (mto (n:=220) [(0,(.own 0 1 (0) p0)),(1,I p1),(2,I p2),(3,I p3),(4,Qeu),(18,I x5),(19,(I (w64 (x5+p2)))),(20,(I (w64 (x38+1)))),(21,I y33),(22,I x10)] [0,1,2] [(.own 1 (p4.map Qaa)),Qcj,(.own 1 [[(Qci p5)]])] hq (pc (.rn (Qae rfl)) (pw (pw (pw (pc (.rn (Qap rn0 (rnc (rqr rfl) (rnc (rqr rfl) rn0)))) (pw (pw (pw (pw (pw pn)))))))))) (qc (spr Qab) (qb (lc (.rn (Qap rn0 rn0)) ln) (qb (lc (rnd Qad) ln) qn)))) (ih (w64 (x38+1),y33) h)
       ·exact wfn hc48<|wxz1<|bln<|thn<|arm (mto (n:=220) [(0,(.own 0 1 (0) p0)),(1,I p1),(2,I p2),(3,I p3),(4,Qeu),(18,I x5),(19,(I (w64 (x5+p2)))),(20,I y32),(21,I x38),(22,I x10)] [0,1,2] [(.own 1 (p4.map Qaa)),Qcj,(.own 1 [[(Qci p5)]])] hq (pc (.rn (Qae rfl)) (pw (pw (pw (pc (.rn (Qap rn0 (rnc (rqr rfl) (rnc (rqr rfl) rn0)))) (pw (pw (pw (pw (pw pn)))))))))) (qc (spr Qab) (qb (lc (.rn (Qap rn0 rn0)) ln) (qb (lc (rnd Qad) ln) qn)))) (ih (y32,x38) h)
      ·exact wfn hc37<|Qax<|Qan<|Qan<|Qaw rfl<|thn<|⟨(y32),h,(mto (n:=220) [(0,(.own 0 1 (0) p0)),(1,I p1),(2,I p2),(3,I p3),(4,Qeu),(18,I x5),(19,(I (w64 (x5+p2)))),(20,I y32)] [0,1,2] [(.own 1 (p4.map Qaa)),Qcj,(.own 1 [[(Qci p5)]])] hq (pc (.rn (Qae rfl)) (pw (pw (pw (pc (.rn (Qap rn0 (rnc (rqr rfl) (rnc (rqr rfl) rn0)))) (pw (pw (pw pn)))))))) (qc (spr Qab) (qb (lc (.rn (Qap rn0 rn0)) ln) (qb (lc (rnd Qad) ln) qn))))⟩
    ·skip
     refine wxz ?_
     refine bfe h (fun hc49 h=>?_) fun hc49 h=>?_
     ·refine wft hc49 ?_
      obtain⟨x50,hl51,h⟩:=bno h
      exact wx tbk [(3,rp [(.tmp 143,(I (w64 ((w64 (x5+p2))-p3))))] (I x50))] ⟨Qdp hl51 (aas rfl),tv⟩<|wxz1<|thn<|⟨(x50,x5),h,(mto (n:=220) [(0,(.own 0 1 (0) p0)),(1,I p1),(2,I p2),(3,I p3),(4,Qeu),(18,I x5),(19,(I (w64 (x5+p2)))),(20,I x50),(21,I x5)] [0,1,2] [(.own 1 (p4.map Qaa)),Qcj,(.own 1 [[(Qci p5)]])] hq (pc (.rn (Qae rfl)) (pw (pw (pw (pc (.rn (Qap rn0 (rnc (rqr rfl) (rnc (rqr rfl) rn0)))) (pw (pw (pw (pw pn))))))))) (qc (spr Qab) (qb (lc (.rn (Qap rn0 rn0)) ln) (qb (lc (rnd Qad) ln) qn))))⟩
     ·exact wfn hc49<|wxz<|wxz1<|thn<|⟨(p1,p2),h,(mto (n:=220) [(0,(.own 0 1 (0) p0)),(1,I p1),(2,I p2),(3,I p3),(4,Qeu),(18,I x5),(19,(I (w64 (x5+p2)))),(20,I p1),(21,I p2)] [0,1,2] [(.own 1 (p4.map Qaa)),Qcj,(.own 1 [[(Qci p5)]])] hq (pc (.rn (Qae rfl)) (pw (pw (pw (pc (.rn (Qap rn0 (rnc (rqr rfl) (rnc (rqr rfl) rn0)))) (pw (pw (pw (pw pn))))))))) (qc (spr Qab) (qb (lc (.rn (Qap rn0 rn0)) ln) (qb (lc (rnd Qad) ln) qn))))⟩
   ·skip
    refine wxz ?_
    refine bfe h (fun hc52 h=>?_) fun hc52 h=>?_
    ·refine wft hc52<|wxz<|wxz ?_
     obtain⟨k54,hk_k54,h⟩:=jko h
     refine wjn (τ:=Int) (fun t=>k54 t=some r) (fun y53=>⟨mk 220 [(0,(.own 0 1 (0) p0)),(2,I p2),(14,I y53)],[(.own 1 (p4.map Qaa)),Qcj,(.own 1 [[(Qci p5)]])]⟩) (fun y53 h=>?_) ?_
     ·subst hk_k54
      obtain⟨k56,hk_k56,h⟩:=jko h
      refine wjn (τ:=(List Int)) (fun t=>k56 t=some r) (fun y55=>⟨mk 220 [],[(.own 1 (y55.map Qaa)),Qcj,(.own 1 [[(Qci p5)]])]⟩) (fun y55 h=>?_) ?_
      ·subst hk_k56
       refine wmr (mto (n:=220) (l':=[]) (own':=[(.own 1 (y55.map Qaa)),Qcj,(.own 1 [[(Qci p5)]])]) [] [0,1,2] [(.own 1 (y55.map Qaa)),Qcj,(.own 1 [[(Qci p5)]])] hq pn (qc (spr Qab) (qb (lc (.rn (Qap rn0 rn0)) ln) (qb (lc (rnd Qad) ln) qn))))<|Qac<|Qah ?_
       obtain rfl:=osi h
       exact⟨_,Mor.rfl,fio [] tv⟩
      ·skip
       refine wxz<|Qai ?_
       refine wmr (mto (n:=220) (l':=[(0,(.own 0 1 (0) p0)),(14,I y53),(17,I p2)]) (own':=[(.own 1 (p4.map Qaa)),Qcj,(.own 1 [[(Qci p5)]])]) [(0,(.own 0 1 (0) p0)),(14,I y53),(17,I p2)] [0,1,2] [(.own 1 (p4.map Qaa)),Qcj,(.own 1 [[(Qci p5)]])] hq (pc (.rn (Qae rfl)) (pw (pw pn))) (qc (spr Qab) (qb (lc (.rn (Qap rn0 rn0)) ln) (qb (lc (rnd Qad) ln) qn)))) ?_
       refine Qb0 (τ:=Int×(List Int)) (fun n t=>Qbi N p0 y53 k56 n t.1 t.2=some r) (fun ⟨y57,y58⟩=>⟨mk 220 [(0,(.own 0 1 (0) p0)),(14,I y53),(17,I y57)],[(.own 1 (y58.map Qaa)),Qcj,(.own 1 [[(Qci p5)]])]⟩) (fun t h=>by rw[Qbi] at h;cases h) (fun n61 ih t h=>?_) N (p2,p4) h
       obtain⟨y57,y58⟩:=t
       rw[Qbi] at h
       skip
       refine wsq<|wxz ?_
       refine bfe h (fun hc62 h=>?_) fun hc62 h=>?_
       ·refine wft hc62<|Qaf<|thn<|wsq<|Qai ?_
        obtain⟨hi63,h⟩:=cko h
        obtain⟨hi63a,hi63b⟩:=Qat hi63
        obtain⟨x64,hg65,h⟩:=bno h
        obtain⟨hi66,h⟩:=cko h
        obtain⟨hi66a,hi66b⟩:=Qat hi66
        obtain⟨x67,hg68,h⟩:=bno h
        obtain⟨hi69,h⟩:=cko h
        obtain⟨hi69a,hi69b⟩:=Qat hi69
        obtain⟨x70,hg71,h⟩:=bno h
        obtain⟨hi72,h⟩:=cko h
        obtain⟨hi72a,hi72b⟩:=Qat hi72
        obtain⟨x73,hg74,h⟩:=bno h
        refine wy1 tbk [(8,rb [(.tmp 118,(.own 0 1 (0) p0)),(.tmp 120,(I (w64 (y57-1))))] [(0,(.own 1 (y58.map Qaa)))] (.ref 0 1 ((w64 (y57-1)).toNat) 0)),(9,rb [(.tmp 121,(.ref 0 1 ((w64 (y57-1)).toNat) 0))] [(0,(.own 1 (y58.map Qaa)))] (I x64)),(12,rb [(.tmp 123,(.own 0 1 (0) p0)),(.tmp 124,I y57)] [(0,(.own 1 (y58.map Qaa)))] (.ref 0 1 y57.toNat 0)),(13,rb [(.tmp 125,(.ref 0 1 y57.toNat 0))] [(0,(.own 1 (y58.map Qaa)))] (I x67)),(14,rb [(.tmp 113,(.own 0 1 (0) p0)),(.tmp 114,I y57)] [(0,(.own 1 (y58.map Qaa)))] (.ref 0 1 y57.toNat 0)),(15,⟨[(.tmp 127,(.ref 0 1 y57.toNat 0)),(.tmp 122,I x64)],[(0,(.own 1 (y58.map Qaa)))],.any,[(0,(.own 1 ((y58.set y57.toNat x64:List Int).map Qaa)))],false⟩),(16,rb [(.tmp 115,(.own 0 1 (0) p0)),(.tmp 117,(I (w64 (y57-1))))] [(0,(.own 1 ((y58.set y57.toNat x64:List Int).map Qaa)))] (.ref 0 1 ((w64 (y57-1)).toNat) 0)),(17,⟨[(.tmp 128,(.ref 0 1 ((w64 (y57-1)).toNat) 0)),(.tmp 126,I x67)],[(0,(.own 1 ((y58.set y57.toNat x64:List Int).map Qaa)))],.any,[(0,(.own 1 (((y58.set y57.toNat x64).set ((w64 (y57-1)).toNat) x67:List Int).map Qaa)))],false⟩)] ⟨aio rfl underlying25 ti3 (odt hi63a) (odt hi63b) (Nat.zero_add _),ald rfl ti3 (by decide) (mgt Qaa hg65) (nle rfl) rfl,aio rfl underlying25 ti3 (odt hi66a) (odt hi66b) (Nat.zero_add _),ald rfl ti3 (by decide) (mgt Qaa hg68) (nle rfl) rfl,aio rfl underlying25 ti3 (odt hi69a) (odt hi69b) (Nat.zero_add _),ast rfl ti3 (by rfl) (mgt Qaa hg71) (nle rfl) (Qd2 Qaa rfl),aio rfl underlying25 ti3 (odt hi72a) (odt hi72b) (Nat.zero_add _),ast rfl ti3 (by rfl) (mgt Qaa hg74) (nle rfl) (Qd2 Qaa rfl),tv⟩<|bln<|thn<|wxz1<|thn ?_
        exact arm (mto (n:=220) [(0,(.own 0 1 (0) p0)),(14,I y53),(17,(I (w64 (y57-1))))] [0,1,2] [(.own 1 (((y58.set y57.toNat x64).set ((w64 (y57-1)).toNat) x67:List Int).map Qaa)),Qcj,(.own 1 [[(Qci p5)]])] hq (pc (.rn (Qae rfl)) (pw (pw pn))) (qc (spr Qab) (qb (lc (.rn (Qap rn0 rn0)) ln) (qb (lc (rnd Qad) ln) qn)))) (ih (w64 (y57-1),(y58.set y57.toNat x64).set ((w64 (y57-1)).toNat) x67) h)
       ·exact wfn hc62<|Qax<|Qan<|Qan<|Qaw rfl<|thn<|⟨(y58),h,(mto (n:=220) [] [0,1,2] [(.own 1 (y58.map Qaa)),Qcj,(.own 1 [[(Qci p5)]])] hq pn (qc (spr Qab) (qb (lc (.rn (Qap rn0 rn0)) ln) (qb (lc (rnd Qad) ln) qn))))⟩
     ·skip
      refine Qai<|wmr (mto (n:=220) (l':=[(0,(.own 0 1 (0) p0)),(2,I p2),(4,Qeu),(14,I p1),(15,I p2)]) (own':=[(.own 1 (p4.map Qaa)),Qcj,(.own 1 [[(Qci p5)]])]) [(0,(.own 0 1 (0) p0)),(2,I p2),(4,Qeu),(14,I p1),(15,I p2)] [0,1,2] [(.own 1 (p4.map Qaa)),Qcj,(.own 1 [[(Qci p5)]])] hq (pc (.rn (Qae rfl)) (pw (pc (.rn (Qap rn0 (rnc (rqr rfl) (rnc (rqr rfl) rn0)))) (pw (pw pn))))) (qc (spr Qab) (qb (lc (.rn (Qap rn0 rn0)) ln) (qb (lc (rnd Qad) ln) qn)))) ?_
      refine Qb0 (τ:=Int×Int) (fun n t=>Qa2 N p0 p2 p4 p5 k54 n t.1 t.2=some r) (fun ⟨y75,y76⟩=>⟨mk 220 [(0,(.own 0 1 (0) p0)),(2,I p2),(4,Qeu),(14,I y75),(15,I y76)],[(.own 1 (p4.map Qaa)),Qcj,(.own 1 [[(Qci p5)]])]⟩) (fun t h=>by rw[Qa2] at h;cases h) (fun n79 ih t h=>?_) N (p1,p2) h
      obtain⟨y75,y76⟩:=t
      rw[Qa2] at h
      skip
      refine wsq<|wxz ?_
      refine bfe h (fun hc80 h=>?_) fun hc80 h=>?_
      ·refine wft hc80<|Qaf<|thn<|Qai ?_
       obtain⟨x81,hl82,h⟩:=bno h
       refine wx tbk [(3,rp [(.tmp 88,(I (w64 (y75+y76))))] (K .u64 (IntKind.wrap .u64 (w64 (y75+y76))))),(4,rp [(.tmp 89,(K .u64 (IntKind.wrap .u64 (w64 (y75+y76))))),(.const (.int .u64 1),(K .u64 (1)))] (K .u64 ((IntKind.wrap .u64 (w64 (y75+y76)))/2))),(5,rp [(.tmp 90,(K .u64 ((IntKind.wrap .u64 (w64 (y75+y76)))/2)))] (I (w64 ((IntKind.wrap .u64 (w64 (y75+y76)))/2)))),(6,rp [(.tmp 91,(I (w64 ((IntKind.wrap .u64 (w64 (y75+y76)))/2))))] (I x81))] ⟨acv rfl (by rw[underlying3];rfl) underlying193,Qkd rfl (by decide) (by decide),acv rfl (by rw[underlying193];rfl) underlying3,Qdp hl82 (aas rfl),tv⟩ ?_
       obtain⟨hi83,h⟩:=cko h
       obtain⟨hi83a,hi83b⟩:=Qat hi83
       obtain⟨x84,hg85,h⟩:=bno h
       obtain⟨hi86,h⟩:=cko h
       obtain⟨hi86a,hi86b⟩:=Qat hi86
       obtain⟨x87,hg88,h⟩:=bno h
       obtain⟨x90,hf89,h⟩:=bno h
       refine wxd tbk [(3,rb [(.tmp 93,(.own 0 1 (0) p0)),(.tmp 94,I p2)] [(0,(.own 1 (p4.map Qaa)))] (.ref 0 1 p2.toNat 0)),(4,rb [(.tmp 95,(.ref 0 1 p2.toNat 0))] [(0,(.own 1 (p4.map Qaa)))] (I x84)),(7,rb [(.tmp 97,(.own 0 1 (0) p0)),(.tmp 98,I x81)] [(0,(.own 1 (p4.map Qaa)))] (.ref 0 1 x81.toNat 0)),(8,rb [(.tmp 99,(.ref 0 1 x81.toNat 0))] [(0,(.own 1 (p4.map Qaa)))] (I x87)),(9,⟨_,_,_,_,false⟩)] ⟨aio rfl underlying25 ti3 (odt hi83a) (odt hi83b) (Nat.zero_add _),ald rfl ti3 (by decide) (mgt Qaa hg85) (nle rfl) rfl,aio rfl underlying25 ti3 (odt hi86a) (odt hi86b) (Nat.zero_add _),ald rfl ti3 (by decide) (mgt Qaa hg88) (nle rfl) rfl,Qeb (first:=[]) (cap:=[.ref 1 1 0 0,.ref 2 1 0 0]) (vs:=[I x84,I x87]) (σr:=[Qcj,(.own 1 [[(Qci p5)]])]) (σr':=[Qcj,(.own 1 [[(Qci p5)]])]) (res':=(I x90)) [1,2] rfl Qld (Qcu N x84 x87 p5 _ hf89) rfl (Qb9 (rncc (rnc (Qbg rfl) (rnc (Qbg rfl) rn0)))) (slc (Qaj (rnc (.plain _ (NLt.fn _ _ _ nl0 nl0)) rn0)) (slc (Qaj (rnc (pld Qad) rn0)) Qam)) (slc (Qaj (rnc (.plain _ (NLt.fn _ _ _ nl0 nl0)) rn0)) (slc (Qaj (rnc (pld Qad) rn0)) Qam)) (.plain _ nll) rfl rfl rfl,tv⟩ ?_
       refine bfe h (fun hc91 h=>?_) fun hc91 h=>?_
       ·exact wft hc91<|wxz1<|bln<|thn<|arm (mto (n:=220) [(0,(.own 0 1 (0) p0)),(2,I p2),(4,Qeu),(14,(I (w64 (x81+1)))),(15,I y76)] [0,1,2] [(.own 1 (p4.map Qaa)),Qcj,(.own 1 [[(Qci p5)]])] hq (pc (.rn (Qae rfl)) (pw (pc (.rn (Qap rn0 (rnc (rqr rfl) (rnc (rqr rfl) rn0)))) (pw (pw pn))))) (qc (spr Qab) (qb (lc (.rn (Qap rn0 rn0)) ln) (qb (lc (rnd Qad) ln) qn)))) (ih (w64 (x81+1),y76) h)
       ·exact wfn hc91<|wxz1<|bln<|thn<|arm (mto (n:=220) [(0,(.own 0 1 (0) p0)),(2,I p2),(4,Qeu),(14,I y75),(15,I x81)] [0,1,2] [(.own 1 (p4.map Qaa)),Qcj,(.own 1 [[(Qci p5)]])] hq (pc (.rn (Qae rfl)) (pw (pc (.rn (Qap rn0 (rnc (rqr rfl) (rnc (rqr rfl) rn0)))) (pw (pw pn))))) (qc (spr Qab) (qb (lc (.rn (Qap rn0 rn0)) ln) (qb (lc (rnd Qad) ln) qn)))) (ih (y75,x81) h)
      ·exact wfn hc80<|Qax<|Qan<|Qan<|Qaw rfl<|thn<|⟨(y75),h,(mto (n:=220) [(0,(.own 0 1 (0) p0)),(2,I p2),(14,I y75)] [0,1,2] [(.own 1 (p4.map Qaa)),Qcj,(.own 1 [[(Qci p5)]])] hq (pc (.rn (Qae rfl)) (pw (pw pn))) (qc (spr Qab) (qb (lc (.rn (Qap rn0 rn0)) ln) (qb (lc (rnd Qad) ln) qn))))⟩
    ·exact wfn hc52<|Qaf<|thn<|⟨(),h,(mto (n:=220) [(0,(.own 0 1 (0) p0)),(1,I p1),(2,I p2),(3,I p3),(4,Qeu)] [0,1,2] [(.own 1 (p4.map Qaa)),Qcj,(.own 1 [[(Qci p5)]])] hq (pc (.rn (Qae rfl)) (pw (pw (pw (pc (.rn (Qap rn0 (rnc (rqr rfl) (rnc (rqr rfl) rn0)))) pn))))) (qc (spr Qab) (qb (lc (.rn (Qap rn0 rn0)) ln) (qb (lc (rnd Qad) ln) qn))))⟩
  ·skip
   refine wxz ?_
   refine bfe h (fun hc92 h=>?_) fun hc92 h=>?_
   ·refine wft hc92<|wxz<|wxz ?_
    obtain⟨k94,hk_k94,h⟩:=jko h
    refine wjn (τ:=Int) (fun t=>k94 t=some r) (fun y93=>⟨mk 220 [(0,(.own 0 1 (0) p0)),(1,I p1),(10,I y93)],[(.own 1 (p4.map Qaa)),Qcj,(.own 1 [[(Qci p5)]])]⟩) (fun y93 h=>?_) ?_
    ·subst hk_k94
     obtain⟨k96,hk_k96,h⟩:=jko h
     refine wjn (τ:=(List Int)) (fun t=>k96 t=some r) (fun y95=>⟨mk 220 [],[(.own 1 (y95.map Qaa)),Qcj,(.own 1 [[(Qci p5)]])]⟩) (fun y95 h=>?_) ?_
     ·subst hk_k96
      refine wmr (mto (n:=220) (l':=[]) (own':=[(.own 1 (y95.map Qaa)),Qcj,(.own 1 [[(Qci p5)]])]) [] [0,1,2] [(.own 1 (y95.map Qaa)),Qcj,(.own 1 [[(Qci p5)]])] hq pn (qc (spr Qab) (qb (lc (.rn (Qap rn0 rn0)) ln) (qb (lc (rnd Qad) ln) qn))))<|Qac<|Qah ?_
      obtain rfl:=osi h
      exact⟨_,Mor.rfl,fio [] tv⟩
     ·skip
      refine wxz<|Qai ?_
      refine wmr (mto (n:=220) (l':=[(0,(.own 0 1 (0) p0)),(10,I y93),(13,I p1)]) (own':=[(.own 1 (p4.map Qaa)),Qcj,(.own 1 [[(Qci p5)]])]) [(0,(.own 0 1 (0) p0)),(10,I y93),(13,I p1)] [0,1,2] [(.own 1 (p4.map Qaa)),Qcj,(.own 1 [[(Qci p5)]])] hq (pc (.rn (Qae rfl)) (pw (pw pn))) (qc (spr Qab) (qb (lc (.rn (Qap rn0 rn0)) ln) (qb (lc (rnd Qad) ln) qn)))) ?_
      refine Qb0 (τ:=Int×(List Int)) (fun n t=>Qbh N p0 y93 k96 n t.1 t.2=some r) (fun ⟨y97,y98⟩=>⟨mk 220 [(0,(.own 0 1 (0) p0)),(10,I y93),(13,I y97)],[(.own 1 (y98.map Qaa)),Qcj,(.own 1 [[(Qci p5)]])]⟩) (fun t h=>by rw[Qbh] at h;cases h) (fun n101 ih t h=>?_) N (p1,p4) h
      obtain⟨y97,y98⟩:=t
      rw[Qbh] at h
      skip
      refine wsq<|wxz ?_
      refine bfe h (fun hc102 h=>?_) fun hc102 h=>?_
      ·refine wft hc102<|Qaf<|thn<|wsq<|Qai ?_
       obtain⟨hi103,h⟩:=cko h
       obtain⟨hi103a,hi103b⟩:=Qat hi103
       obtain⟨x104,hg105,h⟩:=bno h
       obtain⟨hi106,h⟩:=cko h
       obtain⟨hi106a,hi106b⟩:=Qat hi106
       obtain⟨x107,hg108,h⟩:=bno h
       obtain⟨hi109,h⟩:=cko h
       obtain⟨hi109a,hi109b⟩:=Qat hi109
       obtain⟨x110,hg111,h⟩:=bno h
       obtain⟨hi112,h⟩:=cko h
       obtain⟨hi112a,hi112b⟩:=Qat hi112
       obtain⟨x113,hg114,h⟩:=bno h
       refine wy1 tbk [(8,rb [(.tmp 66,(.own 0 1 (0) p0)),(.tmp 68,(I (w64 (y97+1))))] [(0,(.own 1 (y98.map Qaa)))] (.ref 0 1 ((w64 (y97+1)).toNat) 0)),(9,rb [(.tmp 69,(.ref 0 1 ((w64 (y97+1)).toNat) 0))] [(0,(.own 1 (y98.map Qaa)))] (I x104)),(12,rb [(.tmp 71,(.own 0 1 (0) p0)),(.tmp 72,I y97)] [(0,(.own 1 (y98.map Qaa)))] (.ref 0 1 y97.toNat 0)),(13,rb [(.tmp 73,(.ref 0 1 y97.toNat 0))] [(0,(.own 1 (y98.map Qaa)))] (I x107)),(14,rb [(.tmp 61,(.own 0 1 (0) p0)),(.tmp 62,I y97)] [(0,(.own 1 (y98.map Qaa)))] (.ref 0 1 y97.toNat 0)),(15,⟨[(.tmp 75,(.ref 0 1 y97.toNat 0)),(.tmp 70,I x104)],[(0,(.own 1 (y98.map Qaa)))],.any,[(0,(.own 1 ((y98.set y97.toNat x104:List Int).map Qaa)))],false⟩),(16,rb [(.tmp 63,(.own 0 1 (0) p0)),(.tmp 65,(I (w64 (y97+1))))] [(0,(.own 1 ((y98.set y97.toNat x104:List Int).map Qaa)))] (.ref 0 1 ((w64 (y97+1)).toNat) 0)),(17,⟨[(.tmp 76,(.ref 0 1 ((w64 (y97+1)).toNat) 0)),(.tmp 74,I x107)],[(0,(.own 1 ((y98.set y97.toNat x104:List Int).map Qaa)))],.any,[(0,(.own 1 (((y98.set y97.toNat x104).set ((w64 (y97+1)).toNat) x107:List Int).map Qaa)))],false⟩)] ⟨aio rfl underlying25 ti3 (odt hi103a) (odt hi103b) (Nat.zero_add _),ald rfl ti3 (by decide) (mgt Qaa hg105) (nle rfl) rfl,aio rfl underlying25 ti3 (odt hi106a) (odt hi106b) (Nat.zero_add _),ald rfl ti3 (by decide) (mgt Qaa hg108) (nle rfl) rfl,aio rfl underlying25 ti3 (odt hi109a) (odt hi109b) (Nat.zero_add _),ast rfl ti3 (by rfl) (mgt Qaa hg111) (nle rfl) (Qd2 Qaa rfl),aio rfl underlying25 ti3 (odt hi112a) (odt hi112b) (Nat.zero_add _),ast rfl ti3 (by rfl) (mgt Qaa hg114) (nle rfl) (Qd2 Qaa rfl),tv⟩<|bln<|thn<|wxz1<|thn ?_
       exact arm (mto (n:=220) [(0,(.own 0 1 (0) p0)),(10,I y93),(13,(I (w64 (y97+1))))] [0,1,2] [(.own 1 (((y98.set y97.toNat x104).set ((w64 (y97+1)).toNat) x107:List Int).map Qaa)),Qcj,(.own 1 [[(Qci p5)]])] hq (pc (.rn (Qae rfl)) (pw (pw pn))) (qc (spr Qab) (qb (lc (.rn (Qap rn0 rn0)) ln) (qb (lc (rnd Qad) ln) qn)))) (ih (w64 (y97+1),(y98.set y97.toNat x104).set ((w64 (y97+1)).toNat) x107) h)
      ·exact wfn hc102<|Qax<|Qan<|Qan<|Qaw rfl<|thn<|⟨(y98),h,(mto (n:=220) [] [0,1,2] [(.own 1 (y98.map Qaa)),Qcj,(.own 1 [[(Qci p5)]])] hq pn (qc (spr Qab) (qb (lc (.rn (Qap rn0 rn0)) ln) (qb (lc (rnd Qad) ln) qn))))⟩
    ·skip
     refine Qai<|wmr (mto (n:=220) (l':=[(0,(.own 0 1 (0) p0)),(1,I p1),(4,Qeu),(10,I p2),(11,I p3)]) (own':=[(.own 1 (p4.map Qaa)),Qcj,(.own 1 [[(Qci p5)]])]) [(0,(.own 0 1 (0) p0)),(1,I p1),(4,Qeu),(10,I p2),(11,I p3)] [0,1,2] [(.own 1 (p4.map Qaa)),Qcj,(.own 1 [[(Qci p5)]])] hq (pc (.rn (Qae rfl)) (pw (pc (.rn (Qap rn0 (rnc (rqr rfl) (rnc (rqr rfl) rn0)))) (pw (pw pn))))) (qc (spr Qab) (qb (lc (.rn (Qap rn0 rn0)) ln) (qb (lc (rnd Qad) ln) qn)))) ?_
     refine Qb0 (τ:=Int×Int) (fun n t=>Qa1 N p0 p1 p4 p5 k94 n t.1 t.2=some r) (fun ⟨y115,y116⟩=>⟨mk 220 [(0,(.own 0 1 (0) p0)),(1,I p1),(4,Qeu),(10,I y115),(11,I y116)],[(.own 1 (p4.map Qaa)),Qcj,(.own 1 [[(Qci p5)]])]⟩) (fun t h=>by rw[Qa1] at h;cases h) (fun n119 ih t h=>?_) N (p2,p3) h
     obtain⟨y115,y116⟩:=t
     rw[Qa1] at h
     skip
     refine wsq<|wxz ?_
     refine bfe h (fun hc120 h=>?_) fun hc120 h=>?_
     ·refine wft hc120<|Qaf<|thn<|Qai ?_
      obtain⟨x121,hl122,h⟩:=bno h
      refine wx tbk [(3,rp [(.tmp 36,(I (w64 (y115+y116))))] (K .u64 (IntKind.wrap .u64 (w64 (y115+y116))))),(4,rp [(.tmp 37,(K .u64 (IntKind.wrap .u64 (w64 (y115+y116))))),(.const (.int .u64 1),(K .u64 (1)))] (K .u64 ((IntKind.wrap .u64 (w64 (y115+y116)))/2))),(5,rp [(.tmp 38,(K .u64 ((IntKind.wrap .u64 (w64 (y115+y116)))/2)))] (I (w64 ((IntKind.wrap .u64 (w64 (y115+y116)))/2)))),(6,rp [(.tmp 39,(I (w64 ((IntKind.wrap .u64 (w64 (y115+y116)))/2))))] (I x121))] ⟨acv rfl (by rw[underlying3];rfl) underlying193,Qkd rfl (by decide) (by decide),acv rfl (by rw[underlying193];rfl) underlying3,Qdp hl122 (aas rfl),tv⟩ ?_
      obtain⟨hi123,h⟩:=cko h
      obtain⟨hi123a,hi123b⟩:=Qat hi123
      obtain⟨x124,hg125,h⟩:=bno h
      obtain⟨hi126,h⟩:=cko h
      obtain⟨hi126a,hi126b⟩:=Qat hi126
      obtain⟨x127,hg128,h⟩:=bno h
      obtain⟨x130,hf129,h⟩:=bno h
      refine wxd tbk [(3,rb [(.tmp 41,(.own 0 1 (0) p0)),(.tmp 42,I x121)] [(0,(.own 1 (p4.map Qaa)))] (.ref 0 1 x121.toNat 0)),(4,rb [(.tmp 43,(.ref 0 1 x121.toNat 0))] [(0,(.own 1 (p4.map Qaa)))] (I x124)),(7,rb [(.tmp 45,(.own 0 1 (0) p0)),(.tmp 46,I p1)] [(0,(.own 1 (p4.map Qaa)))] (.ref 0 1 p1.toNat 0)),(8,rb [(.tmp 47,(.ref 0 1 p1.toNat 0))] [(0,(.own 1 (p4.map Qaa)))] (I x127)),(9,⟨_,_,_,_,false⟩)] ⟨aio rfl underlying25 ti3 (odt hi123a) (odt hi123b) (Nat.zero_add _),ald rfl ti3 (by decide) (mgt Qaa hg125) (nle rfl) rfl,aio rfl underlying25 ti3 (odt hi126a) (odt hi126b) (Nat.zero_add _),ald rfl ti3 (by decide) (mgt Qaa hg128) (nle rfl) rfl,Qeb (first:=[]) (cap:=[.ref 1 1 0 0,.ref 2 1 0 0]) (vs:=[I x124,I x127]) (σr:=[Qcj,(.own 1 [[(Qci p5)]])]) (σr':=[Qcj,(.own 1 [[(Qci p5)]])]) (res':=(I x130)) [1,2] rfl Qld (Qcu N x124 x127 p5 _ hf129) rfl (Qb9 (rncc (rnc (Qbg rfl) (rnc (Qbg rfl) rn0)))) (slc (Qaj (rnc (.plain _ (NLt.fn _ _ _ nl0 nl0)) rn0)) (slc (Qaj (rnc (pld Qad) rn0)) Qam)) (slc (Qaj (rnc (.plain _ (NLt.fn _ _ _ nl0 nl0)) rn0)) (slc (Qaj (rnc (pld Qad) rn0)) Qam)) (.plain _ nll) rfl rfl rfl,tv⟩ ?_
      refine bfe h (fun hc131 h=>?_) fun hc131 h=>?_
      ·exact wft hc131<|wxz1<|bln<|thn<|arm (mto (n:=220) [(0,(.own 0 1 (0) p0)),(1,I p1),(4,Qeu),(10,(I (w64 (x121+1)))),(11,I y116)] [0,1,2] [(.own 1 (p4.map Qaa)),Qcj,(.own 1 [[(Qci p5)]])] hq (pc (.rn (Qae rfl)) (pw (pc (.rn (Qap rn0 (rnc (rqr rfl) (rnc (rqr rfl) rn0)))) (pw (pw pn))))) (qc (spr Qab) (qb (lc (.rn (Qap rn0 rn0)) ln) (qb (lc (rnd Qad) ln) qn)))) (ih (w64 (x121+1),y116) h)
      ·exact wfn hc131<|wxz1<|bln<|thn<|arm (mto (n:=220) [(0,(.own 0 1 (0) p0)),(1,I p1),(4,Qeu),(10,I y115),(11,I x121)] [0,1,2] [(.own 1 (p4.map Qaa)),Qcj,(.own 1 [[(Qci p5)]])] hq (pc (.rn (Qae rfl)) (pw (pc (.rn (Qap rn0 (rnc (rqr rfl) (rnc (rqr rfl) rn0)))) (pw (pw pn))))) (qc (spr Qab) (qb (lc (.rn (Qap rn0 rn0)) ln) (qb (lc (rnd Qad) ln) qn)))) (ih (y115,x121) h)
     ·exact wfn hc120<|Qax<|Qan<|Qan<|Qaw rfl<|thn<|⟨(y115),h,(mto (n:=220) [(0,(.own 0 1 (0) p0)),(1,I p1),(10,I y115)] [0,1,2] [(.own 1 (p4.map Qaa)),Qcj,(.own 1 [[(Qci p5)]])] hq (pc (.rn (Qae rfl)) (pw (pw pn))) (qc (spr Qab) (qb (lc (.rn (Qap rn0 rn0)) ln) (qb (lc (rnd Qad) ln) qn))))⟩
   ·exact wfn hc92<|Qaf<|thn<|⟨(),h,(mto (n:=220) [(0,(.own 0 1 (0) p0)),(1,I p1),(2,I p2),(3,I p3),(4,Qeu)] [0,1,2] [(.own 1 (p4.map Qaa)),Qcj,(.own 1 [[(Qci p5)]])] hq (pc (.rn (Qae rfl)) (pw (pw (pw (pc (.rn (Qap rn0 (rnc (rqr rfl) (rnc (rqr rfl) rn0)))) pn))))) (qc (spr Qab) (qb (lc (.rn (Qap rn0 rn0)) ln) (qb (lc (rnd Qad) ln) qn))))⟩
def Qbr (N p0:Nat) (p1:Int) (p3:List Qaz) (y7:Int) (k15:Int×(List Int)→Option (List Int)):Nat→Int→Int→(List Int)→Option (List Int)
  |0,_,_,_=>none
  |n25+1,y19,y20,y21=>
    bif (decide (y20≤p1)) then
     (Qca N p0 y19 (w64 (y19+y7)) y20 y21 p3).bind fun x28=>
     (some (w64 (y20+(w64 (2*y7))))).bind fun x29=>
     Qbr N p0 p1 p3 y7 k15 n25 y20 x29 x28
    else
     k15 (y19,y21)
def Qa7 (N p0:Nat) (p1:Int) (p3:List Qaz):Nat→Int→(List Int)→Option (List Int)
  |0,_,_=>none
  |n11+1,y7,y8=>
    bif (decide (y7<p1)) then
     Qcx (fun ⟨y13,y14⟩=>
       bif (decide ((w64 (y13+y7))<p1)) then
        (Qca N p0 y13 (w64 (y13+y7)) p1 y14 p3).bind fun x18=>
        Qa7 N p0 p1 p3 n11 (w64 (y7*2)) x18
       else
        Qa7 N p0 p1 p3 n11 (w64 (y7*2)) y14) fun k15:Int×(List Int)→Option (List Int)=>
     Qbr N p0 p1 p3 y7 k15 N 0 (w64 (2*y7)) y8
    else
     some y8
def Qbq (N p0:Nat) (p1:Int) (p3:List Qaz) (k4:Int×(List Int)→Option (List Int)):Nat→Int→Int→(List Int)→Option (List Int)
  |0,_,_,_=>none
  |n37+1,y31,y32,y33=>
    bif (decide (y32≤p1)) then
     (Qcc N p0 y31 y32 y33 p3).bind fun x40=>
     Qbq N p0 p1 p3 k4 n37 y32 (w64 (y32+20)) x40
    else
     k4 (y31,y33)
def Qdt (N p0:Nat) (p1:Int) (p2:List Int) (p3:List Qaz):Option (List Int):=
  Qcx (fun ⟨y2,y3⟩=>
    (Qcc N p0 y2 p1 y3 p3).bind fun x6=>
    Qa7 N p0 p1 p3 N 20 x6) fun k4:Int×(List Int)→Option (List Int)=>
  Qbq N p0 p1 p3 k4 N 0 20 p2
abbrev Qg9:AV:=.fn (.func 111) [] [(.ref 1 1 (0) 0),(.ref 2 1 (0) 0)]
abbrev Qfj:Slot:=.own 1 [[(.fn (.func 92) [] [])]]
abbrev Qfi (p3:List Qaz):AV:=.dat 4 (p3.map Qas)
theorem Qgb (N p0:Nat) (p1:Int) (p2:List Int) (p3:List Qaz) (r:List Int) (h:Qdt N p0 p1 p2 p3=some r):Spec prog 117 [(.own 0 1 (0) p0),(I p1),Qg9] [(.own 1 (p2.map Qaa)),Qfj,(.own 1 [[(Qfi p3)]])] (.tup []) [(.own 1 (r.map Qaa)),Qfj,(.own 1 [[(Qfi p3)]])]:=by
  refine sF func117 3 fun _ _ _ hq hd0=>?_
  unfold Qdt at h
  refine wxz<|wxz ?_
  obtain⟨k4,hk_k4,h⟩:=jko h
  refine wjn (τ:=Int×(List Int)) (fun t=>k4 t=some r) (fun ⟨y2,y3⟩=>⟨mk 63 [(0,(.own 0 1 (0) p0)),(1,I p1),(2,Qg9),(6,I 20),(7,I y2)],[(.own 1 (y3.map Qaa)),Qfj,(.own 1 [[(Qfi p3)]])]⟩) (fun t h=>?_) ?_
  ·subst hk_k4
   obtain⟨y2,y3⟩:=t
   obtain⟨x6,hf5,h⟩:=bno h
   refine wx tbk [(4,⟨_,_,_,_,false⟩)] ⟨acq [(.own 0 1 (0) p0),I y2,I p1,Qg9] [(.own 1 (y3.map Qaa)),Qfj,(.own 1 [[(Qfi p3)]])] [(.own 1 (x6.map Qaa)),Qfj,(.own 1 [[(Qfi p3)]])] (.tup []) [0,1,2] Qqw (Qdm N p0 y2 p1 y3 p3 _ hf5) (Qb9 (rnc (Qea rfl) (rncc (rnc (Qap rn0 (rnc (Qbg rfl) (rnc (Qbg rfl) rn0))) rn0)))) (slc (Qbo Qab) (slc (Qaj (rnc (.plain _ (NLt.fn _ _ _ nl0 nl0)) rn0)) (slc (Qaj (rnc (pld Qad) rn0)) Qam))) (slc (Qbo Qab) (slc (Qaj (rnc (.plain _ (NLt.fn _ _ _ nl0 nl0)) rn0)) (slc (Qaj (rnc (pld Qad) rn0)) Qam))) (.plain _ (NLt.tup _ nl0)),tv⟩<|Qai ?_
   refine wmr (mto (n:=63) (l':=[(0,(.own 0 1 (0) p0)),(1,I p1),(2,Qg9),(6,I 20)]) (own':=[(.own 1 (x6.map Qaa)),Qfj,(.own 1 [[(Qfi p3)]])]) [(0,(.own 0 1 (0) p0)),(1,I p1),(2,Qg9),(6,I 20)] [0,1,2] [(.own 1 (x6.map Qaa)),Qfj,(.own 1 [[(Qfi p3)]])] hq (pc (.rn (Qae rfl)) (pw (pc (.rn (Qap rn0 (rnc (rqr rfl) (rnc (rqr rfl) rn0)))) (pw pn)))) (qc (spr Qab) (qb (lc (.rn (Qap rn0 rn0)) ln) (qb (lc (rnd Qad) ln) qn)))) ?_
   refine Qb0 (τ:=Int×(List Int)) (fun n t=>Qa7 N p0 p1 p3 n t.1 t.2=some r) (fun ⟨y7,y8⟩=>⟨mk 63 [(0,(.own 0 1 (0) p0)),(1,I p1),(2,Qg9),(6,I y7)],[(.own 1 (y8.map Qaa)),Qfj,(.own 1 [[(Qfi p3)]])]⟩) (fun t h=>by rw[Qa7] at h;cases h) (fun n11 ih t h=>?_) N (20,x6) h
   obtain⟨y7,y8⟩:=t
   rw[Qa7] at h
   skip
   refine wsq<|wxz ?_
   refine bfe h (fun hc12 h=>?_) fun hc12 h=>?_
   ·refine wft hc12<|Qaf<|thn<|Qai<|wxz ?_
    obtain⟨k15,hk_k15,h⟩:=jko h
    refine wjn (τ:=Int×(List Int)) (fun t=>k15 t=some r) (fun ⟨y13,y14⟩=>⟨mk 63 [(0,(.own 0 1 (0) p0)),(1,I p1),(2,Qg9),(6,I y7),(7,I y13)],[(.own 1 (y14.map Qaa)),Qfj,(.own 1 [[(Qfi p3)]])]⟩) (fun t h=>?_) ?_
    ·subst hk_k15
     obtain⟨y13,y14⟩:=t
     refine wsq<|wxz<|wxz ?_
     refine bfe h (fun hc16 h=>?_) fun hc16 h=>?_
     ·refine wft hc16 ?_
      obtain⟨x18,hf17,h⟩:=bno h
      refine wx1 tbk [(5,⟨_,_,_,_,false⟩)] ⟨acq [(.own 0 1 (0) p0),I y13,(I (w64 (y13+y7))),I p1,Qg9] [(.own 1 (y14.map Qaa)),Qfj,(.own 1 [[(Qfi p3)]])] [(.own 1 (x18.map Qaa)),Qfj,(.own 1 [[(Qfi p3)]])] (.tup []) [0,1,2] Qlc (Qec N p0 y13 (w64 (y13+y7)) p1 y14 p3 _ hf17) (Qb9 (rnc (Qea rfl) (rncc (rnc (.plain _ nll) (rnc (Qap rn0 (rnc (Qbg rfl) (rnc (Qbg rfl) rn0))) rn0))))) (slc (Qbo Qab) (slc (Qaj (rnc (.plain _ (NLt.fn _ _ _ nl0 nl0)) rn0)) (slc (Qaj (rnc (pld Qad) rn0)) Qam))) (slc (Qbo Qab) (slc (Qaj (rnc (.plain _ (NLt.fn _ _ _ nl0 nl0)) rn0)) (slc (Qaj (rnc (pld Qad) rn0)) Qam))) (.plain _ (NLt.tup _ nl0)),tv⟩<|thn<|wxz1<|bln<|thn ?_
      exact arm (mto (n:=63) [(0,(.own 0 1 (0) p0)),(1,I p1),(2,Qg9),(6,(I (w64 (y7*2))))] [0,1,2] [(.own 1 (x18.map Qaa)),Qfj,(.own 1 [[(Qfi p3)]])] hq (pc (.rn (Qae rfl)) (pw (pc (.rn (Qap rn0 (rnc (rqr rfl) (rnc (rqr rfl) rn0)))) (pw pn)))) (qc (spr Qab) (qb (lc (.rn (Qap rn0 rn0)) ln) (qb (lc (rnd Qad) ln) qn)))) (ih (w64 (y7*2),x18) h)
     ·exact wfn hc16<|Qaf<|thn<|wxz1<|bln<|thn<|arm (mto (n:=63) [(0,(.own 0 1 (0) p0)),(1,I p1),(2,Qg9),(6,(I (w64 (y7*2))))] [0,1,2] [(.own 1 (y14.map Qaa)),Qfj,(.own 1 [[(Qfi p3)]])] hq (pc (.rn (Qae rfl)) (pw (pc (.rn (Qap rn0 (rnc (rqr rfl) (rnc (rqr rfl) rn0)))) (pw pn)))) (qc (spr Qab) (qb (lc (.rn (Qap rn0 rn0)) ln) (qb (lc (rnd Qad) ln) qn)))) (ih (w64 (y7*2),y14) h)
    ·skip
     refine Qai<|wmr (mto (n:=63) (l':=[(0,(.own 0 1 (0) p0)),(1,I p1),(2,Qg9),(6,I y7),(7,I 0),(8,(I ((w64 (2*y7)))))]) (own':=[(.own 1 (y8.map Qaa)),Qfj,(.own 1 [[(Qfi p3)]])]) [(0,(.own 0 1 (0) p0)),(1,I p1),(2,Qg9),(6,I y7),(7,I 0),(8,(I (w64 (2*y7))))] [0,1,2] [(.own 1 (y8.map Qaa)),Qfj,(.own 1 [[(Qfi p3)]])] hq (pc (.rn (Qae rfl)) (pw (pc (.rn (Qap rn0 (rnc (rqr rfl) (rnc (rqr rfl) rn0)))) (pw (pw (pw pn)))))) (qc (spr Qab) (qb (lc (.rn (Qap rn0 rn0)) ln) (qb (lc (rnd Qad) ln) qn)))) ?_
     refine Qb0 (τ:=Int×Int×(List Int)) (fun n t=>Qbr N p0 p1 p3 y7 k15 n t.1 t.2.1 t.2.2=some r) (fun ⟨y19,y20,y21⟩=>⟨mk 63 [(0,(.own 0 1 (0) p0)),(1,I p1),(2,Qg9),(6,I y7),(7,I y19),(8,I y20)],[(.own 1 (y21.map Qaa)),Qfj,(.own 1 [[(Qfi p3)]])]⟩) (fun t h=>by rw[Qbr] at h;cases h) (fun n25 ih t h=>?_) N (0,w64 (2*y7),y8) h
     obtain⟨y19,y20,y21⟩:=t
     rw[Qbr] at h
     skip
     refine wsq<|wxz ?_
     refine bfe h (fun hc26 h=>?_) fun hc26 h=>?_
     ·refine wft hc26<|Qaf<|thn<|Qai ?_
      obtain⟨x28,hf27,h⟩:=bno h
      refine wx tbk [(7,⟨_,_,_,_,false⟩)] ⟨acq [(.own 0 1 (0) p0),I y19,(I (w64 (y19+y7))),I y20,Qg9] [(.own 1 (y21.map Qaa)),Qfj,(.own 1 [[(Qfi p3)]])] [(.own 1 (x28.map Qaa)),Qfj,(.own 1 [[(Qfi p3)]])] (.tup []) [0,1,2] Qlc (Qec N p0 y19 (w64 (y19+y7)) y20 y21 p3 _ hf27) (Qb9 (rnc (Qea rfl) (rncc (rnc (.plain _ nll) (rnc (Qap rn0 (rnc (Qbg rfl) (rnc (Qbg rfl) rn0))) rn0))))) (slc (Qbo Qab) (slc (Qaj (rnc (.plain _ (NLt.fn _ _ _ nl0 nl0)) rn0)) (slc (Qaj (rnc (pld Qad) rn0)) Qam))) (slc (Qbo Qab) (slc (Qaj (rnc (.plain _ (NLt.fn _ _ _ nl0 nl0)) rn0)) (slc (Qaj (rnc (pld Qad) rn0)) Qam))) (.plain _ (NLt.tup _ nl0)),tv⟩<|wxz ?_
      obtain⟨x29,hl30,h⟩:=bno h
      exact wx1 tbk [(4,rp [(.tmp 48,(I (w64 (y20+(w64 (2*y7))))))] (I x29))] ⟨Qdp hl30 (aas rfl),tv⟩<|bln<|thn<|arm (mto (n:=63) [(0,(.own 0 1 (0) p0)),(1,I p1),(2,Qg9),(6,I y7),(7,I y20),(8,I x29)] [0,1,2] [(.own 1 (x28.map Qaa)),Qfj,(.own 1 [[(Qfi p3)]])] hq (pc (.rn (Qae rfl)) (pw (pc (.rn (Qap rn0 (rnc (rqr rfl) (rnc (rqr rfl) rn0)))) (pw (pw (pw pn)))))) (qc (spr Qab) (qb (lc (.rn (Qap rn0 rn0)) ln) (qb (lc (rnd Qad) ln) qn)))) (ih (y20,x29,x28) h)
     ·exact wfn hc26<|Qax<|Qan<|Qan<|Qaw rfl<|thn<|⟨(y19,y21),h,(mto (n:=63) [(0,(.own 0 1 (0) p0)),(1,I p1),(2,Qg9),(6,I y7),(7,I y19)] [0,1,2] [(.own 1 (y21.map Qaa)),Qfj,(.own 1 [[(Qfi p3)]])] hq (pc (.rn (Qae rfl)) (pw (pc (.rn (Qap rn0 (rnc (rqr rfl) (rnc (rqr rfl) rn0)))) (pw (pw pn))))) (qc (spr Qab) (qb (lc (.rn (Qap rn0 rn0)) ln) (qb (lc (rnd Qad) ln) qn))))⟩
   ·refine wfn hc12<|Qax<|Qan<|Qan<|Qaw rfl ?_
    obtain rfl:=osi h
    exact⟨_,(mto (n:=63) (l':=[]) (own':=[(.own 1 (y8.map Qaa)),Qfj,(.own 1 [[(Qfi p3)]])]) [] [0,1,2] [(.own 1 (y8.map Qaa)),Qfj,(.own 1 [[(Qfi p3)]])] hq pn (qc (spr Qab) (qb (lc (.rn (Qap rn0 rn0)) ln) (qb (lc (rnd Qad) ln) qn)))),fio [] tv⟩
  ·skip
   refine Qai<|wmr (mto (n:=63) (l':=[(0,(.own 0 1 (0) p0)),(1,I p1),(2,Qg9),(6,I 20),(7,I 0),(8,I 20)]) (own':=[(.own 1 (p2.map Qaa)),Qfj,(.own 1 [[(Qfi p3)]])]) [(0,(.own 0 1 (0) p0)),(1,I p1),(2,Qg9),(6,I 20),(7,I 0),(8,I 20)] [0,1,2] [(.own 1 (p2.map Qaa)),Qfj,(.own 1 [[(Qfi p3)]])] hq (pc (.rn (Qae rfl)) (pw (pc (.rn (Qap rn0 (rnc (rqr rfl) (rnc (rqr rfl) rn0)))) (pw (pw (pw pn)))))) (qc (spr Qab) (qb (lc (.rn (Qap rn0 rn0)) ln) (qb (lc (rnd Qad) ln) qn)))) ?_
   refine Qb0 (τ:=Int×Int×(List Int)) (fun n t=>Qbq N p0 p1 p3 k4 n t.1 t.2.1 t.2.2=some r) (fun ⟨y31,y32,y33⟩=>⟨mk 63 [(0,(.own 0 1 (0) p0)),(1,I p1),(2,Qg9),(6,I 20),(7,I y31),(8,I y32)],[(.own 1 (y33.map Qaa)),Qfj,(.own 1 [[(Qfi p3)]])]⟩) (fun t h=>by rw[Qbq] at h;cases h) (fun n37 ih t h=>?_) N (0,20,p2) h
   obtain⟨y31,y32,y33⟩:=t
   rw[Qbq] at h
   skip
   refine wsq<|wxz ?_
   refine bfe h (fun hc38 h=>?_) fun hc38 h=>?_
   ·refine wft hc38<|Qaf<|thn<|Qai ?_
    obtain⟨x40,hf39,h⟩:=bno h
    refine wx tbk [(4,⟨_,_,_,_,false⟩)] ⟨acq [(.own 0 1 (0) p0),I y31,I y32,Qg9] [(.own 1 (y33.map Qaa)),Qfj,(.own 1 [[(Qfi p3)]])] [(.own 1 (x40.map Qaa)),Qfj,(.own 1 [[(Qfi p3)]])] (.tup []) [0,1,2] Qqw (Qdm N p0 y31 y32 y33 p3 _ hf39) (Qb9 (rnc (Qea rfl) (rncc (rnc (Qap rn0 (rnc (Qbg rfl) (rnc (Qbg rfl) rn0))) rn0)))) (slc (Qbo Qab) (slc (Qaj (rnc (.plain _ (NLt.fn _ _ _ nl0 nl0)) rn0)) (slc (Qaj (rnc (pld Qad) rn0)) Qam))) (slc (Qbo Qab) (slc (Qaj (rnc (.plain _ (NLt.fn _ _ _ nl0 nl0)) rn0)) (slc (Qaj (rnc (pld Qad) rn0)) Qam))) (.plain _ (NLt.tup _ nl0)),tv⟩<|wxz<|wxz1<|bln<|thn ?_
    exact arm (mto (n:=63) [(0,(.own 0 1 (0) p0)),(1,I p1),(2,Qg9),(6,I 20),(7,I y32),(8,(I (w64 (y32+20))))] [0,1,2] [(.own 1 (x40.map Qaa)),Qfj,(.own 1 [[(Qfi p3)]])] hq (pc (.rn (Qae rfl)) (pw (pc (.rn (Qap rn0 (rnc (rqr rfl) (rnc (rqr rfl) rn0)))) (pw (pw (pw pn)))))) (qc (spr Qab) (qb (lc (.rn (Qap rn0 rn0)) ln) (qb (lc (rnd Qad) ln) qn)))) (ih (y32,w64 (y32+20),x40) h)
   ·exact wfn hc38<|Qax<|Qan<|Qan<|Qaw rfl<|thn<|⟨(y31,y33),h,(mto (n:=63) [(0,(.own 0 1 (0) p0)),(1,I p1),(2,Qg9),(6,I 20),(7,I y31)] [0,1,2] [(.own 1 (y33.map Qaa)),Qfj,(.own 1 [[(Qfi p3)]])] hq (pc (.rn (Qae rfl)) (pw (pc (.rn (Qap rn0 (rnc (rqr rfl) (rnc (rqr rfl) rn0)))) (pw (pw pn))))) (qc (spr Qab) (qb (lc (.rn (Qap rn0 rn0)) ln) (qb (lc (rnd Qad) ln) qn))))⟩
def Qc9 (N p0:Nat) (p1:List Int) (p2:List Qaz):Option (List Int):=
  (Qdt N p0 ((p0:Nat):Int) p1 p2).bind fun x3=>
  some x3
abbrev Q0r:AV:=.fn (.func 111) [] [(.ref 1 1 (0) 0),(.ref 2 1 (0) 0)]
abbrev Qq8:Slot:=.own 1 [[(.fn (.func 92) [] [])]]
abbrev Qq7 (p2:List Qaz):AV:=.dat 4 (p2.map Qas)
theorem Qfd (N p0:Nat) (p1:List Int) (p2:List Qaz) (r:List Int) (h:Qc9 N p0 p1 p2=some r):Spec prog 109 [(.own 0 1 (0) p0),Q0r] [(.own 1 (p1.map Qaa)),Qq8,(.own 1 [[(Qq7 p2)]])] (.tup []) [(.own 1 (r.map Qaa)),Qq8,(.own 1 [[(Qq7 p2)]])]:=by
  refine sF func109 3 fun _ _ _ hq hd0=>?_
  unfold Qc9 at h
  obtain⟨x3,hf2,h⟩:=bno h
  refine wx1 tbk [(2,rp [(.tmp 5,(.own 0 1 (0) p0))] (I (((p0:Nat):Int)))),(4,⟨_,_,_,_,false⟩)] ⟨aln rfl underlying25 rfl,acq [(.own 0 1 (0) p0),(I (((p0:Nat):Int))),Q0r] [(.own 1 (p1.map Qaa)),Qq8,(.own 1 [[(Qq7 p2)]])] [(.own 1 (x3.map Qaa)),Qq8,(.own 1 [[(Qq7 p2)]])] (.tup []) [0,1,2] Qwn (Qgb N p0 ((p0:Nat):Int) p1 p2 _ hf2) (Qb9 (rnc (Qea rfl) (rnc (.plain _ nll) (rnc (Qap rn0 (rnc (Qbg rfl) (rnc (Qbg rfl) rn0))) rn0)))) (slc (Qbo Qab) (slc (Qaj (rnc (.plain _ (NLt.fn _ _ _ nl0 nl0)) rn0)) (slc (Qaj (rnc (pld Qad) rn0)) Qam))) (slc (Qbo Qab) (slc (Qaj (rnc (.plain _ (NLt.fn _ _ _ nl0 nl0)) rn0)) (slc (Qaj (rnc (pld Qad) rn0)) Qam))) (.plain _ (NLt.tup _ nl0)),tv⟩ ?_
  obtain rfl:=osi h
  exact⟨_,(mto (n:=9) (l':=[]) (own':=[(.own 1 (x3.map Qaa)),Qq8,(.own 1 [[(Qq7 p2)]])]) [] [0,1,2] [(.own 1 (x3.map Qaa)),Qq8,(.own 1 [[(Qq7 p2)]])] hq pn (qc (spr Qab) (qb (lc (.rn (Qap rn0 rn0)) ln) (qb (lc (rnd Qad) ln) qn)))),fio [] tv⟩
def Qb1 (N:Nat) (p0:List Qaz) (k4:(List Int)→Option (List Int)):Nat→Int→(List Int)→Option (List Int)
  |0,_,_=>none
  |n13+1,y9,y10=>
    bif (decide (y9<(p0.length:Int))) then
     chk (decide ((y10.length+([y9]).length)*8≤140737488355328))<|
     Qb1 N p0 k4 n13 (w64 (y9+1)) (y10++([y9]))
    else
     k4 (y10)
def Qee (N:Nat) (p0:List Qaz):Option (List Int):=
  Qcx (fun y3=>
    chk (!y3.isEmpty)<|
    (Qc9 N y3.length y3 p0).bind fun x7=>
    chk (decide (y3.length≤x7.length))<|
    some (x7.take y3.length)) fun k4:(List Int)→Option (List Int)=>
  Qb1 N p0 k4 N 0 ([]:List Int)
abbrev Qk2 (p0:List Qaz):AV:=.dat 4 (p0.map Qas)
def Qlf:Slot:=.own 1 [[(.fn (.func 92) [] [])]]
def Qvs:AV:=.fn (.func 111) [] [(.ref 1 1 (0) 0),(.ref 0 1 (0) 0)]
def Qqe (x7 y3:List Int):AV:=.dat 1 ((x7.take y3.length:List Int).map Qaa)
def Q0s:Slot:=.gro 1 ((([]:List Int):List Int).map Qaa)
theorem Qgz (N:Nat) (p0:List Qaz) (r:List Int) (h:Qee N p0=some r):Spec prog 91 [(Qk2 p0),(.fn (.func 92) [] [])] [] (.dat 1 (r.map Qaa)) []:=by
  refine sF func91 0 fun _ _ _ hq hd0=>?_
  unfold Qee at h
  refine wxz<|wxz ?_
  obtain⟨k4,hk_k4,h⟩:=jko h
  refine wjn (τ:=(List Int)) (fun t=>k4 t=some r) (fun y3=>⟨mk 21 [(2,.ref 0 1 0 0),(3,.ref 1 1 0 0),(5,(.gro 2 3 1 y3.length))],[(.own 1 [[(Qk2 p0)]]),Qlf,(.gro 1 (y3.map Qaa))]⟩) (fun y3 h=>?_) ?_
  ·subst hk_k4
   obtain⟨hz5,h⟩:=cko h
   obtain⟨x7,hf6,h⟩:=bno h
   refine wx tbk [(1,rp [(.tmp 3,.ref 1 1 0 0),(.tmp 2,.ref 0 1 0 0)] Qvs),(2,⟨[fu 109,(.tmp 17,(.gro 2 3 1 y3.length)),(.tmp 18,Qvs)],[(2,(.gro 1 (y3.map Qaa))),(1,Qlf),(0,(.own 1 [[(Qk2 p0)]]))],(.tup []),[(2,(.own 1 (x7.map Qaa))),(1,Qlf),(0,(.own 1 [[(Qk2 p0)]]))],false⟩)] ⟨Qe2 (fs:=[]) (cs:=[.ref 1 1 0 0,.ref 0 1 0 0]) rfl rfl rfl rfl,Qjx (bl':=[(2,(.own 1 (y3.map Qaa))),(1,Qlf),(0,(.own 1 [[(Qk2 p0)]]))]) ⟨rfl,SLess.gro (Qh2 hz5),rfl,SLess.rfl,rfl,SLess.rfl,tv⟩ (awk (rd':=[fu 109,(.tmp 17,(.own 2 1 (0) y3.length)),(.tmp 18,Qvs)]) ⟨rfl,lrf,rfl,Less.gro,rfl,lrf,tv⟩ (acq [(.own 2 1 (0) y3.length),Qvs] [(.own 1 (y3.map Qaa)),Qlf,(.own 1 [[(Qk2 p0)]])] [(.own 1 (x7.map Qaa)),Qlf,(.own 1 [[(Qk2 p0)]])] (.tup []) [2,1,0] Qwq (Qfd N y3.length y3 p0 _ hf6) (Qb9 (rnc (Qea rfl) (rnc (Qap rn0 (rnc (Qbg rfl) (rnc (Qbg rfl) rn0))) rn0))) (slc (Qbo Qab) (slc (Qaj (rnc (.plain _ (NLt.fn _ _ _ nl0 nl0)) rn0)) (slc (Qaj (rnc (pld Qad) rn0)) Qam))) (slc (Qbo Qab) (slc (Qaj (rnc (.plain _ (NLt.fn _ _ _ nl0 nl0)) rn0)) (slc (Qaj (rnc (pld Qad) rn0)) Qam))) (.plain _ (NLt.tup _ nl0)))),tv⟩<|wxz ?_
   obtain⟨hz8,h⟩:=cko h
   refine wmr (Qwf (n:=21) (l':=[(4,(.own 2 1 (0) y3.length))]) [(4,(.gro 2 3 1 y3.length))] (by kernel_rfl) (by kernel_rfl) ⟨rfl,Less.gro,tv⟩) ?_
   refine wmr (Qls (n:=21) (l':=[(4,(Qqe x7 y3))]) 2 [(4,(.own 2 1 (0) y3.length))] (by kernel_rfl) (by kernel_rfl) (by kernel_rfl) ⟨rfl,(Qjt hz8),tv⟩ rfl) ?_
   refine wmr (mto (n:=21) (l':=[(4,(Qqe x7 y3))]) (own':=[]) [(4,(Qqe x7 y3))] [] [] hq (pc (rnd Qab) pn) qn)<|Qac ?_
   obtain rfl:=osi h
   exact⟨_,Mor.rfl,fio [(Qqe x7 y3)] ⟨rot,tv⟩⟩
  ·skip
   refine wx tbk [(1,rp _ _)] ⟨alq 4 Qas p0 underlying68,tv⟩<|Qai ?_
   refine wmr (Mor.trans (Qwe 2 3 1 5 (by kernel_rfl) (by kernel_rfl)) (mto (n:=21) (l':=[(2,.ref 0 1 0 0),(3,.ref 1 1 0 0),(5,(.gro 2 3 1 (([]:List Int).length))),(8,(I ((p0.length:Int)))),(9,I 0)]) (own':=[(.own 1 [[(Qk2 p0)]]),Qlf,Q0s]) [(2,.ref 0 1 0 0),(3,.ref 1 1 0 0),(5,(.gro 2 3 1 (([]:List Int).length))),(8,(I ((p0.length:Int)))),(9,I 0)] [0,1,2] [(.own 1 [[(Qk2 p0)]]),Qlf,Q0s] hq (prr (prr (pc (.rn (Qpe rfl)) (pw (pw pn))))) (qb (lc (rnd Qad) ln) (qb (lc (.rn (Qap rn0 rn0)) ln) (qc (Qna Qab) qn))))) ?_
   refine Qb0 (τ:=Int×(List Int)) (fun n t=>Qb1 N p0 k4 n t.1 t.2=some r) (fun ⟨y9,y10⟩=>⟨mk 21 [(2,.ref 0 1 0 0),(3,.ref 1 1 0 0),(5,(.gro 2 3 1 y10.length)),(8,(I ((p0.length:Int)))),(9,I y9)],[(.own 1 [[(Qk2 p0)]]),Qlf,(.gro 1 (y10.map Qaa))]⟩) (fun t h=>by rw[Qb1] at h;cases h) (fun n13 ih t h=>?_) N (0,([]:List Int)) h
   obtain⟨y9,y10⟩:=t
   rw[Qb1] at h
   skip
   refine wxz<|wsq ?_
   refine bfe h (fun hc14 h=>?_) fun hc14 h=>?_
   ·refine wft hc14<|Qaf<|thn<|wsq<|Qai<|wxz ?_
    obtain⟨ha15,h⟩:=cko h
    refine wx1 tbk [(2,rp [(.tmp 13,I y9)] (.dat 1 (([y9]:List Int).map Qaa))),(3,⟨[(.tmp 12,(.gro 2 3 1 y10.length)),(.tmp 14,(.dat 1 (([y9]:List Int).map Qaa)))],[(2,(.gro 1 (y10.map Qaa))),(3,.unused)],(.gro 3 3 1 ((y10++([y9])).length)),[(2,.dead),(3,(.gro 1 ((y10++([y9]):List Int).map Qaa)))],false⟩)] ?_ ?_
    ·exact⟨Qa6 (vs:=[I y9]) rfl underlying25 ti3 tz3 rfl (by decide) rfl (by decide) (by rfl) (by rfl) (by rfl) rfl,Qp1 (c:=Qaa) (a:=y10) (b:=[y9]) rfl underlying25 te3 rfl (Qh2 rfl) (by rfl) ha15 (by decide),tv⟩
    exact bln<|thn<|wxz1<|thn<|arm (mto (n:=21) [(2,.ref 0 1 0 0),(3,.ref 1 1 0 0),(5,(.gro 3 3 1 ((y10++([y9])).length))),(8,(I ((p0.length:Int)))),(9,(I (w64 (y9+1))))] [0,1,3] [(.own 1 [[(Qk2 p0)]]),Qlf,(.gro 1 ((y10++([y9]):List Int).map Qaa))] hq (prr (prr (pc (.rn (Qpe rfl)) (pw (pw pn))))) (qb (lc (rnd Qad) ln) (qb (lc (.rn (Qap rn0 rn0)) ln) (qc (Qna Qab) qn)))) (ih (w64 (y9+1),y10++([y9])) h)
   ·exact wfn hc14<|Qax<|Qan<|Qan<|Qaw rfl<|thn<|⟨(y10),h,(mto (n:=21) [(2,.ref 0 1 0 0),(3,.ref 1 1 0 0),(5,(.gro 2 3 1 y10.length))] [0,1,2] [(.own 1 [[(Qk2 p0)]]),Qlf,(.gro 1 (y10.map Qaa))] hq (prr (prr (pc (.rn (Qpe rfl)) pn))) (qb (lc (rnd Qad) ln) (qb (lc (.rn (Qap rn0 rn0)) ln) (qc (Qna Qab) qn))))⟩
def Qcq (N:Nat) (p0:List Qaz) (p1:Nat) (p2:List Int) (k7:(List Int)→Option (List Int)):(List (Int×Qaz))→(List Int)→Option (List Int)
  |[],y13=>
    k7 (y13)
  |x16::q17,y13=>
    (Qed N x16.1 ((p2.take p1).length) p0 y13).bind fun x26=>
    Qcq N p0 p1 p2 k7 q17 x26
def Qfm (N:Nat) (p0:List Qaz) (p1:Nat) (p2:List Int):Option (List Int):=
  chk (decide (p1≤p2.length))<|
  (Qdn N (p2.take p1)).bind fun _=>
  Qcx (fun y6=>
    chk (decide ((p2.take p1).length≤y6.length))<|
    some (y6.take ((p2.take p1).length))) fun k7:(List Int)→Option (List Int)=>
  (Qba N p0).bind fun _=>
  (Qa9 N p0).bind fun q11=>
  Qcq N p0 p1 p2 k7 q11 (p2.take p1)
abbrev Qkg (p0:List Qaz):AV:=.dat 4 (p0.map Qas)
def Qvp (p2:List Int) (p1:Nat):Slot:=.own 1 ((p2.take p1:List Int).map Qaa)
def Q0q:AV:=.fn (.func 100) [] [(.ref 3 1 (0) 0),(.ref 1 1 (0) 0)]
def Qqd (y6 p2:List Int) (p1:Nat):AV:=.dat 1 ((y6.take ((p2.take p1).length):List Int).map Qaa)
def Q0p:AV:=.fn (.func 101) [] [(.ref 5 1 (0) 0)]
def Qo3 (p2:List Int) (p1:Nat):Slot:=.own 1 [[(.own 4 1 (0) ((p2.take p1).length))]]
def Qvo:AV:=.fn (.func 100) [] [(.ref 1 1 (0) 0),(.ref 5 1 (0) 0)]
theorem Qim (N:Nat) (p0:List Qaz) (p1:Nat) (p2 r:List Int) (h:Qfm N p0 p1 p2=some r):Spec prog 61 [(Qkg p0),(.own 0 1 (0) p1)] [(.own 1 (p2.map Qaa))] (.dat 1 (r.map Qaa)) [(.own 1 (p2.map Qaa))]:=by
  refine sF func61 1 fun _ _ _ hq hd0=>?_
  unfold Qfm at h
  refine wxz ?_
  obtain⟨hz3,h⟩:=cko h
  obtain⟨x5,hf4,h⟩:=bno h
  refine wx tbk [(1,⟨[fu 99,(.tmp 8,(.own 0 1 (0) p1))],[(0,(.own 1 (p2.map Qaa))),(2,.unused)],(.own 2 1 (0) ((p2.take p1).length)),[(2,(Qvp p2 p1))],false⟩)] ⟨Qgs (rd':=[fu 99,(.tmp 8,(.dat 1 ((p2.take p1:List Int).map Qaa)))]) [(0,1,p2.map Qaa)] ⟨rfl,.same _,rfl,(Qpq 0 rfl hz3),tv⟩ (by rfl) (.own _ _ _ _ (nin rfl)) (Qqn (.own _ _ (Qmn Qt4 _)) Qnb) (acq [(.dat 1 ((p2.take p1:List Int).map Qaa))] [] [(Qvp p2 p1)] (.own 2 1 (0) ((p2.take p1).length)) [2] Quc (Qe3 N (p2.take p1) _ hf4) (Qb9 (rnc (pld Qab) rn0)) Qam (slc (Qbo Qab) Qam) (Qe6 rfl)),tv⟩ ?_
  refine wx tbk [(0,rp [(.tmp 5,.ref 3 1 0 0),(.tmp 2,.ref 1 1 0 0)] Q0q)] ⟨Qe2 (fs:=[]) (cs:=[.ref 3 1 0 0,.ref 1 1 0 0]) rfl rfl rfl rfl,tv⟩ ?_
  obtain⟨k7,hk_k7,h⟩:=jko h
  refine wjn (τ:=(List Int)) (fun t=>k7 t=some r) (fun y6=>⟨mk 19 [(5,.ref 1 1 0 0)],[(.own 1 (p2.map Qaa)),(.own 1 [[(.own 2 1 (0) ((p2.take p1).length))]]),(.own 1 (y6.map Qaa))]⟩) (fun y6 h=>?_) ?_
  ·subst hk_k7
   refine wxz ?_
   obtain⟨hz8,h⟩:=cko h
   refine wmr (Qls (n:=19) (l':=[(4,(Qqd y6 p2 p1))]) 2 [(4,(.own 2 1 (0) ((p2.take p1).length)))] (by kernel_rfl) (by kernel_rfl) (by kernel_rfl) ⟨rfl,(Qjt hz8),tv⟩ rfl) ?_
   refine wmr (mto (n:=19) (l':=[(4,(Qqd y6 p2 p1))]) (own':=[(.own 1 (p2.map Qaa))]) [(4,(Qqd y6 p2 p1))] [0] [(.own 1 (p2.map Qaa))] hq (pc (rnd Qab) pn) (qc (spr Qab) qn))<|Qac ?_
   obtain rfl:=osi h
   exact⟨_,Mor.rfl,fio [(Qqd y6 p2 p1)] ⟨rot,tv⟩⟩
  ·skip
   obtain⟨x10,hf9,h⟩:=bno h
   refine wx tbk [(1,⟨_,_,_,_,false⟩)] ⟨acq [(Qkg p0)] [] [(.own 1 [[(Qkg p0)]])] Q0p [5] Qpm (Qcf N p0 _ hf9) (Qb9 (rnc (pld Qad) rn0)) Qam (slc (Qaj (rnc (pld Qad) rn0)) Qam) (Qap rn0 (rnc (Qeq rfl) rn0)),tv⟩<|Qai ?_
   obtain⟨q11,hL12,h⟩:=bno h
   refine wmr (mto (n:=19) (l':=[(5,.ref 1 1 0 0),(6,.ref 2 1 0 0),(12,(.fn (.func 101) [] [.ref 3 1 0 0]))]) (own':=[(.own 1 (p2.map Qaa)),(Qo3 p2 p1),(.own 1 [[Qvo]]),(.own 1 [[(Qkg p0)]]),(Qvp p2 p1),(.own 1 [[(Qkg p0)]])]) [(5,.ref 3 1 0 0),(6,.ref 4 1 0 0),(12,Q0p)] [0,3,4,5,2,1] [(.own 1 (p2.map Qaa)),(.own 1 [[(.own 2 1 (0) ((p2.take p1).length))]]),(.own 1 [[Q0q]]),(.own 1 [[(Qkg p0)]]),(Qvp p2 p1),(.own 1 [[(Qkg p0)]])] hq (prr (prr (pc (.rn (Qap rn0 (rnc (rqr rfl) rn0))) pn))) (qc (spr Qab) (qb (lc (.rn (Qae rfl)) ln) (qb (lc (.rn (Qap rn0 (rnc (rqr rfl) (rnc (rqr rfl) rn0)))) ln) (qb (lc (rnd Qad) ln) (qc (spr Qab) (qb (lc (rnd Qad) ln) qn))))))) ?_
   refine Qgv (τ:=((List Int))) (kb:=6) (caps:=[.ref 3 1 0 0]) (σr:=[(.own 1 [[(Qkg p0)]])]) (encs:=fun x=>[(.int .i64 x.1),(.agg #[(.int .i64 x.2.Parent),(.int .i64 x.2.Loss),(.int .i64 x.2.Limit),(.int .i64 x.2.Rank)])]) (fun x=>[I x.1,(.agg [I x.2.Parent,I x.2.Loss,I x.2.Limit,I x.2.Rank])]) [3] (fun n hn=>hq n (Nat.le_trans (nle rfl) hn)) hd0 (Qce N p0 _ hL12) Qns (by kernel_rfl) (by kernel_rfl) (Qb9 (rnc (Qeq rfl) rn0)) (slc (Qaj (rnc (pld Qad) rn0)) Qam) (by kernel_rfl) (fun _=>rfl) (fun x=>⟨lrf,(Less.unlits [(.int .i64 x.2.Parent),(.int .i64 x.2.Loss),(.int .i64 x.2.Limit),(.int .i64 x.2.Rank)]),tv⟩) (Qmi (Qcg (NLt.ref _ _ _ _ (by decide)) (Qcg (NLt.ref _ _ _ _ (by decide)) (Qcg (NLt.fn _ _ _ nl0 (nlc (NLt.ref _ _ _ _ (by decide)) nl0)) Qkp)))) (fun y13=>[(.own 1 (p2.map Qaa)),(Qo3 p2 p1),(.own 1 [[Qvo]]),.dead,(.own 1 (y13.map Qaa)),(.own 1 [[(Qkg p0)]])]) (fun _=>rfl) (fun _=>rfl) (fun l t=>Qcq N p0 p1 p2 k7 l t=some r) (p2.take p1) h (by kernel_rfl) ?_ ?_
   ·intro l18 o19 X22 φ23 w24 hφ21 x16 q17 y13 h
    rw[Qcq] at h
    refine wxz1 ?_
    refine⟨by kernel_rfl,fun o20=>?_⟩
    refine Qai ?_
    obtain⟨x26,hf25,h⟩:=bno h
    refine wx1 tbk [(2,⟨_,_,_,_,false⟩)] ⟨Qeb (first:=[]) (cap:=[.ref 1 1 0 0,.ref 5 1 0 0]) (vs:=[I x16.1]) (σr:=[(Qo3 p2 p1),(.own 1 [[(Qkg p0)]]),(.own 1 (y13.map Qaa))]) (σr':=[(Qo3 p2 p1),(.own 1 [[(Qkg p0)]]),(.own 1 (x26.map Qaa))]) (res':=(.tup [])) [1,5,4] rfl Qqy (Qfl N x16.1 ((p2.take p1).length) p0 y13 _ hf25) rfl (Qb9 (rnc (.plain _ nll) (rnc (Qbg rfl) (rnc (Qbg rfl) rn0)))) (slc (Qaj (rnc (Qea rfl) rn0)) (slc (Qaj (rnc (pld Qad) rn0)) (slc (Qbo Qab) Qam))) (slc (Qaj (rnc (Qe6 rfl) rn0)) (slc (Qaj (rnc (pld Qad) rn0)) (slc (Qbo Qab) Qam))) (.plain _ (NLt.tup _ nl0)) rfl rfl rfl,tv⟩<|bln ?_
    exact⟨(x26),h,Qhg (own':=[(.own 1 (p2.map Qaa)),(Qo3 p2 p1),(.own 1 [[Qvo]]),.dead,(.own 1 (x26.map Qaa)),(.own 1 [[(Qkg p0)]]),(.far (farL l18 o20))]) [0,1,2,3,4,5,6] [(.own 1 (p2.map Qaa)),(Qo3 p2 p1),(.own 1 [[Qvo]]),.dead,(.own 1 (x26.map Qaa)),(.own 1 [[(Qkg p0)]]),(.far (farL l18 o20))] (by kernel_rfl) (by kernel_rfl) ⟨(spr Qab),(spb (lc (.rn (Qae rfl)) ln)),(spb (lc (.rn (Qap rn0 (rnc (rqr rfl) (rnc (rqr rfl) rn0)))) ln)),.dead,(spr Qab),(spb (lc (rnd Qad) ln)),.far _,tv⟩⟩
   ·intro y13 h
    rw[Qcq] at h
    exact bln<|thn<|⟨(y13),h,(mto (n:=19) [(5,.ref 1 1 0 0)] [0,1,4] [(.own 1 (p2.map Qaa)),(Qo3 p2 p1),(.own 1 (y13.map Qaa))] hq (prr pn) (qc (spr Qab) (qb (lc (.rn (Qae rfl)) ln) (qc (spr Qab) qn))))⟩
def Qcz (N:Nat) (p0:List Qaz) (p1:List Int) (p2:Int) (k15:Int×(List Bool)→Option ((List Bool)×Int×Int)) (x18:List Int):Nat→Int→Int→(List Bool)→(List Int)→Option ((List Bool)×Int×Int)
  |0,_,_,_,_=>none
  |n27+1,y19,y20,y21,y22=>
    bif (decide (y20<(x18.length:Int))) then
     (getI x18 y20).bind fun x29=>
     (getI p1 x29).bind fun x33=>
     bif (x33==0) then
      Qcz N p0 p1 p2 k15 x18 n27 y19 (w64 (y20+1)) y21 y22
     else
      chk (decide (0≤x29)&&decide (x29.toNat<(p0.length:Int).toNat))<|
      (y22[x29.toNat]?).bind fun _=>
      (Qfm N p0 ((p0.length:Int).toNat) (y22.set x29.toNat x33)).bind fun x42=>
      Qcx (fun _=>
        (getI x42 0).bind fun x44=>
        chk (decide (0≤x29)&&decide (x29.toNat<(p0.length:Int).toNat))<|
        (y21[x29.toNat]?).bind fun _=>
        Qcz N p0 p1 p2 k15 x18 n27 x44 (w64 (y20+1)) (y21.set x29.toNat true) (y22.set x29.toNat x33)) fun k43:Unit→Option ((List Bool)×Int×Int)=>
      (Qfk N p0 x42).bind fun x52=>
      bif (decide (x52≥0)) then
       chk (decide (0≤x29)&&decide (x29.toNat<(p0.length:Int).toNat))<|
       ((y22.set x29.toNat x33)[x29.toNat]?).bind fun _=>
       Qcz N p0 p1 p2 k15 x18 n27 y19 (w64 (y20+1)) y21 ((y22.set x29.toNat x33).set x29.toNat 0)
      else
       (getI x42 0).bind fun x57=>
       bif (decide (x57>p2)) then
        chk (decide (0≤x29)&&decide (x29.toNat<(p0.length:Int).toNat))<|
        ((y22.set x29.toNat x33)[x29.toNat]?).bind fun _=>
        Qcz N p0 p1 p2 k15 x18 n27 y19 (w64 (y20+1)) y21 ((y22.set x29.toNat x33).set x29.toNat 0)
       else
        k43 ()
    else
     k15 (y19,y21)
def Qjk (N:Nat) (p0:List Qaz) (p1:List Int) (p2:Int):Option ((List Bool)×Int×Int):=
  (Qiy N p0 p1).bind fun x6=>
  bif (x6 != 0) then
   some ([],0,x6)
  else
   (Qa0 N p2 0 100000000000).bind fun x9=>
   bif (!x9) then
    some ([],0,2)
   else
    chk (decide (0≤(p0.length:Int))&&decide (1*(p0.length:Int)≤281474976710656)&&decide ((p0.length:Int)≤9223372036854775807))<|
    chk (decide (0≤(p0.length:Int))&&decide (8*(p0.length:Int)≤281474976710656)&&decide ((p0.length:Int)≤9223372036854775807))<|
    Qcx (fun ⟨y13,y14⟩=>
      chk (decide ((p0.length:Int).toNat≤y14.length))<|
      some (y14.take ((p0.length:Int).toNat),y13,0)) fun k15:Int×(List Bool)→Option ((List Bool)×Int×Int)=>
    (Qee N p0).bind fun x18=>
    Qcz N p0 p1 p2 k15 x18 N 0 0 (List.replicate (p0.length:Int).toNat false) (List.replicate (p0.length:Int).toNat 0)
def Qk3 (p0:List Qaz):AV:=.dat 4 (p0.map Qas)
def Qqh:AV:=.dat 1 (([]:List Bool).map Qd9)
def Q0u (p0:List Qaz):Slot:=.own 1 ((List.replicate (p0.length:Int).toNat false:List Bool).map Qd9)
def Q0t (p0:List Qaz):Slot:=.own 1 ((List.replicate (p0.length:Int).toNat 0:List Int).map Qaa)
def Qqg (y14:List Bool) (p0:List Qaz):AV:=.dat 1 ((y14.take ((p0.length:Int).toNat):List Bool).map Qd9)
def Qj0 (y21:List Bool):Slot:=.own 1 (y21.map Qd9)
def Qi8 (y22:List Int) (x29 x33:Int):Slot:=.own 1 ((y22.set x29.toNat x33:List Int).map Qaa)
def Qsx (p0:List Qaz) (x42:List Int) (x52:Int):List (Nat×Rec):=[(2,rp [fu 62,((.tmp 51),(Qk3 p0)),((.tmp 52),(.dat 1 (x42.map Qaa)))] (I x52))]
def Qqf (y22:List Int) (x29 x33:Int):Slot:=.own 1 (((y22.set x29.toNat x33).set x29.toNat 0:List Int).map Qaa)
theorem Qmd (N:Nat) (p0:List Qaz) (p1:List Int) (p2:Int) (r:((List Bool)×Int×Int)) (h:Qjk N p0 p1 p2=some r):Spec prog 52 [(.dat 4 (p0.map Qas)),(.dat 1 (p1.map Qaa)),(I p2)] [] (.tup [(.dat 1 (r.1.map Qd9)),(I r.2.1),(I r.2.2)]) []:=by
  refine sF func52 0 fun _ _ _ hq hd0=>?_
  unfold Qjk at h
  refine wxz<|wsq ?_
  obtain⟨x6,hf5,h⟩:=bno h
  refine wx tbk [(2,rp _ _)] ⟨apw Qul (Qj4 N p0 p1 _ hf5),tv⟩<|wxz ?_
  refine bfe h (fun hc7 h=>?_) fun hc7 h=>?_
  ·refine wft hc7<|wxz ?_
   refine wmr (mto (n:=74) (l':=[(6,Qqh),(7,I 0),(8,I x6)]) (own':=[]) [(6,nilS),(7,I 0),(8,I x6)] [] [] hq (pc (.nil _) (pw (pw pn))) qn)<|Qac<|Qah ?_
   obtain rfl:=osi h
   exact⟨_,Mor.rfl,fio [Qqh,I 0,I x6] ⟨rot,rot,rot,tv⟩⟩
  ·refine wfn hc7<|Qaf<|thn<|wsq ?_
   obtain⟨x9,hf8,h⟩:=bno h
   refine wx tbk [(1,rp _ _)] ⟨apw Qd3 (Qar N p2 0 100000000000 _ hf8),tv⟩ ?_
   refine bfe h (fun hc10 h=>?_) fun hc10 h=>?_
   ·refine wft hc10<|wxz ?_
    refine wmr (mto (n:=74) (l':=[(6,Qqh),(7,I 0),(8,I 2)]) (own':=[]) [(6,nilS),(7,I 0),(8,I 2)] [] [] hq (pc (.nil _) (pw (pw pn))) qn)<|Qac<|Qah ?_
    obtain rfl:=osi h
    exact⟨_,Mor.rfl,fio [Qqh,I 0,I 2] ⟨rot,rot,rot,tv⟩⟩
   ·refine wfn hc10<|Qaf<|thn ?_
    obtain⟨hm11,h⟩:=cko h
    obtain⟨hm12,h⟩:=cko h
    refine wxd tbk [(1,rp _ _),(2,⟨[(.tmp 24,(I ((p0.length:Int)))),(.tmp 24,(I ((p0.length:Int))))],[(0,.unused)],(.own 0 1 (0) ((p0.length:Int).toNat)),[(0,(Q0u p0))],false⟩),(4,rp _ _),(5,⟨[(.tmp 27,(I ((p0.length:Int)))),(.tmp 27,(I ((p0.length:Int))))],[(1,.unused)],(.own 1 1 (0) ((p0.length:Int).toNat)),[(1,(Q0t p0))],false⟩)] ⟨alq 4 Qas p0 underlying69,Qf5 rfl underlying77 te4 tz4 rfl (Qp4 hm11) rfl (Qp3 hm11) (Qma hm11) (Qjo Qd9 rfl),alq 4 Qas p0 underlying69,Qf5 rfl underlying25 te3 tz3 rfl (Qp4 hm12) rfl (Qp3 hm12) (Qma hm12) (Qjo Qaa rfl),tv⟩ ?_
    obtain⟨k15,hk_k15,h⟩:=jko h
    refine wjn (τ:=Int×(List Bool)) (fun t=>k15 t=some r) (fun ⟨y13,y14⟩=>⟨mk 74 [(6,(.own 0 1 (0) ((p0.length:Int).toNat))),(7,I y13)],[(.own 1 (y14.map Qd9))]⟩) (fun t h=>?_) ?_
    ·subst hk_k15
     obtain⟨y13,y14⟩:=t
     refine wxz ?_
     obtain⟨hz16,h⟩:=cko h
     refine wmr (Qls (n:=74) (l':=[(6,(Qqg y14 p0)),(7,I y13),(8,I 0)]) 0 [(6,(.own 0 1 (0) ((p0.length:Int).toNat))),(7,I y13),(8,I 0)] (by kernel_rfl) (by kernel_rfl) (by kernel_rfl) ⟨rfl,(Qjt hz16),rfl,(.same _),rfl,(.same _),tv⟩ rfl) ?_
     refine wmr (mto (n:=74) (l':=[(6,(Qqg y14 p0)),(7,I y13),(8,I 0)]) (own':=[]) [(6,(Qqg y14 p0)),(7,I y13),(8,I 0)] [] [] hq (pc (rnd Qdo) (pw (pw pn))) qn)<|Qac ?_
     obtain rfl:=osi h
     exact⟨_,Mor.rfl,fio [(Qqg y14 p0),I y13,I 0] ⟨rot,rot,rot,tv⟩⟩
    ·skip
     obtain⟨x18,hf17,h⟩:=bno h
     refine wx tbk [(1,rp _ _),(2,rp _ _)] ⟨acq [(Qk3 p0),(.fn (.func 92) [] [])] [] [] (.dat 1 (x18.map Qaa)) [] Qzc (Qgz N p0 _ hf17) (Qb9 (rnc (pld Qad) (rnc (.plain _ (NLt.fn _ _ _ nl0 nl0)) rn0))) Qam Qam (pld Qab),alq 1 Qaa x18 underlying25,tv⟩<|Qai ?_
     refine wmr (mto (n:=74) (l':=[(0,(Qk3 p0)),(1,(.dat 1 (p1.map Qaa))),(2,I p2),(6,(.own 0 1 (0) ((p0.length:Int).toNat))),(7,I 0),(10,(.own 1 1 (0) ((p0.length:Int).toNat))),(30,(.dat 1 (x18.map Qaa))),(31,(I ((x18.length:Int)))),(32,I 0)]) (own':=[(.own 1 (((List.replicate (p0.length:Int).toNat false):List Bool).map Qd9)),(.own 1 (((List.replicate (p0.length:Int).toNat 0):List Int).map Qaa))]) [(0,(Qk3 p0)),(1,(.dat 1 (p1.map Qaa))),(2,I p2),(6,(.own 0 1 (0) ((p0.length:Int).toNat))),(7,I 0),(10,(.own 1 1 (0) ((p0.length:Int).toNat))),(30,(.dat 1 (x18.map Qaa))),(31,(I ((x18.length:Int)))),(32,I 0)] [0,1] [(Q0u p0),(Q0t p0)] hq (pc (rnd Qad) (pc (rnd Qab) (pw (pc (.rn (Qae rfl)) (pw (pc (.rn (Qae rfl)) (pc (rnd Qab) (pw (pw pn))))))))) (qc (spr Qdo) (qc (spr Qab) qn))) ?_
     refine Qb0 (τ:=Int×Int×(List Bool)×(List Int)) (fun n t=>Qcz N p0 p1 p2 k15 x18 n t.1 t.2.1 t.2.2.1 t.2.2.2=some r) (fun ⟨y19,y20,y21,y22⟩=>⟨mk 74 [(0,(Qk3 p0)),(1,(.dat 1 (p1.map Qaa))),(2,I p2),(6,(.own 0 1 (0) ((p0.length:Int).toNat))),(7,I y19),(10,(.own 1 1 (0) ((p0.length:Int).toNat))),(30,(.dat 1 (x18.map Qaa))),(31,(I ((x18.length:Int)))),(32,I y20)],[(Qj0 y21),(.own 1 (y22.map Qaa))]⟩) (fun t h=>by rw[Qcz] at h;cases h) (fun n27 ih t h=>?_) N (0,0,List.replicate (p0.length:Int).toNat false,List.replicate (p0.length:Int).toNat 0) h
     obtain⟨y19,y20,y21,y22⟩:=t
     rw[Qcz] at h
     skip
     refine wxz<|wsq ?_
     refine bfe h (fun hc28 h=>?_) fun hc28 h=>?_
     ·refine wft hc28<|Qaf<|thn<|wsq<|Qai ?_
      obtain⟨x29,hg30,h⟩:=bno h
      obtain⟨hi31,hj32⟩:=gsm hg30
      refine wx tbk [(0,rp _ _)] ⟨aiq underlying25 ti3 Qaa hi31 hj32,tv⟩<|wsq ?_
      obtain⟨x33,hg34,h⟩:=bno h
      obtain⟨hi35,hj36⟩:=gsm hg34
      refine wx tbk [(2,rp _ _)] ⟨aiq underlying25 ti3 Qaa hi35 hj36,tv⟩ ?_
      refine bfe h (fun hc37 h=>?_) fun hc37 h=>?_
      ·exact wft hc37<|Qax<|Qan<|Qaw rfl<|thn<|wxz1<|thn<|arm (mto (n:=74) [(0,(Qk3 p0)),(1,(.dat 1 (p1.map Qaa))),(2,I p2),(6,(.own 0 1 (0) ((p0.length:Int).toNat))),(7,I y19),(10,(.own 1 1 (0) ((p0.length:Int).toNat))),(30,(.dat 1 (x18.map Qaa))),(31,(I ((x18.length:Int)))),(32,(I (w64 (y20+1))))] [0,1] [(Qj0 y21),(.own 1 (y22.map Qaa))] hq (pc (rnd Qad) (pc (rnd Qab) (pw (pc (.rn (Qae rfl)) (pw (pc (.rn (Qae rfl)) (pc (rnd Qab) (pw (pw pn))))))))) (qc (spr Qdo) (qc (spr Qab) qn))) (ih (y19,w64 (y20+1),y21,y22) h)
      ·refine wfn hc37<|Qaf<|thn ?_
       obtain⟨hi38,h⟩:=cko h
       obtain⟨hi38a,hi38b⟩:=Qat hi38
       obtain⟨x39,hg40,h⟩:=bno h
       refine wx tbk [(4,rp _ _),(6,rb [(.tmp 41,(.own 1 1 (0) ((p0.length:Int).toNat))),(.tmp 42,I x29)] [(1,(.own 1 (y22.map Qaa)))] (.ref 1 1 x29.toNat 0)),(7,⟨[(.tmp 47,(.ref 1 1 x29.toNat 0)),(.tmp 46,I x33)],[(1,(.own 1 (y22.map Qaa)))],.any,[(1,(Qi8 y22 x29 x33))],false⟩)] ⟨aiq underlying25 ti3 Qaa hi35 hj36,aio rfl underlying25 ti3 (odt hi38a) (odt hi38b) (Nat.zero_add _),ast rfl ti3 (by rfl) (mgt Qaa hg40) (nle rfl) (Qd2 Qaa rfl),tv⟩ ?_
       obtain⟨x42,hf41,h⟩:=bno h
       refine wx tbk [(2,⟨_,_,_,_,false⟩)] ⟨acq [(Qk3 p0),(.own 1 1 (0) (((p0.length:Int).toNat)))] [(Qi8 y22 x29 x33)] [(Qi8 y22 x29 x33)] (.dat 1 (x42.map Qaa)) [1] Quk (Qim N p0 ((p0.length:Int).toNat) (y22.set x29.toNat x33) _ hf41) (Qb9 (rnc (pld Qad) (rnc (Qea rfl) rn0))) (slc (Qbo Qab) Qam) (slc (Qbo Qab) Qam) (pld Qab),tv⟩ ?_
       obtain⟨k43,hk_k43,h⟩:=jko h
       refine wjn (τ:=Unit) (fun t=>k43 t=some r) (fun _=>⟨mk 74 [(0,(Qk3 p0)),(1,(.dat 1 (p1.map Qaa))),(2,I p2),(6,(.own 0 1 (0) ((p0.length:Int).toNat))),(10,(.own 1 1 (0) ((p0.length:Int).toNat))),(12,I x29),(13,(.dat 1 (x42.map Qaa))),(30,(.dat 1 (x18.map Qaa))),(31,(I ((x18.length:Int)))),(32,I y20)],[(Qj0 y21),(Qi8 y22 x29 x33)]⟩) (fun t h=>?_) ?_
       ·subst hk_k43
        obtain⟨x44,hg45,h⟩:=bno h
        obtain⟨hi46,hj47⟩:=gsm hg45
        obtain⟨hi48,h⟩:=cko h
        obtain⟨hi48a,hi48b⟩:=Qat hi48
        obtain⟨x49,hg50,h⟩:=bno h
        refine wx1 tbk [(3,rp _ _),(5,rb [(.tmp 65,(.own 0 1 (0) ((p0.length:Int).toNat))),(.tmp 66,I x29)] [(0,(Qj0 y21))] (.ref 0 1 x29.toNat 0)),(6,⟨[(.tmp 70,(.ref 0 1 x29.toNat 0)),cb true],[(0,(Qj0 y21))],.any,[(0,(.own 1 ((y21.set x29.toNat true:List Bool).map Qd9)))],false⟩)] ⟨aiq underlying25 ti3 Qaa hi46 hj47,aio rfl underlying77 ti4 (odt hi48a) (odt hi48b) (Nat.zero_add _),ast rfl ti4 (by rfl) (mgt Qd9 hg50) (nle rfl) (Qd2 Qd9 rfl),tv⟩<|bln<|thn<|wxz1<|thn ?_
        exact arm (mto (n:=74) [(0,(Qk3 p0)),(1,(.dat 1 (p1.map Qaa))),(2,I p2),(6,(.own 0 1 (0) ((p0.length:Int).toNat))),(7,I x44),(10,(.own 1 1 (0) ((p0.length:Int).toNat))),(30,(.dat 1 (x18.map Qaa))),(31,(I ((x18.length:Int)))),(32,(I (w64 (y20+1))))] [0,1] [(.own 1 ((y21.set x29.toNat true:List Bool).map Qd9)),(Qi8 y22 x29 x33)] hq (pc (rnd Qad) (pc (rnd Qab) (pw (pc (.rn (Qae rfl)) (pw (pc (.rn (Qae rfl)) (pc (rnd Qab) (pw (pw pn))))))))) (qc (spr Qdo) (qc (spr Qab) qn))) (ih (x44,w64 (y20+1),y21.set x29.toNat true,y22.set x29.toNat x33) h)
       ·skip
        obtain⟨x52,hf51,h⟩:=bno h
        refine hpre (A:=(Qsx p0 x42 x52)) ⟨apv Quj (Qhd N p0 x42 _ hf51) (nlc (nld Qad _) (nlc (nld Qab _) nl0)) nll,tv⟩ fun q1_=>?_
        refine bfe h (fun hb53 h=>?_) fun hb53 h=>?_
        ·refine wx tbk (hcat (Qsx p0 x42 x52) [(4,rp [(.tmp 54,(B ((decide (x52≥0)))))] (B true))]) (hap q1_ ⟨asb hb53 (amv rfl),tv⟩)<|wtr ?_
         obtain⟨hi54,h⟩:=cko h
         obtain⟨hi54a,hi54b⟩:=Qat hi54
         obtain⟨x55,hg56,h⟩:=bno h
         refine wx tbk [(2,rb [(.tmp 62,(.own 1 1 (0) ((p0.length:Int).toNat))),(.tmp 63,I x29)] [(1,(Qi8 y22 x29 x33))] (.ref 1 1 x29.toNat 0)),(3,⟨[(.tmp 64,(.ref 1 1 x29.toNat 0)),ci 0],[(1,(Qi8 y22 x29 x33))],.any,[(1,(Qqf y22 x29 x33))],false⟩)] ⟨aio rfl underlying25 ti3 (odt hi54a) (odt hi54b) (Nat.zero_add _),ast rfl ti3 (by rfl) (mgt Qaa hg56) (nle rfl) (Qd2 Qaa rfl),tv⟩<|Qax<|Qan<|Qaw rfl<|thn<|wxz1<|thn ?_
         exact arm (mto (n:=74) [(0,(Qk3 p0)),(1,(.dat 1 (p1.map Qaa))),(2,I p2),(6,(.own 0 1 (0) ((p0.length:Int).toNat))),(7,I y19),(10,(.own 1 1 (0) ((p0.length:Int).toNat))),(30,(.dat 1 (x18.map Qaa))),(31,(I ((x18.length:Int)))),(32,(I (w64 (y20+1))))] [0,1] [(Qj0 y21),(Qqf y22 x29 x33)] hq (pc (rnd Qad) (pc (rnd Qab) (pw (pc (.rn (Qae rfl)) (pw (pc (.rn (Qae rfl)) (pc (rnd Qab) (pw (pw pn))))))))) (qc (spr Qdo) (qc (spr Qab) qn))) (ih (y19,w64 (y20+1),y21,(y22.set x29.toNat x33).set x29.toNat 0) h)
        ·obtain⟨x57,hg58,h⟩:=bno h
         obtain⟨hi59,hj60⟩:=gsm hg58
         refine wx tbk (hcat (Qsx p0 x42 x52) [(4,rp [(.tmp 54,(B ((decide (x52≥0)))))] (B false)),(6,rp [(.tmp 55,B false),(.tmp 56,(.dat 1 (x42.map Qaa))),ci 0] (.dptr (Qaa x57) 0))]) (hap q1_ ⟨asb hb53 (amv rfl),ag_ (aiq underlying25 ti3 Qaa hi59 hj60),tv⟩) ?_
         refine bfe h (fun hc61 h=>?_) fun hc61 h=>?_
         ·refine wft hc61 ?_
          obtain⟨hi62,h⟩:=cko h
          obtain⟨hi62a,hi62b⟩:=Qat hi62
          obtain⟨x63,hg64,h⟩:=bno h
          refine wx tbk [(2,rb [(.tmp 62,(.own 1 1 (0) ((p0.length:Int).toNat))),(.tmp 63,I x29)] [(1,(Qi8 y22 x29 x33))] (.ref 1 1 x29.toNat 0)),(3,⟨[(.tmp 64,(.ref 1 1 x29.toNat 0)),ci 0],[(1,(Qi8 y22 x29 x33))],.any,[(1,(Qqf y22 x29 x33))],false⟩)] ⟨aio rfl underlying25 ti3 (odt hi62a) (odt hi62b) (Nat.zero_add _),ast rfl ti3 (by rfl) (mgt Qaa hg64) (nle rfl) (Qd2 Qaa rfl),tv⟩<|Qax<|Qan<|Qaw rfl<|thn<|wxz1<|thn ?_
          exact arm (mto (n:=74) [(0,(Qk3 p0)),(1,(.dat 1 (p1.map Qaa))),(2,I p2),(6,(.own 0 1 (0) ((p0.length:Int).toNat))),(7,I y19),(10,(.own 1 1 (0) ((p0.length:Int).toNat))),(30,(.dat 1 (x18.map Qaa))),(31,(I ((x18.length:Int)))),(32,(I (w64 (y20+1))))] [0,1] [(Qj0 y21),(Qqf y22 x29 x33)] hq (pc (rnd Qad) (pc (rnd Qab) (pw (pc (.rn (Qae rfl)) (pw (pc (.rn (Qae rfl)) (pc (rnd Qab) (pw (pw pn))))))))) (qc (spr Qdo) (qc (spr Qab) qn))) (ih (y19,w64 (y20+1),y21,(y22.set x29.toNat x33).set x29.toNat 0) h)
         ·exact wfn hc61<|Qaf<|thn<|⟨(),h,(mto (n:=74) [(0,(Qk3 p0)),(1,(.dat 1 (p1.map Qaa))),(2,I p2),(6,(.own 0 1 (0) ((p0.length:Int).toNat))),(10,(.own 1 1 (0) ((p0.length:Int).toNat))),(12,I x29),(13,(.dat 1 (x42.map Qaa))),(30,(.dat 1 (x18.map Qaa))),(31,(I ((x18.length:Int)))),(32,I y20)] [0,1] [(Qj0 y21),(Qi8 y22 x29 x33)] hq (pc (rnd Qad) (pc (rnd Qab) (pw (pc (.rn (Qae rfl)) (pc (.rn (Qae rfl)) (pw (pc (rnd Qab) (pc (rnd Qab) (pw (pw pn)))))))))) (qc (spr Qdo) (qc (spr Qab) qn)))⟩
     ·exact wfn hc28<|Qax<|Qan<|Qan<|Qaw rfl<|thn<|⟨(y19,y21),h,(mto (n:=74) [(6,(.own 0 1 (0) ((p0.length:Int).toNat))),(7,I y19)] [0] [(Qj0 y21)] hq (pc (.rn (Qae rfl)) (pw pn)) (qc (spr Qdo) qn))⟩
def Qfg (_N:Nat):Option GDay:=
  some (⟨10,0,[(⟨5,[(⟨20,1⟩:Qbc)]⟩:Qbw),(⟨8,[(⟨5,4⟩:Qbc)]⟩:Qbw),(⟨6,[(⟨9,2⟩:Qbc)]⟩:Qbw)]⟩:GDay)
def Q0o:AV:=.agg [(I (20)),(I (1))]
def Qvn:AV:=.dat 2 (([(⟨20,1⟩:Qbc)]:List Qbc).map Qbl)
def Q0n:AV:=.agg [(I (5)),(I (4))]
def Qvm:AV:=.dat 2 (([(⟨5,4⟩:Qbc)]:List Qbc).map Qbl)
def Q0m:AV:=.agg [(I (9)),(I (2))]
def Qvl:AV:=.dat 2 (([(⟨9,2⟩:Qbc)]:List Qbc).map Qbl)
def Qvk:AV:=.dat 2 (([(⟨5,[(⟨20,1⟩:Qbc)]⟩:Qbw),(⟨8,[(⟨5,4⟩:Qbc)]⟩:Qbw),(⟨6,[(⟨9,2⟩:Qbc)]⟩:Qbw)]:List Qbw).map Qay)
def Q12:AV:=.agg [(I (10)),(I (0)),Qvk]
theorem Qe1 (N:Nat) (r:GDay) (h:Qfg N=some r):Spec prog 28 [] [] (.agg (Qiv r)) []:=by
  refine sA func28 0 fun _ _ _ hq hd0=>?_
  unfold Qfg at h
  refine wxz<|wx tbk [(0,rp _ _),(1,rp [(.tmp 1,Q0o)] Qvn),(2,rp _ _),(3,rp _ _),(4,rp [(.tmp 4,Q0n)] Qvm),(5,rp _ _),(6,rp _ _),(7,rp [(.tmp 7,Q0m)] Qvl),(8,rp _ _),(9,rp [(.tmp 3,(.agg [I 5,Qvn])),(.tmp 6,(.agg [I 8,Qvm])),(.tmp 9,(.agg [I 6,Qvl]))] Qvk),(10,rp _ _)] ⟨Qak (vs:=[I 20,I 1]) rfl ts64 tz64 rfl (by rfl) rfl,Qa6 (vs:=[Q0o]) rfl underlying60 ti64 tz64 rfl (by decide) rfl (by decide) (by rfl) (by rfl) (by rfl) rfl,Qak (vs:=[I 5,Qvn]) rfl ts62 tz62 rfl (by rfl) rfl,Qak (vs:=[I 5,I 4]) rfl ts64 tz64 rfl (by rfl) rfl,Qa6 (vs:=[Q0n]) rfl underlying60 ti64 tz64 rfl (by decide) rfl (by decide) (by rfl) (by rfl) (by rfl) rfl,Qak (vs:=[I 8,Qvm]) rfl ts62 tz62 rfl (by rfl) rfl,Qak (vs:=[I 9,I 2]) rfl ts64 tz64 rfl (by rfl) rfl,Qa6 (vs:=[Q0m]) rfl underlying60 ti64 tz64 rfl (by decide) rfl (by decide) (by rfl) (by rfl) (by rfl) rfl,Qak (vs:=[I 6,Qvl]) rfl ts62 tz62 rfl (by rfl) rfl,Qa6 (vs:=[(.agg [I 5,Qvn]),(.agg [I 8,Qvm]),(.agg [I 6,Qvl])]) rfl underlying55 ti62 tz62 rfl (by decide) rfl (by decide) (by rfl) (by rfl) (by rfl) rfl,Qak (vs:=[I 10,Qvk]) rfl ts57 tz57 rfl (by rfl) rfl,tv⟩<|Qac ?_
  obtain rfl:=osi h
  exact fie [Q12] ⟨Qbd (n:=0) (m:=3) (j:=0) (i:=0) (xs:=[[I 10,I 0,Qvk]]) (by kernel_rfl) (by kernel_rfl) ti57 (by decide) rfl (nle rfl) rfl,tv⟩
def Qeh (N:Nat) (p0 p1:List Int) (k2:Unit→Option Bool):Nat→Int→Option Bool
  |0,_=>none
  |n5+1,y3=>
    bif (decide (y3<(p0.length:Int))) then
     (getI p0 y3).bind fun x7=>
     (getI p1 y3).bind fun x11=>
     bif (x7 != x11) then
      some false
     else
      Qeh N p0 p1 k2 n5 (w64 (y3+1))
    else
     k2 ()
def Qh5 (N:Nat) (p0 p1:List Int):Option Bool:=
  bif ((p0.length:Int) != (p1.length:Int)) then
   some false
  else
   Qcx (fun _=>
     some true) fun k2:Unit→Option Bool=>
   Qeh N p0 p1 k2 N 0
theorem Qjd (N:Nat) (p0 p1:List Int) (r:Bool) (h:Qh5 N p0 p1=some r):Spec prog 54 [(.dat 1 (p0.map Qaa)),(.dat 1 (p1.map Qaa))] [] (B r) []:=by
  refine sA func54 0 fun _ _ _ hq hd0=>?_
  unfold Qh5 at h
  refine wxz<|wsq ?_
  refine wx tbk [(1,rp _ _),(3,rp _ _)] ⟨alq 1 Qaa p0 underlying25,alq 1 Qaa p1 underlying25,tv⟩ ?_
  refine bfe h (fun hc1 h=>?_) fun hc1 h=>?_
  ·exact wft hc1<|wxz<|Qac<|Qah<|frb h
  ·refine wfn hc1<|Qaf<|thn ?_
   obtain⟨k2,hk_k2,h⟩:=jko h
   refine wjn (τ:=Unit) (fun t=>k2 t=some r) (fun _=>⟨mk 26 [],[]⟩) (fun t h=>?_) ?_
   ·subst hk_k2
    exact wxz<|Qac<|frb h
   ·skip
    refine wxz<|Qai ?_
    refine wmr (mto (n:=26) (l':=[(0,(.dat 1 (p0.map Qaa))),(1,(.dat 1 (p1.map Qaa))),(5,I 0)]) (own':=[]) [(0,(.dat 1 (p0.map Qaa))),(1,(.dat 1 (p1.map Qaa))),(5,I 0)] [] [] hq (pc (rnd Qab) (pc (rnd Qab) (pw pn))) qn) ?_
    refine Qb0 (τ:=Int) (fun n t=>Qeh N p0 p1 k2 n t=some r) (fun y3=>⟨mk 26 [(0,(.dat 1 (p0.map Qaa))),(1,(.dat 1 (p1.map Qaa))),(5,I y3)],[]⟩) (fun t h=>by rw[Qeh] at h;cases h) (fun n5 ih y3 h=>?_) N (0) h
    rw[Qeh] at h
    skip
    refine wsq<|wx tbk [(2,rp _ _)] ⟨alq 1 Qaa p0 underlying25,tv⟩ ?_
    refine bfe h (fun hc6 h=>?_) fun hc6 h=>?_
    ·refine wft hc6<|Qaf<|thn<|wsq<|Qai ?_
     obtain⟨x7,hg8,h⟩:=bno h
     obtain⟨hi9,hj10⟩:=gsm hg8
     obtain⟨x11,hg12,h⟩:=bno h
     obtain⟨hi13,hj14⟩:=gsm hg12
     refine wxd tbk [(2,rp _ _),(6,rp _ _)] ⟨aiq underlying25 ti3 Qaa hi9 hj10,aiq underlying25 ti3 Qaa hi13 hj14,tv⟩ ?_
     refine bfe h (fun hc15 h=>?_) fun hc15 h=>?_
     ·exact wft hc15<|wxz<|Qac<|Qal<|Qah<|Qah<|Qal<|Qah<|frb h
     ·exact wfn hc15<|Qaf<|bln<|thn<|wxz1<|thn<|arm (mto (n:=26) [(0,(.dat 1 (p0.map Qaa))),(1,(.dat 1 (p1.map Qaa))),(5,(I (w64 (y3+1))))] [] [] hq (pc (rnd Qab) (pc (rnd Qab) (pw pn))) qn) (ih (w64 (y3+1)) h)
    ·exact wfn hc6<|Qax<|Qan<|Qan<|Qaw rfl<|thn<|⟨(),h,(mto (n:=26) [] [] [] hq pn qn)⟩
def Qir (N:Nat):Option Bool:=
  (Qf2 2000 ).bind fun x2=>
  (Qhx N x2 ([0,10,20,30])).bind fun x4=>
  (Qf2 2000 ).bind fun x6=>
  (Qjk N x6 ([0,10,20,30]) 60).bind fun x8=>
  (Qhu N (⟨100,50⟩:Qcv)).bind fun x10=>
  (Qfg 2000 ).bind fun x12=>
  (Qf7 N x12).bind fun x14=>
  bif (x4.2.2==0) then
   bif (x8.2.2==0) then
    bif (x10.2==0) then
     bif (x14.2.2.2==0) then
      (Qh5 N x4.1 ([70,70,23,32])).bind fun x20=>
      bif x20 then
       bif ((x8.1.length:Int)==4) then
        (getI x8.1 1).bind fun x23=>
        bif x23 then
         (getI x8.1 2).bind fun x28=>
         bif (!x28) then
          (getI x8.1 3).bind fun x33=>
          bif x33 then
           bif (x8.2.1==47) then
            bif (([x10.1.Lo,x10.1.Hi]:List Int)==[96,105]) then
             (Qh5 N x14.1 ([15,0,4])).bind fun x41=>
             bif x41 then
              bif ((x14.2.1.length:Int)==3) then
               some (x14.2.2.1==23)
              else
               some false
             else
              some false
            else
             some false
           else
            some false
          else
           some false
         else
          some false
        else
         some false
       else
        some false
      else
       some false
     else
      some false
    else
     some false
   else
    some false
  else
   some false
def Q00:AV:=.dat 1 (([0,10,20,30]:List Int).map Qaa)
def Qvt (x8:((List Bool)×Int×Int)):AV:=.dat 1 (x8.1.map Qd9)
def Qs9 (x4:((List Int)×Int×Int)):List (Nat×Rec):=[(2,rp [((.tmp 40),(B ((x4.2.2==0))))] (B true))]
def Qs8 x4 (x8:((List Bool)×Int×Int)):=hcat (Qs9 x4) [(6,rp [((.tmp 44),(B ((x8.2.2==0))))] (B true))]
def Qs7 x4 x8 (x10:(Qbx×Int)):=hcat (Qs8 x4 x8) [(10,rp [((.tmp 48),(B ((x10.2==0))))] (B true))]
def Qxq:AV:=.dat 1 (([70,70,23,32]:List Int).map Qaa)
def Qs6 x4 x8 x10 (x14:((List Int)×(List Int)×Int×Int)) (x20:Bool):=hcat (Qs7 x4 x8 x10) [(14,rp [((.tmp 52),(B ((x14.2.2.2==0))))] (B true)),(16,rp [((.tmp 53),(B true)),ci 70,ci 70,ci 23,ci 32] Qxq),(17,rp [((.tmp 53),(B true)),fu 54,((.tmp 54),(.dat 1 (x4.1.map Qaa))),((.tmp 55),Qxq)] (B x20))]
def Qs5 x4 x8 x10 x14 x20:=hcat (Qs6 x4 x8 x10 x14 x20) [(19,rp [((.tmp 57),(B x20))] (B true)),(21,rp [((.tmp 58),(B true)),((.tmp 59),(Qvt x8))] (I ((x8.1.length:Int))))]
def Qs4 x4 x8 x10 x14 x20 (x23:Bool):=hcat (Qs5 x4 x8 x10 x14 x20) [(24,rp [((.tmp 62),(B (((x8.1.length:Int)==4))))] (B true)),(26,rp [((.tmp 63),(B true)),((.tmp 64),(Qvt x8)),ci 1] (.dptr (Qd9 x23) 0))]
def Qs3 x4 x8 x10 x14 x20 x23 (x28:Bool):=hcat (Qs4 x4 x8 x10 x14 x20 x23) [(29,rp [((.tmp 67),(B x23))] (B true)),(31,rp [((.tmp 68),(B true)),((.tmp 69),(Qvt x8)),ci 2] (.dptr (Qd9 x28) 0))]
def Qs2 x4 x8 x10 x14 x20 x23 x28 (x33:Bool):=hcat (Qs3 x4 x8 x10 x14 x20 x23 x28) [(35,rp [((.tmp 73),(B ((!x28))))] (B true)),(37,rp [((.tmp 74),(B true)),((.tmp 75),(Qvt x8)),ci 3] (.dptr (Qd9 x33) 0))]
def Qs1 x4 x8 x10 x14 x20 x23 x28 x33:=hcat (Qs2 x4 x8 x10 x14 x20 x23 x28 x33) [(40,rp [((.tmp 78),(B x33))] (B true))]
def Qs0 x4 x8 x10 x14 x20 x23 x28 x33:=hcat (Qs1 x4 x8 x10 x14 x20 x23 x28 x33) [(44,rp [((.tmp 82),(B ((x8.2.1==47))))] (B true)),(46,rp [((.tmp 83),(B true)),ci 96,ci 105] (.agg [(I (96)),(I (105))])),(47,rp [((.tmp 83),(B true)),((.tmp 84),(.agg [(I x10.1.Lo),(I x10.1.Hi)])),((.tmp 85),(.agg [(I (96)),(I (105))]))] (B ((([x10.1.Lo,x10.1.Hi]:List Int)==[96,105]))))]
def Qxp:AV:=.dat 1 (([15,0,4]:List Int).map Qaa)
def Qsz x4 x8 x10 x14 x20 x23 x28 x33 (x41:Bool):=hcat (Qs0 x4 x8 x10 x14 x20 x23 x28 x33) [(49,rp [((.tmp 87),(B ((([x10.1.Lo,x10.1.Hi]:List Int)==[96,105]))))] (B true)),(51,rp [((.tmp 88),(B true)),ci 15,ci 0,ci 4] Qxp),(52,rp [((.tmp 88),(B true)),fu 54,((.tmp 89),(.dat 1 (x14.1.map Qaa))),((.tmp 90),Qxp)] (B x41))]
def Qsy x4 x8 x10 x14 x20 x23 x28 x33 x41:=hcat (Qsz x4 x8 x10 x14 x20 x23 x28 x33 x41) [(54,rp [((.tmp 92),(B x41))] (B true)),(56,rp [((.tmp 93),(B true)),((.tmp 94),(.dat 1 (x14.2.1.map Qaa)))] (I ((x14.2.1.length:Int))))]
theorem Qlt (N:Nat) (r:Bool) (h:Qir N=some r):Spec prog 19 [] [] (B r) []:=by
  refine sA func19 0 fun _ _ _ hq hd0=>?_
  unfold Qir at h
  refine wxz ?_
  obtain⟨x2,hf1,h⟩:=bno h
  obtain⟨x4,hf3,h⟩:=bno h
  refine wx tbk [(0,rp _ _),(1,rp [ci 0,ci 10,ci 20,ci 30] Q00),(2,rp _ _)] ⟨apw Qnp (Qf8 2000  _ hf1),Qa6 (vs:=[I 0,I 10,I 20,I 30]) rfl underlying25 ti3 tz3 rfl (by decide) rfl (by decide) (by rfl) (by rfl) (by rfl) rfl,apw Qut (Qjc N x2 ([0,10,20,30]) _ hf3),tv⟩ ?_
  obtain⟨x6,hf5,h⟩:=bno h
  obtain⟨x8,hf7,h⟩:=bno h
  refine wx tbk [(0,rp _ _),(1,rp [ci 0,ci 10,ci 20,ci 30] Q00),(2,rp _ _)] ⟨apw Qnp (Qf8 2000  _ hf5),Qa6 (vs:=[I 0,I 10,I 20,I 30]) rfl underlying25 ti3 tz3 rfl (by decide) rfl (by decide) (by rfl) (by rfl) (by rfl) rfl,apw Qzj (Qmd N x6 ([0,10,20,30]) 60 _ hf7),tv⟩ ?_
  obtain⟨x10,hf9,h⟩:=bno h
  refine wx tbk [(0,rp _ _),(1,rp _ _)] ⟨Qak (vs:=[I 100,I 50]) rfl ts75 tz75 rfl (by rfl) rfl,apw Qzi (Qk6 N (⟨100,50⟩:Qcv) _ hf9),tv⟩ ?_
  obtain⟨x12,hf11,h⟩:=bno h
  obtain⟨x14,hf13,h⟩:=bno h
  refine wx tbk [(0,rp _ _),(1,rp _ _)] ⟨apw Qjw (Qe1 2000  _ hf11),apw Quu (Qhp N x12 _ hf13),tv⟩ ?_
  refine bfe h (fun hb15 h=>?_) fun hb15 h=>?_
  ·refine hpre (A:=(Qs9 x4)) ⟨asb hb15 (amv rfl),tv⟩ fun q1_=>?_
   refine bfe h (fun hb16 h=>?_) fun hb16 h=>?_
   ·refine hpre (A:=(Qs8 x4 x8)) (hap q1_ ⟨asb hb16 (amv rfl),tv⟩) fun q2_=>?_
    refine bfe h (fun hb17 h=>?_) fun hb17 h=>?_
    ·refine hpre (A:=(Qs7 x4 x8 x10)) (hap q2_ ⟨asb hb17 (amv rfl),tv⟩) fun q3_=>?_
     refine bfe h (fun hb18 h=>?_) fun hb18 h=>?_
     ·obtain⟨x20,hf19,h⟩:=bno h
      refine hpre (A:=(Qs6 x4 x8 x10 x14 x20)) (hap q3_ ⟨asb hb18 (amv rfl),ag_ (Qa6 (vs:=[I 70,I 70,I 23,I 32]) rfl underlying25 ti3 tz3 rfl (by decide) rfl (by decide) (by rfl) (by rfl) (by rfl) rfl),ag_ (apv Quo (Qjd N x4.1 ([70,70,23,32]) _ hf19) (nlc (nld Qab _) (nlc (nld Qab _) nl0)) nll),tv⟩) fun q4_=>?_
      refine bfe h (fun hb21 h=>?_) fun hb21 h=>?_
      ·refine hpre (A:=(Qs5 x4 x8 x10 x14 x20)) (hap q4_ ⟨asb hb21 (amv rfl),ag_ (alq 1 Qd9 x8.1 underlying77),tv⟩) fun q5_=>?_
       refine bfe h (fun hb22 h=>?_) fun hb22 h=>?_
       ·obtain⟨x23,hg24,h⟩:=bno h
        obtain⟨hi25,hj26⟩:=gsm hg24
        refine hpre (A:=(Qs4 x4 x8 x10 x14 x20 x23)) (hap q5_ ⟨asb hb22 (amv rfl),ag_ (aiq underlying77 ti4 Qd9 hi25 hj26),tv⟩) fun q6_=>?_
        refine bfe h (fun hb27 h=>?_) fun hb27 h=>?_
        ·obtain⟨x28,hg29,h⟩:=bno h
         obtain⟨hi30,hj31⟩:=gsm hg29
         refine hpre (A:=(Qs3 x4 x8 x10 x14 x20 x23 x28)) (hap q6_ ⟨asb hb27 (amv rfl),ag_ (aiq underlying77 ti4 Qd9 hi30 hj31),tv⟩) fun q7_=>?_
         refine bfe h (fun hb32 h=>?_) fun hb32 h=>?_
         ·obtain⟨x33,hg34,h⟩:=bno h
          obtain⟨hi35,hj36⟩:=gsm hg34
          refine hpre (A:=(Qs2 x4 x8 x10 x14 x20 x23 x28 x33)) (hap q7_ ⟨asb hb32 (amv rfl),ag_ (aiq underlying77 ti4 Qd9 hi35 hj36),tv⟩) fun q8_=>?_
          refine bfe h (fun hb37 h=>?_) fun hb37 h=>?_
          ·refine hpre (A:=(Qs1 x4 x8 x10 x14 x20 x23 x28 x33)) (hap q8_ ⟨asb hb37 (amv rfl),tv⟩) fun q9_=>?_
           refine bfe h (fun hb38 h=>?_) fun hb38 h=>?_
           ·refine hpre (A:=(Qs0 x4 x8 x10 x14 x20 x23 x28 x33)) (hap q9_ ⟨asb hb38 (amv rfl),ag_ (Qak (vs:=[I 96,I 105]) rfl ts91 tz91 rfl (by rfl) rfl),ag_ (Qu8 (ls:=[x10.1.Lo,x10.1.Hi]) (ks:=[96,105]) rfl rfl Q1o (by kernel_rfl) rfl rfl),tv⟩) fun q10_=>?_
            refine bfe h (fun hb39 h=>?_) fun hb39 h=>?_
            ·obtain⟨x41,hf40,h⟩:=bno h
             refine hpre (A:=(Qsz x4 x8 x10 x14 x20 x23 x28 x33 x41)) (hap q10_ ⟨asb hb39 (amv rfl),ag_ (Qa6 (vs:=[I 15,I 0,I 4]) rfl underlying25 ti3 tz3 rfl (by decide) rfl (by decide) (by rfl) (by rfl) (by rfl) rfl),ag_ (apv Quo (Qjd N x14.1 ([15,0,4]) _ hf40) (nlc (nld Qab _) (nlc (nld Qab _) nl0)) nll),tv⟩) fun q11_=>?_
             refine bfe h (fun hb42 h=>?_) fun hb42 h=>?_
             ·refine hpre (A:=(Qsy x4 x8 x10 x14 x20 x23 x28 x33 x41)) (hap q11_ ⟨asb hb42 (amv rfl),ag_ (alq 1 Qaa x14.2.1 underlying25),tv⟩) fun q12_=>?_
              refine bfe h (fun hb43 h=>?_) fun hb43 h=>?_
              ·refine wx tbk (hcat (Qsy x4 x8 x10 x14 x20 x23 x28 x33 x41) [(59,rp [(.tmp 97,(B (((x14.2.1.length:Int)==3))))] (B true))]) (hap q12_ ⟨asb hb43 (amv rfl),tv⟩)<|Qac ?_
               obtain rfl:=osi h
               exact fend ⟨[(B ((x14.2.2.1==23)))],⟨rot,tv⟩,rfl⟩ nll
              ·exact wx tbk (hcat (Qsy x4 x8 x10 x14 x20 x23 x28 x33 x41) [(59,rp [(.tmp 97,(B (((x14.2.1.length:Int)==3))))] (B false))]) (hap q12_ ⟨asb hb43 (amv rfl),tv⟩)<|Qac<|frb h
             ·exact wx tbk (hcat (Qsz x4 x8 x10 x14 x20 x23 x28 x33 x41) [(54,rp [(.tmp 92,B x41)] (B false))]) (hap q11_ ⟨asb hb42 (amv rfl),tv⟩)<|Qac<|frb h
            ·exact wx tbk (hcat (Qs0 x4 x8 x10 x14 x20 x23 x28 x33) [(49,rp [(.tmp 87,(B ((([x10.1.Lo,x10.1.Hi]:List Int)==[96,105]))))] (B false))]) (hap q10_ ⟨asb hb39 (amv rfl),tv⟩)<|Qac<|frb h
           ·exact wx tbk (hcat (Qs1 x4 x8 x10 x14 x20 x23 x28 x33) [(44,rp [(.tmp 82,(B ((x8.2.1==47))))] (B false))]) (hap q9_ ⟨asb hb38 (amv rfl),tv⟩)<|Qac<|frb h
          ·exact wx tbk (hcat (Qs2 x4 x8 x10 x14 x20 x23 x28 x33) [(40,rp [(.tmp 78,B x33)] (B false))]) (hap q8_ ⟨asb hb37 (amv rfl),tv⟩)<|Qac<|frb h
         ·exact wx tbk (hcat (Qs3 x4 x8 x10 x14 x20 x23 x28) [(35,rp [(.tmp 73,(B ((!x28))))] (B false))]) (hap q7_ ⟨asb hb32 (amv rfl),tv⟩)<|Qac<|frb h
        ·exact wx tbk (hcat (Qs4 x4 x8 x10 x14 x20 x23) [(29,rp [(.tmp 67,B x23)] (B false))]) (hap q6_ ⟨asb hb27 (amv rfl),tv⟩)<|Qac<|frb h
       ·exact wx tbk (hcat (Qs5 x4 x8 x10 x14 x20) [(24,rp [(.tmp 62,(B (((x8.1.length:Int)==4))))] (B false))]) (hap q5_ ⟨asb hb22 (amv rfl),tv⟩)<|Qac<|frb h
      ·exact wx tbk (hcat (Qs6 x4 x8 x10 x14 x20) [(19,rp [(.tmp 57,B x20)] (B false))]) (hap q4_ ⟨asb hb21 (amv rfl),tv⟩)<|Qac<|frb h
     ·exact wx tbk (hcat (Qs7 x4 x8 x10) [(14,rp [(.tmp 52,(B ((x14.2.2.2==0))))] (B false))]) (hap q3_ ⟨asb hb18 (amv rfl),tv⟩)<|Qac<|frb h
    ·exact wx tbk (hcat (Qs8 x4 x8) [(10,rp [(.tmp 48,(B ((x10.2==0))))] (B false))]) (hap q2_ ⟨asb hb17 (amv rfl),tv⟩)<|Qac<|frb h
   ·exact wx tbk (hcat (Qs9 x4) [(6,rp [(.tmp 44,(B ((x8.2.2==0))))] (B false))]) (hap q1_ ⟨asb hb16 (amv rfl),tv⟩)<|Qac<|frb h
  ·exact wx tbk [(2,rp [(.tmp 40,(B ((x4.2.2==0))))] (B false))] ⟨asb hb15 (amv rfl),tv⟩<|Qac<|frb h
def Qex (N:Nat) (p0:Int):Option Bool:=
  (Qa0 N p0 0 1000).bind fun x2=>
  some x2
theorem Qho (N:Nat) (p0:Int) (r:Bool) (h:Qex N p0=some r):Spec prog 74 [(I p0)] [] (B r) []:=by
  refine sA func74 0 fun _ _ _ hq hd0=>?_
  unfold Qex at h
  refine wxz ?_
  obtain⟨x2,hf1,h⟩:=bno h
  exact wx tbk [(1,rp _ _)] ⟨apw Qd3 (Qar N p0 0 1000 _ hf1),tv⟩<|Qac<|frb h
def Qfy (N:Nat) (p0:Int):Option Bool:=
  (Qex N p0).bind fun x3=>
  some (!x3)
abbrev Qvj:Slot:=.own 1 [[(.fn (.func 74) [] [])]]
theorem Qi6 (N:Nat) (p0:Int) (r:Bool) (h:Qfy N p0=some r):Spec prog 102 [(I p0),(.ref 0 1 (0) 0)] [Qvj] (B r) [Qvj]:=by
  refine sF func102 1 fun _ _ _ hq hd0=>?_
  unfold Qfy at h
  refine wxz ?_
  obtain⟨x3,hf2,h⟩:=bno h
  refine wx tbk [(2,rp _ _)] ⟨apw Qzd (Qho N p0 _ hf2),tv⟩ ?_
  refine wmr (mto (n:=8) (l':=[(3,(B ((!x3))))]) (own':=[Qvj]) [(3,(B ((!x3))))] [0] [Qvj] hq (pw pn) (qb (lc (.rn (Qap rn0 rn0)) ln) qn))<|Qac ?_
  obtain rfl:=osi h
  exact⟨_,Mor.rfl,fio [(B ((!x3)))] ⟨rot,tv⟩⟩
def Qbs (N:Nat) (p0:List Int) (k2:Unit→Option Int):Nat→Int→Option Int
  |0,_=>none
  |n5+1,y3=>
    bif (decide (y3<(p0.length:Int))) then
     (getI p0 y3).bind fun x7=>
     (Qfy N x7).bind fun x12=>
     bif x12 then
      some y3
     else
      Qbs N p0 k2 n5 (w64 (y3+1))
    else
     k2 ()
def Qdv (N:Nat) (p0:List Int):Option Int:=
  Qcx (fun _=>
    some (-1)) fun k2:Unit→Option Int=>
  Qbs N p0 k2 N 0
abbrev Qsp:AV:=.fn (.func 102) [] [(.ref 0 1 (0) 0)]
abbrev Qjz:Slot:=.own 1 [[(.fn (.func 74) [] [])]]
theorem Qgd (N:Nat) (p0:List Int) (r:Int) (h:Qdv N p0=some r):Spec prog 88 [(.dat 1 (p0.map Qaa)),Qsp] [Qjz] (I r) [Qjz]:=by
  refine sF func88 1 fun _ _ _ hq hd0=>?_
  unfold Qdv at h
  refine wxz ?_
  obtain⟨k2,hk_k2,h⟩:=jko h
  refine wjn (τ:=Unit) (fun t=>k2 t=some r) (fun _=>⟨mk 19 [],[Qjz]⟩) (fun t h=>?_) ?_
  ·subst hk_k2
   refine wxz<|wmr (mto (n:=19) (l':=[(4,(I ((-1))))]) (own':=[Qjz]) [(4,(I ((-1))))] [0] [Qjz] hq (pw pn) (qb (lc (.rn (Qap rn0 rn0)) ln) qn))<|Qac ?_
   obtain rfl:=osi h
   exact⟨_,Mor.rfl,fio [(I ((-1)))] ⟨rot,tv⟩⟩
  ·skip
   refine wx tbk [(1,rp _ _)] ⟨alq 1 Qaa p0 underlying25,tv⟩<|Qai ?_
   refine wmr (mto (n:=19) (l':=[(0,(.dat 1 (p0.map Qaa))),(1,Qsp),(7,(I ((p0.length:Int)))),(8,I 0)]) (own':=[Qjz]) [(0,(.dat 1 (p0.map Qaa))),(1,Qsp),(7,(I ((p0.length:Int)))),(8,I 0)] [0] [Qjz] hq (pc (rnd Qab) (pc (.rn (Qap rn0 (rnc (rqr rfl) rn0))) (pw (pw pn)))) (qb (lc (.rn (Qap rn0 rn0)) ln) qn)) ?_
   refine Qb0 (τ:=Int) (fun n t=>Qbs N p0 k2 n t=some r) (fun y3=>⟨mk 19 [(0,(.dat 1 (p0.map Qaa))),(1,Qsp),(7,(I ((p0.length:Int)))),(8,I y3)],[Qjz]⟩) (fun t h=>by rw[Qbs] at h;cases h) (fun n5 ih y3 h=>?_) N (0) h
   rw[Qbs] at h
   skip
   refine wxz<|wsq ?_
   refine bfe h (fun hc6 h=>?_) fun hc6 h=>?_
   ·refine wft hc6<|Qaf<|thn<|wsq<|Qai<|wxz ?_
    obtain⟨x7,hg8,h⟩:=bno h
    obtain⟨hi9,hj10⟩:=gsm hg8
    obtain⟨x12,hf11,h⟩:=bno h
    refine wx tbk [(3,rp _ _),(5,⟨_,_,_,_,false⟩)] ⟨aiq underlying25 ti3 Qaa hi9 hj10,Qeb (first:=[]) (cap:=[.ref 0 1 0 0]) (vs:=[I x7]) (σr:=[Qjz]) (σr':=[Qjz]) (res':=(B x12)) [0] rfl Qqx (Qi6 N x7 _ hf11) rfl (Qb9 (rnc (.plain _ nll) (rnc (Qbg rfl) rn0))) (slc (Qaj (rnc (.plain _ (NLt.fn _ _ _ nl0 nl0)) rn0)) Qam) (slc (Qaj (rnc (.plain _ (NLt.fn _ _ _ nl0 nl0)) rn0)) Qam) (.plain _ nll) rfl rfl rfl,tv⟩ ?_
    refine bfe h (fun hc13 h=>?_) fun hc13 h=>?_
    ·refine wft hc13<|wxz ?_
     refine wmr (mto (n:=19) (l':=[(4,I y3)]) (own':=[Qjz]) [(4,I y3)] [0] [Qjz] hq (pw pn) (qb (lc (.rn (Qap rn0 rn0)) ln) qn))<|Qac<|Qal<|Qah<|Qah<|Qal<|Qah ?_
     obtain rfl:=osi h
     exact⟨_,Mor.rfl,fio [I y3] ⟨rot,tv⟩⟩
    ·exact wfn hc13<|Qaf<|bln<|thn<|wxz1<|thn<|arm (mto (n:=19) [(0,(.dat 1 (p0.map Qaa))),(1,Qsp),(7,(I ((p0.length:Int)))),(8,(I (w64 (y3+1))))] [0] [Qjz] hq (pc (rnd Qab) (pc (.rn (Qap rn0 (rnc (rqr rfl) rn0))) (pw (pw pn)))) (qb (lc (.rn (Qap rn0 rn0)) ln) qn)) (ih (w64 (y3+1)) h)
   ·exact wfn hc6<|Qax<|Qan<|Qan<|Qaw rfl<|thn<|⟨(),h,(mto (n:=19) [] [0] [Qjz] hq pn (qb (lc (.rn (Qap rn0 rn0)) ln) qn))⟩
def Qdh (N:Nat) (p0:List Int):Option Bool:=
  (Qdv N p0).bind fun x3=>
  some (decide (x3≥0))
abbrev Q0i:AV:=.fn (.func 102) [] [(.ref 0 1 (0) 0)]
abbrev Qq6:Slot:=.own 1 [[(.fn (.func 74) [] [])]]
theorem Qfq (N:Nat) (p0:List Int) (r:Bool) (h:Qdh N p0=some r):Spec prog 45 [(.dat 1 (p0.map Qaa)),Q0i] [Qq6] (B r) [Qq6]:=by
  refine sF func45 1 fun _ _ _ hq hd0=>?_
  unfold Qdh at h
  refine wxz ?_
  obtain⟨x3,hf2,h⟩:=bno h
  refine wx tbk [(2,⟨_,_,_,_,false⟩)] ⟨acq [(.dat 1 (p0.map Qaa)),Q0i] [Qq6] [Qq6] (I x3) [0] Quf (Qgd N p0 _ hf2) (Qb9 (rnc (pld Qab) (rnc (Qap rn0 (rnc (Qbg rfl) rn0)) rn0))) (slc (Qaj (rnc (.plain _ (NLt.fn _ _ _ nl0 nl0)) rn0)) Qam) (slc (Qaj (rnc (.plain _ (NLt.fn _ _ _ nl0 nl0)) rn0)) Qam) (.plain _ nll),tv⟩ ?_
  refine wmr (mto (n:=9) (l':=[(4,(B ((decide (x3≥0)))))]) (own':=[Qq6]) [(4,(B ((decide (x3≥0)))))] [0] [Qq6] hq (pw pn) (qb (lc (.rn (Qap rn0 rn0)) ln) qn))<|Qac ?_
  obtain rfl:=osi h
  exact⟨_,Mor.rfl,fio [(B ((decide (x3≥0))))] ⟨rot,tv⟩⟩
def Qg1 (N:Nat) (p0:List Int):Option Bool:=
  (Qdh N p0).bind fun x2=>
  some (!x2)
def Q0j:AV:=.fn (.func 102) [] [(.ref 0 1 (0) 0)]
def Q0k:Slot:=.own 1 [[(.fn (.func 74) [] [])]]
theorem Qj5 (N:Nat) (p0:List Int) (r:Bool) (h:Qg1 N p0=some r):Spec prog 73 [(.dat 1 (p0.map Qaa)),(.fn (.func 74) [] [])] [] (B r) []:=by
  refine sA func73 0 fun _ _ _ hq hd0=>?_
  unfold Qg1 at h
  refine wxz ?_
  obtain⟨x2,hf1,h⟩:=bno h
  refine wx tbk [(1,rp [(.tmp 3,.ref 0 1 0 0)] Q0j),(2,⟨_,_,_,_,false⟩)] ⟨Qe2 (fs:=[]) (cs:=[.ref 0 1 0 0]) rfl rfl rfl rfl,acq [(.dat 1 (p0.map Qaa)),Q0j] [Q0k] [Q0k] (B x2) [0] Qup (Qfq N p0 _ hf1) (Qb9 (rnc (pld Qab) (rnc (Qap rn0 (rnc (Qbg rfl) rn0)) rn0))) (slc (Qaj (rnc (.plain _ (NLt.fn _ _ _ nl0 nl0)) rn0)) Qam) (slc (Qaj (rnc (.plain _ (NLt.fn _ _ _ nl0 nl0)) rn0)) Qam) (.plain _ nll),tv⟩<|Qac ?_
  obtain rfl:=osi h
  exact fend ⟨[(B ((!x2)))],⟨rot,tv⟩,rfl⟩ nll
def Qbb (N:Nat) (p2:List Int) (y17:Int) (k26:Unit→Option Bool):(List (Qbc×Int))→Option Bool
  |[]=>
    k26 ()
  |x63::q64=>
    bif (decide (x63.2>0)) then
     (getI p2 y17).bind fun x73=>
     bif (decide (x63.1.Price>x73)) then
      some false
     else
      bif (decide (x63.2<x63.1.Amount)) then
       bif (decide (x63.1.Price<x73)) then
        some false
       else
        Qbb N p2 y17 k26 q64
      else
       Qbb N p2 y17 k26 q64
    else
     bif (decide (x63.2<x63.1.Amount)) then
      (getI p2 y17).bind fun x81=>
      bif (decide (x63.1.Price<x81)) then
       some false
      else
       Qbb N p2 y17 k26 q64
     else
      Qbb N p2 y17 k26 q64
def Qcr (N:Nat) (p0:GDay) (p1 p2:List Int) (x3:((List Int)×Bool)) (k5:Unit→Option Bool):Nat→Int→Option Bool
  |0,_=>none
  |n19+1,y17=>
    bif (decide (y17<(p0.Hours.length:Int))) then
     Qcx (fun _=>
       Qcr N p0 p1 p2 x3 k5 n19 (w64 (y17+1))) fun k21:Unit→Option Bool=>
     (getI p0.Hours y17).bind fun x22=>
     Qcx (fun _=>
       bif (y17==(w64 ((p0.Hours.length:Int)-1))) then
        k21 ()
       else
        (getI x3.1 y17).bind fun x28=>
        bif (decide (x28<p0.Tank)) then
         (getI p2 (w64 (y17+1))).bind fun x33=>
         (getI p2 y17).bind fun x37=>
         bif (decide (x33>x37)) then
          some false
         else
          bif (decide (x28>0)) then
           bif (decide (x33<x37)) then
            some false
           else
            k21 ()
          else
           k21 ()
        else
         bif (decide (x28>0)) then
          (getI p2 (w64 (y17+1))).bind fun x45=>
          (getI p2 y17).bind fun x49=>
          bif (decide (x45<x49)) then
           some false
          else
           k21 ()
         else
          k21 ()) fun k26:Unit→Option Bool=>
     (getI p1 y17).bind fun x54=>
     (Qd7 N x22 x54).bind fun _=>
     (Qd6 N x22.Use x22.Stairs x54).bind fun q60=>
     Qbb N p2 y17 k26 q60
    else
     k5 ()
def Qdr (N:Nat) (p0:GDay) (p1 p2:List Int):Option Bool:=
  Qcx (fun _=>
    (Qe9 N p0 p1).bind fun x3=>
    bif (!x3.2) then
     some false
    else
     Qcx (fun _=>
       (some (w64 ((p0.Hours.length:Int)-1))).bind fun x6=>
       (getI x3.1 x6).bind fun x8=>
       bif (x8==0) then
        some true
       else
        (getI p2 x6).bind fun x13=>
        some (x13==0)) fun k5:Unit→Option Bool=>
     Qcr N p0 p1 p2 x3 k5 N 0) fun k1:Unit→Option Bool=>
  (Qds N p0).bind fun x87=>
  bif (!x87) then
   some false
  else
   bif ((p2.length:Int) != (p0.Hours.length:Int)) then
    some false
   else
    (Qg1 N p2).bind fun x91=>
    bif (!x91) then
     some false
    else
     k1 ()
def Qie (p0:GDay):AV:=.dat 2 (p0.Hours.map Qay)
def Qet (p0:GDay):Slot:=.own 3 [[(I p0.Tank),(I p0.Start),(Qie p0)]]
def Qes (p2:List Int):Slot:=.own 1 [[(.dat 1 (p2.map Qaa))]]
def Q11 (p0:GDay):AV:=.agg [(I p0.Tank),(I p0.Start),(Qie p0)]
def Qhs (x3:((List Int)×Bool)):AV:=.dat 1 (x3.1.map Qaa)
def Qsv (x3:((List Int)×Bool)) (y17 x28:Int):List (Nat×Rec):=[(2,rp [((.tmp 86),(Qhs x3)),((.tmp 87),(I y17))] (.dptr (Qaa x28) 0))]
def Qsu x3 y17 x28 (p0:GDay) (p2:List Int) (x33 x37:Int):=hcat (Qsv x3 y17 x28) [(7,rp [((.tmp 92),(B ((decide (x28<p0.Tank)))))] (B true)),(11,rp [((.tmp 93),(B true)),((.tmp 94),(.dat 1 (p2.map Qaa))),((.tmp 96),(I (w64 (y17+1))))] (.dptr (Qaa x33) 0)),(15,rp [((.tmp 93),(B true)),((.tmp 99),(.dat 1 (p2.map Qaa))),((.tmp 100),(I y17))] (.dptr (Qaa x37) 0))]
def Qst x3 y17 x28 p0 p2 x33 x37:=hcat (Qsu x3 y17 x28 p0 p2 x33 x37) [(19,rp [((.tmp 104),(B ((decide (x33>x37)))))] (B false)),(22,rp [((.tmp 105),(B false)),((.tmp 106),(Qhs x3)),((.tmp 107),(I y17))] (.dptr (Qaa x28) 0))]
def Qss x3 y17 x28 (p0:GDay):=hcat (Qsv x3 y17 x28) [(7,rp [((.tmp 92),(B ((decide (x28<p0.Tank)))))] (B false)),(22,rp [((.tmp 105),(B false)),((.tmp 106),(Qhs x3)),((.tmp 107),(I y17))] (.dptr (Qaa x28) 0))]
def Q0l:AV:=.fn (.func 103) [] [(.ref 5 2 (0) 0),(.ref 6 1 (0) 0)]
def Qqc (x22:Qbw):Slot:=.own 2 [[(I x22.Use),(.dat 2 (x22.Stairs.map Qbl))]]
def Qqb (x63:(Qbc×Int)) (p2:List Int) (y17 x73:Int):List (Nat×Rec):=[(2,rp [((.tmp 55),(B ((decide (x63.2>0)))))] (B true)),(7,rp [((.tmp 56),(B true)),((.tmp 59),(.dat 1 (p2.map Qaa))),((.tmp 60),(I y17))] (.dptr (Qaa x73) 0))]
def Qsr (p0:GDay) (x87:Bool):List (Nat×Rec):=[(1,rp [fu 55,((.tmp 14),(Q11 p0))] (B x87))]
def Qsq p0 x87 (p2:List Int):=hcat (Qsr p0 x87) [(3,rp [((.tmp 16),(B ((!x87))))] (B false)),(5,rp [((.tmp 17),(B false)),((.tmp 18),(.dat 1 (p2.map Qaa)))] (I ((p2.length:Int)))),(8,rp [((.tmp 17),(B false)),((.tmp 21),(Qie p0))] (I ((p0.Hours.length:Int))))]
theorem Qep (N:Nat) (p0:GDay) (p1 p2:List Int) (r:Bool) (h:Qdr N p0 p1 p2=some r):Spec prog 31 [(.agg (Qiv p0)),(.dat 1 (p1.map Qaa)),(.dat 1 (p2.map Qaa))] [] (B r) []:=by
  refine sA func31 0 fun _ _ _ hq hd0=>?_
  unfold Qdr at h
  refine wxz ?_
  obtain⟨k1,hk_k1,h⟩:=jko h
  refine wjn (τ:=Unit) (fun t=>k1 t=some r) (fun _=>⟨mk 141 [(1,(.dat 1 (p1.map Qaa))),(3,.ref 0 3 0 0),(5,.ref 1 1 0 0),(6,.ref 2 1 0 0)],[(Qet p0),(Qes p2),(.own 1 [[B false]])]⟩) (fun t h=>?_) ?_
  ·subst hk_k1
   obtain⟨x3,hf2,h⟩:=bno h
   refine wx tbk [(2,rp _ _)] ⟨apw Quh (Qg4 N p0 p1 _ hf2),tv⟩<|wsq<|wxz ?_
   refine bfe h (fun hc4 h=>?_) fun hc4 h=>?_
   ·refine wft hc4<|wxz<|Qac<|Qah ?_
    obtain rfl:=osi h
    exact fend ⟨[B false],⟨Qbd (n:=2) (m:=1) (j:=0) (i:=0) (xs:=[[B false]]) (by kernel_rfl) (by kernel_rfl) ti4 (by decide) rfl (nle rfl) rfl,tv⟩,rfl⟩ nll
   ·refine wfn hc4<|Qaf<|thn ?_
    obtain⟨k5,hk_k5,h⟩:=jko h
    refine wjn (τ:=Unit) (fun t=>k5 t=some r) (fun _=>⟨mk 141 [(3,.ref 0 3 0 0),(5,.ref 1 1 0 0),(6,.ref 2 1 0 0),(7,(Qhs x3))],[(Qet p0),(Qes p2),(.own 1 [[B false]])]⟩) (fun t h=>?_) ?_
    ·subst hk_k5
     obtain⟨x6,hl7,h⟩:=bno h
     refine wx tbk [(2,rp _ _),(4,rp [(.tmp 128,(I (w64 ((p0.Hours.length:Int)-1))))] (I x6))] ⟨alq 2 Qay p0.Hours underlying55,Qdp hl7 (aas rfl),tv⟩ ?_
     obtain⟨x8,hg9,h⟩:=bno h
     obtain⟨hi10,hj11⟩:=gsm hg9
     refine bfe h (fun hb12 h=>?_) fun hb12 h=>?_
     ·refine wx tbk [(2,rp _ _),(5,rp [(.tmp 133,(B ((x8==0))))] (B true))] ⟨aiq underlying25 ti3 Qaa hi10 hj11,asb hb12 (amv rfl),tv⟩<|Qac ?_
      obtain rfl:=osi h
      exact fend ⟨[B true],⟨Qbd (n:=2) (m:=1) (j:=0) (i:=0) (xs:=[[B true]]) (by kernel_rfl) (by kernel_rfl) ti4 (by decide) rfl (nle rfl) rfl,tv⟩,rfl⟩ nll
     ·obtain⟨x13,hg14,h⟩:=bno h
      obtain⟨hi15,hj16⟩:=gsm hg14
      refine wx tbk [(2,rp _ _),(5,rp [(.tmp 133,(B ((x8==0))))] (B false)),(8,rp [(.tmp 134,B false),(.tmp 135,(.dat 1 (p2.map Qaa))),(.tmp 136,I x6)] (.dptr (Qaa x13) 0))] ⟨aiq underlying25 ti3 Qaa hi10 hj11,asb hb12 (amv rfl),ag_ (aiq underlying25 ti3 Qaa hi15 hj16),tv⟩<|Qac ?_
      obtain rfl:=osi h
      exact fend ⟨[(B ((x13==0)))],⟨Qbd (n:=2) (m:=1) (j:=0) (i:=0) (xs:=[[(B ((x13==0)))]]) (by kernel_rfl) (by kernel_rfl) ti4 (by decide) rfl (nle rfl) rfl,tv⟩,rfl⟩ nll
    ·skip
     refine wx tbk [(2,rp _ _)] ⟨alq 2 Qay p0.Hours underlying55,tv⟩<|Qai ?_
     refine wmr (mto (n:=141) (l':=[(1,(.dat 1 (p1.map Qaa))),(3,.ref 0 3 0 0),(5,.ref 1 1 0 0),(6,.ref 2 1 0 0),(7,(Qhs x3)),(39,(Qie p0)),(40,(I ((p0.Hours.length:Int)))),(41,I 0)]) (own':=[(Qet p0),(Qes p2),(.own 1 [[B false]])]) [(1,(.dat 1 (p1.map Qaa))),(3,.ref 0 3 0 0),(5,.ref 1 1 0 0),(6,.ref 2 1 0 0),(7,(Qhs x3)),(39,(Qie p0)),(40,(I ((p0.Hours.length:Int)))),(41,I 0)] [0,1,2] [(Qet p0),(Qes p2),(.own 1 [[B false]])] hq (pc (rnd Qab) (prr (prr (prr (pc (rnd Qab) (pc (rnd Qag) (pw (pw pn)))))))) (qb (lcc (lc (rnd Qag) ln)) (qb (lc (rnd Qab) ln) (qb (lc rwl ln) qn)))) ?_
     refine Qb0 (τ:=Int) (fun n t=>Qcr N p0 p1 p2 x3 k5 n t=some r) (fun y17=>⟨mk 141 [(1,(.dat 1 (p1.map Qaa))),(3,.ref 0 3 0 0),(5,.ref 1 1 0 0),(6,.ref 2 1 0 0),(7,(Qhs x3)),(39,(Qie p0)),(40,(I ((p0.Hours.length:Int)))),(41,I y17)],[(Qet p0),(Qes p2),(.own 1 [[B false]])]⟩) (fun t h=>by rw[Qcr] at h;cases h) (fun n19 ih y17 h=>?_) N (0) h
     rw[Qcr] at h
     skip
     refine wxz<|wsq ?_
     refine bfe h (fun hc20 h=>?_) fun hc20 h=>?_
     ·refine wft hc20<|Qaf<|thn ?_
      obtain⟨k21,hk_k21,h⟩:=jko h
      refine wjn (τ:=Unit) (fun t=>k21 t=some r) (fun _=>⟨mk 141 [(1,(.dat 1 (p1.map Qaa))),(3,.ref 0 3 0 0),(5,.ref 1 1 0 0),(6,.ref 2 1 0 0),(7,(Qhs x3)),(39,(Qie p0)),(40,(I ((p0.Hours.length:Int)))),(41,I y17)],[(Qet p0),(Qes p2),(.own 1 [[B false]])]⟩) (fun t h=>?_) ?_
      ·subst hk_k21
       exact wxz1<|thn<|arm (mto (n:=141) [(1,(.dat 1 (p1.map Qaa))),(3,.ref 0 3 0 0),(5,.ref 1 1 0 0),(6,.ref 2 1 0 0),(7,(Qhs x3)),(39,(Qie p0)),(40,(I ((p0.Hours.length:Int)))),(41,(I (w64 (y17+1))))] [0,1,2] [(Qet p0),(Qes p2),(.own 1 [[B false]])] hq (pc (rnd Qab) (prr (prr (prr (pc (rnd Qab) (pc (rnd Qag) (pw (pw pn)))))))) (qb (lcc (lc (rnd Qag) ln)) (qb (lc (rnd Qab) ln) (qb (lc rwl ln) qn)))) (ih (w64 (y17+1)) h)
      ·skip
       refine Qai ?_
       obtain⟨x22,hg23,h⟩:=bno h
       obtain⟨hi24,hj25⟩:=gsm hg23
       refine wx tbk [(1,rp _ _)] ⟨aiq underlying55 ti62 Qay hi24 hj25,tv⟩ ?_
       obtain⟨k26,hk_k26,h⟩:=jko h
       refine wjn (τ:=Unit) (fun t=>k26 t=some r) (fun _=>⟨mk 141 [(1,(.dat 1 (p1.map Qaa))),(3,.ref 0 3 0 0),(5,.ref 1 1 0 0),(6,.ref 2 1 0 0),(7,(Qhs x3)),(9,.ref 3 1 0 0),(39,(Qie p0)),(40,(I ((p0.Hours.length:Int)))),(41,I y17)],[(Qet p0),(Qes p2),(.own 1 [[B false]]),(.own 1 [[I y17]])]⟩) (fun t h=>?_) ?_
       ·subst hk_k26
        refine wsq<|wx tbk [(3,rp _ _)] ⟨alq 2 Qay p0.Hours underlying55,tv⟩ ?_
        refine bfe h (fun hc27 h=>?_) fun hc27 h=>?_
        ·exact wft hc27<|Qax<|Qan<|Qaw rfl<|thn<|⟨(),h,(mto (n:=141) [(1,(.dat 1 (p1.map Qaa))),(3,.ref 0 3 0 0),(5,.ref 1 1 0 0),(6,.ref 2 1 0 0),(7,(Qhs x3)),(39,(Qie p0)),(40,(I ((p0.Hours.length:Int)))),(41,I y17)] [0,1,2] [(Qet p0),(Qes p2),(.own 1 [[B false]])] hq (pc (rnd Qab) (prr (prr (prr (pc (rnd Qab) (pc (rnd Qag) (pw (pw pn)))))))) (qb (lcc (lc (rnd Qag) ln)) (qb (lc (rnd Qab) ln) (qb (lc rwl ln) qn))))⟩
        ·refine wfn hc27<|Qaf<|thn ?_
         obtain⟨x28,hg29,h⟩:=bno h
         obtain⟨hi30,hj31⟩:=gsm hg29
         refine hpre (A:=(Qsv x3 y17 x28)) ⟨aiq underlying25 ti3 Qaa hi30 hj31,tv⟩ fun q1_=>?_
         refine bfe h (fun hb32 h=>?_) fun hb32 h=>?_
         ·obtain⟨x33,hg34,h⟩:=bno h
          obtain⟨hi35,hj36⟩:=gsm hg34
          obtain⟨x37,hg38,h⟩:=bno h
          obtain⟨hi39,hj40⟩:=gsm hg38
          refine hpre (A:=(Qsu x3 y17 x28 p0 p2 x33 x37)) (hap q1_ ⟨asb hb32 (amv rfl),ag_ (aiq underlying25 ti3 Qaa hi35 hj36),ag_ (aiq underlying25 ti3 Qaa hi39 hj40),tv⟩) fun q2_=>?_
          refine bfe h (fun hb41 h=>?_) fun hb41 h=>?_
          ·refine wxd tbk (hcat (Qsu x3 y17 x28 p0 p2 x33 x37) [(19,rp [(.tmp 104,(B ((decide (x33>x37)))))] (B true))]) (hap q2_ ⟨asb hb41 (amv rfl),tv⟩)<|wtr<|wxz<|Qac<|Qal<|Qah<|Qah<|Qal<|Qah ?_
           obtain rfl:=osi h
           exact fend ⟨[B false],⟨Qbd (n:=2) (m:=1) (j:=0) (i:=0) (xs:=[[B false]]) (by kernel_rfl) (by kernel_rfl) ti4 (by decide) rfl (nle rfl) rfl,tv⟩,rfl⟩ nll
          ·refine hpre (A:=(Qst x3 y17 x28 p0 p2 x33 x37)) (hap q2_ ⟨asb hb41 (amv rfl),ag_ (aiq underlying25 ti3 Qaa hi30 hj31),tv⟩) fun q3_=>?_
           refine bfe h (fun hb42 h=>?_) fun hb42 h=>?_
           ·refine wxd tbk (hcat (Qst x3 y17 x28 p0 p2 x33 x37) [(25,rp [(.tmp 105,B false),(.tmp 110,(B ((decide (x28>0)))))] (B true)),(29,rp [(.tmp 111,B true),(.tmp 112,(.dat 1 (p2.map Qaa))),(.tmp 114,(I (w64 (y17+1))))] (.dptr (Qaa x33) 0)),(33,rp [(.tmp 111,B true),(.tmp 117,(.dat 1 (p2.map Qaa))),(.tmp 118,I y17)] (.dptr (Qaa x37) 0))]) (hap q3_ ⟨asb hb42 (ag_ (amv rfl)),ag_ (aiq underlying25 ti3 Qaa hi35 hj36),ag_ (aiq underlying25 ti3 Qaa hi39 hj40),tv⟩) ?_
            refine bfe h (fun hc43 h=>?_) fun hc43 h=>?_
            ·refine wft hc43<|wxz<|Qac<|Qal<|Qah<|Qah<|Qal<|Qah ?_
             obtain rfl:=osi h
             exact fend ⟨[B false],⟨Qbd (n:=2) (m:=1) (j:=0) (i:=0) (xs:=[[B false]]) (by kernel_rfl) (by kernel_rfl) ti4 (by decide) rfl (nle rfl) rfl,tv⟩,rfl⟩ nll
            ·exact wfn hc43<|Qaf<|bln<|thn<|⟨(),h,(mto (n:=141) [(1,(.dat 1 (p1.map Qaa))),(3,.ref 0 3 0 0),(5,.ref 1 1 0 0),(6,.ref 2 1 0 0),(7,(Qhs x3)),(39,(Qie p0)),(40,(I ((p0.Hours.length:Int)))),(41,I y17)] [0,1,2] [(Qet p0),(Qes p2),(.own 1 [[B false]])] hq (pc (rnd Qab) (prr (prr (prr (pc (rnd Qab) (pc (rnd Qag) (pw (pw pn)))))))) (qb (lcc (lc (rnd Qag) ln)) (qb (lc (rnd Qab) ln) (qb (lc rwl ln) qn))))⟩
           ·exact wxd tbk (hcat (Qst x3 y17 x28 p0 p2 x33 x37) [(25,rp [(.tmp 105,B false),(.tmp 110,(B ((decide (x28>0)))))] (B false))]) (hap q3_ ⟨asb hb42 (ag_ (amv rfl)),tv⟩)<|wfa<|Qaf<|bln<|thn<|⟨(),h,(mto (n:=141) [(1,(.dat 1 (p1.map Qaa))),(3,.ref 0 3 0 0),(5,.ref 1 1 0 0),(6,.ref 2 1 0 0),(7,(Qhs x3)),(39,(Qie p0)),(40,(I ((p0.Hours.length:Int)))),(41,I y17)] [0,1,2] [(Qet p0),(Qes p2),(.own 1 [[B false]])] hq (pc (rnd Qab) (prr (prr (prr (pc (rnd Qab) (pc (rnd Qag) (pw (pw pn)))))))) (qb (lcc (lc (rnd Qag) ln)) (qb (lc (rnd Qab) ln) (qb (lc rwl ln) qn))))⟩
         ·refine hpre (A:=(Qss x3 y17 x28 p0)) (hap q1_ ⟨asb hb32 (amv rfl),ag_ (aiq underlying25 ti3 Qaa hi30 hj31),tv⟩) fun q4_=>?_
          refine bfe h (fun hb44 h=>?_) fun hb44 h=>?_
          ·obtain⟨x45,hg46,h⟩:=bno h
           obtain⟨hi47,hj48⟩:=gsm hg46
           obtain⟨x49,hg50,h⟩:=bno h
           obtain⟨hi51,hj52⟩:=gsm hg50
           refine wxd tbk (hcat (Qss x3 y17 x28 p0) [(25,rp [(.tmp 105,B false),(.tmp 110,(B ((decide (x28>0)))))] (B true)),(29,rp [(.tmp 111,B true),(.tmp 112,(.dat 1 (p2.map Qaa))),(.tmp 114,(I (w64 (y17+1))))] (.dptr (Qaa x45) 0)),(33,rp [(.tmp 111,B true),(.tmp 117,(.dat 1 (p2.map Qaa))),(.tmp 118,I y17)] (.dptr (Qaa x49) 0))]) (hap q4_ ⟨asb hb44 (ag_ (amv rfl)),ag_ (aiq underlying25 ti3 Qaa hi47 hj48),ag_ (aiq underlying25 ti3 Qaa hi51 hj52),tv⟩) ?_
           refine bfe h (fun hc53 h=>?_) fun hc53 h=>?_
           ·refine wft hc53<|wxz<|Qac<|Qal<|Qah<|Qah<|Qal<|Qah ?_
            obtain rfl:=osi h
            exact fend ⟨[B false],⟨Qbd (n:=2) (m:=1) (j:=0) (i:=0) (xs:=[[B false]]) (by kernel_rfl) (by kernel_rfl) ti4 (by decide) rfl (nle rfl) rfl,tv⟩,rfl⟩ nll
           ·exact wfn hc53<|Qaf<|bln<|thn<|⟨(),h,(mto (n:=141) [(1,(.dat 1 (p1.map Qaa))),(3,.ref 0 3 0 0),(5,.ref 1 1 0 0),(6,.ref 2 1 0 0),(7,(Qhs x3)),(39,(Qie p0)),(40,(I ((p0.Hours.length:Int)))),(41,I y17)] [0,1,2] [(Qet p0),(Qes p2),(.own 1 [[B false]])] hq (pc (rnd Qab) (prr (prr (prr (pc (rnd Qab) (pc (rnd Qag) (pw (pw pn)))))))) (qb (lcc (lc (rnd Qag) ln)) (qb (lc (rnd Qab) ln) (qb (lc rwl ln) qn))))⟩
          ·exact wxd tbk (hcat (Qss x3 y17 x28 p0) [(25,rp [(.tmp 105,B false),(.tmp 110,(B ((decide (x28>0)))))] (B false))]) (hap q4_ ⟨asb hb44 (ag_ (amv rfl)),tv⟩)<|wfa<|Qaf<|bln<|thn<|⟨(),h,(mto (n:=141) [(1,(.dat 1 (p1.map Qaa))),(3,.ref 0 3 0 0),(5,.ref 1 1 0 0),(6,.ref 2 1 0 0),(7,(Qhs x3)),(39,(Qie p0)),(40,(I ((p0.Hours.length:Int)))),(41,I y17)] [0,1,2] [(Qet p0),(Qes p2),(.own 1 [[B false]])] hq (pc (rnd Qab) (prr (prr (prr (pc (rnd Qab) (pc (rnd Qag) (pw (pw pn)))))))) (qb (lcc (lc (rnd Qag) ln)) (qb (lc (rnd Qab) ln) (qb (lc rwl ln) qn))))⟩
       ·skip
        obtain⟨x54,hg55,h⟩:=bno h
        obtain⟨hi56,hj57⟩:=gsm hg55
        obtain⟨x59,hf58,h⟩:=bno h
        refine wxd tbk [(3,rp _ _),(5,⟨_,_,_,_,false⟩)] ⟨aiq underlying25 ti3 Qaa hi56 hj57,acq [(.agg [I x22.Use,(.dat 2 (x22.Stairs.map Qbl))]),I x54] [] [(Qqc x22),(.own 1 [[I x54]])] Q0l [5,6] Qpk (Qez N x22 x54 _ hf58) (Qb9 (rnc (.plain _ (NLt.agg _ (nlc nll (nlc (nld Qbu _) nl0)))) (rnc (.plain _ nll) rn0))) Qam (slc (Qaj (rnc (.plain _ nll) (rnc (pld Qbu) rn0))) (slc (Qaj (rnc (.plain _ nll) rn0)) Qam)) (Qap rn0 (rnc (Qeq rfl) (rnc (Qeq rfl) rn0))),tv⟩<|Qai ?_
        obtain⟨q60,hL61,h⟩:=bno h
        refine wmr (mto (n:=141) (l':=[(1,(.dat 1 (p1.map Qaa))),(3,.ref 0 3 0 0),(5,.ref 1 1 0 0),(6,.ref 2 1 0 0),(7,(Qhs x3)),(9,.ref 3 1 0 0),(39,(Qie p0)),(40,(I ((p0.Hours.length:Int)))),(41,I y17),(51,(.fn (.func 103) [] [.ref 4 2 0 0,.ref 5 1 0 0]))]) (own':=[(Qet p0),(Qes p2),(.own 1 [[B false]]),(.own 1 [[I y17]]),(Qqc x22),(.own 1 [[I x54]])]) [(1,(.dat 1 (p1.map Qaa))),(3,.ref 0 3 0 0),(5,.ref 1 1 0 0),(6,.ref 2 1 0 0),(7,(Qhs x3)),(9,.ref 3 1 0 0),(39,(Qie p0)),(40,(I ((p0.Hours.length:Int)))),(41,I y17),(51,Q0l)] [0,1,2,3,5,6] [(Qet p0),(Qes p2),(.own 1 [[B false]]),(.own 1 [[I y17]]),(Qqc x22),(.own 1 [[I x54]])] hq (pc (rnd Qab) (prr (prr (prr (pc (rnd Qab) (prr (pc (rnd Qag) (pw (pw (pc (.rn (Qap rn0 (rnc (rqr rfl) (rnc (rqr rfl) rn0)))) pn)))))))))) (qb (lcc (lc (rnd Qag) ln)) (qb (lc (rnd Qab) ln) (qb (lc rwl ln) (qb (lc rwl ln) (qb (lc rwl (lc (rnd Qbu) ln)) (qb (lc rwl ln) qn))))))) ?_
        refine Qgv (τ:=(Unit)) (kb:=6) (caps:=[.ref 4 2 0 0,.ref 5 1 0 0]) (σr:=[(Qqc x22),(.own 1 [[I x54]])]) (encs:=fun x=>[(.agg #[(.int .i64 x.1.Amount),(.int .i64 x.1.Price)]),(.int .i64 x.2)]) (fun x=>[(.agg [I x.1.Amount,I x.1.Price]),I x.2]) [4,5] (fun n hn=>hq n (Nat.le_trans (nle rfl) hn)) hd0 (Qey N x22.Use x22.Stairs x54 _ hL61) Qnr (by kernel_rfl) (by kernel_rfl) (Qb9 (rnc (Qeq rfl) (rnc (Qeq rfl) rn0))) (slc (Qaj (rnc (.plain _ nll) (rnc (pld Qbu) rn0))) (slc (Qaj (rnc (.plain _ nll) rn0)) Qam)) (by kernel_rfl) (fun _=>rfl) (fun x=>⟨(Less.unlits [(.int .i64 x.1.Amount),(.int .i64 x.1.Price)]),lrf,tv⟩) (Qmi (Qcg (NLt.of0 (nld Qab _)) (Qcg (NLt.ref _ _ _ _ (by decide)) (Qcg (NLt.ref _ _ _ _ (by decide)) (Qcg (NLt.ref _ _ _ _ (by decide)) (Qcg (NLt.of0 (nld Qab _)) (Qcg (NLt.ref _ _ _ _ (by decide)) (Qcg (NLt.of0 (nld Qag _)) (Qcg (NLt.of0 nll) (Qcg (NLt.of0 nll) (Qcg (NLt.fn _ _ _ nl0 (nlc (NLt.ref _ _ _ _ (by decide)) (nlc (NLt.ref _ _ _ _ (by decide)) nl0))) Qkp))))))))))) (fun _=>[(Qet p0),(Qes p2),(.own 1 [[B false]]),(.own 1 [[I y17]]),.dead,.dead]) (fun _=>rfl) (fun _=>rfl) (fun l t=>Qbb N p2 y17 k26 l=some r) () h (by kernel_rfl) ?_ ?_
        ·intro l65 o66 X69 φ70 w71 hφ68 x63 q64 t h
         rw[Qbb] at h
         refine wxz<|wxz1 ?_
         refine⟨by kernel_rfl,fun o67=>?_⟩
         refine Qai ?_
         refine bfe h (fun hb72 h=>?_) fun hb72 h=>?_
         ·obtain⟨x73,hg74,h⟩:=bno h
          obtain⟨hi75,hj76⟩:=gsm hg74
          refine hpre (A:=(Qqb x63 p2 y17 x73)) ⟨asb hb72 (amv rfl),ag_ (aiq underlying25 ti3 Qaa hi75 hj76),tv⟩ fun q5_=>?_
          refine bfe h (fun hb77 h=>?_) fun hb77 h=>?_
          ·refine wxd tbk (hcat (Qqb x63 p2 y17 x73) [(11,rp [(.tmp 64,(B ((decide (x63.1.Price>x73)))))] (B true))]) (hap q5_ ⟨asb hb77 (amv rfl),tv⟩)<|wtr<|wxz<|Qac<|Qal ?_
           refine⟨[(Qet p0),(Qes p2),(.own 1 [[B false]]),(.own 1 [[I y17]]),.dead,.dead],by kernel_rfl,?_,Qhg (own':=[(Qet p0),(Qes p2),(.own 1 [[B false]]),(.own 1 [[I y17]]),.dead,.dead,(.far (farL l65 o67))]) [0,1,2,3,4,5,6] [(Qet p0),(Qes p2),(.own 1 [[B false]]),(.own 1 [[I y17]]),.dead,.dead,(.far (farL l65 o67))] (by kernel_rfl) (by kernel_rfl) ⟨(spb (lc (.rn (.plain _ nll)) (lc (.rn (.plain _ nll)) (lc (rnd Qag) ln)))),(spb (lc (rnd Qab) ln)),(spb (lc (.rn (.plain _ nll)) ln)),(spb (lc (.rn (.plain _ nll)) ln)),.dead,.dead,.far _,tv⟩⟩
           refine Qal<|Qah<|Qal<|Qah<|Qah<|Qal<|Qah ?_
           obtain rfl:=osi h
           exact fend ⟨[B false],⟨Qbd (n:=2) (m:=1) (j:=0) (i:=0) (xs:=[[B false]]) (by kernel_rfl) (by kernel_rfl) ti4 (by decide) rfl (nle rfl) rfl,tv⟩,rfl⟩ nll
          ·refine bfe h (fun hb78 h=>?_) fun hb78 h=>?_
           ·refine wxd tbk (hcat (Qqb x63 p2 y17 x73) [(11,rp [(.tmp 64,(B ((decide (x63.1.Price>x73)))))] (B false)),(16,rp [(.tmp 65,B false),(.tmp 69,(B ((decide (x63.2<x63.1.Amount)))))] (B true)),(21,rp [(.tmp 70,B true),(.tmp 73,(.dat 1 (p2.map Qaa))),(.tmp 74,I y17)] (.dptr (Qaa x73) 0))]) (hap q5_ ⟨asb hb77 (amv rfl),asb hb78 (ag_ (amv rfl)),ag_ (aiq underlying25 ti3 Qaa hi75 hj76),tv⟩) ?_
            refine bfe h (fun hc79 h=>?_) fun hc79 h=>?_
            ·refine wft hc79<|wxz<|Qac<|Qal ?_
             refine⟨[(Qet p0),(Qes p2),(.own 1 [[B false]]),(.own 1 [[I y17]]),.dead,.dead],by kernel_rfl,?_,Qhg (own':=[(Qet p0),(Qes p2),(.own 1 [[B false]]),(.own 1 [[I y17]]),.dead,.dead,(.far (farL l65 o67))]) [0,1,2,3,4,5,6] [(Qet p0),(Qes p2),(.own 1 [[B false]]),(.own 1 [[I y17]]),.dead,.dead,(.far (farL l65 o67))] (by kernel_rfl) (by kernel_rfl) ⟨(spb (lc (.rn (.plain _ nll)) (lc (.rn (.plain _ nll)) (lc (rnd Qag) ln)))),(spb (lc (rnd Qab) ln)),(spb (lc (.rn (.plain _ nll)) ln)),(spb (lc (.rn (.plain _ nll)) ln)),.dead,.dead,.far _,tv⟩⟩
             refine Qal<|Qah<|Qal<|Qah<|Qah<|Qal<|Qah ?_
             obtain rfl:=osi h
             exact fend ⟨[B false],⟨Qbd (n:=2) (m:=1) (j:=0) (i:=0) (xs:=[[B false]]) (by kernel_rfl) (by kernel_rfl) ti4 (by decide) rfl (nle rfl) rfl,tv⟩,rfl⟩ nll
            ·exact wfn hc79<|Qaf<|bln<|⟨(),h,Qhg (own':=[(Qet p0),(Qes p2),(.own 1 [[B false]]),(.own 1 [[I y17]]),.dead,.dead,(.far (farL l65 o67))]) [0,1,2,3,4,5,6] [(Qet p0),(Qes p2),(.own 1 [[B false]]),(.own 1 [[I y17]]),.dead,.dead,(.far (farL l65 o67))] (by kernel_rfl) (by kernel_rfl) ⟨(spb (lcc (lc (rnd Qag) ln))),(spb (lc (rnd Qab) ln)),(spb (lc rwl ln)),(spb (lc rwl ln)),.dead,.dead,.far _,tv⟩⟩
           ·exact wxd tbk (hcat (Qqb x63 p2 y17 x73) [(11,rp [(.tmp 64,(B ((decide (x63.1.Price>x73)))))] (B false)),(16,rp [(.tmp 65,B false),(.tmp 69,(B ((decide (x63.2<x63.1.Amount)))))] (B false))]) (hap q5_ ⟨asb hb77 (amv rfl),asb hb78 (ag_ (amv rfl)),tv⟩)<|wfa<|Qaf<|bln<|⟨(),h,Qhg (own':=[(Qet p0),(Qes p2),(.own 1 [[B false]]),(.own 1 [[I y17]]),.dead,.dead,(.far (farL l65 o67))]) [0,1,2,3,4,5,6] [(Qet p0),(Qes p2),(.own 1 [[B false]]),(.own 1 [[I y17]]),.dead,.dead,(.far (farL l65 o67))] (by kernel_rfl) (by kernel_rfl) ⟨(spb (lcc (lc (rnd Qag) ln))),(spb (lc (rnd Qab) ln)),(spb (lc rwl ln)),(spb (lc rwl ln)),.dead,.dead,.far _,tv⟩⟩
         ·refine bfe h (fun hb80 h=>?_) fun hb80 h=>?_
          ·obtain⟨x81,hg82,h⟩:=bno h
           obtain⟨hi83,hj84⟩:=gsm hg82
           refine wxd tbk [(2,rp [(.tmp 55,(B ((decide (x63.2>0)))))] (B false)),(16,rp [(.tmp 65,B false),(.tmp 69,(B ((decide (x63.2<x63.1.Amount)))))] (B true)),(21,rp [(.tmp 70,B true),(.tmp 73,(.dat 1 (p2.map Qaa))),(.tmp 74,I y17)] (.dptr (Qaa x81) 0))] ⟨asb hb72 (amv rfl),asb hb80 (ag_ (amv rfl)),ag_ (aiq underlying25 ti3 Qaa hi83 hj84),tv⟩ ?_
           refine bfe h (fun hc85 h=>?_) fun hc85 h=>?_
           ·refine wft hc85<|wxz<|Qac<|Qal ?_
            refine⟨[(Qet p0),(Qes p2),(.own 1 [[B false]]),(.own 1 [[I y17]]),.dead,.dead],by kernel_rfl,?_,Qhg (own':=[(Qet p0),(Qes p2),(.own 1 [[B false]]),(.own 1 [[I y17]]),.dead,.dead,(.far (farL l65 o67))]) [0,1,2,3,4,5,6] [(Qet p0),(Qes p2),(.own 1 [[B false]]),(.own 1 [[I y17]]),.dead,.dead,(.far (farL l65 o67))] (by kernel_rfl) (by kernel_rfl) ⟨(spb (lc (.rn (.plain _ nll)) (lc (.rn (.plain _ nll)) (lc (rnd Qag) ln)))),(spb (lc (rnd Qab) ln)),(spb (lc (.rn (.plain _ nll)) ln)),(spb (lc (.rn (.plain _ nll)) ln)),.dead,.dead,.far _,tv⟩⟩
            refine Qal<|Qah<|Qal<|Qah<|Qah<|Qal<|Qah ?_
            obtain rfl:=osi h
            exact fend ⟨[B false],⟨Qbd (n:=2) (m:=1) (j:=0) (i:=0) (xs:=[[B false]]) (by kernel_rfl) (by kernel_rfl) ti4 (by decide) rfl (nle rfl) rfl,tv⟩,rfl⟩ nll
           ·exact wfn hc85<|Qaf<|bln<|⟨(),h,Qhg (own':=[(Qet p0),(Qes p2),(.own 1 [[B false]]),(.own 1 [[I y17]]),.dead,.dead,(.far (farL l65 o67))]) [0,1,2,3,4,5,6] [(Qet p0),(Qes p2),(.own 1 [[B false]]),(.own 1 [[I y17]]),.dead,.dead,(.far (farL l65 o67))] (by kernel_rfl) (by kernel_rfl) ⟨(spb (lcc (lc (rnd Qag) ln))),(spb (lc (rnd Qab) ln)),(spb (lc rwl ln)),(spb (lc rwl ln)),.dead,.dead,.far _,tv⟩⟩
          ·exact wxd tbk [(2,rp [(.tmp 55,(B ((decide (x63.2>0)))))] (B false)),(16,rp [(.tmp 65,B false),(.tmp 69,(B ((decide (x63.2<x63.1.Amount)))))] (B false))] ⟨asb hb72 (amv rfl),asb hb80 (ag_ (amv rfl)),tv⟩<|wfa<|Qaf<|bln<|⟨(),h,Qhg (own':=[(Qet p0),(Qes p2),(.own 1 [[B false]]),(.own 1 [[I y17]]),.dead,.dead,(.far (farL l65 o67))]) [0,1,2,3,4,5,6] [(Qet p0),(Qes p2),(.own 1 [[B false]]),(.own 1 [[I y17]]),.dead,.dead,(.far (farL l65 o67))] (by kernel_rfl) (by kernel_rfl) ⟨(spb (lcc (lc (rnd Qag) ln))),(spb (lc (rnd Qab) ln)),(spb (lc rwl ln)),(spb (lc rwl ln)),.dead,.dead,.far _,tv⟩⟩
        ·intro t h
         rw[Qbb] at h
         exact bln<|thn<|⟨(),h,(mto (n:=141) [(1,(.dat 1 (p1.map Qaa))),(3,.ref 0 3 0 0),(5,.ref 1 1 0 0),(6,.ref 2 1 0 0),(7,(Qhs x3)),(9,.ref 3 1 0 0),(39,(Qie p0)),(40,(I ((p0.Hours.length:Int)))),(41,I y17)] [0,1,2,3] [(Qet p0),(Qes p2),(.own 1 [[B false]]),(.own 1 [[I y17]])] hq (pc (rnd Qab) (prr (prr (prr (pc (rnd Qab) (prr (pc (rnd Qag) (pw (pw pn))))))))) (qb (lcc (lc (rnd Qag) ln)) (qb (lc (rnd Qab) ln) (qb (lc rwl ln) (qb (lc rwl ln) qn)))))⟩
     ·exact wfn hc20<|Qax<|Qan<|Qan<|Qaw rfl<|thn<|⟨(),h,(mto (n:=141) [(3,.ref 0 3 0 0),(5,.ref 1 1 0 0),(6,.ref 2 1 0 0),(7,(Qhs x3))] [0,1,2] [(Qet p0),(Qes p2),(.own 1 [[B false]])] hq (prr (prr (prr (pc (rnd Qab) pn)))) (qb (lcc (lc (rnd Qag) ln)) (qb (lc (rnd Qab) ln) (qb (lc rwl ln) qn))))⟩
  ·skip
   obtain⟨x87,hf86,h⟩:=bno h
   refine hpre (A:=(Qsr p0 x87)) ⟨apv Qlw (Qd8 N p0 _ hf86) (nlc (NLt.agg _ (nlcc (nlc (nld Qag _) nl0))) nl0) nll,tv⟩ fun q6_=>?_
   refine bfe h (fun hb88 h=>?_) fun hb88 h=>?_
   ·refine wx tbk (hcat (Qsr p0 x87) [(3,rp [(.tmp 16,(B ((!x87))))] (B true))]) (hap q6_ ⟨asb hb88 (amv rfl),tv⟩)<|wtr<|wxz<|Qac<|Qah ?_
    obtain rfl:=osi h
    exact fend ⟨[B false],⟨Qbd (n:=2) (m:=1) (j:=0) (i:=0) (xs:=[[B false]]) (by kernel_rfl) (by kernel_rfl) ti4 (by decide) rfl (nle rfl) rfl,tv⟩,rfl⟩ nll
   ·refine hpre (A:=(Qsq p0 x87 p2)) (hap q6_ ⟨asb hb88 (amv rfl),ag_ (alq 1 Qaa p2 underlying25),ag_ (alq 2 Qay p0.Hours underlying55),tv⟩) fun q7_=>?_
    refine bfe h (fun hb89 h=>?_) fun hb89 h=>?_
    ·refine wx tbk (hcat (Qsq p0 x87 p2) [(11,rp [(.tmp 24,(B (((p2.length:Int) != (p0.Hours.length:Int)))))] (B true))]) (hap q7_ ⟨asb hb89 (amv rfl),tv⟩)<|wtr<|wxz<|Qac<|Qah ?_
     obtain rfl:=osi h
     exact fend ⟨[B false],⟨Qbd (n:=2) (m:=1) (j:=0) (i:=0) (xs:=[[B false]]) (by kernel_rfl) (by kernel_rfl) ti4 (by decide) rfl (nle rfl) rfl,tv⟩,rfl⟩ nll
    ·obtain⟨x91,hf90,h⟩:=bno h
     refine wx tbk (hcat (Qsq p0 x87 p2) [(11,rp [(.tmp 24,(B (((p2.length:Int) != (p0.Hours.length:Int)))))] (B false)),(13,rp [(.tmp 25,B false),fu 73,(.tmp 26,(.dat 1 (p2.map Qaa))),fu 74] (B x91))]) (hap q7_ ⟨asb hb89 (amv rfl),ag_ (acq [(.dat 1 (p2.map Qaa)),(.fn (.func 74) [] [])] [] [] (B x91) [] Qug (Qj5 N p2 _ hf90) (Qb9 (rnc (pld Qab) (rnc (.plain _ (NLt.fn _ _ _ nl0 nl0)) rn0))) Qam Qam (.plain _ nll)),tv⟩) ?_
     refine bfe h (fun hc92 h=>?_) fun hc92 h=>?_
     ·refine wft hc92<|wxz<|Qac<|Qah ?_
      obtain rfl:=osi h
      exact fend ⟨[B false],⟨Qbd (n:=2) (m:=1) (j:=0) (i:=0) (xs:=[[B false]]) (by kernel_rfl) (by kernel_rfl) ti4 (by decide) rfl (nle rfl) rfl,tv⟩,rfl⟩ nll
     ·exact wfn hc92<|Qaf<|thn<|⟨(),h,(mto (n:=141) [(1,(.dat 1 (p1.map Qaa))),(3,.ref 0 3 0 0),(5,.ref 1 1 0 0),(6,.ref 2 1 0 0)] [0,1,2] [(Qet p0),(Qes p2),(.own 1 [[B false]])] hq (pc (rnd Qab) (prr (prr (prr pn)))) (qb (lcc (lc (rnd Qag) ln)) (qb (lc (rnd Qab) ln) (qb (lc rwl ln) qn))))⟩
end
section
def Qis (_N:Nat):Option Unit:=
  some ()
abbrev Qw5:AV:=.agg [(I (10)),(I (0)),(.own 1 2 (0) (3))]
abbrev Qw7:Slot:=.own 3 [[(I (10)),(I (0)),(.own 1 2 (0) (3))]]
abbrev Qw6:Slot:=.own 6 [[(I (5)),(.own 2 2 (0) (1)),(I (8)),(.own 3 2 (0) (1)),(I (6)),(.own 4 2 (0) (1))]]
abbrev Qvi:Slot:=.own 2 [[(I (20)),(I (1))]]
abbrev Qvh:Slot:=.own 2 [[(I (5)),(I (4))]]
abbrev Qvg:Slot:=.own 2 [[(I (9)),(I (2))]]
def Qz6:AV:=.agg [(I (20)),(I (1))]
def Qz5:AV:=.agg [(I (5)),(.own 1 2 (0) (1))]
def Qz4:AV:=.agg [(I (5)),(I (4))]
def Qz3:AV:=.agg [(I (8)),(.own 2 2 (0) (1))]
def Qz2:AV:=.agg [(I (9)),(I (2))]
def Qz1:AV:=.agg [(I (6)),(.own 3 2 (0) (1))]
def Qw8:Slot:=.own 6 [[(I (5)),(.own 1 2 (0) (1)),(I (8)),(.own 2 2 (0) (1)),(I (6)),(.own 3 2 (0) (1))]]
theorem Qlu (N:Nat) (r:Unit) (h:Qis N=some r):Spec prog 28 [] [] Qw5 [Qw7,Qw6,Qvi,Qvh,Qvg]:=by
  refine sF func28 5 fun _ _ _ hq hd0=>?_
  unfold Qis at h
  refine wxz<|wx tbk [(0,rp _ _),(1,⟨[(.tmp 1,Qz6)],[(1,.unused)],(.own 1 2 (0) (1)),[(1,Qvi)],false⟩),(2,rp _ _),(3,rp _ _),(4,⟨[(.tmp 4,Qz4)],[(2,.unused)],(.own 2 2 (0) (1)),[(2,Qvh)],false⟩),(5,rp _ _),(6,rp _ _),(7,⟨[(.tmp 7,Qz2)],[(3,.unused)],(.own 3 2 (0) (1)),[(3,Qvg)],false⟩),(8,rp _ _),(9,⟨[(.tmp 3,Qz5),(.tmp 6,Qz3),(.tmp 9,Qz1)],[(4,.unused)],(.own 4 2 (0) (3)),[(4,Qw8)],false⟩),(10,rp _ _)] ⟨Qak (vs:=[I 20,I 1]) rfl ts64 tz64 rfl (by rfl) rfl,Qh8 (Qj9 (xs:=[[I 20,I 1]]) (by kernel_rfl) rfl rfl) (Qgr (vs:=[Qz6]) rfl underlying60 ti64 tz64 rfl (by decide) rfl (by decide) (by rfl) (by rfl) (by rfl) rfl),Qak (vs:=[I 5,(.own 1 2 (0) (1))]) rfl ts62 tz62 rfl (by rfl) rfl,Qak (vs:=[I 5,I 4]) rfl ts64 tz64 rfl (by rfl) rfl,Qh8 (Qj9 (xs:=[[I 5,I 4]]) (by kernel_rfl) rfl rfl) (Qgr (vs:=[Qz4]) rfl underlying60 ti64 tz64 rfl (by decide) rfl (by decide) (by rfl) (by rfl) (by rfl) rfl),Qak (vs:=[I 8,(.own 2 2 (0) (1))]) rfl ts62 tz62 rfl (by rfl) rfl,Qak (vs:=[I 9,I 2]) rfl ts64 tz64 rfl (by rfl) rfl,Qh8 (Qj9 (xs:=[[I 9,I 2]]) (by kernel_rfl) rfl rfl) (Qgr (vs:=[Qz2]) rfl underlying60 ti64 tz64 rfl (by decide) rfl (by decide) (by rfl) (by rfl) (by rfl) rfl),Qak (vs:=[I 6,(.own 3 2 (0) (1))]) rfl ts62 tz62 rfl (by rfl) rfl,Qh8 (Qj9 (xs:=[[I 5,(.own 1 2 (0) (1))],[I 8,(.own 2 2 (0) (1))],[I 6,(.own 3 2 (0) (1))]]) (by kernel_rfl) rfl rfl) (Qgr (vs:=[Qz5,Qz3,Qz1]) rfl underlying55 ti62 tz62 rfl (by decide) rfl (by decide) (by rfl) (by rfl) (by rfl) rfl),Qak (vs:=[I 10,(.own 4 2 (0) (3))]) rfl ts57 tz57 rfl (by rfl) rfl,tv⟩ ?_
  refine wmr (mto (n:=12) (l':=[(0,.ref 0 3 0 0)]) (own':=[Qw7,Qw6,Qvi,Qvh,Qvg]) [(0,.ref 0 3 0 0)] [0,4,1,2,3] [(.own 3 [[I 10,I 0,(.own 4 2 (0) (3))]]),Qw8,Qvi,Qvh,Qvg] hq (prr pn) (qb (lcc (lc (.rn (Qae rfl)) ln)) (qb (lc rwl (lc (.rn (Qae rfl)) (lc rwl (lc (.rn (Qae rfl)) (lc rwl (lc (.rn (Qae rfl)) ln)))))) (qb (lcc ln) (qb (lcc ln) (qb (lcc ln) qn))))))<|Qac ?_
  obtain rfl:=osi h
  exact⟨_,Mor.rfl,fio [Qw5] ⟨Qbd (n:=0) (m:=3) (j:=0) (i:=0) (xs:=[[I 10,I 0,(.own 1 2 (0) (3))]]) (by kernel_rfl) (by kernel_rfl) ti57 (by decide) rfl (nle rfl) rfl,tv⟩⟩
def Qgn (N:Nat):Option Bool:=
  (Qf2 2000 ).bind fun x2=>
  (Qhx N x2 ([0,10,48,30])).bind fun x4=>
  (Qf2 2000 ).bind fun x6=>
  (Qhw N x6 (⟨[(⟨0,0⟩:Qcv),(⟨10,0⟩:Qcv),(⟨20,0⟩:Qcv),(⟨30,0⟩:Qcv)],[(⟨0,0⟩:Qcv),(⟨80,0⟩:Qcv),(⟨0,0⟩:Qcv),(⟨0,0⟩:Qcv)],[false,true,false,false]⟩:Qf6)).bind fun x8=>
  (Qin N ([(⟨1000,30⟩:Qb8),(⟨2000,50⟩:Qb8)]) 1500).bind fun x10=>
  (Qiz N ([(⟨1000,30⟩:Qb8),(⟨2000,50⟩:Qb8)]) 999 500).bind fun x12=>
  (Qkl N (⟨(⟨10,5000,0,0⟩:Qct),420⟩:Qk1) 1000).bind fun x14=>
  Qcx (fun _=>
    (Qis N).bind fun _=>
    (Qhv N (⟨10,0,[(⟨5,[(⟨7,1⟩:Qbc)]⟩:Qbw),(⟨8,[(⟨5,4⟩:Qbc)]⟩:Qbw),(⟨6,[(⟨9,2⟩:Qbc)]⟩:Qbw)]⟩:GDay)).bind fun x19=>
    (Qf7 N (⟨10,0,[(⟨5,[(⟨7,1⟩:Qbc)]⟩:Qbw),(⟨8,[(⟨5,4⟩:Qbc)]⟩:Qbw),(⟨6,[(⟨9,2⟩:Qbc)]⟩:Qbw)]⟩:GDay)).bind fun x21=>
    (Qfg 2000 ).bind fun x23=>
    (Qhv N x23).bind fun x25=>
    (Qfg 2000 ).bind fun x27=>
    (Qkm N x27 ([20,0,0])).bind fun x29=>
    (Qiz N ([(⟨1000,30⟩:Qb8),(⟨2000,50⟩:Qb8)]) (-1) 500).bind fun x31=>
    bif (x19.2.2==0) then
     bif (x19.1==1) then
      bif (x19.2.1==1) then
       bif (x21.2.2.2==7) then
        bif (x25.2.2==7) then
         bif (x29.2==2) then
          bif (x31.2==2) then
           (Qfg 2000 ).bind fun x40=>
           (Qdr N x40 ([15,0,4]) ([1,2,2])).bind fun x42=>
           bif x42 then
            (Qfg 2000 ).bind fun x45=>
            (Qdr N x45 ([15,0,4]) ([1,1,2])).bind fun x47=>
            bif (!x47) then
             (Qfg 2000 ).bind fun x50=>
             (Qdr N x50 ([13,0,6]) ([1,1,2])).bind fun x52=>
             bif (!x52) then
              (Qg5 N ([])).bind fun x55=>
              bif (x55==1) then
               (Qhk N (⟨0,0,[]⟩:GDay)).bind fun x58=>
               bif (x58==1) then
                (Qir 2000 ).bind fun x61=>
                some x61
               else
                some false
              else
               some false
             else
              some false
            else
             some false
           else
            some false
          else
           some false
         else
          some false
        else
         some false
       else
        some false
      else
       some false
     else
      some false
    else
     some false) fun k15:Unit→Option Bool=>
  bif (x4.2.2 != 11) then
   some false
  else
   bif (x4.2.1 != 2) then
    some false
   else
    bif (x8.2 != 0) then
     some false
    else
     bif ((x8.1.length:Int) != 4) then
      some false
     else
      (getI x8.1 1).bind fun x66=>
      bif (!(([x66.Lo,x66.Hi]:List Int)==[10,10])) then
       some false
      else
       bif (x10.2 != 0) then
        some false
       else
        bif (x10.1 != 55) then
         some false
        else
         bif (x12.2 != 0) then
          some false
         else
          bif (x12.1 != 25) then
           some false
          else
           bif (x14.2.2 != 0) then
            some false
           else
            bif (x14.2.1 != 800) then
             some false
            else
             bif (!(([x14.1.Mass,x14.1.Heat,x14.1.Silica,x14.1.Gas]:List Int)==[10,4200,0,0])) then
              some false
             else
              k15 ()
def Q10:AV:=.dat 1 (([0,10,48,30]:List Int).map Qaa)
def Qn5:AV:=.agg [(I (0)),(I (0))]
def Q0d:AV:=.agg [(I (10)),(I (0))]
def Q0a:AV:=.agg [(I (20)),(I (0))]
def Qz9:AV:=.agg [(I (30)),(I (0))]
def Qz8:AV:=.dat 2 (([(⟨0,0⟩:Qcv),(⟨10,0⟩:Qcv),(⟨20,0⟩:Qcv),(⟨30,0⟩:Qcv)]:List Qcv).map Qd0)
def Qz7:AV:=.agg [(I (80)),(I (0))]
def Qxo:AV:=.dat 2 (([(⟨0,0⟩:Qcv),(⟨80,0⟩:Qcv),(⟨0,0⟩:Qcv),(⟨0,0⟩:Qcv)]:List Qcv).map Qd0)
def Qxn:AV:=.dat 1 (([false,true,false,false]:List Bool).map Qd9)
def Qxm:AV:=.agg [(I (1000)),(I (30))]
def Qxl:AV:=.agg [(I (2000)),(I (50))]
def Qso:AV:=.dat 2 (([(⟨1000,30⟩:Qb8),(⟨2000,50⟩:Qb8)]:List Qb8).map Qcl)
def Q0h:AV:=.agg [(I (10)),(I (5000)),(I (0)),(I (0))]
def Q0g (x14:(Qct×Int×Int)):AV:=.agg [(I x14.1.Mass),(I x14.1.Heat),(I x14.1.Silica),(I x14.1.Gas)]
def Qsl:AV:=.agg [(I (10)),(I (0)),(.own 1 2 (0) (3))]
def Q0f:Slot:=.own 3 [[(I (10)),(I (0)),(.own 1 2 (0) (3))]]
def Qqa:Slot:=.own 6 [[(I (5)),(.own 2 2 (0) (1)),(I (8)),(.own 3 2 (0) (1)),(I (6)),(.own 4 2 (0) (1))]]
def Qxj:Slot:=.own 2 [[(I (20)),(I (1))]]
def Qsn:Slot:=.own 2 [[(I (5)),(I (4))]]
def Qsm:Slot:=.own 2 [[(I (9)),(I (2))]]
def Qxf:AV:=.agg [(I (10)),(I (0)),(.dat 2 (([(⟨5,[(⟨7,1⟩:Qbc)]⟩:Qbw),(⟨8,[(⟨5,4⟩:Qbc)]⟩:Qbw),(⟨6,[(⟨9,2⟩:Qbc)]⟩:Qbw)]:List Qbw).map Qay))]
def Qxi:AV:=.dat 2 (([(⟨7,1⟩:Qbc)]:List Qbc).map Qbl)
def Qxh:AV:=.dat 2 (([(⟨5,4⟩:Qbc)]:List Qbc).map Qbl)
def Qxg:AV:=.dat 2 (([(⟨9,2⟩:Qbc)]:List Qbc).map Qbl)
def Q0e:AV:=.dat 1 (([20,0,0]:List Int).map Qaa)
def Qsk (x19:(Int×Int×Int)):List (Nat×Rec):=[(2,rp [((.tmp 151),(B ((x19.2.2==0))))] (B true))]
def Qsj x19:=hcat (Qsk x19) [(6,rp [((.tmp 155),(B ((x19.1==1))))] (B true))]
def Qsi x19:=hcat (Qsj x19) [(10,rp [((.tmp 159),(B ((x19.2.1==1))))] (B true))]
def Qsh x19 (x21:((List Int)×(List Int)×Int×Int)):=hcat (Qsi x19) [(14,rp [((.tmp 163),(B ((x21.2.2.2==7))))] (B true))]
def Qsg x19 x21 (x25:(Int×Int×Int)):=hcat (Qsh x19 x21) [(18,rp [((.tmp 167),(B ((x25.2.2==7))))] (B true))]
def Qsf x19 x21 x25 (x29:(Int×Int)):=hcat (Qsg x19 x21 x25) [(22,rp [((.tmp 171),(B ((x29.2==2))))] (B true))]
def Qxe (x40:GDay):AV:=.agg [(I x40.Tank),(I x40.Start),(.dat 2 (x40.Hours.map Qay))]
def Qp9:AV:=.dat 1 (([15,0,4]:List Int).map Qaa)
def Qxd:AV:=.dat 1 (([1,2,2]:List Int).map Qaa)
def Qse x19 x21 x25 x29 (x31:(Int×Int)) (x40:GDay) (x42:Bool):=hcat (Qsf x19 x21 x25 x29) [(26,rp [((.tmp 175),(B ((x31.2==2))))] (B true)),(27,rp [((.tmp 176),(B true)),fu 28] (Qxe x40)),(28,rp [((.tmp 176),(B true)),ci 15,ci 0,ci 4] Qp9),(29,rp [((.tmp 176),(B true)),ci 1,ci 2,ci 2] Qxd),(30,rp [((.tmp 176),(B true)),fu 31,((.tmp 177),(Qxe x40)),((.tmp 178),Qp9),((.tmp 179),Qxd)] (B x42))]
def Qxc (x45:GDay):AV:=.agg [(I x45.Tank),(I x45.Start),(.dat 2 (x45.Hours.map Qay))]
def Qp8:AV:=.dat 1 (([1,1,2]:List Int).map Qaa)
def Qsd x19 x21 x25 x29 x31 x40 x42 (x45:GDay) (x47:Bool):=hcat (Qse x19 x21 x25 x29 x31 x40 x42) [(32,rp [((.tmp 181),(B x42))] (B true)),(33,rp [((.tmp 182),(B true)),fu 28] (Qxc x45)),(34,rp [((.tmp 182),(B true)),ci 15,ci 0,ci 4] Qp9),(35,rp [((.tmp 182),(B true)),ci 1,ci 1,ci 2] Qp8),(36,rp [((.tmp 182),(B true)),fu 31,((.tmp 183),(Qxc x45)),((.tmp 184),Qp9),((.tmp 185),Qp8)] (B x47))]
def Qxb (x50:GDay):AV:=.agg [(I x50.Tank),(I x50.Start),(.dat 2 (x50.Hours.map Qay))]
def Qxa:AV:=.dat 1 (([13,0,6]:List Int).map Qaa)
def Qsc x19 x21 x25 x29 x31 x40 x42 x45 x47 (x50:GDay) (x52:Bool):=hcat (Qsd x19 x21 x25 x29 x31 x40 x42 x45 x47) [(39,rp [((.tmp 188),(B ((!x47))))] (B true)),(40,rp [((.tmp 189),(B true)),fu 28] (Qxb x50)),(41,rp [((.tmp 189),(B true)),ci 13,ci 0,ci 6] Qxa),(42,rp [((.tmp 189),(B true)),ci 1,ci 1,ci 2] Qp8),(43,rp [((.tmp 189),(B true)),fu 31,((.tmp 190),(Qxb x50)),((.tmp 191),Qxa),((.tmp 192),Qp8)] (B x52))]
def Qsb x19 x21 x25 x29 x31 x40 x42 x45 x47 x50 x52 (x55:Int):=hcat (Qsc x19 x21 x25 x29 x31 x40 x42 x45 x47 x50 x52) [(46,rp [((.tmp 195),(B ((!x52))))] (B true)),(47,rp [((.tmp 196),(B true)),fu 32,((.const (.slice none 0 0)),nilS)] (I x55))]
def Q0c:AV:=.dat 4 (([]:List Qaz).map Qas)
def Qw9:AV:=.agg [(I (0)),(I (0)),nilS]
def Qsa x19 x21 x25 x29 x31 x40 x42 x45 x47 x50 x52 x55 (x58:Int):=hcat (Qsb x19 x21 x25 x29 x31 x40 x42 x45 x47 x50 x52 x55) [(50,rp [((.tmp 199),(B ((x55==1))))] (B true)),(51,rp [((.tmp 200),(B true))] Qw9),(52,rp [((.tmp 200),(B true)),fu 33,((.tmp 201),Qw9)] (I x58))]
def Q0b:AV:=.agg [(I (0)),(I (0)),(.dat 2 (([]:List Qbw).map Qay))]
def Qr9 (x4:((List Int)×Int×Int)):List (Nat×Rec):=[(2,rp [((.tmp 62),(B ((x4.2.2 != 11))))] (B false))]
def Qr8 x4:=hcat (Qr9 x4) [(6,rp [((.tmp 66),(B ((x4.2.1 != 2))))] (B false))]
def Qr7 x4 (x8:((List Qbx)×Int)):=hcat (Qr8 x4) [(10,rp [((.tmp 70),(B ((x8.2 != 0))))] (B false)),(12,rp [((.tmp 71),(B false)),((.tmp 72),(.dat 2 (x8.1.map Qbm)))] (I ((x8.1.length:Int))))]
def Qr6 x4 x8 (x66:Qbx):=hcat (Qr7 x4 x8) [(15,rp [((.tmp 75),(B (((x8.1.length:Int) != 4))))] (B false)),(17,rp [((.tmp 76),(B false)),((.tmp 77),(.dat 2 (x8.1.map Qbm))),ci 1] (.dptr (Qbm x66) 0)),(19,rp [((.tmp 76),(B false)),ci 10,ci 10] (.agg [(I (10)),(I (10))])),(20,rp [((.tmp 76),(B false)),((.tmp 79),(.agg [(I x66.Lo),(I x66.Hi)])),((.tmp 80),(.agg [(I (10)),(I (10))]))] (B ((!(([x66.Lo,x66.Hi]:List Int)==[10,10])))))]
def Qr5 x4 x8 x66:=hcat (Qr6 x4 x8 x66) [(22,rp [((.tmp 82),(B ((!(([x66.Lo,x66.Hi]:List Int)==[10,10])))))] (B false))]
def Qr4 x4 x8 x66 (x10:(Int×Int)):=hcat (Qr5 x4 x8 x66) [(26,rp [((.tmp 86),(B ((x10.2 != 0))))] (B false))]
def Qr3 x4 x8 x66 x10:=hcat (Qr4 x4 x8 x66 x10) [(30,rp [((.tmp 90),(B ((x10.1 != 55))))] (B false))]
def Qr2 x4 x8 x66 x10 (x12:(Int×Int)):=hcat (Qr3 x4 x8 x66 x10) [(34,rp [((.tmp 94),(B ((x12.2 != 0))))] (B false))]
def Qp7 x4 x8 x66 x10 x12:=hcat (Qr2 x4 x8 x66 x10 x12) [(38,rp [((.tmp 98),(B ((x12.1 != 25))))] (B false))]
def Qxk:AV:=.agg [(I (10)),(I (4200)),(I (0)),(I (0))]
theorem Qjs (N:Nat) (r:Bool) (h:Qgn N=some r):Spec prog 5 [] [] (B r) []:=by
  refine sA func5 0 fun _ _ _ hq hd0=>?_
  unfold Qgn at h
  refine wxz ?_
  obtain⟨x2,hf1,h⟩:=bno h
  obtain⟨x4,hf3,h⟩:=bno h
  refine wx tbk [(0,rp _ _),(1,rp [ci 0,ci 10,ci 48,ci 30] Q10),(2,rp _ _)] ⟨apw Qnp (Qf8 2000  _ hf1),Qa6 (vs:=[I 0,I 10,I 48,I 30]) rfl underlying25 ti3 tz3 rfl (by decide) rfl (by decide) (by rfl) (by rfl) (by rfl) rfl,apw Qut (Qjc N x2 ([0,10,48,30]) _ hf3),tv⟩ ?_
  obtain⟨x6,hf5,h⟩:=bno h
  obtain⟨x8,hf7,h⟩:=bno h
  refine wx tbk [(0,rp _ _),(1,rp _ _),(2,rp _ _),(3,rp _ _),(4,rp _ _),(5,rp [(.tmp 26,Qn5),(.tmp 27,Q0d),(.tmp 28,Q0a),(.tmp 29,Qz9)] Qz8),(6,rp _ _),(7,rp _ _),(8,rp _ _),(9,rp _ _),(10,rp [(.tmp 31,Qn5),(.tmp 32,Qz7),(.tmp 33,Qn5),(.tmp 34,Qn5)] Qxo),(11,rp [cb false,cb true,cb false,cb false] Qxn),(12,rp _ _),(13,rp _ _)] ⟨apw Qnp (Qf8 2000  _ hf5),Qak (vs:=[]) rfl ts75 tz75 rfl (by rfl) rfl,Qak (vs:=[I 10]) rfl ts75 tz75 rfl (by rfl) rfl,Qak (vs:=[I 20]) rfl ts75 tz75 rfl (by rfl) rfl,Qak (vs:=[I 30]) rfl ts75 tz75 rfl (by rfl) rfl,Qa6 (vs:=[Qn5,Q0d,Q0a,Qz9]) rfl underlying76 ti75 tz75 rfl (by decide) rfl (by decide) (by rfl) (by rfl) (by rfl) rfl,Qak (vs:=[]) rfl ts75 tz75 rfl (by rfl) rfl,Qak (vs:=[I 80]) rfl ts75 tz75 rfl (by rfl) rfl,Qak (vs:=[]) rfl ts75 tz75 rfl (by rfl) rfl,Qak (vs:=[]) rfl ts75 tz75 rfl (by rfl) rfl,Qa6 (vs:=[Qn5,Qz7,Qn5,Qn5]) rfl underlying76 ti75 tz75 rfl (by decide) rfl (by decide) (by rfl) (by rfl) (by rfl) rfl,Qa6 (vs:=[B false,B true,B false,B false]) rfl underlying77 ti4 tz4 rfl (by decide) rfl (by decide) (by rfl) (by rfl) (by rfl) rfl,Qak (vs:=[Qz8,Qxo,Qxn]) rfl ts79 tz79 rfl (by rfl) rfl,apw Qzp (Qk7 N x6 (⟨[(⟨0,0⟩:Qcv),(⟨10,0⟩:Qcv),(⟨20,0⟩:Qcv),(⟨30,0⟩:Qcv)],[(⟨0,0⟩:Qcv),(⟨80,0⟩:Qcv),(⟨0,0⟩:Qcv),(⟨0,0⟩:Qcv)],[false,true,false,false]⟩:Qf6) _ hf7),tv⟩ ?_
  refine wx tbk [(0,rp _ _),(1,rp _ _),(2,rp [(.tmp 41,Qxm),(.tmp 42,Qxl)] Qso)] ⟨Qak (vs:=[I 1000,I 30]) rfl ts81 tz81 rfl (by rfl) rfl,Qak (vs:=[I 2000,I 50]) rfl ts81 tz81 rfl (by rfl) rfl,Qa6 (vs:=[Qxm,Qxl]) rfl underlying82 ti81 tz81 rfl (by decide) rfl (by decide) (by rfl) (by rfl) (by rfl) rfl,tv⟩ ?_
  obtain⟨x10,hf9,h⟩:=bno h
  refine wx tbk [(1,rp _ _)] ⟨apw Qzo (Qlk N ([(⟨1000,30⟩:Qb8),(⟨2000,50⟩:Qb8)]) 1500 _ hf9),tv⟩ ?_
  obtain⟨x12,hf11,h⟩:=bno h
  refine wx tbk [(1,rp _ _)] ⟨apw Qus (Qj8 N ([(⟨1000,30⟩:Qb8),(⟨2000,50⟩:Qb8)]) 999 500 _ hf11),tv⟩ ?_
  obtain⟨x14,hf13,h⟩:=bno h
  refine wx tbk [(0,rp _ _),(1,rp _ _),(2,rp _ _)] ⟨Qak (vs:=[I 10,I 5000]) rfl ts27 tz27 rfl (by rfl) rfl,Qak (vs:=[Q0h,I 420]) rfl ts89 tz89 rfl (by rfl) rfl,apw Qzn (Qm6 N (⟨(⟨10,5000,0,0⟩:Qct),420⟩:Qk1) 1000 _ hf13),tv⟩ ?_
  obtain⟨k15,hk_k15,h⟩:=jko h
  refine wjn (τ:=Unit) (fun t=>k15 t=some r) (fun _=>⟨mk 208 [(6,Qso)],[]⟩) (fun t h=>?_) ?_
  ·subst hk_k15
   obtain⟨x17,hf16,h⟩:=bno h
   refine wx tbk [(0,⟨_,_,_,_,false⟩)] ⟨acq [] [] [Q0f,Qqa,Qxj,Qsn,Qsm] Qsl [0,1,2,3,4] Qjw (Qlu N _ hf16) (Qb9 rn0) Qam (slc (Qaj (rncc (rnc (Qe6 rfl) rn0))) (slc (Qaj (rnc (.plain _ nll) (rnc (Qe6 rfl) (rnc (.plain _ nll) (rnc (Qe6 rfl) (rnc (.plain _ nll) (rnc (Qe6 rfl) rn0))))))) (slc (Qaj (rncc rn0)) (slc (Qaj (rncc rn0)) (slc (Qaj (rncc rn0)) Qam))))) (Qb9 (rncc (rnc (Qe6 rfl) rn0))),tv⟩ ?_
   refine wx tbk [(2,rb [(.tmp 114,(.own 1 2 (0) (3))),ci 0] [(1,Qqa)] (.ref 1 6 0 0)),(5,rb [(.tmp 117,(.own 2 2 (0) (1))),ci 0] [(2,Qxj)] (.ref 2 2 0 0))] ⟨Qmv rfl underlying55 ti62 (by decide) (by decide) rfl,Qmv rfl underlying60 ti64 (by decide) (by decide) rfl,tv⟩ ?_
   obtain⟨x19,hf18,h⟩:=bno h
   refine wx tbk [(1,rb [fu 29,(.tmp 121,Qsl)] [(2,.own 2 [[I 7,I 1]]),(3,Qsn),(4,Qsm),(1,Qqa)] (.tup [I x19.1,I x19.2.1,I x19.2.2]))] ⟨Qjx (bl':=[(2,.own 2 [[I 7,I 1]]),(3,.own 2 [[I 5,I 4]]),(4,.own 2 [[I 9,I 2]]),(1,.own 2 [[I 5,(.own 2 2 (0) (1))],[I 8,(.own 3 2 (0) (1))],[I 6,(.own 4 2 (0) (1))]])]) ⟨rfl,Qff (by kernel_rfl) rfl rfl,rfl,Qff (by kernel_rfl) rfl rfl,rfl,Qff (by kernel_rfl) rfl rfl,rfl,Qff (by kernel_rfl) rfl rfl,tv⟩ (Qgs (rd':=[fu 29,(.tmp 121,Qxf)]) [(2,2,[[I 7,I 1]]),(3,2,[[I 5,I 4]]),(4,2,[[I 9,I 2]]),(1,2,[[I 5,(.own 2 2 (0) (1))],[I 8,(.own 3 2 (0) (1))],[I 6,(.own 4 2 (0) (1))]])] ⟨rfl,.same _,rfl,(Qxw ⟨(.same _),(.same _),(Qiu (zs:=[[I 5,Qxi],[I 8,Qxh],[I 6,Qxg]]) 3 rfl rfl ⟨⟨(.same _),(Qiu (zs:=[[I 7,I 1]]) 0 rfl rfl ⟨⟨(.same _),(.same _),tv⟩,tv⟩),tv⟩,⟨(.same _),(Qiu (zs:=[[I 5,I 4]]) 1 rfl rfl ⟨⟨(.same _),(.same _),tv⟩,tv⟩),tv⟩,⟨(.same _),(Qiu (zs:=[[I 9,I 2]]) 2 rfl rfl ⟨⟨(.same _),(.same _),tv⟩,tv⟩),tv⟩,tv⟩),tv⟩),tv⟩ (by rfl) (.tup _ (Qf3 (.lit _) (Qf3 (.lit _) (Qf3 (.lit _) Qol)))) Qnb (apv Qur (Qjb N (⟨10,0,[(⟨5,[(⟨7,1⟩:Qbc)]⟩:Qbw),(⟨8,[(⟨5,4⟩:Qbc)]⟩:Qbw),(⟨6,[(⟨9,2⟩:Qbc)]⟩:Qbw)]⟩:GDay) _ hf18) (nlc (NLt.agg _ (nlcc (nlc (nld Qag _) nl0))) nl0) (NLt.tup _ (nlcc (nlc nll nl0))))),tv⟩ ?_
   obtain⟨x21,hf20,h⟩:=bno h
   refine wx tbk [(1,rb [fu 20,(.tmp 127,Qsl)] [(2,.own 2 [[I 7,I 1]]),(3,Qsn),(4,Qsm),(1,Qqa)] (.tup [.any,.any,I x21.2.2.1,I x21.2.2.2]))] ⟨Qjx (bl':=[(2,.own 2 [[I 7,I 1]]),(3,.own 2 [[I 5,I 4]]),(4,.own 2 [[I 9,I 2]]),(1,.own 2 [[I 5,(.own 2 2 (0) (1))],[I 8,(.own 3 2 (0) (1))],[I 6,(.own 4 2 (0) (1))]])]) ⟨rfl,Qff (by kernel_rfl) rfl rfl,rfl,Qff (by kernel_rfl) rfl rfl,rfl,Qff (by kernel_rfl) rfl rfl,rfl,Qff (by kernel_rfl) rfl rfl,tv⟩ (Qgs (rd':=[fu 20,(.tmp 127,Qxf)]) [(2,2,[[I 7,I 1]]),(3,2,[[I 5,I 4]]),(4,2,[[I 9,I 2]]),(1,2,[[I 5,(.own 2 2 (0) (1))],[I 8,(.own 3 2 (0) (1))],[I 6,(.own 4 2 (0) (1))]])] ⟨rfl,.same _,rfl,(Qxw ⟨(.same _),(.same _),(Qiu (zs:=[[I 5,Qxi],[I 8,Qxh],[I 6,Qxg]]) 3 rfl rfl ⟨⟨(.same _),(Qiu (zs:=[[I 7,I 1]]) 0 rfl rfl ⟨⟨(.same _),(.same _),tv⟩,tv⟩),tv⟩,⟨(.same _),(Qiu (zs:=[[I 5,I 4]]) 1 rfl rfl ⟨⟨(.same _),(.same _),tv⟩,tv⟩),tv⟩,⟨(.same _),(Qiu (zs:=[[I 9,I 2]]) 2 rfl rfl ⟨⟨(.same _),(.same _),tv⟩,tv⟩),tv⟩,tv⟩),tv⟩),tv⟩ (by rfl) (.tup _ (Qf3 .any (Qf3 .any (Qf3 (.lit _) (Qf3 (.lit _) Qol))))) Qnb (Qpx (r:=(.tup [(.dat 1 (x21.1.map Qaa)),(.dat 1 (x21.2.1.map Qaa)),I x21.2.2.1,I x21.2.2.2])) (Less.tup ⟨Less.any,Less.any,lrf,lrf,tv⟩) (apv Quu (Qhp N (⟨10,0,[(⟨5,[(⟨7,1⟩:Qbc)]⟩:Qbw),(⟨8,[(⟨5,4⟩:Qbc)]⟩:Qbw),(⟨6,[(⟨9,2⟩:Qbc)]⟩:Qbw)]⟩:GDay) _ hf20) (nlc (NLt.agg _ (nlcc (nlc (nld Qag _) nl0))) nl0) (NLt.tup _ (nlc (nld Qab _) (nlc (nld Qab _) (nlcc nl0))))))),tv⟩ ?_
   obtain⟨x23,hf22,h⟩:=bno h
   obtain⟨x25,hf24,h⟩:=bno h
   refine wx tbk [(0,rp _ _),(1,rp _ _)] ⟨apw Qjw (Qe1 2000  _ hf22),apw Qur (Qjb N x23 _ hf24),tv⟩ ?_
   obtain⟨x27,hf26,h⟩:=bno h
   obtain⟨x29,hf28,h⟩:=bno h
   refine wx tbk [(0,rp _ _),(1,rp [ci 20,ci 0,ci 0] Q0e),(2,rp _ _)] ⟨apw Qjw (Qe1 2000  _ hf26),Qa6 (vs:=[I 20,I 0,I 0]) rfl underlying25 ti3 tz3 rfl (by decide) rfl (by decide) (by rfl) (by rfl) (by rfl) rfl,apw Qzm (Qm7 N x27 ([20,0,0]) _ hf28),tv⟩ ?_
   obtain⟨x31,hf30,h⟩:=bno h
   refine wx tbk [(1,rp _ _)] ⟨apw Qus (Qj8 N ([(⟨1000,30⟩:Qb8),(⟨2000,50⟩:Qb8)]) (-1) 500 _ hf30),tv⟩ ?_
   refine bfe h (fun hb32 h=>?_) fun hb32 h=>?_
   ·refine hpre (A:=(Qsk x19)) ⟨asb hb32 (amv rfl),tv⟩ fun q1_=>?_
    refine bfe h (fun hb33 h=>?_) fun hb33 h=>?_
    ·refine hpre (A:=(Qsj x19)) (hap q1_ ⟨asb hb33 (amv rfl),tv⟩) fun q2_=>?_
     refine bfe h (fun hb34 h=>?_) fun hb34 h=>?_
     ·refine hpre (A:=(Qsi x19)) (hap q2_ ⟨asb hb34 (amv rfl),tv⟩) fun q3_=>?_
      refine bfe h (fun hb35 h=>?_) fun hb35 h=>?_
      ·refine hpre (A:=(Qsh x19 x21)) (hap q3_ ⟨asb hb35 (amv rfl),tv⟩) fun q4_=>?_
       refine bfe h (fun hb36 h=>?_) fun hb36 h=>?_
       ·refine hpre (A:=(Qsg x19 x21 x25)) (hap q4_ ⟨asb hb36 (amv rfl),tv⟩) fun q5_=>?_
        refine bfe h (fun hb37 h=>?_) fun hb37 h=>?_
        ·refine hpre (A:=(Qsf x19 x21 x25 x29)) (hap q5_ ⟨asb hb37 (amv rfl),tv⟩) fun q6_=>?_
         refine bfe h (fun hb38 h=>?_) fun hb38 h=>?_
         ·obtain⟨x40,hf39,h⟩:=bno h
          obtain⟨x42,hf41,h⟩:=bno h
          refine hpre (A:=(Qse x19 x21 x25 x29 x31 x40 x42)) (hap q6_ ⟨asb hb38 (amv rfl),ag_ (apv Qjw (Qe1 2000  _ hf39) nl0 (NLt.agg _ (nlcc (nlc (nld Qag _) nl0)))),ag_ (Qa6 (vs:=[I 15,I 0,I 4]) rfl underlying25 ti3 tz3 rfl (by decide) rfl (by decide) (by rfl) (by rfl) (by rfl) rfl),ag_ (Qa6 (vs:=[I 1,I 2,I 2]) rfl underlying25 ti3 tz3 rfl (by decide) rfl (by decide) (by rfl) (by rfl) (by rfl) rfl),ag_ (apv Qpp (Qep N x40 ([15,0,4]) ([1,2,2]) _ hf41) (nlc (NLt.agg _ (nlcc (nlc (nld Qag _) nl0))) (nlc (nld Qab _) (nlc (nld Qab _) nl0))) nll),tv⟩) fun q7_=>?_
          refine bfe h (fun hb43 h=>?_) fun hb43 h=>?_
          ·obtain⟨x45,hf44,h⟩:=bno h
           obtain⟨x47,hf46,h⟩:=bno h
           refine hpre (A:=(Qsd x19 x21 x25 x29 x31 x40 x42 x45 x47)) (hap q7_ ⟨asb hb43 (amv rfl),ag_ (apv Qjw (Qe1 2000  _ hf44) nl0 (NLt.agg _ (nlcc (nlc (nld Qag _) nl0)))),ag_ (Qa6 (vs:=[I 15,I 0,I 4]) rfl underlying25 ti3 tz3 rfl (by decide) rfl (by decide) (by rfl) (by rfl) (by rfl) rfl),ag_ (Qa6 (vs:=[I 1,I 1,I 2]) rfl underlying25 ti3 tz3 rfl (by decide) rfl (by decide) (by rfl) (by rfl) (by rfl) rfl),ag_ (apv Qpp (Qep N x45 ([15,0,4]) ([1,1,2]) _ hf46) (nlc (NLt.agg _ (nlcc (nlc (nld Qag _) nl0))) (nlc (nld Qab _) (nlc (nld Qab _) nl0))) nll),tv⟩) fun q8_=>?_
           refine bfe h (fun hb48 h=>?_) fun hb48 h=>?_
           ·obtain⟨x50,hf49,h⟩:=bno h
            obtain⟨x52,hf51,h⟩:=bno h
            refine hpre (A:=(Qsc x19 x21 x25 x29 x31 x40 x42 x45 x47 x50 x52)) (hap q8_ ⟨asb hb48 (amv rfl),ag_ (apv Qjw (Qe1 2000  _ hf49) nl0 (NLt.agg _ (nlcc (nlc (nld Qag _) nl0)))),ag_ (Qa6 (vs:=[I 13,I 0,I 6]) rfl underlying25 ti3 tz3 rfl (by decide) rfl (by decide) (by rfl) (by rfl) (by rfl) rfl),ag_ (Qa6 (vs:=[I 1,I 1,I 2]) rfl underlying25 ti3 tz3 rfl (by decide) rfl (by decide) (by rfl) (by rfl) (by rfl) rfl),ag_ (apv Qpp (Qep N x50 ([13,0,6]) ([1,1,2]) _ hf51) (nlc (NLt.agg _ (nlcc (nlc (nld Qag _) nl0))) (nlc (nld Qab _) (nlc (nld Qab _) nl0))) nll),tv⟩) fun q9_=>?_
            refine bfe h (fun hb53 h=>?_) fun hb53 h=>?_
            ·obtain⟨x55,hf54,h⟩:=bno h
             refine hpre (A:=(Qsb x19 x21 x25 x29 x31 x40 x42 x45 x47 x50 x52 x55)) (hap q9_ ⟨asb hb53 (amv rfl),ag_ (awk (rd':=(.func 32,(.fn (.func 32) [] []))::[((.const (.slice none 0 0)),Q0c)]) ⟨rfl,lrf,rfl,Less.nil,tv⟩ (apv Qzl (Qj7 N ([]) _ hf54) (nlc (nld Qad _) nl0) nll)),tv⟩) fun q10_=>?_
             refine bfe h (fun hb56 h=>?_) fun hb56 h=>?_
             ·obtain⟨x58,hf57,h⟩:=bno h
              refine hpre (A:=(Qsa x19 x21 x25 x29 x31 x40 x42 x45 x47 x50 x52 x55 x58)) (hap q10_ ⟨asb hb56 (amv rfl),ag_ (Qak (vs:=[]) rfl ts57 tz57 rfl (by rfl) rfl),ag_ (awk (rd':=(.func 33,(.fn (.func 33) [] []))::[(.tmp 201,Q0b)]) ⟨rfl,lrf,rfl,(Less.agg ⟨lrf,lrf,Less.nil,tv⟩),tv⟩ (apv Qzk (Qkn N (⟨0,0,[]⟩:GDay) _ hf57) (nlc (NLt.agg _ (nlcc (nlc (nld Qag _) nl0))) nl0) nll)),tv⟩) fun q11_=>?_
              refine bfe h (fun hb59 h=>?_) fun hb59 h=>?_
              ·obtain⟨x61,hf60,h⟩:=bno h
               exact wx tbk (hcat (Qsa x19 x21 x25 x29 x31 x40 x42 x45 x47 x50 x52 x55 x58) [(55,rp [(.tmp 204,(B ((x58==1))))] (B true)),(56,rp [(.tmp 205,B true),fu 19] (B x61))]) (hap q11_ ⟨asb hb59 (amv rfl),ag_ (apv Qzq (Qlt 2000  _ hf60) nl0 nll),tv⟩)<|Qac<|frb h
              ·exact wx tbk (hcat (Qsa x19 x21 x25 x29 x31 x40 x42 x45 x47 x50 x52 x55 x58) [(55,rp [(.tmp 204,(B ((x58==1))))] (B false))]) (hap q11_ ⟨asb hb59 (amv rfl),tv⟩)<|Qac<|frb h
             ·exact wx tbk (hcat (Qsb x19 x21 x25 x29 x31 x40 x42 x45 x47 x50 x52 x55) [(50,rp [(.tmp 199,(B ((x55==1))))] (B false))]) (hap q10_ ⟨asb hb56 (amv rfl),tv⟩)<|Qac<|frb h
            ·exact wx tbk (hcat (Qsc x19 x21 x25 x29 x31 x40 x42 x45 x47 x50 x52) [(46,rp [(.tmp 195,(B ((!x52))))] (B false))]) (hap q9_ ⟨asb hb53 (amv rfl),tv⟩)<|Qac<|frb h
           ·exact wx tbk (hcat (Qsd x19 x21 x25 x29 x31 x40 x42 x45 x47) [(39,rp [(.tmp 188,(B ((!x47))))] (B false))]) (hap q8_ ⟨asb hb48 (amv rfl),tv⟩)<|Qac<|frb h
          ·exact wx tbk (hcat (Qse x19 x21 x25 x29 x31 x40 x42) [(32,rp [(.tmp 181,B x42)] (B false))]) (hap q7_ ⟨asb hb43 (amv rfl),tv⟩)<|Qac<|frb h
         ·exact wx tbk (hcat (Qsf x19 x21 x25 x29) [(26,rp [(.tmp 175,(B ((x31.2==2))))] (B false))]) (hap q6_ ⟨asb hb38 (amv rfl),tv⟩)<|Qac<|frb h
        ·exact wx tbk (hcat (Qsg x19 x21 x25) [(22,rp [(.tmp 171,(B ((x29.2==2))))] (B false))]) (hap q5_ ⟨asb hb37 (amv rfl),tv⟩)<|Qac<|frb h
       ·exact wx tbk (hcat (Qsh x19 x21) [(18,rp [(.tmp 167,(B ((x25.2.2==7))))] (B false))]) (hap q4_ ⟨asb hb36 (amv rfl),tv⟩)<|Qac<|frb h
      ·exact wx tbk (hcat (Qsi x19) [(14,rp [(.tmp 163,(B ((x21.2.2.2==7))))] (B false))]) (hap q3_ ⟨asb hb35 (amv rfl),tv⟩)<|Qac<|frb h
     ·exact wx tbk (hcat (Qsj x19) [(10,rp [(.tmp 159,(B ((x19.2.1==1))))] (B false))]) (hap q2_ ⟨asb hb34 (amv rfl),tv⟩)<|Qac<|frb h
    ·exact wx tbk (hcat (Qsk x19) [(6,rp [(.tmp 155,(B ((x19.1==1))))] (B false))]) (hap q1_ ⟨asb hb33 (amv rfl),tv⟩)<|Qac<|frb h
   ·exact wx tbk [(2,rp [(.tmp 151,(B ((x19.2.2==0))))] (B false))] ⟨asb hb32 (amv rfl),tv⟩<|Qac<|frb h
  ·skip
   refine bfe h (fun hb62 h=>?_) fun hb62 h=>?_
   ·exact wx tbk [(2,rp [(.tmp 62,(B ((x4.2.2 != 11))))] (B true))] ⟨asb hb62 (amv rfl),tv⟩<|wtr<|wxz<|Qac<|Qah<|frb h
   ·refine hpre (A:=(Qr9 x4)) ⟨asb hb62 (amv rfl),tv⟩ fun q12_=>?_
    refine bfe h (fun hb63 h=>?_) fun hb63 h=>?_
    ·exact wx tbk (hcat (Qr9 x4) [(6,rp [(.tmp 66,(B ((x4.2.1 != 2))))] (B true))]) (hap q12_ ⟨asb hb63 (amv rfl),tv⟩)<|wtr<|wxz<|Qac<|Qah<|frb h
    ·refine hpre (A:=(Qr8 x4)) (hap q12_ ⟨asb hb63 (amv rfl),tv⟩) fun q13_=>?_
     refine bfe h (fun hb64 h=>?_) fun hb64 h=>?_
     ·exact wx tbk (hcat (Qr8 x4) [(10,rp [(.tmp 70,(B ((x8.2 != 0))))] (B true))]) (hap q13_ ⟨asb hb64 (amv rfl),tv⟩)<|wtr<|wxz<|Qac<|Qah<|frb h
     ·refine hpre (A:=(Qr7 x4 x8)) (hap q13_ ⟨asb hb64 (amv rfl),ag_ (alq 2 Qbm x8.1 underlying71),tv⟩) fun q14_=>?_
      refine bfe h (fun hb65 h=>?_) fun hb65 h=>?_
      ·exact wx tbk (hcat (Qr7 x4 x8) [(15,rp [(.tmp 75,(B (((x8.1.length:Int) != 4))))] (B true))]) (hap q14_ ⟨asb hb65 (amv rfl),tv⟩)<|wtr<|wxz<|Qac<|Qah<|frb h
      ·obtain⟨x66,hg67,h⟩:=bno h
       obtain⟨hi68,hj69⟩:=gsm hg67
       refine hpre (A:=(Qr6 x4 x8 x66)) (hap q14_ ⟨asb hb65 (amv rfl),ag_ (aiq underlying71 ti91 Qbm hi68 hj69),ag_ (Qak (vs:=[I 10,I 10]) rfl ts91 tz91 rfl (by rfl) rfl),ag_ (Qox (ls:=[x66.Lo,x66.Hi]) (ks:=[10,10]) rfl rfl Q1o (by kernel_rfl) rfl rfl),tv⟩) fun q15_=>?_
       refine bfe h (fun hb70 h=>?_) fun hb70 h=>?_
       ·exact wx tbk (hcat (Qr6 x4 x8 x66) [(22,rp [(.tmp 82,(B ((!(([x66.Lo,x66.Hi]:List Int)==[10,10])))))] (B true))]) (hap q15_ ⟨asb hb70 (amv rfl),tv⟩)<|wtr<|wxz<|Qac<|Qah<|frb h
       ·refine hpre (A:=(Qr5 x4 x8 x66)) (hap q15_ ⟨asb hb70 (amv rfl),tv⟩) fun q16_=>?_
        refine bfe h (fun hb71 h=>?_) fun hb71 h=>?_
        ·exact wx tbk (hcat (Qr5 x4 x8 x66) [(26,rp [(.tmp 86,(B ((x10.2 != 0))))] (B true))]) (hap q16_ ⟨asb hb71 (amv rfl),tv⟩)<|wtr<|wxz<|Qac<|Qah<|frb h
        ·refine hpre (A:=(Qr4 x4 x8 x66 x10)) (hap q16_ ⟨asb hb71 (amv rfl),tv⟩) fun q17_=>?_
         refine bfe h (fun hb72 h=>?_) fun hb72 h=>?_
         ·exact wx tbk (hcat (Qr4 x4 x8 x66 x10) [(30,rp [(.tmp 90,(B ((x10.1 != 55))))] (B true))]) (hap q17_ ⟨asb hb72 (amv rfl),tv⟩)<|wtr<|wxz<|Qac<|Qah<|frb h
         ·refine hpre (A:=(Qr3 x4 x8 x66 x10)) (hap q17_ ⟨asb hb72 (amv rfl),tv⟩) fun q18_=>?_
          refine bfe h (fun hb73 h=>?_) fun hb73 h=>?_
          ·exact wx tbk (hcat (Qr3 x4 x8 x66 x10) [(34,rp [(.tmp 94,(B ((x12.2 != 0))))] (B true))]) (hap q18_ ⟨asb hb73 (amv rfl),tv⟩)<|wtr<|wxz<|Qac<|Qah<|frb h
          ·refine hpre (A:=(Qr2 x4 x8 x66 x10 x12)) (hap q18_ ⟨asb hb73 (amv rfl),tv⟩) fun q19_=>?_
           refine bfe h (fun hb74 h=>?_) fun hb74 h=>?_
           ·exact wx tbk (hcat (Qr2 x4 x8 x66 x10 x12) [(38,rp [(.tmp 98,(B ((x12.1 != 25))))] (B true))]) (hap q19_ ⟨asb hb74 (amv rfl),tv⟩)<|wtr<|wxz<|Qac<|Qah<|frb h
           ·refine hpre (A:=(Qp7 x4 x8 x66 x10 x12)) (hap q19_ ⟨asb hb74 (amv rfl),tv⟩) fun q20_=>?_
            refine bfe h (fun hb75 h=>?_) fun hb75 h=>?_
            ·exact wx tbk (hcat (Qp7 x4 x8 x66 x10 x12) [(42,rp [(.tmp 102,(B ((x14.2.2 != 0))))] (B true))]) (hap q20_ ⟨asb hb75 (amv rfl),tv⟩)<|wtr<|wxz<|Qac<|Qah<|frb h
            ·refine bfe h (fun hb76 h=>?_) fun hb76 h=>?_
             ·exact wx tbk (hcat (Qp7 x4 x8 x66 x10 x12) [(42,rp [(.tmp 102,(B ((x14.2.2 != 0))))] (B false)),(46,rp [(.tmp 106,(B ((x14.2.1 != 800))))] (B true))]) (hap q20_ ⟨asb hb75 (amv rfl),asb hb76 (amv rfl),tv⟩)<|wtr<|wxz<|Qac<|Qah<|frb h
             ·refine wx tbk (hcat (Qp7 x4 x8 x66 x10 x12) [(42,rp [(.tmp 102,(B ((x14.2.2 != 0))))] (B false)),(46,rp [(.tmp 106,(B ((x14.2.1 != 800))))] (B false)),(48,rp [(.tmp 107,B false),ci 10,ci 4200] Qxk),(49,rp [(.tmp 107,B false),(.tmp 108,(Q0g x14)),(.tmp 109,Qxk)] (B ((!(([x14.1.Mass,x14.1.Heat,x14.1.Silica,x14.1.Gas]:List Int)==[10,4200,0,0])))))]) (hap q20_ ⟨asb hb75 (amv rfl),asb hb76 (amv rfl),ag_ (Qak (vs:=[I 10,I 4200]) rfl ts27 tz27 rfl (by rfl) rfl),ag_ (Qox (ls:=[x14.1.Mass,x14.1.Heat,x14.1.Silica,x14.1.Gas]) (ks:=[10,4200,0,0]) rfl rfl Q2h (by kernel_rfl) rfl rfl),tv⟩) ?_
              refine bfe h (fun hc77 h=>?_) fun hc77 h=>?_
              ·exact wft hc77<|wxz<|Qac<|Qah<|frb h
              ·exact wfn hc77<|Qaf<|thn<|⟨(),h,(mto (n:=208) [(6,Qso)] [] [] hq (pc (rnd Qby) pn) qn)⟩
end
section
theorem Qri:Qgn 2000=some true:=by decide +kernel
end
end Go.Proofs.Ytjpfjfdaomckhaa
