/-
  The texts X2, X3 of the proof, one behind the other. No conditions.
-/
import Derived.Test.YtjpfjfdaomckhaaG2
namespace Go.Proofs.Ytjpfjfdaomckhaa
open _root_.Go.Proofs.Try
open Go.RowKit
set_option maxRecDepth 100000
set_option maxHeartbeats 4000000
set_option synthInstance.maxSize 4000
set_option synthInstance.maxHeartbeats 400000
section
def Qdj (N:Nat) (p0:List Qb8) (k1:Unit→Option Bool):Nat→Int→Option Bool
  |0,_=>none
  |n6+1,y4=>
    bif (decide (y4<(p0.length:Int))) then
     (getI p0 y4).bind fun x8=>
     (Qa0 N x8.Upto 1 1000000000000).bind fun x13=>
     bif (!x13) then
      some false
     else
      (Qa0 N x8.Price 0 1000).bind fun x16=>
      bif (!x16) then
       some false
      else
       bif (decide (y4>0)) then
        (getI p0 (w64 (y4-1))).bind fun x19=>
        bif (decide (x8.Upto≤x19.Upto)) then
         some false
        else
         Qdj N p0 k1 n6 (w64 (y4+1))
       else
        Qdj N p0 k1 n6 (w64 (y4+1))
    else
     k1 ()
def Qhc (N:Nat) (p0:List Qb8):Option Bool:=
  Qcx (fun _=>
    (Qa0 N (p0.length:Int) 1 6).bind fun x3=>
    some x3) fun k1:Unit→Option Bool=>
  Qdj N p0 k1 N 0
def Qkj (p0:List Qb8):AV:=.dat 2 (p0.map Qcl)
def Qtm (x8:Qb8) (x13:Bool):List (Nat×Rec):=[(2,rp [fu 68,((.tmp 13),(I x8.Upto)),ci 1,ci 1000000000000] (B x13))]
def Qqk x8 x13 (x16:Bool):=hcat (Qtm x8 x13) [(4,rp [((.tmp 15),(B ((!x13))))] (B false)),(7,rp [((.tmp 16),(B false)),fu 68,((.tmp 18),(I x8.Price)),ci 0,ci 1000] (B x16))]
theorem Qil (N:Nat) (p0:List Qb8) (r:Bool) (h:Qhc N p0=some r):Spec prog 67 [(.dat 2 (p0.map Qcl))] [] (B r) []:=by
  refine sA func67 0 fun _ _ _ hq hd0=>?_
  unfold Qhc at h
  refine wxz ?_
  obtain⟨k1,hk_k1,h⟩:=jko h
  refine wjn (τ:=Unit) (fun t=>k1 t=some r) (fun _=>⟨mk 41 [(0,(Qkj p0))],[]⟩) (fun t h=>?_) ?_
  ·subst hk_k1
   obtain⟨x3,hf2,h⟩:=bno h
   exact wx tbk [(1,rp _ _),(2,rp _ _)] ⟨alq 2 Qcl p0 underlying82,apw Qd3 (Qar N (p0.length:Int) 1 6 _ hf2),tv⟩<|Qac<|frb h
  ·skip
   refine wx tbk [(1,rp _ _)] ⟨alq 2 Qcl p0 underlying82,tv⟩<|Qai ?_
   refine wmr (mto (n:=41) (l':=[(0,(Qkj p0)),(5,(Qkj p0)),(6,(I ((p0.length:Int)))),(7,I 0)]) (own':=[]) [(0,(Qkj p0)),(5,(Qkj p0)),(6,(I ((p0.length:Int)))),(7,I 0)] [] [] hq (pc (rnd Qby) (pc (rnd Qby) (pw (pw pn)))) qn) ?_
   refine Qb0 (τ:=Int) (fun n t=>Qdj N p0 k1 n t=some r) (fun y4=>⟨mk 41 [(0,(Qkj p0)),(5,(Qkj p0)),(6,(I ((p0.length:Int)))),(7,I y4)],[]⟩) (fun t h=>by rw[Qdj] at h;cases h) (fun n6 ih y4 h=>?_) N (0) h
   rw[Qdj] at h
   skip
   refine wxz<|wsq ?_
   refine bfe h (fun hc7 h=>?_) fun hc7 h=>?_
   ·refine wft hc7<|Qaf<|thn<|wsq<|Qai ?_
    obtain⟨x8,hg9,h⟩:=bno h
    obtain⟨hi10,hj11⟩:=gsm hg9
    refine wx tbk [(1,rp _ _)] ⟨aiq underlying82 ti81 Qcl hi10 hj11,tv⟩ ?_
    obtain⟨x13,hf12,h⟩:=bno h
    refine hpre (A:=(Qtm x8 x13)) ⟨apv Qd3 (Qar N x8.Upto 1 1000000000000 _ hf12) (nlcc (nlc nll nl0)) nll,tv⟩ fun q1_=>?_
    refine bfe h (fun hb14 h=>?_) fun hb14 h=>?_
    ·exact wxd tbk (hcat (Qtm x8 x13) [(4,rp [(.tmp 15,(B ((!x13))))] (B true))]) (hap q1_ ⟨asb hb14 (amv rfl),tv⟩)<|wtr<|wxz<|Qac<|Qal<|Qah<|Qah<|Qal<|Qah<|frb h
    ·obtain⟨x16,hf15,h⟩:=bno h
     refine hpre (A:=(Qqk x8 x13 x16)) (hap q1_ ⟨asb hb14 (amv rfl),ag_ (apv Qd3 (Qar N x8.Price 0 1000 _ hf15) (nlcc (nlc nll nl0)) nll),tv⟩) fun q2_=>?_
     refine bfe h (fun hb17 h=>?_) fun hb17 h=>?_
     ·exact wxd tbk (hcat (Qqk x8 x13 x16) [(10,rp [(.tmp 21,(B ((!x16))))] (B true))]) (hap q2_ ⟨asb hb17 (amv rfl),tv⟩)<|wtr<|wxz<|Qac<|Qal<|Qah<|Qah<|Qal<|Qah<|frb h
     ·refine bfe h (fun hb18 h=>?_) fun hb18 h=>?_
      ·obtain⟨x19,hg20,h⟩:=bno h
       obtain⟨hi21,hj22⟩:=gsm hg20
       refine wxd tbk (hcat (Qqk x8 x13 x16) [(10,rp [(.tmp 21,(B ((!x16))))] (B false)),(13,rp [(.tmp 22,B false),(.tmp 24,(B ((decide (y4>0)))))] (B true)),(19,rp [(.tmp 25,B true),(.tmp 28,(Qkj p0)),(.tmp 30,(I (w64 (y4-1))))] (.dptr (Qcl x19) 0))]) (hap q2_ ⟨asb hb17 (amv rfl),asb hb18 (ag_ (amv rfl)),ag_ (aiq underlying82 ti81 Qcl hi21 hj22),tv⟩) ?_
       refine bfe h (fun hc23 h=>?_) fun hc23 h=>?_
       ·exact wft hc23<|wxz<|Qac<|Qal<|Qah<|Qah<|Qal<|Qah<|frb h
       ·exact wfn hc23<|Qaf<|bln<|thn<|wxz1<|thn<|arm (mto (n:=41) [(0,(Qkj p0)),(5,(Qkj p0)),(6,(I ((p0.length:Int)))),(7,(I (w64 (y4+1))))] [] [] hq (pc (rnd Qby) (pc (rnd Qby) (pw (pw pn)))) qn) (ih (w64 (y4+1)) h)
      ·exact wxd tbk (hcat (Qqk x8 x13 x16) [(10,rp [(.tmp 21,(B ((!x16))))] (B false)),(13,rp [(.tmp 22,B false),(.tmp 24,(B ((decide (y4>0)))))] (B false))]) (hap q2_ ⟨asb hb17 (amv rfl),asb hb18 (ag_ (amv rfl)),tv⟩)<|wfa<|Qaf<|bln<|thn<|wxz1<|thn<|arm (mto (n:=41) [(0,(Qkj p0)),(5,(Qkj p0)),(6,(I ((p0.length:Int)))),(7,(I (w64 (y4+1))))] [] [] hq (pc (rnd Qby) (pc (rnd Qby) (pw (pw pn)))) qn) (ih (w64 (y4+1)) h)
   ·exact wfn hc7<|Qax<|Qan<|Qan<|Qaw rfl<|thn<|⟨(),h,(mto (n:=41) [(0,(Qkj p0))] [] [] hq (pc (rnd Qby) pn) qn)⟩
def Qd5 (N:Nat) (p0:List Qb8) (p1:Int) (k2:Int→Option Int):Nat→Int→Int→Int→Option Int
  |0,_,_,_=>none
  |n9+1,y3,y4,y5=>
    bif (decide (y5<(p0.length:Int))) then
     (getI p0 y5).bind fun x11=>
     Qcx (fun y15=>
       (some (w64 ((if (w64 (y15-y4))>0 then w64 (y15-y4) else 0)*x11.Price))).bind fun x17=>
       (some (if y15>y4 then y15 else y4)).bind fun x19=>
       Qd5 N p0 p1 k2 n9 (w64 (y3+x17)) x19 (w64 (y5+1))) fun k16:Int→Option Int=>
     bif (y5==(w64 ((p0.length:Int)-1))) then
      k16 (p1)
     else
      bif (decide (x11.Upto>p1)) then
       k16 (p1)
      else
       k16 (x11.Upto)
    else
     k2 (y3)
def Qga (N:Nat) (p0:List Qb8) (p1:Int):Option Int:=
  Qcx (fun y1=>
    some (w64 (y1.tdiv 1000))) fun k2:Int→Option Int=>
  Qd5 N p0 p1 k2 N 0 0 0
def Qi1 (p0:List Qb8):AV:=.dat 2 (p0.map Qcl)
def Qqj (x11:Qb8):Slot:=.own 2 [[(I x11.Upto),(I x11.Price)]]
theorem Qg0 (N:Nat) (p0:List Qb8) (p1 r:Int) (h:Qga N p0 p1=some r):Spec prog 69 [(.dat 2 (p0.map Qcl)),(I p1)] [] (I r) []:=by
  refine sA func69 0 fun _ _ _ hq hd0=>?_
  unfold Qga at h
  refine wxz<|wxz ?_
  obtain⟨k2,hk_k2,h⟩:=jko h
  refine wjn (τ:=Int) (fun t=>k2 t=some r) (fun y1=>⟨mk 45 [(5,I y1)],[]⟩) (fun y1 h=>?_) ?_
  ·subst hk_k2
   refine wx tbk [(1,rp [(.tmp 43,I y1),ci 1000] (I (w64 (y1.tdiv 1000))))] ⟨Ql3 rfl (by decide),tv⟩<|Qac ?_
   obtain rfl:=osi h
   exact fend ⟨[(I (w64 (y1.tdiv 1000)))],⟨rot,tv⟩,rfl⟩ nll
  ·skip
   refine wx tbk [(1,rp _ _)] ⟨alq 2 Qcl p0 underlying82,tv⟩<|Qai ?_
   refine wmr (mto (n:=45) (l':=[(0,(Qi1 p0)),(1,I p1),(5,I 0),(6,I 0),(10,(Qi1 p0)),(11,(I ((p0.length:Int)))),(12,I 0)]) (own':=[]) [(0,(Qi1 p0)),(1,I p1),(5,I 0),(6,I 0),(10,(Qi1 p0)),(11,(I ((p0.length:Int)))),(12,I 0)] [] [] hq (pc (rnd Qby) (pw (pw (pw (pc (rnd Qby) (pw (pw pn))))))) qn) ?_
   refine Qb0 (τ:=Int×Int×Int) (fun n t=>Qd5 N p0 p1 k2 n t.1 t.2.1 t.2.2=some r) (fun ⟨y3,y4,y5⟩=>⟨mk 45 [(0,(Qi1 p0)),(1,I p1),(5,I y3),(6,I y4),(10,(Qi1 p0)),(11,(I ((p0.length:Int)))),(12,I y5)],[]⟩) (fun t h=>by rw[Qd5] at h;cases h) (fun n9 ih t h=>?_) N (0,0,0) h
   obtain⟨y3,y4,y5⟩:=t
   rw[Qd5] at h
   skip
   refine wxz<|wsq ?_
   refine bfe h (fun hc10 h=>?_) fun hc10 h=>?_
   ·refine wft hc10<|Qaf<|thn<|wsq<|Qai ?_
    obtain⟨x11,hg12,h⟩:=bno h
    obtain⟨hi13,hj14⟩:=gsm hg12
    refine wx tbk [(1,rp _ _)] ⟨aiq underlying82 ti81 Qcl hi13 hj14,tv⟩<|wxz ?_
    obtain⟨k16,hk_k16,h⟩:=jko h
    refine wjn (τ:=Int) (fun t=>k16 t=some r) (fun y15=>⟨mk 45 [(0,(Qi1 p0)),(1,I p1),(5,I y3),(6,I y4),(8,.ref 0 2 0 0),(9,I y15),(10,(Qi1 p0)),(11,(I ((p0.length:Int)))),(12,I y5)],[(Qqj x11)]⟩) (fun y15 h=>?_) ?_
    ·subst hk_k16
     obtain⟨x17,hl18,h⟩:=bno h
     refine wx tbk [(4,rp [ci 0,(.tmp 33,(I (w64 (y15-y4))))] (I ((if (w64 (y15-y4))>0 then w64 (y15-y4) else 0)))),(7,rp [(.tmp 34,(I ((if (w64 (y15-y4))>0 then w64 (y15-y4) else 0)))),(.tmp 36,I x11.Price)] (I x17))] ⟨Qg8 rfl,Qdp hl18 (abn rfl rfl),tv⟩ ?_
     obtain⟨x19,hl20,h⟩:=bno h
     exact wx1 tbk [(2,rp [(.tmp 39,I y4),(.tmp 40,I y15)] (I ((if y15>y4 then y15 else y4)))),(3,rp [(.tmp 41,(I ((if y15>y4 then y15 else y4))))] (I x19))] ⟨Qg8 rfl,Qdp hl20 (aas rfl),tv⟩<|bln<|thn<|wxz1<|thn<|arm (mto (n:=45) [(0,(Qi1 p0)),(1,I p1),(5,(I (w64 (y3+x17)))),(6,I x19),(10,(Qi1 p0)),(11,(I ((p0.length:Int)))),(12,(I (w64 (y5+1))))] [] [] hq (pc (rnd Qby) (pw (pw (pw (pc (rnd Qby) (pw (pw pn))))))) qn) (ih (w64 (y3+x17),x19,w64 (y5+1)) h)
    ·skip
     refine bfe h (fun hb21 h=>?_) fun hb21 h=>?_
     ·exact wx tbk [(2,rp _ _),(5,rp [(.tmp 23,(B ((y5==(w64 ((p0.length:Int)-1))))))] (B true))] ⟨alq 2 Qcl p0 underlying82,asb hb21 (amv rfl),tv⟩<|wtr<|wxz1<|thn<|⟨(p1),h,(mto (n:=45) [(0,(Qi1 p0)),(1,I p1),(5,I y3),(6,I y4),(8,.ref 0 2 0 0),(9,I p1),(10,(Qi1 p0)),(11,(I ((p0.length:Int)))),(12,I y5)] [0] [(Qqj x11)] hq (pc (rnd Qby) (pw (pw (pw (prr (pw (pc (rnd Qby) (pw (pw pn))))))))) (qb (lcc ln) qn))⟩
     ·refine wx tbk [(2,rp _ _),(5,rp [(.tmp 23,(B ((y5==(w64 ((p0.length:Int)-1))))))] (B false))] ⟨alq 2 Qcl p0 underlying82,asb hb21 (amv rfl),tv⟩ ?_
      refine bfe h (fun hc22 h=>?_) fun hc22 h=>?_
      ·exact wft hc22<|wxz1<|thn<|⟨(p1),h,(mto (n:=45) [(0,(Qi1 p0)),(1,I p1),(5,I y3),(6,I y4),(8,.ref 0 2 0 0),(9,I p1),(10,(Qi1 p0)),(11,(I ((p0.length:Int)))),(12,I y5)] [0] [(Qqj x11)] hq (pc (rnd Qby) (pw (pw (pw (prr (pw (pc (rnd Qby) (pw (pw pn))))))))) (qb (lcc ln) qn))⟩
      ·exact wfn hc22<|Qaf<|thn<|⟨(x11.Upto),h,(mto (n:=45) [(0,(Qi1 p0)),(1,I p1),(5,I y3),(6,I y4),(8,.ref 0 2 0 0),(9,I x11.Upto),(10,(Qi1 p0)),(11,(I ((p0.length:Int)))),(12,I y5)] [0] [(Qqj x11)] hq (pc (rnd Qby) (pw (pw (pw (prr (pw (pc (rnd Qby) (pw (pw pn))))))))) (qb (lcc ln) qn))⟩
   ·exact wfn hc10<|Qax<|Qan<|Qan<|Qaw rfl<|thn<|⟨(y3),h,(mto (n:=45) [(5,I y3)] [] [] hq (pw pn) qn)⟩
def Qin (N:Nat) (p0:List Qb8) (p1:Int):Option (Int×Int):=
  (Qhc N p0).bind fun x2=>
  bif (!x2) then
   some (0,1)
  else
   (Qa0 N p1 0 1000000000000).bind fun x5=>
   bif (!x5) then
    some (0,2)
   else
    (Qga N p0 p1).bind fun x8=>
    some (x8,0)
theorem Qlk (N:Nat) (p0:List Qb8) (p1:Int) (r:(Int×Int)) (h:Qin N p0 p1=some r):Spec prog 25 [(.dat 2 (p0.map Qcl)),(I p1)] [] (.tup [(I r.1),(I r.2)]) []:=by
  refine sA func25 0 fun _ _ _ hq hd0=>?_
  unfold Qin at h
  refine wxz<|wsq<|Qai ?_
  obtain⟨x2,hf1,h⟩:=bno h
  refine wx tbk [(1,rp _ _)] ⟨apw Qui (Qil N p0 _ hf1),tv⟩ ?_
  refine bfe h (fun hc3 h=>?_) fun hc3 h=>?_
  ·refine wft hc3<|wxz<|Qac<|Qal<|Qah ?_
   obtain rfl:=osi h
   exact fie [I 0,I 1] ⟨rot,rot,tv⟩
  ·refine wfn hc3 ?_
   obtain⟨x5,hf4,h⟩:=bno h
   refine wx tbk [(1,rp _ _)] ⟨apw Qd3 (Qar N p1 0 1000000000000 _ hf4),tv⟩ ?_
   refine bfe h (fun hc6 h=>?_) fun hc6 h=>?_
   ·refine wft hc6<|wxz<|Qac<|Qal<|Qah ?_
    obtain rfl:=osi h
    exact fie [I 0,I 2] ⟨rot,rot,tv⟩
   ·refine wfn hc6<|Qaf<|bln<|thn ?_
    obtain⟨x8,hf7,h⟩:=bno h
    refine wx tbk [(2,rp _ _)] ⟨apw Qpl (Qg0 N p0 p1 _ hf7),tv⟩<|Qac ?_
    obtain rfl:=osi h
    exact fie [I x8,I 0] ⟨rot,rot,tv⟩
def Qiz (N:Nat) (p0:List Qb8) (p1 p2:Int):Option (Int×Int):=
  Qcx (fun _=>
    (Qga N p0 (w64 (p1+p2))).bind fun x3=>
    (Qga N p0 p1).bind fun x5=>
    some (w64 (x3-x5),0)) fun k1:Unit→Option (Int×Int)=>
  (Qhc N p0).bind fun x7=>
  bif (!x7) then
   some (0,1)
  else
   (Qa0 N p1 0 1000000000000).bind fun x10=>
   bif (!x10) then
    some (0,2)
   else
    (Qa0 N p2 0 1000000000000).bind fun x13=>
    bif (!x13) then
     some (0,2)
    else
     bif (decide ((w64 (p1+p2))>1000000000000)) then
      some (0,2)
     else
      k1 ()
def Q1c (p0:List Qb8):AV:=.dat 2 (p0.map Qcl)
def Qyl (p1:Int) (x10:Bool):List (Nat×Rec):=[(1,rp [fu 68,((.tmp 13),(I p1)),ci 0,ci 1000000000000] (B x10))]
def Qyk p1 x10 (p2:Int) (x13:Bool):=hcat (Qyl p1 x10) [(3,rp [((.tmp 15),(B ((!x10))))] (B false)),(5,rp [((.tmp 16),(B false)),fu 68,((.tmp 17),(I p2)),ci 0,ci 1000000000000] (B x13))]
theorem Qj8 (N:Nat) (p0:List Qb8) (p1 p2:Int) (r:(Int×Int)) (h:Qiz N p0 p1 p2=some r):Spec prog 26 [(.dat 2 (p0.map Qcl)),(I p1),(I p2)] [] (.tup [(I r.1),(I r.2)]) []:=by
  refine sA func26 0 fun _ _ _ hq hd0=>?_
  unfold Qiz at h
  refine wxz ?_
  obtain⟨k1,hk_k1,h⟩:=jko h
  refine wjn (τ:=Unit) (fun t=>k1 t=some r) (fun _=>⟨mk 36 [(0,(Q1c p0)),(1,I p1),(2,I p2)],[]⟩) (fun t h=>?_) ?_
  ·subst hk_k1
   obtain⟨x3,hf2,h⟩:=bno h
   obtain⟨x5,hf4,h⟩:=bno h
   refine wx tbk [(4,rp _ _),(7,rp _ _)] ⟨apw Qpl (Qg0 N p0 (w64 (p1+p2)) _ hf2),apw Qpl (Qg0 N p0 p1 _ hf4),tv⟩<|Qac ?_
   obtain rfl:=osi h
   exact fie [(I (w64 (x3-x5))),I 0] ⟨rot,rot,tv⟩
  ·skip
   refine Qai ?_
   obtain⟨x7,hf6,h⟩:=bno h
   refine wx tbk [(1,rp _ _)] ⟨apw Qui (Qil N p0 _ hf6),tv⟩ ?_
   refine bfe h (fun hc8 h=>?_) fun hc8 h=>?_
   ·refine wft hc8<|wxz<|Qac<|Qal<|Qah ?_
    obtain rfl:=osi h
    exact fie [I 0,I 1] ⟨rot,rot,tv⟩
   ·refine wfn hc8 ?_
    obtain⟨x10,hf9,h⟩:=bno h
    refine hpre (A:=(Qyl p1 x10)) ⟨apv Qd3 (Qar N p1 0 1000000000000 _ hf9) (nlcc (nlc nll nl0)) nll,tv⟩ fun q1_=>?_
    refine bfe h (fun hb11 h=>?_) fun hb11 h=>?_
    ·refine wx tbk (hcat (Qyl p1 x10) [(3,rp [(.tmp 15,(B ((!x10))))] (B true))]) (hap q1_ ⟨asb hb11 (amv rfl),tv⟩)<|wtr<|wxz<|Qac<|Qal<|Qah ?_
     obtain rfl:=osi h
     exact fie [I 0,I 2] ⟨rot,rot,tv⟩
    ·obtain⟨x13,hf12,h⟩:=bno h
     refine hpre (A:=(Qyk p1 x10 p2 x13)) (hap q1_ ⟨asb hb11 (amv rfl),ag_ (apv Qd3 (Qar N p2 0 1000000000000 _ hf12) (nlcc (nlc nll nl0)) nll),tv⟩) fun q2_=>?_
     refine bfe h (fun hb14 h=>?_) fun hb14 h=>?_
     ·refine wx tbk (hcat (Qyk p1 x10 p2 x13) [(8,rp [(.tmp 20,(B ((!x13))))] (B true))]) (hap q2_ ⟨asb hb14 (amv rfl),tv⟩)<|wtr<|wxz<|Qac<|Qal<|Qah ?_
      obtain rfl:=osi h
      exact fie [I 0,I 2] ⟨rot,rot,tv⟩
     ·refine wx tbk (hcat (Qyk p1 x10 p2 x13) [(8,rp [(.tmp 20,(B ((!x13))))] (B false))]) (hap q2_ ⟨asb hb14 (amv rfl),tv⟩) ?_
      refine bfe h (fun hc15 h=>?_) fun hc15 h=>?_
      ·refine wft hc15<|wxz<|Qac<|Qal<|Qah ?_
       obtain rfl:=osi h
       exact fie [I 0,I 2] ⟨rot,rot,tv⟩
      ·exact wfn hc15<|Qaf<|bln<|thn<|⟨(),h,(mto (n:=36) [(0,(Q1c p0)),(1,I p1),(2,I p2)] [] [] hq (pc (rnd Qby) (pw (pw pn))) qn)⟩
def Qe0 (_N:Nat) (p0 p1 p2:Int):Option Bool:=
  bif (decide (p1≤p0)) then
   some (decide (p0≤p2))
  else
   some false
theorem Qfa (N:Nat) (p0 p1 p2:Int) (r:Bool) (h:Qe0 N p0 p1 p2=some r):Spec prog 42 [(I p0),(I p1),(I p2)] [] (B r) []:=by
  refine sA func42 0 fun _ _ _ hq hd0=>?_
  unfold Qe0 at h
  refine wxz ?_
  refine bfe h (fun hb1 h=>?_) fun hb1 h=>?_
  ·refine wx tbk [(3,rp [(.tmp 9,(B ((decide (p1≤p0)))))] (B true))] ⟨asb hb1 (amv rfl),tv⟩<|Qac ?_
   obtain rfl:=osi h
   exact fend ⟨[(B ((decide (p0≤p2))))],⟨rot,tv⟩,rfl⟩ nll
  ·exact wx tbk [(3,rp [(.tmp 9,(B ((decide (p1≤p0)))))] (B false))] ⟨asb hb1 (amv rfl),tv⟩<|Qac<|frb h
def Qel (N:Nat) (p0:Qct):Option Bool:=
  (Qe0 N p0.Mass 0 1000000).bind fun x2=>
  bif x2 then
   (Qe0 N p0.Heat 0 (w64 (4000*p0.Mass))).bind fun x5=>
   bif x5 then
    (Qe0 N p0.Silica 0 (w64 (10000*p0.Mass))).bind fun x8=>
    bif x8 then
     (Qe0 N p0.Gas 0 1000000000).bind fun x11=>
     some x11
    else
     some false
   else
    some false
  else
   some false
def Qyh (p0:Qct) (x2:Bool):List (Nat×Rec):=[(2,rp [fu 42,((.tmp 4),(I p0.Mass)),ci 0,ci 1000000] (B x2))]
def Qyg p0 x2 (x5:Bool):=hcat (Qyh p0 x2) [(3,rp [((.tmp 5),(B x2))] (B true)),(9,rp [((.tmp 6),(B true)),fu 42,((.tmp 8),(I p0.Heat)),ci 0,((.tmp 11),(I (w64 (4000*p0.Mass))))] (B x5))]
def Qyf p0 x2 x5 (x8:Bool):=hcat (Qyg p0 x2 x5) [(11,rp [((.tmp 13),(B x5))] (B true)),(17,rp [((.tmp 14),(B true)),fu 42,((.tmp 16),(I p0.Silica)),ci 0,((.tmp 19),(I (w64 (10000*p0.Mass))))] (B x8))]
theorem Qfu (N:Nat) (p0:Qct) (r:Bool) (h:Qel N p0=some r):Spec prog 43 [(.agg (Qgf p0))] [] (B r) []:=by
  refine sA func43 0 fun _ _ _ hq hd0=>?_
  unfold Qel at h
  refine wxz ?_
  obtain⟨x2,hf1,h⟩:=bno h
  refine hpre (A:=(Qyh p0 x2)) ⟨apv Qno (Qfa N p0.Mass 0 1000000 _ hf1) (nlcc (nlc nll nl0)) nll,tv⟩ fun q1_=>?_
  refine bfe h (fun hb3 h=>?_) fun hb3 h=>?_
  ·obtain⟨x5,hf4,h⟩:=bno h
   refine hpre (A:=(Qyg p0 x2 x5)) (hap q1_ ⟨asb hb3 (amv rfl),ag_ (apv Qno (Qfa N p0.Heat 0 (w64 (4000*p0.Mass)) _ hf4) (nlcc (nlc nll nl0)) nll),tv⟩) fun q2_=>?_
   refine bfe h (fun hb6 h=>?_) fun hb6 h=>?_
   ·obtain⟨x8,hf7,h⟩:=bno h
    refine hpre (A:=(Qyf p0 x2 x5 x8)) (hap q2_ ⟨asb hb6 (amv rfl),ag_ (apv Qno (Qfa N p0.Silica 0 (w64 (10000*p0.Mass)) _ hf7) (nlcc (nlc nll nl0)) nll),tv⟩) fun q3_=>?_
    refine bfe h (fun hb9 h=>?_) fun hb9 h=>?_
    ·obtain⟨x11,hf10,h⟩:=bno h
     exact wx tbk (hcat (Qyf p0 x2 x5 x8) [(19,rp [(.tmp 21,B x8)] (B true)),(22,rp [(.tmp 22,B true),fu 42,(.tmp 24,I p0.Gas),ci 0,ci 1000000000] (B x11))]) (hap q3_ ⟨asb hb9 (amv rfl),ag_ (apv Qno (Qfa N p0.Gas 0 1000000000 _ hf10) (nlcc (nlc nll nl0)) nll),tv⟩)<|Qac<|frb h
    ·exact wx tbk (hcat (Qyf p0 x2 x5 x8) [(19,rp [(.tmp 21,B x8)] (B false))]) (hap q3_ ⟨asb hb9 (amv rfl),tv⟩)<|Qac<|frb h
   ·exact wx tbk (hcat (Qyg p0 x2 x5) [(11,rp [(.tmp 13,B x5)] (B false))]) (hap q2_ ⟨asb hb6 (amv rfl),tv⟩)<|Qac<|frb h
  ·exact wx tbk (hcat (Qyh p0 x2) [(3,rp [(.tmp 5,B x2)] (B false))]) (hap q1_ ⟨asb hb3 (amv rfl),tv⟩)<|Qac<|frb h
def Qfp (N:Nat) (p0:Qct):Option Int:=
  (Qel N p0).bind fun x2=>
  bif (!x2) then
   some 1
  else
   some 0
theorem Qio (N:Nat) (p0:Qct) (r:Int) (h:Qfp N p0=some r):Spec prog 70 [(.agg (Qgf p0))] [] (I r) []:=by
  refine sA func70 0 fun _ _ _ hq hd0=>?_
  unfold Qfp at h
  refine wxz<|wsq ?_
  obtain⟨x2,hf1,h⟩:=bno h
  refine wx tbk [(1,rp _ _)] ⟨apw Quq (Qfu N p0 _ hf1),tv⟩ ?_
  refine bfe h (fun hc3 h=>?_) fun hc3 h=>?_
  ·refine wft hc3<|wxz<|Qac<|Qah ?_
   obtain rfl:=osi h
   exact fend ⟨[I 1],⟨rot,tv⟩,rfl⟩ nll
  ·refine wfn hc3<|Qaf<|thn<|wxz<|Qac ?_
   obtain rfl:=osi h
   exact fend ⟨[I 0],⟨rot,tv⟩,rfl⟩ nll
def Qhy (N:Nat) (p0:Qct) (p1:Int):Option (Qct×Int):=
  (Qel N p0).bind fun x2=>
  bif (!x2) then
   some ((⟨0,0,0,0⟩:Qct),1)
  else
   Qcx (fun _=>
     some ((⟨p0.Mass,w64 (p0.Heat+p1),p0.Silica,p0.Gas⟩:Qct),0)) fun k4:Unit→Option (Qct×Int)=>
   bif (decide (p1<(w64 (0-p0.Heat)))) then
    some ((⟨0,0,0,0⟩:Qct),2)
   else
    bif (decide (p1>(w64 ((w64 (4000*p0.Mass))-p0.Heat)))) then
     some ((⟨0,0,0,0⟩:Qct),2)
    else
     k4 ()
def Qye:AV:=.agg [(I (0)),(I (0)),(I (0)),(I (0))]
def Q09 (p0:Qct):Slot:=.own 4 [[(I p0.Mass),(I p0.Heat),(I p0.Silica),(I p0.Gas)]]
def Q08:Slot:=.own 4 [[(I (0)),(I (0)),(I (0)),(I (0))]]
theorem Qk8 (N:Nat) (p0:Qct) (p1:Int) (r:(Qct×Int)) (h:Qhy N p0 p1=some r):Spec prog 71 [(.agg (Qgf p0)),(I p1)] [] (.tup [(.agg (Qgf r.1)),(I r.2)]) []:=by
  refine sA func71 0 fun _ _ _ hq hd0=>?_
  unfold Qhy at h
  refine wxz<|wsq ?_
  obtain⟨x2,hf1,h⟩:=bno h
  refine wx tbk [(1,rp _ _)] ⟨apw Quq (Qfu N p0 _ hf1),tv⟩ ?_
  refine bfe h (fun hc3 h=>?_) fun hc3 h=>?_
  ·refine wft hc3<|wx tbk [(0,rp _ _)] ⟨Qak (vs:=[]) rfl ts27 tz27 rfl (by rfl) rfl,tv⟩<|Qac<|Qah ?_
   obtain rfl:=osi h
   exact fie [Qye,I 1] ⟨Qbd (n:=1) (m:=4) (j:=0) (i:=0) (xs:=[[I 0,I 0,I 0,I 0]]) (by kernel_rfl) (by kernel_rfl) ti27 (by decide) rfl (nle rfl) rfl,rot,tv⟩
  ·refine wfn hc3<|Qaf<|thn ?_
   obtain⟨k4,hk_k4,h⟩:=jko h
   refine wjn (τ:=Unit) (fun t=>k4 t=some r) (fun _=>⟨mk 32 [(1,I p1),(2,.ref 0 4 0 0),(4,.ref 1 4 0 0)],[(Q09 p0),Q08]⟩) (fun t h=>?_) ?_
   ·subst hk_k4
    refine wxz<|wxz<|Qac ?_
    obtain rfl:=osi h
    exact fie [(.agg [I p0.Mass,(I (w64 (p0.Heat+p1))),I p0.Silica,I p0.Gas]),I 0] ⟨Qbd (n:=1) (m:=4) (j:=0) (i:=0) (xs:=[[I p0.Mass,(I (w64 (p0.Heat+p1))),I p0.Silica,I p0.Gas]]) (by kernel_rfl) (by kernel_rfl) ti27 (by decide) rfl (nle rfl) rfl,rot,tv⟩
   ·skip
    refine bfe h (fun hb5 h=>?_) fun hb5 h=>?_
    ·refine wx tbk [(5,rp [(.tmp 14,(B ((decide (p1<(w64 (0-p0.Heat)))))))] (B true))] ⟨asb hb5 (amv rfl),tv⟩<|wtr ?_
     refine wx tbk [(0,rp _ _)] ⟨Qak (vs:=[]) rfl ts27 tz27 rfl (by rfl) rfl,tv⟩<|Qac<|Qah ?_
     obtain rfl:=osi h
     exact fie [Qye,I 2] ⟨Qbd (n:=1) (m:=4) (j:=0) (i:=0) (xs:=[[I 0,I 0,I 0,I 0]]) (by kernel_rfl) (by kernel_rfl) ti27 (by decide) rfl (nle rfl) rfl,rot,tv⟩
    ·refine wx tbk [(5,rp [(.tmp 14,(B ((decide (p1<(w64 (0-p0.Heat)))))))] (B false))] ⟨asb hb5 (amv rfl),tv⟩ ?_
     refine bfe h (fun hc6 h=>?_) fun hc6 h=>?_
     ·refine wft hc6<|wx tbk [(0,rp _ _)] ⟨Qak (vs:=[]) rfl ts27 tz27 rfl (by rfl) rfl,tv⟩<|Qac<|Qah ?_
      obtain rfl:=osi h
      exact fie [Qye,I 2] ⟨Qbd (n:=1) (m:=4) (j:=0) (i:=0) (xs:=[[I 0,I 0,I 0,I 0]]) (by kernel_rfl) (by kernel_rfl) ti27 (by decide) rfl (nle rfl) rfl,rot,tv⟩
     ·exact wfn hc6<|Qaf<|thn<|⟨(),h,(mto (n:=32) [(1,I p1),(2,.ref 0 4 0 0),(4,.ref 1 4 0 0)] [0,1] [(Q09 p0),Q08] hq (pw (prr (prr pn))) (qb (lcc (lcc ln)) (qb (lcc (lcc ln)) qn)))⟩
def Qkl (N:Nat) (p0:Qk1) (p1:Int):Option (Qct×Int×Int):=
  Qcx (fun _=>
    (Qa0 N p1 0 100000000000).bind fun x3=>
    bif (!x3) then
     some ((⟨0,0,0,0⟩:Qct),0,2)
    else
     (some (if (w64 (p0.Stream.Heat-(w64 (p0.Floor*p0.Stream.Mass))))>0 then w64 (p0.Stream.Heat-(w64 (p0.Floor*p0.Stream.Mass))) else 0)).bind fun x5=>
     (some (if x5<p1 then x5 else p1)).bind fun x7=>
     (Qhy N (⟨p0.Stream.Mass,p0.Stream.Heat,p0.Stream.Silica,p0.Stream.Gas⟩:Qct) (w64 (0-x7))).bind fun x10=>
     some ((⟨x10.1.Mass,x10.1.Heat,x10.1.Silica,x10.1.Gas⟩:Qct),x7,0)) fun k1:Unit→Option (Qct×Int×Int)=>
  (Qfp N (⟨p0.Stream.Mass,p0.Stream.Heat,p0.Stream.Silica,p0.Stream.Gas⟩:Qct)).bind fun x12=>
  bif (x12 != 0) then
   some ((⟨0,0,0,0⟩:Qct),0,1)
  else
   (Qa0 N p0.Floor 0 4000).bind fun x15=>
   bif (!x15) then
    some ((⟨0,0,0,0⟩:Qct),0,1)
   else
    k1 ()
def Q1b (p0:Qk1):Slot:=.own 5 [[(I p0.Stream.Mass),(I p0.Stream.Heat),(I p0.Stream.Silica),(I p0.Stream.Gas),(I p0.Floor)]]
def Q1a:Slot:=.own 4 [[(I (0)),(I (0)),(I (0)),(I (0))]]
def Qyj:AV:=.agg [(I (0)),(I (0)),(I (0)),(I (0))]
def Q16 (p0:Qk1):AV:=.agg [(I p0.Stream.Mass),(I p0.Stream.Heat),(I p0.Stream.Silica),(I p0.Stream.Gas)]
def Q15 (x10:(Qct×Int)):AV:=.agg [(I x10.1.Mass),(I x10.1.Heat),(I x10.1.Silica),(I x10.1.Gas)]
def Qyi (p0:Qk1) (x12:Int):List (Nat×Rec):=[(2,rp [fu 70,((.tmp 8),(Q16 p0))] (I x12))]
theorem Qm6 (N:Nat) (p0:Qk1) (p1:Int) (r:(Qct×Int×Int)) (h:Qkl N p0 p1=some r):Spec prog 27 [(.agg (Qnv p0)),(I p1)] [] (.tup [(.agg (Qgf r.1)),(I r.2.1),(I r.2.2)]) []:=by
  refine sA func27 0 fun _ _ _ hq hd0=>?_
  unfold Qkl at h
  refine wxz ?_
  obtain⟨k1,hk_k1,h⟩:=jko h
  refine wjn (τ:=Unit) (fun t=>k1 t=some r) (fun _=>⟨mk 45 [(1,I p1),(2,.ref 0 5 0 0),(4,.ref 1 4 0 0)],[(Q1b p0),Q1a]⟩) (fun t h=>?_) ?_
  ·subst hk_k1
   refine wsq ?_
   obtain⟨x3,hf2,h⟩:=bno h
   refine wx tbk [(1,rp _ _)] ⟨apw Qd3 (Qar N p1 0 100000000000 _ hf2),tv⟩ ?_
   refine bfe h (fun hc4 h=>?_) fun hc4 h=>?_
   ·refine wft hc4<|wx tbk [(0,rp _ _)] ⟨Qak (vs:=[]) rfl ts27 tz27 rfl (by rfl) rfl,tv⟩<|Qac<|Qah ?_
    obtain rfl:=osi h
    exact fie [Qyj,I 0,I 2] ⟨Qbd (n:=1) (m:=4) (j:=0) (i:=0) (xs:=[[I 0,I 0,I 0,I 0]]) (by kernel_rfl) (by kernel_rfl) ti27 (by decide) rfl (nle rfl) rfl,rot,rot,tv⟩
   ·refine wfn hc4<|Qaf<|thn ?_
    obtain⟨x5,hl6,h⟩:=bno h
    obtain⟨x7,hl8,h⟩:=bno h
    refine wx tbk [(11,rp [ci 0,(.tmp 32,(I (w64 (p0.Stream.Heat-(w64 (p0.Floor*p0.Stream.Mass))))))] (I x5)),(12,rp [(.tmp 22,I p1),(.tmp 33,I x5)] (I ((if x5<p1 then x5 else p1)))),(13,rp [(.tmp 34,(I ((if x5<p1 then x5 else p1))))] (I x7))] ⟨Qdp hl6 (Qg8 rfl),Qhr rfl,Qdp hl8 (aas rfl),tv⟩ ?_
    obtain⟨x10,hf9,h⟩:=bno h
    refine wx tbk [(4,rp _ _)] ⟨apw Qze (Qk8 N (⟨p0.Stream.Mass,p0.Stream.Heat,p0.Stream.Silica,p0.Stream.Gas⟩:Qct) (w64 (0-x7)) _ hf9),tv⟩<|wxz<|Qac ?_
    obtain rfl:=osi h
    exact fie [(Q15 x10),I x7,I 0] ⟨Qbd (n:=1) (m:=4) (j:=0) (i:=0) (xs:=[[I x10.1.Mass,I x10.1.Heat,I x10.1.Silica,I x10.1.Gas]]) (by kernel_rfl) (by kernel_rfl) ti27 (by decide) rfl (nle rfl) rfl,rot,rot,tv⟩
  ·skip
   obtain⟨x12,hf11,h⟩:=bno h
   refine hpre (A:=(Qyi p0 x12)) ⟨apv Qzf (Qio N (⟨p0.Stream.Mass,p0.Stream.Heat,p0.Stream.Silica,p0.Stream.Gas⟩:Qct) _ hf11) (nlc (NLt.agg _ (nlcc (nlcc nl0))) nl0) nll,tv⟩ fun q1_=>?_
   refine bfe h (fun hb13 h=>?_) fun hb13 h=>?_
   ·refine wx tbk (hcat (Qyi p0 x12) [(4,rp [(.tmp 10,(B ((x12 != 0))))] (B true))]) (hap q1_ ⟨asb hb13 (amv rfl),tv⟩)<|wtr ?_
    refine wx tbk [(0,rp _ _)] ⟨Qak (vs:=[]) rfl ts27 tz27 rfl (by rfl) rfl,tv⟩<|Qac<|Qah ?_
    obtain rfl:=osi h
    exact fie [Qyj,I 0,I 1] ⟨Qbd (n:=1) (m:=4) (j:=0) (i:=0) (xs:=[[I 0,I 0,I 0,I 0]]) (by kernel_rfl) (by kernel_rfl) ti27 (by decide) rfl (nle rfl) rfl,rot,rot,tv⟩
   ·obtain⟨x15,hf14,h⟩:=bno h
    refine wx tbk (hcat (Qyi p0 x12) [(4,rp [(.tmp 10,(B ((x12 != 0))))] (B false)),(7,rp [(.tmp 11,B false),fu 68,(.tmp 13,I p0.Floor),ci 0,ci 4000] (B x15))]) (hap q1_ ⟨asb hb13 (amv rfl),ag_ (apv Qd3 (Qar N p0.Floor 0 4000 _ hf14) (nlcc (nlc nll nl0)) nll),tv⟩) ?_
    refine bfe h (fun hc16 h=>?_) fun hc16 h=>?_
    ·refine wft hc16<|wx tbk [(0,rp _ _)] ⟨Qak (vs:=[]) rfl ts27 tz27 rfl (by rfl) rfl,tv⟩<|Qac<|Qah ?_
     obtain rfl:=osi h
     exact fie [Qyj,I 0,I 1] ⟨Qbd (n:=1) (m:=4) (j:=0) (i:=0) (xs:=[[I 0,I 0,I 0,I 0]]) (by kernel_rfl) (by kernel_rfl) ti27 (by decide) rfl (nle rfl) rfl,rot,rot,tv⟩
    ·exact wfn hc16<|Qaf<|thn<|⟨(),h,(mto (n:=45) [(1,I p1),(2,.ref 0 5 0 0),(4,.ref 1 4 0 0)] [0,1] [(Q1b p0),Q1a] hq (pw (prr (prr pn))) (qb (lcc (lcc (lc rwl ln))) (qb (lcc (lcc ln)) qn)))⟩
def Qg5 (N:Nat) (p0:List Qaz):Option Int:=
  (Qem N p0).bind fun x2=>
  bif (!x2) then
   some 1
  else
   some 0
theorem Qj7 (N:Nat) (p0:List Qaz) (r:Int) (h:Qg5 N p0=some r):Spec prog 32 [(.dat 4 (p0.map Qas))] [] (I r) []:=by
  refine sA func32 0 fun _ _ _ hq hd0=>?_
  unfold Qg5 at h
  refine wxz<|wsq ?_
  obtain⟨x2,hf1,h⟩:=bno h
  refine wx tbk [(1,rp _ _)] ⟨apw Qpo (Qfc N p0 _ hf1),tv⟩ ?_
  refine bfe h (fun hc3 h=>?_) fun hc3 h=>?_
  ·refine wft hc3<|wxz<|Qac<|Qah ?_
   obtain rfl:=osi h
   exact fend ⟨[I 1],⟨rot,tv⟩,rfl⟩ nll
  ·refine wfn hc3<|Qaf<|thn<|wxz<|Qac ?_
   obtain rfl:=osi h
   exact fend ⟨[I 0],⟨rot,tv⟩,rfl⟩ nll
def Qcn (N:Nat) (p0:Qbw) (k1:Unit→Option Bool):Nat→Int→Option Bool
  |0,_=>none
  |n7+1,y5=>
    bif (decide (y5<(p0.Stairs.length:Int))) then
     (getI p0.Stairs y5).bind fun x9=>
     (Qa0 N x9.Amount 1 1000000000).bind fun x14=>
     bif (!x14) then
      some false
     else
      (Qa0 N x9.Price 0 1000).bind fun x17=>
      bif (!x17) then
       some false
      else
       bif (decide (y5>0)) then
        (getI p0.Stairs (w64 (y5-1))).bind fun x20=>
        bif (decide (x9.Price≤x20.Price)) then
         some false
        else
         Qcn N p0 k1 n7 (w64 (y5+1))
       else
        Qcn N p0 k1 n7 (w64 (y5+1))
    else
     k1 ()
def Qgm (N:Nat) (p0:Qbw):Option Bool:=
  Qcx (fun _=>
    (Qe7 N p0.Use).bind fun x3=>
    bif x3 then
     some (decide ((p0.Stairs.length:Int)≤6))
    else
     some false) fun k1:Unit→Option Bool=>
  Qcn N p0 k1 N 0
def Qn9 (p0:Qbw):AV:=.dat 2 (p0.Stairs.map Qbl)
def Qo7 (p0:Qbw):Slot:=.own 2 [[(I p0.Use),(Qn9 p0)]]
def Qtj (p0:Qbw) (x3:Bool):List (Nat×Rec):=[(2,rp [fu 93,((.tmp 41),(I p0.Use))] (B x3))]
def Qti (x9:Qbc) (x14:Bool):List (Nat×Rec):=[(2,rp [fu 68,((.tmp 14),(I x9.Amount)),ci 1,ci 1000000000] (B x14))]
def Qqi x9 x14 (x17:Bool):=hcat (Qti x9 x14) [(4,rp [((.tmp 16),(B ((!x14))))] (B false)),(7,rp [((.tmp 17),(B false)),fu 68,((.tmp 19),(I x9.Price)),ci 0,ci 1000] (B x17))]
theorem Qjl (N:Nat) (p0:Qbw) (r:Bool) (h:Qgm N p0=some r):Spec prog 95 [(.agg (Qay p0))] [] (B r) []:=by
  refine sA func95 0 fun _ _ _ hq hd0=>?_
  unfold Qgm at h
  refine wxz ?_
  obtain⟨k1,hk_k1,h⟩:=jko h
  refine wjn (τ:=Unit) (fun t=>k1 t=some r) (fun _=>⟨mk 49 [(1,.ref 0 2 0 0)],[(Qo7 p0)]⟩) (fun t h=>?_) ?_
  ·subst hk_k1
   obtain⟨x3,hf2,h⟩:=bno h
   refine hpre (A:=(Qtj p0 x3)) ⟨apv Qit (Qei N p0.Use _ hf2) (nlc nll nl0) nll,tv⟩ fun q1_=>?_
   refine bfe h (fun hb4 h=>?_) fun hb4 h=>?_
   ·refine wx tbk (hcat (Qtj p0 x3) [(3,rp [(.tmp 42,B x3)] (B true)),(6,rp [(.tmp 43,B true),(.tmp 45,(Qn9 p0))] (I ((p0.Stairs.length:Int))))]) (hap q1_ ⟨asb hb4 (amv rfl),ag_ (alq 2 Qbl p0.Stairs underlying60),tv⟩)<|Qac ?_
    obtain rfl:=osi h
    exact fend ⟨[(B ((decide ((p0.Stairs.length:Int)≤6))))],⟨rot,tv⟩,rfl⟩ nll
   ·exact wx tbk (hcat (Qtj p0 x3) [(3,rp [(.tmp 42,B x3)] (B false))]) (hap q1_ ⟨asb hb4 (amv rfl),tv⟩)<|Qac<|frb h
  ·skip
   refine wx tbk [(2,rp _ _)] ⟨alq 2 Qbl p0.Stairs underlying60,tv⟩<|Qai ?_
   refine wmr (mto (n:=49) (l':=[(1,.ref 0 2 0 0),(6,(Qn9 p0)),(7,(I ((p0.Stairs.length:Int)))),(8,I 0)]) (own':=[(Qo7 p0)]) [(1,.ref 0 2 0 0),(6,(Qn9 p0)),(7,(I ((p0.Stairs.length:Int)))),(8,I 0)] [0] [(Qo7 p0)] hq (prr (pc (rnd Qbu) (pw (pw pn)))) (qb (lc rwl (lc (rnd Qbu) ln)) qn)) ?_
   refine Qb0 (τ:=Int) (fun n t=>Qcn N p0 k1 n t=some r) (fun y5=>⟨mk 49 [(1,.ref 0 2 0 0),(6,(Qn9 p0)),(7,(I ((p0.Stairs.length:Int)))),(8,I y5)],[(Qo7 p0)]⟩) (fun t h=>by rw[Qcn] at h;cases h) (fun n7 ih y5 h=>?_) N (0) h
   rw[Qcn] at h
   skip
   refine wxz<|wsq ?_
   refine bfe h (fun hc8 h=>?_) fun hc8 h=>?_
   ·refine wft hc8<|Qaf<|thn<|wsq<|Qai ?_
    obtain⟨x9,hg10,h⟩:=bno h
    obtain⟨hi11,hj12⟩:=gsm hg10
    refine wx tbk [(1,rp _ _)] ⟨aiq underlying60 ti64 Qbl hi11 hj12,tv⟩ ?_
    obtain⟨x14,hf13,h⟩:=bno h
    refine hpre (A:=(Qti x9 x14)) ⟨apv Qd3 (Qar N x9.Amount 1 1000000000 _ hf13) (nlcc (nlc nll nl0)) nll,tv⟩ fun q2_=>?_
    refine bfe h (fun hb15 h=>?_) fun hb15 h=>?_
    ·exact wxd tbk (hcat (Qti x9 x14) [(4,rp [(.tmp 16,(B ((!x14))))] (B true))]) (hap q2_ ⟨asb hb15 (amv rfl),tv⟩)<|wtr<|wxz<|Qac<|Qal<|Qah<|Qah<|Qal<|Qah<|frb h
    ·obtain⟨x17,hf16,h⟩:=bno h
     refine hpre (A:=(Qqi x9 x14 x17)) (hap q2_ ⟨asb hb15 (amv rfl),ag_ (apv Qd3 (Qar N x9.Price 0 1000 _ hf16) (nlcc (nlc nll nl0)) nll),tv⟩) fun q3_=>?_
     refine bfe h (fun hb18 h=>?_) fun hb18 h=>?_
     ·exact wxd tbk (hcat (Qqi x9 x14 x17) [(10,rp [(.tmp 22,(B ((!x17))))] (B true))]) (hap q3_ ⟨asb hb18 (amv rfl),tv⟩)<|wtr<|wxz<|Qac<|Qal<|Qah<|Qah<|Qal<|Qah<|frb h
     ·refine bfe h (fun hb19 h=>?_) fun hb19 h=>?_
      ·obtain⟨x20,hg21,h⟩:=bno h
       obtain⟨hi22,hj23⟩:=gsm hg21
       refine wxd tbk (hcat (Qqi x9 x14 x17) [(10,rp [(.tmp 22,(B ((!x17))))] (B false)),(13,rp [(.tmp 23,B false),(.tmp 25,(B ((decide (y5>0)))))] (B true)),(20,rp [(.tmp 26,B true),(.tmp 30,(Qn9 p0)),(.tmp 32,(I (w64 (y5-1))))] (.dptr (Qbl x20) 0))]) (hap q3_ ⟨asb hb18 (amv rfl),asb hb19 (ag_ (amv rfl)),ag_ (aiq underlying60 ti64 Qbl hi22 hj23),tv⟩) ?_
       refine bfe h (fun hc24 h=>?_) fun hc24 h=>?_
       ·exact wft hc24<|wxz<|Qac<|Qal<|Qah<|Qah<|Qal<|Qah<|frb h
       ·exact wfn hc24<|Qaf<|bln<|thn<|wxz1<|thn<|arm (mto (n:=49) [(1,.ref 0 2 0 0),(6,(Qn9 p0)),(7,(I ((p0.Stairs.length:Int)))),(8,(I (w64 (y5+1))))] [0] [(Qo7 p0)] hq (prr (pc (rnd Qbu) (pw (pw pn)))) (qb (lc rwl (lc (rnd Qbu) ln)) qn)) (ih (w64 (y5+1)) h)
      ·exact wxd tbk (hcat (Qqi x9 x14 x17) [(10,rp [(.tmp 22,(B ((!x17))))] (B false)),(13,rp [(.tmp 23,B false),(.tmp 25,(B ((decide (y5>0)))))] (B false))]) (hap q3_ ⟨asb hb18 (amv rfl),asb hb19 (ag_ (amv rfl)),tv⟩)<|wfa<|Qaf<|bln<|thn<|wxz1<|thn<|arm (mto (n:=49) [(1,.ref 0 2 0 0),(6,(Qn9 p0)),(7,(I ((p0.Stairs.length:Int)))),(8,(I (w64 (y5+1))))] [0] [(Qo7 p0)] hq (prr (pc (rnd Qbu) (pw (pw pn)))) (qb (lc rwl (lc (rnd Qbu) ln)) qn)) (ih (w64 (y5+1)) h)
   ·exact wfn hc8<|Qax<|Qan<|Qan<|Qaw rfl<|thn<|⟨(),h,(mto (n:=49) [(1,.ref 0 2 0 0)] [0] [(Qo7 p0)] hq (prr pn) (qb (lc rwl (lc (rnd Qbu) ln)) qn))⟩
def Qek (N:Nat) (p0:Qbw):Option Bool:=
  (Qgm N p0).bind fun x3=>
  some (!x3)
abbrev Q14 (p0:Qbw):AV:=.agg [(I p0.Use),(.dat 2 (p0.Stairs.map Qbl))]
abbrev Qv2:Slot:=.own 1 [[(.fn (.func 95) [] [])]]
theorem Qha (N:Nat) (p0:Qbw) (r:Bool) (h:Qek N p0=some r):Spec prog 113 [(Q14 p0),(.ref 0 1 (0) 0)] [Qv2] (B r) [Qv2]:=by
  refine sF func113 1 fun _ _ _ hq hd0=>?_
  unfold Qek at h
  refine wxz ?_
  obtain⟨x3,hf2,h⟩:=bno h
  refine wx tbk [(2,rp _ _)] ⟨apw Qza (Qjl N p0 _ hf2),tv⟩ ?_
  refine wmr (mto (n:=8) (l':=[(3,(B ((!x3))))]) (own':=[Qv2]) [(3,(B ((!x3))))] [0] [Qv2] hq (pw pn) (qb (lc (.rn (Qap rn0 rn0)) ln) qn))<|Qac ?_
  obtain rfl:=osi h
  exact⟨_,Mor.rfl,fio [(B ((!x3)))] ⟨rot,tv⟩⟩
def Qau (N:Nat) (p0:List Qbw) (k2:Unit→Option Int):Nat→Int→Option Int
  |0,_=>none
  |n5+1,y3=>
    bif (decide (y3<(p0.length:Int))) then
     (getI p0 y3).bind fun x7=>
     (Qek N x7).bind fun x12=>
     bif x12 then
      some y3
     else
      Qau N p0 k2 n5 (w64 (y3+1))
    else
     k2 ()
def Qck (N:Nat) (p0:List Qbw):Option Int:=
  Qcx (fun _=>
    some (-1)) fun k2:Unit→Option Int=>
  Qau N p0 k2 N 0
abbrev Qtl (p0:List Qbw):AV:=.dat 2 (p0.map Qay)
abbrev Qtk:AV:=.fn (.func 113) [] [(.ref 0 1 (0) 0)]
abbrev Qj1:Slot:=.own 1 [[(.fn (.func 95) [] [])]]
theorem Qeo (N:Nat) (p0:List Qbw) (r:Int) (h:Qck N p0=some r):Spec prog 118 [(Qtl p0),Qtk] [Qj1] (I r) [Qj1]:=by
  refine sF func118 1 fun _ _ _ hq hd0=>?_
  unfold Qck at h
  refine wxz ?_
  obtain⟨k2,hk_k2,h⟩:=jko h
  refine wjn (τ:=Unit) (fun t=>k2 t=some r) (fun _=>⟨mk 19 [],[Qj1]⟩) (fun t h=>?_) ?_
  ·subst hk_k2
   refine wxz<|wmr (mto (n:=19) (l':=[(4,(I ((-1))))]) (own':=[Qj1]) [(4,(I ((-1))))] [0] [Qj1] hq (pw pn) (qb (lc (.rn (Qap rn0 rn0)) ln) qn))<|Qac ?_
   obtain rfl:=osi h
   exact⟨_,Mor.rfl,fio [(I ((-1)))] ⟨rot,tv⟩⟩
  ·skip
   refine wx tbk [(1,rp _ _)] ⟨alq 2 Qay p0 underlying55,tv⟩<|Qai ?_
   refine wmr (mto (n:=19) (l':=[(0,(Qtl p0)),(1,Qtk),(7,(I ((p0.length:Int)))),(8,I 0)]) (own':=[Qj1]) [(0,(Qtl p0)),(1,Qtk),(7,(I ((p0.length:Int)))),(8,I 0)] [0] [Qj1] hq (pc (rnd Qag) (pc (.rn (Qap rn0 (rnc (rqr rfl) rn0))) (pw (pw pn)))) (qb (lc (.rn (Qap rn0 rn0)) ln) qn)) ?_
   refine Qb0 (τ:=Int) (fun n t=>Qau N p0 k2 n t=some r) (fun y3=>⟨mk 19 [(0,(Qtl p0)),(1,Qtk),(7,(I ((p0.length:Int)))),(8,I y3)],[Qj1]⟩) (fun t h=>by rw[Qau] at h;cases h) (fun n5 ih y3 h=>?_) N (0) h
   rw[Qau] at h
   skip
   refine wxz<|wsq ?_
   refine bfe h (fun hc6 h=>?_) fun hc6 h=>?_
   ·refine wft hc6<|Qaf<|thn<|wsq<|Qai<|wxz ?_
    obtain⟨x7,hg8,h⟩:=bno h
    obtain⟨hi9,hj10⟩:=gsm hg8
    obtain⟨x12,hf11,h⟩:=bno h
    refine wx tbk [(3,rp _ _),(5,⟨_,_,_,_,false⟩)] ⟨aiq underlying55 ti62 Qay hi9 hj10,Qeb (first:=[]) (cap:=[.ref 0 1 0 0]) (vs:=[(.agg [I x7.Use,(.dat 2 (x7.Stairs.map Qbl))])]) (σr:=[Qj1]) (σr':=[Qj1]) (res':=(B x12)) [0] rfl Qwo (Qha N x7 _ hf11) rfl (Qb9 (rnc (.plain _ (NLt.agg _ (nlc nll (nlc (nld Qbu _) nl0)))) (rnc (Qbg rfl) rn0))) (slc (Qaj (rnc (.plain _ (NLt.fn _ _ _ nl0 nl0)) rn0)) Qam) (slc (Qaj (rnc (.plain _ (NLt.fn _ _ _ nl0 nl0)) rn0)) Qam) (.plain _ nll) rfl rfl rfl,tv⟩ ?_
    refine bfe h (fun hc13 h=>?_) fun hc13 h=>?_
    ·refine wft hc13<|wxz ?_
     refine wmr (mto (n:=19) (l':=[(4,I y3)]) (own':=[Qj1]) [(4,I y3)] [0] [Qj1] hq (pw pn) (qb (lc (.rn (Qap rn0 rn0)) ln) qn))<|Qac<|Qal<|Qah<|Qah<|Qal<|Qah ?_
     obtain rfl:=osi h
     exact⟨_,Mor.rfl,fio [I y3] ⟨rot,tv⟩⟩
    ·exact wfn hc13<|Qaf<|bln<|thn<|wxz1<|thn<|arm (mto (n:=19) [(0,(Qtl p0)),(1,Qtk),(7,(I ((p0.length:Int)))),(8,(I (w64 (y3+1))))] [0] [Qj1] hq (pc (rnd Qag) (pc (.rn (Qap rn0 (rnc (rqr rfl) rn0))) (pw (pw pn)))) (qb (lc (.rn (Qap rn0 rn0)) ln) qn)) (ih (w64 (y3+1)) h)
   ·exact wfn hc6<|Qax<|Qan<|Qan<|Qaw rfl<|thn<|⟨(),h,(mto (n:=19) [] [0] [Qj1] hq pn (qb (lc (.rn (Qap rn0 rn0)) ln) qn))⟩
def Qcb (N:Nat) (p0:List Qbw):Option Bool:=
  (Qck N p0).bind fun x3=>
  some (decide (x3≥0))
abbrev Q05:AV:=.fn (.func 113) [] [(.ref 0 1 (0) 0)]
abbrev Qq9:Slot:=.own 1 [[(.fn (.func 95) [] [])]]
theorem Qeg (N:Nat) (p0:List Qbw) (r:Bool) (h:Qcb N p0=some r):Spec prog 112 [(.dat 2 (p0.map Qay)),Q05] [Qq9] (B r) [Qq9]:=by
  refine sF func112 1 fun _ _ _ hq hd0=>?_
  unfold Qcb at h
  refine wxz ?_
  obtain⟨x3,hf2,h⟩:=bno h
  refine wx tbk [(2,⟨_,_,_,_,false⟩)] ⟨acq [(.dat 2 (p0.map Qay)),Q05] [Qq9] [Qq9] (I x3) [0] Qwm (Qeo N p0 _ hf2) (Qb9 (rnc (pld Qag) (rnc (Qap rn0 (rnc (Qbg rfl) rn0)) rn0))) (slc (Qaj (rnc (.plain _ (NLt.fn _ _ _ nl0 nl0)) rn0)) Qam) (slc (Qaj (rnc (.plain _ (NLt.fn _ _ _ nl0 nl0)) rn0)) Qam) (.plain _ nll),tv⟩ ?_
  refine wmr (mto (n:=9) (l':=[(4,(B ((decide (x3≥0)))))]) (own':=[Qq9]) [(4,(B ((decide (x3≥0)))))] [0] [Qq9] hq (pw pn) (qb (lc (.rn (Qap rn0 rn0)) ln) qn))<|Qac ?_
  obtain rfl:=osi h
  exact⟨_,Mor.rfl,fio [(B ((decide (x3≥0))))] ⟨rot,tv⟩⟩
def Qew (N:Nat) (p0:List Qbw):Option Bool:=
  (Qcb N p0).bind fun x2=>
  some (!x2)
def Q06:AV:=.fn (.func 113) [] [(.ref 0 1 (0) 0)]
def Q07:Slot:=.own 1 [[(.fn (.func 95) [] [])]]
theorem Qhn (N:Nat) (p0:List Qbw) (r:Bool) (h:Qew N p0=some r):Spec prog 94 [(.dat 2 (p0.map Qay)),(.fn (.func 95) [] [])] [] (B r) []:=by
  refine sA func94 0 fun _ _ _ hq hd0=>?_
  unfold Qew at h
  refine wxz ?_
  obtain⟨x2,hf1,h⟩:=bno h
  refine wx tbk [(1,rp [(.tmp 3,.ref 0 1 0 0)] Q06),(2,⟨_,_,_,_,false⟩)] ⟨Qe2 (fs:=[]) (cs:=[.ref 0 1 0 0]) rfl rfl rfl rfl,acq [(.dat 2 (p0.map Qay)),Q06] [Q07] [Q07] (B x2) [0] Qwp (Qeg N p0 _ hf1) (Qb9 (rnc (pld Qag) (rnc (Qap rn0 (rnc (Qbg rfl) rn0)) rn0))) (slc (Qaj (rnc (.plain _ (NLt.fn _ _ _ nl0 nl0)) rn0)) Qam) (slc (Qaj (rnc (.plain _ (NLt.fn _ _ _ nl0 nl0)) rn0)) Qam) (.plain _ nll),tv⟩<|Qac ?_
  obtain rfl:=osi h
  exact fend ⟨[(B ((!x2)))],⟨rot,tv⟩,rfl⟩ nll
def Qds (N:Nat) (p0:GDay):Option Bool:=
  (Qe7 N p0.Tank).bind fun x2=>
  bif x2 then
   (Qa0 N p0.Start 0 p0.Tank).bind fun x5=>
   bif x5 then
    (Qa0 N (p0.Hours.length:Int) 1 24).bind fun x8=>
    bif x8 then
     (Qew N p0.Hours).bind fun x11=>
     some x11
    else
     some false
   else
    some false
  else
   some false
def Qyc (p0:GDay) (x2:Bool):List (Nat×Rec):=[(2,rp [fu 93,((.tmp 4),(I p0.Tank))] (B x2))]
def Qyb p0 x2 (x5:Bool):=hcat (Qyc p0 x2) [(3,rp [((.tmp 5),(B x2))] (B true)),(8,rp [((.tmp 6),(B true)),fu 68,((.tmp 8),(I p0.Start)),ci 0,((.tmp 10),(I p0.Tank))] (B x5))]
def Qyd (p0:GDay):AV:=.dat 2 (p0.Hours.map Qay)
def Qya p0 x2 x5 (x8:Bool):=hcat (Qyb p0 x2 x5) [(10,rp [((.tmp 12),(B x5))] (B true)),(13,rp [((.tmp 13),(B true)),((.tmp 15),(Qyd p0))] (I ((p0.Hours.length:Int)))),(14,rp [((.tmp 13),(B true)),fu 68,((.tmp 16),(I ((p0.Hours.length:Int)))),ci 1,ci 24] (B x8))]
theorem Qd8 (N:Nat) (p0:GDay) (r:Bool) (h:Qds N p0=some r):Spec prog 55 [(.agg (Qiv p0))] [] (B r) []:=by
  refine sA func55 0 fun _ _ _ hq hd0=>?_
  unfold Qds at h
  refine wxz ?_
  obtain⟨x2,hf1,h⟩:=bno h
  refine hpre (A:=(Qyc p0 x2)) ⟨apv Qit (Qei N p0.Tank _ hf1) (nlc nll nl0) nll,tv⟩ fun q1_=>?_
  refine bfe h (fun hb3 h=>?_) fun hb3 h=>?_
  ·obtain⟨x5,hf4,h⟩:=bno h
   refine hpre (A:=(Qyb p0 x2 x5)) (hap q1_ ⟨asb hb3 (amv rfl),ag_ (apv Qd3 (Qar N p0.Start 0 p0.Tank _ hf4) (nlcc (nlc nll nl0)) nll),tv⟩) fun q2_=>?_
   refine bfe h (fun hb6 h=>?_) fun hb6 h=>?_
   ·obtain⟨x8,hf7,h⟩:=bno h
    refine hpre (A:=(Qya p0 x2 x5 x8)) (hap q2_ ⟨asb hb6 (amv rfl),ag_ (alq 2 Qay p0.Hours underlying55),ag_ (apv Qd3 (Qar N (p0.Hours.length:Int) 1 24 _ hf7) (nlcc (nlc nll nl0)) nll),tv⟩) fun q3_=>?_
    refine bfe h (fun hb9 h=>?_) fun hb9 h=>?_
    ·obtain⟨x11,hf10,h⟩:=bno h
     refine wx tbk (hcat (Qya p0 x2 x5 x8) [(16,rp [(.tmp 18,B x8)] (B true)),(19,rp [(.tmp 19,B true),fu 94,(.tmp 21,(Qyd p0)),fu 95] (B x11))]) (hap q3_ ⟨asb hb9 (amv rfl),ag_ (acq [(Qyd p0),(.fn (.func 95) [] [])] [] [] (B x11) [] Qzb (Qhn N p0.Hours _ hf10) (Qb9 (rnc (pld Qag) (rnc (.plain _ (NLt.fn _ _ _ nl0 nl0)) rn0))) Qam Qam (.plain _ nll)),tv⟩)<|Qac ?_
     exact frb h
    ·exact wx tbk (hcat (Qya p0 x2 x5 x8) [(16,rp [(.tmp 18,B x8)] (B false))]) (hap q3_ ⟨asb hb9 (amv rfl),tv⟩)<|Qac<|frb h
   ·exact wx tbk (hcat (Qyb p0 x2 x5) [(10,rp [(.tmp 12,B x5)] (B false))]) (hap q2_ ⟨asb hb6 (amv rfl),tv⟩)<|Qac<|frb h
  ·exact wx tbk (hcat (Qyc p0 x2) [(3,rp [(.tmp 5,B x2)] (B false))]) (hap q1_ ⟨asb hb3 (amv rfl),tv⟩)<|Qac<|frb h
def Qhk (N:Nat) (p0:GDay):Option Int:=
  (Qds N p0).bind fun x2=>
  bif (!x2) then
   some 1
  else
   some 0
theorem Qkn (N:Nat) (p0:GDay) (r:Int) (h:Qhk N p0=some r):Spec prog 33 [(.agg (Qiv p0))] [] (I r) []:=by
  refine sA func33 0 fun _ _ _ hq hd0=>?_
  unfold Qhk at h
  refine wxz<|wsq ?_
  obtain⟨x2,hf1,h⟩:=bno h
  refine wx tbk [(1,rp _ _)] ⟨apw Qlw (Qd8 N p0 _ hf1),tv⟩ ?_
  refine bfe h (fun hc3 h=>?_) fun hc3 h=>?_
  ·refine wft hc3<|wxz<|Qac<|Qah ?_
   obtain rfl:=osi h
   exact fend ⟨[I 1],⟨rot,tv⟩,rfl⟩ nll
  ·refine wfn hc3<|Qaf<|thn<|wxz<|Qac ?_
   obtain rfl:=osi h
   exact fend ⟨[I 0],⟨rot,tv⟩,rfl⟩ nll
end
section
def Qda (N:Nat) (p0:Qbw) (k2:Int→Option Int):Nat→Int→Int→Option Int
  |0,_,_=>none
  |n7+1,y3,y4=>
    bif (decide (y4<(p0.Stairs.length:Int))) then
     (getI p0.Stairs y4).bind fun x9=>
     Qda N p0 k2 n7 (w64 (y3+x9.Amount)) (w64 (y4+1))
    else
     k2 (y3)
def Qe8 (N:Nat) (p0:Qbw):Option Int:=
  Qcx (fun y1=>
    some y1) fun k2:Int→Option Int=>
  Qda N p0 k2 N 0 0
def Qv0 (p0:Qbw):AV:=.dat 2 (p0.Stairs.map Qbl)
theorem Qg3 (N:Nat) (p0:Qbw) (r:Int) (h:Qe8 N p0=some r):Spec prog 96 [(.agg (Qay p0))] [] (I r) []:=by
  refine sA func96 0 fun _ _ _ hq hd0=>?_
  unfold Qe8 at h
  refine wxz ?_
  obtain⟨k2,hk_k2,h⟩:=jko h
  refine wjn (τ:=Int) (fun t=>k2 t=some r) (fun y1=>⟨mk 18 [(2,I y1)],[]⟩) (fun y1 h=>?_) ?_
  ·subst hk_k2
   refine wxz<|Qac ?_
   obtain rfl:=osi h
   exact fend ⟨[I y1],⟨rot,tv⟩,rfl⟩ nll
  ·skip
   refine wx tbk [(2,rp _ _)] ⟨alq 2 Qbl p0.Stairs underlying60,tv⟩<|Qai ?_
   refine wmr (mto (n:=18) (l':=[(2,I 0),(6,(Qv0 p0)),(7,(I ((p0.Stairs.length:Int)))),(8,I 0)]) (own':=[]) [(2,I 0),(6,(Qv0 p0)),(7,(I ((p0.Stairs.length:Int)))),(8,I 0)] [] [] hq (pw (pc (rnd Qbu) (pw (pw pn)))) qn) ?_
   refine Qb0 (τ:=Int×Int) (fun n t=>Qda N p0 k2 n t.1 t.2=some r) (fun ⟨y3,y4⟩=>⟨mk 18 [(2,I y3),(6,(Qv0 p0)),(7,(I ((p0.Stairs.length:Int)))),(8,I y4)],[]⟩) (fun t h=>by rw[Qda] at h;cases h) (fun n7 ih t h=>?_) N (0,0) h
   obtain⟨y3,y4⟩:=t
   rw[Qda] at h
   skip
   refine wxz<|wsq ?_
   refine bfe h (fun hc8 h=>?_) fun hc8 h=>?_
   ·refine wft hc8<|Qaf<|thn<|wsq<|Qai ?_
    obtain⟨x9,hg10,h⟩:=bno h
    obtain⟨hi11,hj12⟩:=gsm hg10
    exact wx tbk [(0,rp _ _)] ⟨aiq underlying60 ti64 Qbl hi11 hj12,tv⟩<|wxz1<|bln<|thn<|wxz1<|thn<|arm (mto (n:=18) [(2,(I (w64 (y3+x9.Amount)))),(6,(Qv0 p0)),(7,(I ((p0.Stairs.length:Int)))),(8,(I (w64 (y4+1))))] [] [] hq (pw (pc (rnd Qbu) (pw (pw pn)))) qn) (ih (w64 (y3+x9.Amount),w64 (y4+1)) h)
   ·exact wfn hc8<|Qax<|Qan<|Qan<|Qaw rfl<|thn<|⟨(y3),h,(mto (n:=18) [(2,I y3)] [] [] hq (pw pn) qn)⟩
def Qdg (N:Nat) (p0:GDay) (k1:Unit→Option (Int×Int)):Nat→Int→Int→Option (Int×Int)
  |0,_,_=>none
  |n6+1,y2,y3=>
    bif (decide (y3<(p0.Hours.length:Int))) then
     (getI p0.Hours y3).bind fun x8=>
     (Qe8 N x8).bind fun x13=>
     (some (w64 (y2+(w64 (x13-x8.Use))))).bind fun x14=>
     bif (decide (x14<0)) then
      some (y3,w64 (0-x14))
     else
      (some (if p0.Tank<x14 then p0.Tank else x14)).bind fun x17=>
      Qdg N p0 k1 n6 x17 (w64 (y3+1))
    else
     k1 ()
def Qfo (N:Nat) (p0:GDay):Option (Int×Int):=
  Qcx (fun _=>
    some ((-1),0)) fun k1:Unit→Option (Int×Int)=>
  Qdg N p0 k1 N p0.Start 0
def Qth (p0:GDay):AV:=.dat 2 (p0.Hours.map Qay)
def Qv1 (p0:GDay):Slot:=.own 3 [[(I p0.Tank),(I p0.Start),(Qth p0)]]
theorem Qhf (N:Nat) (p0:GDay) (r:(Int×Int)) (h:Qfo N p0=some r):Spec prog 56 [(.agg (Qiv p0))] [] (.tup [(I r.1),(I r.2)]) []:=by
  refine sA func56 0 fun _ _ _ hq hd0=>?_
  unfold Qfo at h
  refine wxz<|wxz ?_
  obtain⟨k1,hk_k1,h⟩:=jko h
  refine wjn (τ:=Unit) (fun t=>k1 t=some r) (fun _=>⟨mk 34 [],[]⟩) (fun t h=>?_) ?_
  ·subst hk_k1
   refine wxz<|Qac ?_
   obtain rfl:=osi h
   exact fie [(I ((-1))),I 0] ⟨rot,rot,tv⟩
  ·skip
   refine wx tbk [(2,rp _ _)] ⟨alq 2 Qay p0.Hours underlying55,tv⟩<|Qai ?_
   refine wmr (mto (n:=34) (l':=[(1,.ref 0 3 0 0),(4,I p0.Start),(10,(Qth p0)),(11,(I ((p0.Hours.length:Int)))),(12,I 0)]) (own':=[(Qv1 p0)]) [(1,.ref 0 3 0 0),(4,I p0.Start),(10,(Qth p0)),(11,(I ((p0.Hours.length:Int)))),(12,I 0)] [0] [(Qv1 p0)] hq (prr (pw (pc (rnd Qag) (pw (pw pn))))) (qb (lcc (lc (rnd Qag) ln)) qn)) ?_
   refine Qb0 (τ:=Int×Int) (fun n t=>Qdg N p0 k1 n t.1 t.2=some r) (fun ⟨y2,y3⟩=>⟨mk 34 [(1,.ref 0 3 0 0),(4,I y2),(10,(Qth p0)),(11,(I ((p0.Hours.length:Int)))),(12,I y3)],[(Qv1 p0)]⟩) (fun t h=>by rw[Qdg] at h;cases h) (fun n6 ih t h=>?_) N (p0.Start,0) h
   obtain⟨y2,y3⟩:=t
   rw[Qdg] at h
   skip
   refine wxz<|wsq ?_
   refine bfe h (fun hc7 h=>?_) fun hc7 h=>?_
   ·refine wft hc7<|Qaf<|thn<|wsq<|Qai ?_
    obtain⟨x8,hg9,h⟩:=bno h
    obtain⟨hi10,hj11⟩:=gsm hg9
    refine wx tbk [(1,rp _ _)] ⟨aiq underlying55 ti62 Qay hi10 hj11,tv⟩ ?_
    obtain⟨x13,hf12,h⟩:=bno h
    obtain⟨x14,hl15,h⟩:=bno h
    refine wxd tbk [(2,rp _ _),(7,rp [(.tmp 23,(I (w64 (y2+(w64 (x13-x8.Use))))))] (I x14))] ⟨apw Qud (Qg3 N x8 _ hf12),Qdp hl15 (aas rfl),tv⟩<|wsq<|wxz ?_
    refine bfe h (fun hc16 h=>?_) fun hc16 h=>?_
    ·refine wft hc16<|wxz<|Qac<|Qah<|Qal<|Qah<|Qah<|Qal<|Qah ?_
     obtain rfl:=osi h
     exact fie [I y3,(I (w64 (0-x14)))] ⟨rot,rot,tv⟩
    ·refine wfn hc16<|Qaf<|thn ?_
     obtain⟨x17,hl18,h⟩:=bno h
     exact wx1 tbk [(3,rp [(.tmp 29,I x14),(.tmp 31,I p0.Tank)] (I ((if p0.Tank<x14 then p0.Tank else x14)))),(4,rp [(.tmp 32,(I ((if p0.Tank<x14 then p0.Tank else x14))))] (I x17))] ⟨Qhr rfl,Qdp hl18 (aas rfl),tv⟩<|bln<|thn<|wxz1<|thn<|arm (mto (n:=34) [(1,.ref 0 3 0 0),(4,I x17),(10,(Qth p0)),(11,(I ((p0.Hours.length:Int)))),(12,(I (w64 (y3+1))))] [0] [(Qv1 p0)] hq (prr (pw (pc (rnd Qag) (pw (pw pn))))) (qb (lcc (lc (rnd Qag) ln)) qn)) (ih (x17,w64 (y3+1)) h)
   ·exact wfn hc7<|Qax<|Qan<|Qan<|Qaw rfl<|thn<|⟨(),h,(mto (n:=34) [] [] [] hq pn qn)⟩
def Qhv (N:Nat) (p0:GDay):Option (Int×Int×Int):=
  (Qds N p0).bind fun x2=>
  bif (!x2) then
   some (0,0,1)
  else
   (Qfo N p0).bind fun x5=>
   bif (decide (x5.1<0)) then
    some (0,0,7)
   else
    some (x5.1,x5.2,0)
theorem Qjb (N:Nat) (p0:GDay) (r:(Int×Int×Int)) (h:Qhv N p0=some r):Spec prog 29 [(.agg (Qiv p0))] [] (.tup [(I r.1),(I r.2.1),(I r.2.2)]) []:=by
  refine sA func29 0 fun _ _ _ hq hd0=>?_
  unfold Qhv at h
  refine wxz<|wsq ?_
  obtain⟨x2,hf1,h⟩:=bno h
  refine wx tbk [(1,rp _ _)] ⟨apw Qlw (Qd8 N p0 _ hf1),tv⟩ ?_
  refine bfe h (fun hc3 h=>?_) fun hc3 h=>?_
  ·refine wft hc3<|wxz<|Qac<|Qah ?_
   obtain rfl:=osi h
   exact fie [I 0,I 0,I 1] ⟨rot,rot,rot,tv⟩
  ·refine wfn hc3<|Qaf<|thn ?_
   obtain⟨x5,hf4,h⟩:=bno h
   refine wx tbk [(1,rp _ _)] ⟨apw Qun (Qhf N p0 _ hf4),tv⟩<|wsq<|wxz ?_
   refine bfe h (fun hc6 h=>?_) fun hc6 h=>?_
   ·refine wft hc6<|wxz<|Qac<|Qah ?_
    obtain rfl:=osi h
    exact fie [I 0,I 0,I 7] ⟨rot,rot,rot,tv⟩
   ·refine wfn hc6<|Qaf<|thn<|wxz<|Qac ?_
    obtain rfl:=osi h
    exact fie [I x5.1,I x5.2,I 0] ⟨rot,rot,rot,tv⟩
def Qfw (_N:Nat) (p0 _p1 _p2:Int) (p3:List Qbw) (_p4 _p5:Nat) (p6 p7:(Nat→Int)) (_p8 _p9:List Int):Option (Qbc×Bool):=
  chk (decide (0≤p0)&&decide (p0.toNat<24))<|
  (getI p3 p0).bind fun x6=>
  bif ((p6 p0.toNat)==(x6.Stairs.length:Int)) then
   some ((⟨0,0⟩:Qbc),false)
  else
   chk (decide (0≤p0)&&decide (p0.toNat<24))<|
   chk (decide (0≤p0)&&decide (p0.toNat<24))<|
   (getI x6.Stairs (p6 p0.toNat)).bind fun x13=>
   some ((⟨p7 p0.toNat,x13.Price⟩:Qbc),true)
abbrev Qvy (p3:List Qbw):AV:=.dat 2 (p3.map Qay)
abbrev Qih (p1 p2:Int) (p3:List Qbw) (p4 p5:Nat) (p6 p7:(Nat→Int)):Slot:=.own 53 [((I p1)::(I p2)::(Qvy p3)::(.own 1 1 (0) p4)::(.own 2 1 (0) p5)::(arrF 24 p6++arrF 24 p7))]
theorem Qi4 (N:Nat) (p0 p1 p2:Int) (p3:List Qbw) (p4 p5:Nat) (p6 p7:(Nat→Int)) (p8 p9:List Int) (r:(Qbc×Bool)) (h:Qfw N p0 p1 p2 p3 p4 p5 p6 p7 p8 p9=some r):Spec prog 97 [(.ref 0 53 (0) 0),(I p0)] [(Qih p1 p2 p3 p4 p5 p6 p7),(.own 1 (p8.map Qaa)),(.own 1 (p9.map Qaa))] (.tup [(.agg [(I r.1.Amount),(I r.1.Price)]),(B r.2)]) [(Qih p1 p2 p3 p4 p5 p6 p7),(.own 1 (p8.map Qaa)),(.own 1 (p9.map Qaa)),(.own 2 [[(I r.1.Amount),(I r.1.Price)]])]:=by
  refine sF func97 4 fun _ _ _ hq hd0=>?_
  unfold Qfw at h
  refine wxz<|wsq ?_
  obtain⟨hi5,h⟩:=cko h
  obtain⟨hi5a,hi5b⟩:=Qat hi5
  obtain⟨x6,hg7,h⟩:=bno h
  obtain⟨hi8,hj9⟩:=gsm hg7
  refine wxd tbk [(2,rb [(.tmp 6,.ref 0 53 0 0)] [(0,(Qih p1 p2 p3 p4 p5 p6 p7))] (.ref 0 53 0 0)),(4,rb [(.tmp 9,.ref 0 53 0 5),(.tmp 7,I p0)] [(0,(Qih p1 p2 p3 p4 p5 p6 p7))] (.ref 0 53 0 (5+p0.toNat*1))),(5,rb [(.tmp 10,(.ref 0 53 0 (5+p0.toNat*1)))] [(0,(Qih p1 p2 p3 p4 p5 p6 p7))] (I (p6 p0.toNat))),(7,rb [(.tmp 12,.ref 0 53 0 0)] [(0,(Qih p1 p2 p3 p4 p5 p6 p7))] (.ref 0 53 0 0)),(12,rp _ _),(15,rp _ _)] ⟨Qb5 rfl,Qd4 rfl underlying132 ti3 (odt hi5a) (odt hi5b) rfl,ald rfl ti3 (by decide) rfl (Qia (n:=24) (odt hi5b) (nle rfl)) (Qkw (pre:=[I p1,I p2,(Qvy p3),(.own 1 1 (0) p4),(.own 2 1 (0) p5)]) (post:=arrF 24 p7) (n:=24) (f:=p6) (by kernel_rfl) rfl (odt hi5b)),Qb5 rfl,aiq underlying55 ti62 Qay hi8 hj9,alq 2 Qbl x6.Stairs underlying60,tv⟩ ?_
  refine bfe h (fun hc10 h=>?_) fun hc10 h=>?_
  ·refine wft hc10<|wx tbk [(0,rp _ _)] ⟨Qak (vs:=[]) rfl ts64 tz64 rfl (by rfl) rfl,tv⟩ ?_
   refine wmr (mto (n:=49) (l':=[(4,.ref 3 2 0 0),(5,B false)]) (own':=[(Qih p1 p2 p3 p4 p5 p6 p7),(.own 1 (p8.map Qaa)),(.own 1 (p9.map Qaa)),(.own 2 [[(I (((⟨0,0⟩:Qbc).Amount))),(I (((⟨0,0⟩:Qbc).Price)))]])]) [(4,.ref 3 2 0 0),(5,B false)] [0,1,2,3] [(Qih p1 p2 p3 p4 p5 p6 p7),(.own 1 (p8.map Qaa)),(.own 1 (p9.map Qaa)),(.own 2 [[I 0,I 0]])] hq (prr (pw pn)) (qb (lcc (lc (rnd Qag) (lc (.rn (Qae rfl)) (lc (.rn (Qae rfl)) (Qb7 (Qaq fun _=>rwl) (Qaq fun _=>rwl)))))) (qc (spr Qab) (qc (spr Qab) (qb (lcc ln) qn)))))<|Qac<|Qah ?_
   obtain rfl:=osi h
   exact⟨_,Mor.rfl,fio [(.agg [(I ((⟨0,0⟩:Qbc).Amount)),(I ((⟨0,0⟩:Qbc).Price))]),B false] ⟨Qbd (n:=3) (m:=2) (j:=0) (i:=0) (xs:=[[(I ((⟨0,0⟩:Qbc).Amount)),(I ((⟨0,0⟩:Qbc).Price))]]) (by kernel_rfl) (by kernel_rfl) ti64 (by decide) rfl (nle rfl) rfl,rot,tv⟩⟩
  ·refine wfn hc10<|Qaf<|thn ?_
   obtain⟨hi11,h⟩:=cko h
   obtain⟨hi11a,hi11b⟩:=Qat hi11
   obtain⟨hi12,h⟩:=cko h
   obtain⟨hi12a,hi12b⟩:=Qat hi12
   obtain⟨x13,hg14,h⟩:=bno h
   obtain⟨hi15,hj16⟩:=gsm hg14
   refine wxd tbk [(2,rb [(.tmp 24,.ref 0 53 0 0)] [(0,(Qih p1 p2 p3 p4 p5 p6 p7))] (.ref 0 53 0 0)),(4,rb [(.tmp 27,.ref 0 53 0 29),(.tmp 25,I p0)] [(0,(Qih p1 p2 p3 p4 p5 p6 p7))] (.ref 0 53 0 (29+p0.toNat*1))),(5,rb [(.tmp 28,(.ref 0 53 0 (29+p0.toNat*1)))] [(0,(Qih p1 p2 p3 p4 p5 p6 p7))] (I (p7 p0.toNat))),(7,rb [(.tmp 30,.ref 0 53 0 0)] [(0,(Qih p1 p2 p3 p4 p5 p6 p7))] (.ref 0 53 0 0)),(12,rp _ _),(17,rb [(.tmp 39,.ref 0 53 0 0)] [(0,(Qih p1 p2 p3 p4 p5 p6 p7))] (.ref 0 53 0 0)),(19,rb [(.tmp 42,.ref 0 53 0 5),(.tmp 40,I p0)] [(0,(Qih p1 p2 p3 p4 p5 p6 p7))] (.ref 0 53 0 (5+p0.toNat*1))),(20,rb [(.tmp 43,(.ref 0 53 0 (5+p0.toNat*1)))] [(0,(Qih p1 p2 p3 p4 p5 p6 p7))] (I (p6 p0.toNat))),(21,rp _ _),(24,rp _ _)] ⟨Qb5 rfl,Qd4 rfl underlying132 ti3 (odt hi11a) (odt hi11b) rfl,ald rfl ti3 (by decide) rfl (Qia (n:=24) (odt hi11b) (nle rfl)) (Qkw (pre:=((I p1)::(I p2)::(Qvy p3)::(.own 1 1 (0) p4)::(.own 2 1 (0) p5)::arrF 24 p6)) (post:=[]) (n:=24) (f:=p7) (by kernel_rfl) rfl (odt hi11b)),Qb5 rfl,aiq underlying55 ti62 Qay hi8 hj9,Qb5 rfl,Qd4 rfl underlying132 ti3 (odt hi12a) (odt hi12b) rfl,ald rfl ti3 (by decide) rfl (Qia (n:=24) (odt hi12b) (nle rfl)) (Qkw (pre:=[I p1,I p2,(Qvy p3),(.own 1 1 (0) p4),(.own 2 1 (0) p5)]) (post:=arrF 24 p7) (n:=24) (f:=p6) (by kernel_rfl) rfl (odt hi12b)),aiq underlying60 ti64 Qbl hi15 hj16,Qak (vs:=[I (p7 p0.toNat),I x13.Price]) rfl ts64 tz64 rfl (by rfl) rfl,tv⟩ ?_
   refine wmr (mto (n:=49) (l':=[(4,.ref 3 2 0 0),(5,B true)]) (own':=[(Qih p1 p2 p3 p4 p5 p6 p7),(.own 1 (p8.map Qaa)),(.own 1 (p9.map Qaa)),(.own 2 [[(I (((⟨p7 p0.toNat,x13.Price⟩:Qbc).Amount))),(I (((⟨p7 p0.toNat,x13.Price⟩:Qbc).Price)))]])]) [(4,.ref 3 2 0 0),(5,B true)] [0,1,2,3] [(Qih p1 p2 p3 p4 p5 p6 p7),(.own 1 (p8.map Qaa)),(.own 1 (p9.map Qaa)),(.own 2 [[I (p7 p0.toNat),I x13.Price]])] hq (prr (pw pn)) (qb (lcc (lc (rnd Qag) (lc (.rn (Qae rfl)) (lc (.rn (Qae rfl)) (Qb7 (Qaq fun _=>rwl) (Qaq fun _=>rwl)))))) (qc (spr Qab) (qc (spr Qab) (qb (lcc ln) qn)))))<|Qac ?_
   obtain rfl:=osi h
   exact⟨_,Mor.rfl,fio [(.agg [(I ((⟨p7 p0.toNat,x13.Price⟩:Qbc).Amount)),(I ((⟨p7 p0.toNat,x13.Price⟩:Qbc).Price))]),B true] ⟨Qbd (n:=3) (m:=2) (j:=0) (i:=0) (xs:=[[(I ((⟨p7 p0.toNat,x13.Price⟩:Qbc).Amount)),(I ((⟨p7 p0.toNat,x13.Price⟩:Qbc).Price))]]) (by kernel_rfl) (by kernel_rfl) ti64 (by decide) rfl (nle rfl) rfl,rot,tv⟩⟩
def Qc2 (N:Nat) (p0 p1:Int) (p2 x6:Int) (p7:Nat) (p10:List Int) (y13 y14:(Nat→Int)):Nat→Int→(List Int)→Option ((Nat→Int)×(Nat→Int)×(List Int)×(List Int))
  |0,_,_=>none
  |n20+1,y16,y17=>
    bif (decide (y16<p1)) then
     chk (decide (0≤y16)&&decide (y16.toNat<p7))<|
     (y17[y16.toNat]?).bind fun x23=>
     chk (decide (0≤y16)&&decide (y16.toNat<p7))<|
     (y17[y16.toNat]?).bind fun _=>
     Qc2 N p0 p1 p2 x6 p7 p10 y13 y14 n20 (w64 (y16+1)) (y17.set y16.toNat (w64 (x23+p2)))
    else
     some (y13,y14,p10.set p0.toNat (w64 (x6+p2)),y17)
def Qfv (N:Nat) (p0 p1:Int) (p2 _p3 _p4:Int) (p5:List Qbw) (p6 p7:Nat) (p8 p9:(Nat→Int)) (p10 p11:List Int):Option ((Nat→Int)×(Nat→Int)×(List Int)×(List Int)):=
  chk (decide (0≤p0)&&decide (p0.toNat<p6))<|
  (p10[p0.toNat]?).bind fun x6=>
  chk (decide (0≤p0)&&decide (p0.toNat<p6))<|
  (p10[p0.toNat]?).bind fun _=>
  chk (decide (0≤p0)&&decide (p0.toNat<24))<|
  chk (decide (0≤p0)&&decide (p0.toNat<24))<|
  Qcx (fun ⟨y13,y14⟩=>
    Qc2 N p0 p1 p2 x6 p7 p10 y13 y14 N p0 p11) fun k15:(Nat→Int)×(Nat→Int)→Option ((Nat→Int)×(Nat→Int)×(List Int)×(List Int))=>
  chk (decide (0≤p0)&&decide (p0.toNat<24))<|
  bif (((setF p9 p0.toNat (w64 ((p9 p0.toNat)-p2))) p0.toNat)==0) then
   chk (decide (0≤p0)&&decide (p0.toNat<24))<|
   chk (decide (0≤p0)&&decide (p0.toNat<24))<|
   (getI p5 p0).bind fun x32=>
   chk (decide (0≤p0)&&decide (p0.toNat<24))<|
   bif (decide (((setF p8 p0.toNat (w64 ((p8 p0.toNat)+1))) p0.toNat)<(x32.Stairs.length:Int))) then
    chk (decide (0≤p0)&&decide (p0.toNat<24))<|
    (getI x32.Stairs ((setF p8 p0.toNat (w64 ((p8 p0.toNat)+1))) p0.toNat)).bind fun x39=>
    chk (decide (0≤p0)&&decide (p0.toNat<24))<|
    k15 (setF p8 p0.toNat (w64 ((p8 p0.toNat)+1)),setF (setF p9 p0.toNat (w64 ((p9 p0.toNat)-p2))) p0.toNat x39.Amount)
   else
    k15 (setF p8 p0.toNat (w64 ((p8 p0.toNat)+1)),setF p9 p0.toNat (w64 ((p9 p0.toNat)-p2)))
  else
   k15 (p8,setF p9 p0.toNat (w64 ((p9 p0.toNat)-p2)))
abbrev Qjg (p5:List Qbw):AV:=.dat 2 (p5.map Qay)
abbrev Qn8 (p3 p4:Int) (p5:List Qbw) (p6 p7:Nat) (p8 p9:(Nat→Int)):Slot:=.own 53 [((I p3)::(I p4)::(Qjg p5)::(.own 1 1 (0) p6)::(.own 2 1 (0) p7)::(arrF 24 p8++arrF 24 p9))]
def Qi9 (p10:List Int) (p0 x6 p2:Int):Slot:=.own 1 ((p10.set p0.toNat (w64 (x6+p2)):List Int).map Qaa)
def Qlh (p3 p4:Int) (p5:List Qbw) (p6 p7:Nat) (p8 p9:(Nat→Int)) (p0 p2:Int):Slot:=.own 53 [((I p3)::(I p4)::(Qjg p5)::(.own 1 1 (0) p6)::(.own 2 1 (0) p7)::(arrF 24 p8++arrF 24 (setF p9 p0.toNat (w64 ((p9 p0.toNat)-p2)))))]
def Qku (p3 p4:Int) (p5:List Qbw) (p6 p7:Nat) (y13 y14:(Nat→Int)):Slot:=.own 53 [((I p3)::(I p4)::(Qjg p5)::(.own 1 1 (0) p6)::(.own 2 1 (0) p7)::(arrF 24 y13++arrF 24 y14))]
def Qk4 (p3 p4:Int) (p5:List Qbw) (p6 p7:Nat) (p8:(Nat→Int)) (p0:Int) (p9:(Nat→Int)) (p2:Int):Slot:=.own 53 [((I p3)::(I p4)::(Qjg p5)::(.own 1 1 (0) p6)::(.own 2 1 (0) p7)::(arrF 24 (setF p8 p0.toNat (w64 ((p8 p0.toNat)+1)))++arrF 24 (setF p9 p0.toNat (w64 ((p9 p0.toNat)-p2)))))]
theorem Qi3 (N:Nat) (p0 p1:Int) (p2 p3 p4:Int) (p5:List Qbw) (p6 p7:Nat) (p8 p9:(Nat→Int)) (p10 p11:List Int) (r:((Nat→Int)×(Nat→Int)×(List Int)×(List Int))) (h:Qfv N p0 p1 p2 p3 p4 p5 p6 p7 p8 p9 p10 p11=some r):Spec prog 98 [(.ref 0 53 (0) 0),(I p0),(I p1),(I p2)] [(Qn8 p3 p4 p5 p6 p7 p8 p9),(.own 1 (p10.map Qaa)),(.own 1 (p11.map Qaa))] (.tup []) [(.own 53 [((I p3)::(I p4)::(Qjg p5)::(.own 1 1 (0) p6)::(.own 2 1 (0) p7)::(arrF 24 r.1++arrF 24 r.2.1))]),(.own 1 (r.2.2.1.map Qaa)),(.own 1 (r.2.2.2.map Qaa))]:=by
  refine sF func98 3 fun _ _ _ hq hd0=>?_
  unfold Qfv at h
  obtain⟨hi5,h⟩:=cko h
  obtain⟨hi5a,hi5b⟩:=Qat hi5
  obtain⟨x6,hg7,h⟩:=bno h
  obtain⟨hi8,h⟩:=cko h
  obtain⟨hi8a,hi8b⟩:=Qat hi8
  obtain⟨x9,hg10,h⟩:=bno h
  refine wx tbk [(1,rb [(.tmp 10,.ref 0 53 0 0)] [(0,(Qn8 p3 p4 p5 p6 p7 p8 p9))] (.ref 0 53 0 0)),(5,rb [(.tmp 13,(.own 1 1 (0) p6)),(.tmp 14,I p0)] [(1,(.own 1 (p10.map Qaa)))] (.ref 1 1 p0.toNat 0)),(6,rb [(.tmp 15,(.ref 1 1 p0.toNat 0))] [(1,(.own 1 (p10.map Qaa)))] (I x6)),(9,rb [(.tmp 13,(.own 1 1 (0) p6)),(.tmp 14,I p0)] [(1,(.own 1 (p10.map Qaa)))] (.ref 1 1 p0.toNat 0)),(10,⟨[(.tmp 19,(.ref 1 1 p0.toNat 0)),(.tmp 18,(I (w64 (x6+p2))))],[(1,(.own 1 (p10.map Qaa)))],.any,[(1,(Qi9 p10 p0 x6 p2))],false⟩)] ⟨Qb5 rfl,aio rfl underlying25 ti3 (odt hi5a) (odt hi5b) (Nat.zero_add _),ald rfl ti3 (by decide) (mgt Qaa hg7) (nle rfl) rfl,aio rfl underlying25 ti3 (odt hi8a) (odt hi8b) (Nat.zero_add _),ast rfl ti3 (by rfl) (mgt Qaa hg10) (nle rfl) (Qd2 Qaa rfl),tv⟩ ?_
  obtain⟨hi11,h⟩:=cko h
  obtain⟨hi11a,hi11b⟩:=Qat hi11
  obtain⟨hi12,h⟩:=cko h
  obtain⟨hi12a,hi12b⟩:=Qat hi12
  refine wxd tbk [(2,rb [(.tmp 20,.ref 0 53 0 0)] [(0,(Qn8 p3 p4 p5 p6 p7 p8 p9))] (.ref 0 53 0 0)),(4,rb [(.tmp 23,.ref 0 53 0 29),(.tmp 21,I p0)] [(0,(Qn8 p3 p4 p5 p6 p7 p8 p9))] (.ref 0 53 0 (29+p0.toNat*1))),(5,rb [(.tmp 24,(.ref 0 53 0 (29+p0.toNat*1)))] [(0,(Qn8 p3 p4 p5 p6 p7 p8 p9))] (I (p9 p0.toNat))),(8,rb [(.tmp 20,.ref 0 53 0 0)] [(0,(Qn8 p3 p4 p5 p6 p7 p8 p9))] (.ref 0 53 0 0)),(10,rb [(.tmp 29,.ref 0 53 0 29),(.tmp 21,I p0)] [(0,(Qn8 p3 p4 p5 p6 p7 p8 p9))] (.ref 0 53 0 (29+p0.toNat*1))),(11,⟨[(.tmp 30,(.ref 0 53 0 (29+p0.toNat*1))),(.tmp 27,(I (w64 ((p9 p0.toNat)-p2))))],[(0,(Qn8 p3 p4 p5 p6 p7 p8 p9))],.any,[(0,(Qlh p3 p4 p5 p6 p7 p8 p9 p0 p2))],false⟩)] ⟨Qb5 rfl,Qd4 rfl underlying132 ti3 (odt hi11a) (odt hi11b) rfl,ald rfl ti3 (by decide) rfl (Qia (n:=24) (odt hi11b) (nle rfl)) (Qkw (pre:=((I p3)::(I p4)::(Qjg p5)::(.own 1 1 (0) p6)::(.own 2 1 (0) p7)::arrF 24 p8)) (post:=[]) (n:=24) (f:=p9) (by kernel_rfl) rfl (odt hi11b)),Qb5 rfl,Qd4 rfl underlying132 ti3 (odt hi12a) (odt hi12b) rfl,ast rfl ti3 (by rfl) rfl (Qia (n:=24) (odt hi12b) (nle rfl)) (Qqm (pre:=((I p3)::(I p4)::(Qjg p5)::(.own 1 1 (0) p6)::(.own 2 1 (0) p7)::arrF 24 p8)) (post:=[]) (n:=24) (f:=p9) (by kernel_rfl) rfl (by kernel_rfl) (odt hi12b)),tv⟩ ?_
  obtain⟨k15,hk_k15,h⟩:=jko h
  refine wjn (τ:=(Nat→Int)×(Nat→Int)) (fun t=>k15 t=some r) (fun ⟨y13,y14⟩=>⟨mk 97 [(0,.ref 0 53 0 0),(1,I p0),(2,I p1),(3,I p2)],[(Qku p3 p4 p5 p6 p7 y13 y14),(Qi9 p10 p0 x6 p2),(.own 1 (p11.map Qaa))]⟩) (fun t h=>?_) ?_
  ·subst hk_k15
   obtain⟨y13,y14⟩:=t
   refine wxz<|Qai ?_
   refine wmr (mto (n:=97) (l':=[(0,.ref 0 53 0 0),(2,I p1),(3,I p2),(9,I p0)]) (own':=[(Qku p3 p4 p5 p6 p7 y13 y14),(Qi9 p10 p0 x6 p2),(.own 1 (p11.map Qaa))]) [(0,.ref 0 53 0 0),(2,I p1),(3,I p2),(9,I p0)] [0,1,2] [(Qku p3 p4 p5 p6 p7 y13 y14),(Qi9 p10 p0 x6 p2),(.own 1 (p11.map Qaa))] hq (prr (pw (pw (pw pn)))) (qb (lcc (lc (rnd Qag) (lc (.rn (Qae rfl)) (lc (.rn (Qae rfl)) (Qb7 (Qaq fun _=>rwl) (Qaq fun _=>rwl)))))) (qc (spr Qab) (qc (spr Qab) qn)))) ?_
   refine Qb0 (τ:=Int×(List Int)) (fun n t=>Qc2 N p0 p1 p2 x6 p7 p10 y13 y14 n t.1 t.2=some r) (fun ⟨y16,y17⟩=>⟨mk 97 [(0,.ref 0 53 0 0),(2,I p1),(3,I p2),(9,I y16)],[(Qku p3 p4 p5 p6 p7 y13 y14),(Qi9 p10 p0 x6 p2),(.own 1 (y17.map Qaa))]⟩) (fun t h=>by rw[Qc2] at h;cases h) (fun n20 ih t h=>?_) N (p0,p11) h
   obtain⟨y16,y17⟩:=t
   rw[Qc2] at h
   skip
   refine wsq<|wxz ?_
   refine bfe h (fun hc21 h=>?_) fun hc21 h=>?_
   ·refine wft hc21<|Qaf<|thn<|wsq<|Qai ?_
    obtain⟨hi22,h⟩:=cko h
    obtain⟨hi22a,hi22b⟩:=Qat hi22
    obtain⟨x23,hg24,h⟩:=bno h
    obtain⟨hi25,h⟩:=cko h
    obtain⟨hi25a,hi25b⟩:=Qat hi25
    obtain⟨x26,hg27,h⟩:=bno h
    refine wx1 tbk [(1,rb [(.tmp 87,.ref 0 53 0 0)] [(0,(Qku p3 p4 p5 p6 p7 y13 y14))] (.ref 0 53 0 0)),(5,rb [(.tmp 90,(.own 2 1 (0) p7)),(.tmp 91,I y16)] [(2,(.own 1 (y17.map Qaa)))] (.ref 2 1 y16.toNat 0)),(6,rb [(.tmp 92,(.ref 2 1 y16.toNat 0))] [(2,(.own 1 (y17.map Qaa)))] (I x23)),(9,rb [(.tmp 90,(.own 2 1 (0) p7)),(.tmp 91,I y16)] [(2,(.own 1 (y17.map Qaa)))] (.ref 2 1 y16.toNat 0)),(10,⟨[(.tmp 96,(.ref 2 1 y16.toNat 0)),(.tmp 95,(I (w64 (x23+p2))))],[(2,(.own 1 (y17.map Qaa)))],.any,[(2,(.own 1 ((y17.set y16.toNat (w64 (x23+p2)):List Int).map Qaa)))],false⟩)] ⟨Qb5 rfl,aio rfl underlying25 ti3 (odt hi22a) (odt hi22b) (Nat.zero_add _),ald rfl ti3 (by decide) (mgt Qaa hg24) (nle rfl) rfl,aio rfl underlying25 ti3 (odt hi25a) (odt hi25b) (Nat.zero_add _),ast rfl ti3 (by rfl) (mgt Qaa hg27) (nle rfl) (Qd2 Qaa rfl),tv⟩<|bln<|thn<|wxz1<|thn ?_
    exact arm (mto (n:=97) [(0,.ref 0 53 0 0),(2,I p1),(3,I p2),(9,(I (w64 (y16+1))))] [0,1,2] [(Qku p3 p4 p5 p6 p7 y13 y14),(Qi9 p10 p0 x6 p2),(.own 1 ((y17.set y16.toNat (w64 (x23+p2)):List Int).map Qaa))] hq (prr (pw (pw (pw pn)))) (qb (lcc (lc (rnd Qag) (lc (.rn (Qae rfl)) (lc (.rn (Qae rfl)) (Qb7 (Qaq fun _=>rwl) (Qaq fun _=>rwl)))))) (qc (spr Qab) (qc (spr Qab) qn)))) (ih (w64 (y16+1),y17.set y16.toNat (w64 (x23+p2))) h)
   ·refine wfn hc21<|Qax<|Qan<|Qan<|Qaw rfl ?_
    obtain rfl:=osi h
    exact⟨_,(mto (n:=97) (l':=[]) (own':=[(Qku p3 p4 p5 p6 p7 y13 y14),(.own 1 (((p10.set p0.toNat (w64 (x6+p2))):List Int).map Qaa)),(.own 1 (y17.map Qaa))]) [] [0,1,2] [(Qku p3 p4 p5 p6 p7 y13 y14),(Qi9 p10 p0 x6 p2),(.own 1 (y17.map Qaa))] hq pn (qb (lcc (lc (rnd Qag) (lc (.rn (Qae rfl)) (lc (.rn (Qae rfl)) (Qb7 (Qaq fun _=>rwl) (Qaq fun _=>rwl)))))) (qc (spr Qab) (qc (spr Qab) qn)))),fio [] tv⟩
  ·skip
   obtain⟨hi28,h⟩:=cko h
   obtain⟨hi28a,hi28b⟩:=Qat hi28
   refine wx tbk [(2,rb [(.tmp 31,.ref 0 53 0 0)] [(0,(Qlh p3 p4 p5 p6 p7 p8 p9 p0 p2))] (.ref 0 53 0 0)),(4,rb [(.tmp 34,.ref 0 53 0 29),(.tmp 32,I p0)] [(0,(Qlh p3 p4 p5 p6 p7 p8 p9 p0 p2))] (.ref 0 53 0 (29+p0.toNat*1))),(5,rb [(.tmp 35,(.ref 0 53 0 (29+p0.toNat*1)))] [(0,(Qlh p3 p4 p5 p6 p7 p8 p9 p0 p2))] (I ((setF p9 p0.toNat (w64 ((p9 p0.toNat)-p2))) p0.toNat)))] ⟨Qb5 rfl,Qd4 rfl underlying132 ti3 (odt hi28a) (odt hi28b) rfl,ald rfl ti3 (by decide) rfl (Qia (n:=24) (odt hi28b) (nle rfl)) (Qkw (pre:=((I p3)::(I p4)::(Qjg p5)::(.own 1 1 (0) p6)::(.own 2 1 (0) p7)::arrF 24 p8)) (post:=[]) (n:=24) (f:=setF p9 p0.toNat (w64 ((p9 p0.toNat)-p2))) (by kernel_rfl) rfl (odt hi28b)),tv⟩ ?_
   refine bfe h (fun hc29 h=>?_) fun hc29 h=>?_
   ·refine wft hc29 ?_
    obtain⟨hi30,h⟩:=cko h
    obtain⟨hi30a,hi30b⟩:=Qat hi30
    obtain⟨hi31,h⟩:=cko h
    obtain⟨hi31a,hi31b⟩:=Qat hi31
    refine wxd tbk [(2,rb [(.tmp 38,.ref 0 53 0 0)] [(0,(Qlh p3 p4 p5 p6 p7 p8 p9 p0 p2))] (.ref 0 53 0 0)),(4,rb [(.tmp 41,.ref 0 53 0 5),(.tmp 39,I p0)] [(0,(Qlh p3 p4 p5 p6 p7 p8 p9 p0 p2))] (.ref 0 53 0 (5+p0.toNat*1))),(5,rb [(.tmp 42,(.ref 0 53 0 (5+p0.toNat*1)))] [(0,(Qlh p3 p4 p5 p6 p7 p8 p9 p0 p2))] (I (p8 p0.toNat))),(7,rb [(.tmp 38,.ref 0 53 0 0)] [(0,(Qlh p3 p4 p5 p6 p7 p8 p9 p0 p2))] (.ref 0 53 0 0)),(9,rb [(.tmp 46,.ref 0 53 0 5),(.tmp 39,I p0)] [(0,(Qlh p3 p4 p5 p6 p7 p8 p9 p0 p2))] (.ref 0 53 0 (5+p0.toNat*1))),(10,⟨[(.tmp 47,(.ref 0 53 0 (5+p0.toNat*1))),(.tmp 44,(I (w64 ((p8 p0.toNat)+1))))],[(0,(Qlh p3 p4 p5 p6 p7 p8 p9 p0 p2))],.any,[(0,(Qk4 p3 p4 p5 p6 p7 p8 p0 p9 p2))],false⟩)] ⟨Qb5 rfl,Qd4 rfl underlying132 ti3 (odt hi30a) (odt hi30b) rfl,ald rfl ti3 (by decide) rfl (Qia (n:=24) (odt hi30b) (nle rfl)) (Qkw (pre:=[I p3,I p4,(Qjg p5),(.own 1 1 (0) p6),(.own 2 1 (0) p7)]) (post:=arrF 24 (setF p9 p0.toNat (w64 ((p9 p0.toNat)-p2)))) (n:=24) (f:=p8) (by kernel_rfl) rfl (odt hi30b)),Qb5 rfl,Qd4 rfl underlying132 ti3 (odt hi31a) (odt hi31b) rfl,ast rfl ti3 (by rfl) rfl (Qia (n:=24) (odt hi31b) (nle rfl)) (Qqm (pre:=[I p3,I p4,(Qjg p5),(.own 1 1 (0) p6),(.own 2 1 (0) p7)]) (post:=arrF 24 (setF p9 p0.toNat (w64 ((p9 p0.toNat)-p2)))) (n:=24) (f:=p8) (by kernel_rfl) rfl (by kernel_rfl) (odt hi31b)),tv⟩ ?_
    obtain⟨x32,hg33,h⟩:=bno h
    obtain⟨hi34,hj35⟩:=gsm hg33
    refine wx tbk [(1,rb [(.tmp 48,.ref 0 53 0 0)] [(0,(Qk4 p3 p4 p5 p6 p7 p8 p0 p9 p2))] (.ref 0 53 0 0)),(6,rp _ _)] ⟨Qb5 rfl,aiq underlying55 ti62 Qay hi34 hj35,tv⟩ ?_
    obtain⟨hi36,h⟩:=cko h
    obtain⟨hi36a,hi36b⟩:=Qat hi36
    refine wx tbk [(2,rb [(.tmp 57,.ref 0 53 0 0)] [(0,(Qk4 p3 p4 p5 p6 p7 p8 p0 p9 p2))] (.ref 0 53 0 0)),(4,rb [(.tmp 60,.ref 0 53 0 5),(.tmp 58,I p0)] [(0,(Qk4 p3 p4 p5 p6 p7 p8 p0 p9 p2))] (.ref 0 53 0 (5+p0.toNat*1))),(5,rb [(.tmp 61,(.ref 0 53 0 (5+p0.toNat*1)))] [(0,(Qk4 p3 p4 p5 p6 p7 p8 p0 p9 p2))] (I ((setF p8 p0.toNat (w64 ((p8 p0.toNat)+1))) p0.toNat))),(7,rp _ _)] ⟨Qb5 rfl,Qd4 rfl underlying132 ti3 (odt hi36a) (odt hi36b) rfl,ald rfl ti3 (by decide) rfl (Qia (n:=24) (odt hi36b) (nle rfl)) (Qkw (pre:=[I p3,I p4,(Qjg p5),(.own 1 1 (0) p6),(.own 2 1 (0) p7)]) (post:=arrF 24 (setF p9 p0.toNat (w64 ((p9 p0.toNat)-p2)))) (n:=24) (f:=setF p8 p0.toNat (w64 ((p8 p0.toNat)+1))) (by kernel_rfl) rfl (odt hi36b)),alq 2 Qbl x32.Stairs underlying60,tv⟩ ?_
    refine bfe h (fun hc37 h=>?_) fun hc37 h=>?_
    ·refine wft hc37 ?_
     obtain⟨hi38,h⟩:=cko h
     obtain⟨hi38a,hi38b⟩:=Qat hi38
     obtain⟨x39,hg40,h⟩:=bno h
     obtain⟨hi41,hj42⟩:=gsm hg40
     obtain⟨hi43,h⟩:=cko h
     obtain⟨hi43a,hi43b⟩:=Qat hi43
     refine wy1 tbk [(5,rb [(.tmp 69,.ref 0 53 0 0)] [(0,(Qk4 p3 p4 p5 p6 p7 p8 p0 p9 p2))] (.ref 0 53 0 0)),(7,rb [(.tmp 72,.ref 0 53 0 5),(.tmp 70,I p0)] [(0,(Qk4 p3 p4 p5 p6 p7 p8 p0 p9 p2))] (.ref 0 53 0 (5+p0.toNat*1))),(8,rb [(.tmp 73,(.ref 0 53 0 (5+p0.toNat*1)))] [(0,(Qk4 p3 p4 p5 p6 p7 p8 p0 p9 p2))] (I ((setF p8 p0.toNat (w64 ((p8 p0.toNat)+1))) p0.toNat))),(9,rp _ _),(12,rb [(.tmp 66,.ref 0 53 0 0)] [(0,(Qk4 p3 p4 p5 p6 p7 p8 p0 p9 p2))] (.ref 0 53 0 0)),(14,rb [(.tmp 79,.ref 0 53 0 29),(.tmp 67,I p0)] [(0,(Qk4 p3 p4 p5 p6 p7 p8 p0 p9 p2))] (.ref 0 53 0 (29+p0.toNat*1))),(15,⟨[(.tmp 80,(.ref 0 53 0 (29+p0.toNat*1))),(.tmp 77,I x39.Amount)],[(0,(Qk4 p3 p4 p5 p6 p7 p8 p0 p9 p2))],.any,[(0,(.own 53 [((I p3)::(I p4)::(Qjg p5)::(.own 1 1 (0) p6)::(.own 2 1 (0) p7)::(arrF 24 (setF p8 p0.toNat (w64 ((p8 p0.toNat)+1)))++arrF 24 (setF (setF p9 p0.toNat (w64 ((p9 p0.toNat)-p2))) p0.toNat x39.Amount)))]))],false⟩)] ⟨Qb5 rfl,Qd4 rfl underlying132 ti3 (odt hi38a) (odt hi38b) rfl,ald rfl ti3 (by decide) rfl (Qia (n:=24) (odt hi38b) (nle rfl)) (Qkw (pre:=[I p3,I p4,(Qjg p5),(.own 1 1 (0) p6),(.own 2 1 (0) p7)]) (post:=arrF 24 (setF p9 p0.toNat (w64 ((p9 p0.toNat)-p2)))) (n:=24) (f:=setF p8 p0.toNat (w64 ((p8 p0.toNat)+1))) (by kernel_rfl) rfl (odt hi38b)),aiq underlying60 ti64 Qbl hi41 hj42,Qb5 rfl,Qd4 rfl underlying132 ti3 (odt hi43a) (odt hi43b) rfl,ast rfl ti3 (by rfl) rfl (Qia (n:=24) (odt hi43b) (nle rfl)) (Qqm (pre:=((I p3)::(I p4)::(Qjg p5)::(.own 1 1 (0) p6)::(.own 2 1 (0) p7)::arrF 24 (setF p8 p0.toNat (w64 ((p8 p0.toNat)+1))))) (post:=[]) (n:=24) (f:=setF p9 p0.toNat (w64 ((p9 p0.toNat)-p2))) (by kernel_rfl) rfl (by kernel_rfl) (odt hi43b)),tv⟩<|thn ?_
     exact⟨(setF p8 p0.toNat (w64 ((p8 p0.toNat)+1)),setF (setF p9 p0.toNat (w64 ((p9 p0.toNat)-p2))) p0.toNat x39.Amount),h,(mto (n:=97) [(0,.ref 0 53 0 0),(1,I p0),(2,I p1),(3,I p2)] [0,1,2] [(.own 53 [((I p3)::(I p4)::(Qjg p5)::(.own 1 1 (0) p6)::(.own 2 1 (0) p7)::(arrF 24 (setF p8 p0.toNat (w64 ((p8 p0.toNat)+1)))++arrF 24 (setF (setF p9 p0.toNat (w64 ((p9 p0.toNat)-p2))) p0.toNat x39.Amount)))]),(Qi9 p10 p0 x6 p2),(.own 1 (p11.map Qaa))] hq (prr (pw (pw (pw pn)))) (qb (lcc (lc (rnd Qag) (lc (.rn (Qae rfl)) (lc (.rn (Qae rfl)) (Qb7 (Qaq fun _=>rwl) (Qaq fun _=>rwl)))))) (qc (spr Qab) (qc (spr Qab) qn))))⟩
    ·exact wfn hc37<|Qaf<|thn<|⟨(setF p8 p0.toNat (w64 ((p8 p0.toNat)+1)),setF p9 p0.toNat (w64 ((p9 p0.toNat)-p2))),h,(mto (n:=97) [(0,.ref 0 53 0 0),(1,I p0),(2,I p1),(3,I p2)] [0,1,2] [(Qk4 p3 p4 p5 p6 p7 p8 p0 p9 p2),(Qi9 p10 p0 x6 p2),(.own 1 (p11.map Qaa))] hq (prr (pw (pw (pw pn)))) (qb (lcc (lc (rnd Qag) (lc (.rn (Qae rfl)) (lc (.rn (Qae rfl)) (Qb7 (Qaq fun _=>rwl) (Qaq fun _=>rwl)))))) (qc (spr Qab) (qc (spr Qab) qn))))⟩
   ·exact wfn hc29<|Qaf<|thn<|⟨(p8,setF p9 p0.toNat (w64 ((p9 p0.toNat)-p2))),h,(mto (n:=97) [(0,.ref 0 53 0 0),(1,I p0),(2,I p1),(3,I p2)] [0,1,2] [(Qlh p3 p4 p5 p6 p7 p8 p9 p0 p2),(Qi9 p10 p0 x6 p2),(.own 1 (p11.map Qaa))] hq (prr (pw (pw (pw pn)))) (qb (lcc (lc (rnd Qag) (lc (.rn (Qae rfl)) (lc (.rn (Qae rfl)) (Qb7 (Qaq fun _=>rwl) (Qaq fun _=>rwl)))))) (qc (spr Qab) (qc (spr Qab) qn))))⟩
def Qbp (N:Nat) (p0 p2 p3:Int) (p4:List Qbw) (p5 p6:Nat) (y6 y7:(Nat→Int)) (y8 y9:List Int) (k19:Int×Int→Option ((Nat→Int)×(Nat→Int)×(List Int)×(List Int))):Nat→Int→Int→Int→Int→Int→Option ((Nat→Int)×(Nat→Int)×(List Int)×(List Int))
  |0,_,_,_,_,_=>none
  |n33+1,y23,y24,y25,y26,y27=>
    bif (decide (y27≥0)) then
     Qcx (fun y35=>
       bif (y35==0) then
        k19 (y23,y25)
       else
        (Qfw N y27 p2 p3 p4 p5 p6 y6 y7 y8 y9).bind fun x39=>
        bif x39.2 then
         bif (decide (y23<0)) then
          (some (if x39.1.Amount<y35 then x39.1.Amount else y35)).bind fun x42=>
          Qbp N p0 p2 p3 p4 p5 p6 y6 y7 y8 y9 k19 n33 y27 x39.1.Price x42 y35 (w64 (y27-1))
         else
          bif (decide (x39.1.Price<y24)) then
           (some (if x39.1.Amount<y35 then x39.1.Amount else y35)).bind fun x45=>
           Qbp N p0 p2 p3 p4 p5 p6 y6 y7 y8 y9 k19 n33 y27 x39.1.Price x45 y35 (w64 (y27-1))
          else
           Qbp N p0 p2 p3 p4 p5 p6 y6 y7 y8 y9 k19 n33 y23 y24 y25 y35 (w64 (y27-1))
        else
         Qbp N p0 p2 p3 p4 p5 p6 y6 y7 y8 y9 k19 n33 y23 y24 y25 y35 (w64 (y27-1))) fun k36:Int→Option ((Nat→Int)×(Nat→Int)×(List Int)×(List Int))=>
     bif (decide (y27<p0)) then
      chk (decide (0≤y27)&&decide (y27.toNat<p6))<|
      (y9[y27.toNat]?).bind fun x49=>
      (some (if (w64 (p2-x49))<y26 then w64 (p2-x49) else y26)).bind fun x51=>
      k36 (x51)
     else
      k36 (y26)
    else
     k19 (y23,y25)
def Qc3 (N:Nat) (p0 p2 p3:Int) (p4:List Qbw) (p5 p6:Nat):Nat→Int→(Nat→Int)→(Nat→Int)→(List Int)→(List Int)→Option ((Nat→Int)×(Nat→Int)×(List Int)×(List Int))
  |0,_,_,_,_,_=>none
  |n15+1,y5,y6,y7,y8,y9=>
    bif (decide (y5>0)) then
     Qcx (fun ⟨y17,y18⟩=>
       bif (decide (y17<0)) then
        some (y6,y7,y8,y9)
       else
        (Qfv N y17 p0 y18 p2 p3 p4 p5 p6 y6 y7 y8 y9).bind fun x22=>
        Qc3 N p0 p2 p3 p4 p5 p6 n15 (w64 (y5-y18)) x22.1 x22.2.1 x22.2.2.1 x22.2.2.2) fun k19:Int×Int→Option ((Nat→Int)×(Nat→Int)×(List Int)×(List Int))=>
     Qbp N p0 p2 p3 p4 p5 p6 y6 y7 y8 y9 k19 N (-1) 0 0 y5 p0
    else
     some (y6,y7,y8,y9)
def Qfx (N:Nat) (p0 p1:Int) (p2 p3:Int) (p4:List Qbw) (p5 p6:Nat) (p7 p8:(Nat→Int)) (p9 p10:List Int):Option ((Nat→Int)×(Nat→Int)×(List Int)×(List Int)):=
  Qc3 N p0 p2 p3 p4 p5 p6 N p1 p7 p8 p9 p10
abbrev Qvz (p4:List Qbw):AV:=.dat 2 (p4.map Qay)
abbrev Qx1 (p2 p3:Int) (p4:List Qbw) (p5 p6:Nat) (p7 p8:(Nat→Int)):Slot:=.own 53 [((I p2)::(I p3)::(Qvz p4)::(.own 1 1 (0) p5)::(.own 2 1 (0) p6)::(arrF 24 p7++arrF 24 p8))]
def Qev (p2 p3:Int) (p4:List Qbw) (p5 p6:Nat) (y6 y7:(Nat→Int)):Slot:=.own 53 [((I p2)::(I p3)::(Qvz p4)::(.own 1 1 (0) p5)::(.own 2 1 (0) p6)::(arrF 24 y6++arrF 24 y7))]
def Qxr (p2 p3:Int) (p4:List Qbw) (p5 p6:Nat) (x22:((Nat→Int)×(Nat→Int)×(List Int)×(List Int))):Slot:=.own 53 [((I p2)::(I p3)::(Qvz p4)::(.own 1 1 (0) p5)::(.own 2 1 (0) p6)::(arrF 24 x22.1++arrF 24 x22.2.1))]
theorem Qi5 (N:Nat) (p0 p1:Int) (p2 p3:Int) (p4:List Qbw) (p5 p6:Nat) (p7 p8:(Nat→Int)) (p9 p10:List Int) (r:((Nat→Int)×(Nat→Int)×(List Int)×(List Int))) (h:Qfx N p0 p1 p2 p3 p4 p5 p6 p7 p8 p9 p10=some r):Spec prog 57 [(.ref 0 53 (0) 0),(I p0),(I p1)] [(Qx1 p2 p3 p4 p5 p6 p7 p8),(.own 1 (p9.map Qaa)),(.own 1 (p10.map Qaa))] (.tup []) [(.own 53 [((I p2)::(I p3)::(Qvz p4)::(.own 1 1 (0) p5)::(.own 2 1 (0) p6)::(arrF 24 r.1++arrF 24 r.2.1))]),(.own 1 (r.2.2.1.map Qaa)),(.own 1 (r.2.2.2.map Qaa))]:=by
  refine sF func57 3 fun _ _ _ hq hd0=>?_
  unfold Qfx at h
  refine Qu1<|wsq<|Qu4<|thn<|Qai ?_
  refine wmr (mto (n:=75) (l':=[(0,.ref 0 53 0 0),(1,I p0),(2,I p1)]) (own':=[(Qx1 p2 p3 p4 p5 p6 p7 p8),(.own 1 (p9.map Qaa)),(.own 1 (p10.map Qaa))]) [(0,.ref 0 53 0 0),(1,I p0),(2,I p1)] [0,1,2] [(Qx1 p2 p3 p4 p5 p6 p7 p8),(.own 1 (p9.map Qaa)),(.own 1 (p10.map Qaa))] hq (prr (pw (pw pn))) (qb (lcc (lc (rnd Qag) (lc (.rn (Qae rfl)) (lc (.rn (Qae rfl)) (Qb7 (Qaq fun _=>rwl) (Qaq fun _=>rwl)))))) (qc (spr Qab) (qc (spr Qab) qn)))) ?_
  refine Qb0 (τ:=Int×(Nat→Int)×(Nat→Int)×(List Int)×(List Int)) (fun n t=>Qc3 N p0 p2 p3 p4 p5 p6 n t.1 t.2.1 t.2.2.1 t.2.2.2.1 t.2.2.2.2=some r) (fun ⟨y5,y6,y7,y8,y9⟩=>⟨mk 75 [(0,.ref 0 53 0 0),(1,I p0),(2,I y5)],[(Qev p2 p3 p4 p5 p6 y6 y7),(.own 1 (y8.map Qaa)),(.own 1 (y9.map Qaa))]⟩) (fun t h=>by rw[Qc3] at h;cases h) (fun n15 ih t h=>?_) N (p1,p7,p8,p9,p10) h
  obtain⟨y5,y6,y7,y8,y9⟩:=t
  rw[Qc3] at h
  skip
  refine wsq<|wxz ?_
  refine bfe h (fun hc16 h=>?_) fun hc16 h=>?_
  ·refine wft hc16<|Qaf<|thn<|Qai<|wxz<|wxz ?_
   obtain⟨k19,hk_k19,h⟩:=jko h
   refine wjn (τ:=Int×Int) (fun t=>k19 t=some r) (fun ⟨y17,y18⟩=>⟨mk 75 [(0,.ref 0 53 0 0),(1,I p0),(2,I y5),(6,I y17),(8,I y18)],[(Qev p2 p3 p4 p5 p6 y6 y7),(.own 1 (y8.map Qaa)),(.own 1 (y9.map Qaa))]⟩) (fun t h=>?_) ?_
   ·subst hk_k19
    obtain⟨y17,y18⟩:=t
    refine wsq<|wxz ?_
    refine bfe h (fun hc20 h=>?_) fun hc20 h=>?_
    ·refine wft hc20<|Qax<|Qan<|Qq0 (by decide)<|Qan<|Qaw rfl<|Qqo ?_
     obtain rfl:=osi h
     exact⟨_,(mto (n:=75) (l':=[]) (own':=[(Qev p2 p3 p4 p5 p6 y6 y7),(.own 1 (y8.map Qaa)),(.own 1 (y9.map Qaa))]) [] [0,1,2] [(Qev p2 p3 p4 p5 p6 y6 y7),(.own 1 (y8.map Qaa)),(.own 1 (y9.map Qaa))] hq pn (qb (lcc (lc (rnd Qag) (lc (.rn (Qae rfl)) (lc (.rn (Qae rfl)) (Qb7 (Qaq fun _=>rwl) (Qaq fun _=>rwl)))))) (qc (spr Qab) (qc (spr Qab) qn)))),fio [] tv⟩
    ·refine wfn hc20<|Qaf<|thn ?_
     obtain⟨x22,hf21,h⟩:=bno h
     refine wx tbk [(4,⟨_,_,_,_,false⟩)] ⟨acq [.ref 0 53 0 0,I y17,I p0,I y18] [(Qev p2 p3 p4 p5 p6 y6 y7),(.own 1 (y8.map Qaa)),(.own 1 (y9.map Qaa))] [(Qxr p2 p3 p4 p5 p6 x22),(.own 1 (x22.2.2.1.map Qaa)),(.own 1 (x22.2.2.2.map Qaa))] (.tup []) [0,1,2] Qy8 (Qi3 N y17 p0 y18 p2 p3 p4 p5 p6 y6 y7 y8 y9 _ hf21) (Qb9 (rnc (Qbg rfl) (rncc (rnc (.plain _ nll) rn0)))) (slc (Qaj (rncc (rnc (pld Qag) (rnc (Qea rfl) (rnc (Qea rfl) (Qb7 (Qaq fun _=>(.plain _ nll)) (Qaq fun _=>(.plain _ nll)))))))) (slc (Qbo Qab) (slc (Qbo Qab) Qam))) (slc (Qaj (rncc (rnc (pld Qag) (rnc (Qe6 rfl) (rnc (Qe6 rfl) (Qb7 (Qaq fun _=>(.plain _ nll)) (Qaq fun _=>(.plain _ nll)))))))) (slc (Qbo Qab) (slc (Qbo Qab) Qam))) (.plain _ (NLt.tup _ nl0)),tv⟩<|wxz1<|bln<|thn ?_
     exact arm (mto (n:=75) [(0,.ref 0 53 0 0),(1,I p0),(2,(I (w64 (y5-y18))))] [0,1,2] [(Qxr p2 p3 p4 p5 p6 x22),(.own 1 (x22.2.2.1.map Qaa)),(.own 1 (x22.2.2.2.map Qaa))] hq (prr (pw (pw pn))) (qb (lcc (lc (rnd Qag) (lc (.rn (Qae rfl)) (lc (.rn (Qae rfl)) (Qb7 (Qaq fun _=>rwl) (Qaq fun _=>rwl)))))) (qc (spr Qab) (qc (spr Qab) qn)))) (ih (w64 (y5-y18),x22.1,x22.2.1,x22.2.2.1,x22.2.2.2) h)
   ·skip
    refine wxz<|Qai ?_
    refine wmr (mto (n:=75) (l':=[(0,.ref 0 53 0 0),(1,I p0),(2,I y5),(6,(I ((-1)))),(7,I 0),(8,I 0),(9,I y5),(10,I p0)]) (own':=[(Qev p2 p3 p4 p5 p6 y6 y7),(.own 1 (y8.map Qaa)),(.own 1 (y9.map Qaa))]) [(0,.ref 0 53 0 0),(1,I p0),(2,I y5),(6,(I ((-1)))),(7,I 0),(8,I 0),(9,I y5),(10,I p0)] [0,1,2] [(Qev p2 p3 p4 p5 p6 y6 y7),(.own 1 (y8.map Qaa)),(.own 1 (y9.map Qaa))] hq (prr (pw (pw (pw (pw (pw (pw (pw pn)))))))) (qb (lcc (lc (rnd Qag) (lc (.rn (Qae rfl)) (lc (.rn (Qae rfl)) (Qb7 (Qaq fun _=>rwl) (Qaq fun _=>rwl)))))) (qc (spr Qab) (qc (spr Qab) qn)))) ?_
    refine Qb0 (τ:=Int×Int×Int×Int×Int) (fun n t=>Qbp N p0 p2 p3 p4 p5 p6 y6 y7 y8 y9 k19 n t.1 t.2.1 t.2.2.1 t.2.2.2.1 t.2.2.2.2=some r) (fun ⟨y23,y24,y25,y26,y27⟩=>⟨mk 75 [(0,.ref 0 53 0 0),(1,I p0),(2,I y5),(6,I y23),(7,I y24),(8,I y25),(9,I y26),(10,I y27)],[(Qev p2 p3 p4 p5 p6 y6 y7),(.own 1 (y8.map Qaa)),(.own 1 (y9.map Qaa))]⟩) (fun t h=>by rw[Qbp] at h;cases h) (fun n33 ih t h=>?_) N ((-1),0,0,y5,p0) h
    obtain⟨y23,y24,y25,y26,y27⟩:=t
    rw[Qbp] at h
    skip
    refine wsq<|wxz ?_
    refine bfe h (fun hc34 h=>?_) fun hc34 h=>?_
    ·refine wft hc34<|Qaf<|thn<|wsq<|Qai ?_
     obtain⟨k36,hk_k36,h⟩:=jko h
     refine wjn (τ:=Int) (fun t=>k36 t=some r) (fun y35=>⟨mk 75 [(0,.ref 0 53 0 0),(1,I p0),(2,I y5),(6,I y23),(7,I y24),(8,I y25),(9,I y35),(10,I y27)],[(Qev p2 p3 p4 p5 p6 y6 y7),(.own 1 (y8.map Qaa)),(.own 1 (y9.map Qaa))]⟩) (fun y35 h=>?_) ?_
     ·subst hk_k36
      refine wsq<|wxz ?_
      refine bfe h (fun hc37 h=>?_) fun hc37 h=>?_
      ·exact wft hc37<|Qax<|Qan<|Qq0 (by decide)<|Qan<|Qan<|Qaw rfl<|thn<|⟨(y23,y25),h,(mto (n:=75) [(0,.ref 0 53 0 0),(1,I p0),(2,I y5),(6,I y23),(8,I y25)] [0,1,2] [(Qev p2 p3 p4 p5 p6 y6 y7),(.own 1 (y8.map Qaa)),(.own 1 (y9.map Qaa))] hq (prr (pw (pw (pw (pw pn))))) (qb (lcc (lc (rnd Qag) (lc (.rn (Qae rfl)) (lc (.rn (Qae rfl)) (Qb7 (Qaq fun _=>rwl) (Qaq fun _=>rwl)))))) (qc (spr Qab) (qc (spr Qab) qn))))⟩
      ·refine wfn hc37<|Qaf<|thn ?_
       obtain⟨x39,hf38,h⟩:=bno h
       refine wx tbk [(2,⟨_,_,_,_,false⟩)] ⟨acq [.ref 0 53 0 0,I y27] [(Qev p2 p3 p4 p5 p6 y6 y7),(.own 1 (y8.map Qaa)),(.own 1 (y9.map Qaa))] [(Qev p2 p3 p4 p5 p6 y6 y7),(.own 1 (y8.map Qaa)),(.own 1 (y9.map Qaa)),(.own 2 [[I x39.1.Amount,I x39.1.Price]])] (.tup [(.agg [I x39.1.Amount,I x39.1.Price]),B x39.2]) [0,1,2,3] Qy9 (Qi4 N y27 p2 p3 p4 p5 p6 y6 y7 y8 y9 _ hf38) (Qb9 (rnc (Qbg rfl) (rnc (.plain _ nll) rn0))) (slc (Qaj (rncc (rnc (pld Qag) (rnc (Qea rfl) (rnc (Qea rfl) (Qb7 (Qaq fun _=>(.plain _ nll)) (Qaq fun _=>(.plain _ nll)))))))) (slc (Qbo Qab) (slc (Qbo Qab) Qam))) (slc (Qaj (rncc (rnc (pld Qag) (rnc (Qe6 rfl) (rnc (Qe6 rfl) (Qb7 (Qaq fun _=>(.plain _ nll)) (Qaq fun _=>(.plain _ nll)))))))) (slc (Qbo Qab) (slc (Qbo Qab) (slc (Qaj (rncc rn0)) Qam)))) (.plain _ (NLt.tup _ (nlc (NLt.agg _ (nlcc nl0)) (nlc nll nl0)))),tv⟩ ?_
       refine bfe h (fun hb40 h=>?_) fun hb40 h=>?_
       ·refine bfe h (fun hb41 h=>?_) fun hb41 h=>?_
        ·refine wx tbk [(1,rp [(.tmp 47,B x39.2)] (B true)),(4,rp [(.tmp 48,B true),(.tmp 50,(B ((decide (y23<0)))))] (B true))] ⟨asb hb40 (amv rfl),asb hb41 (ag_ (amv rfl)),tv⟩<|wtr ?_
         obtain⟨x42,hl43,h⟩:=bno h
         exact wy1 tbk [(6,rp [(.tmp 61,I y35),(.tmp 63,I x39.1.Amount)] (I ((if x39.1.Amount<y35 then x39.1.Amount else y35)))),(9,rp [(.tmp 64,(I ((if x39.1.Amount<y35 then x39.1.Amount else y35))))] (I x42))] ⟨Qhr rfl,Qdp hl43 (aas rfl),tv⟩<|bln<|thn<|wxz1<|thn<|arm (mto (n:=75) [(0,.ref 0 53 0 0),(1,I p0),(2,I y5),(6,I y27),(7,I x39.1.Price),(8,I x42),(9,I y35),(10,(I (w64 (y27-1))))] [0,1,2] [(Qev p2 p3 p4 p5 p6 y6 y7),(.own 1 (y8.map Qaa)),(.own 1 (y9.map Qaa))] hq (prr (pw (pw (pw (pw (pw (pw (pw pn)))))))) (qb (lcc (lc (rnd Qag) (lc (.rn (Qae rfl)) (lc (.rn (Qae rfl)) (Qb7 (Qaq fun _=>rwl) (Qaq fun _=>rwl)))))) (qc (spr Qab) (qc (spr Qab) qn)))) (ih (y27,x39.1.Price,x42,y35,w64 (y27-1)) h)
        ·refine wx tbk [(1,rp [(.tmp 47,B x39.2)] (B true)),(4,rp [(.tmp 48,B true),(.tmp 50,(B ((decide (y23<0)))))] (B false))] ⟨asb hb40 (amv rfl),asb hb41 (ag_ (amv rfl)),tv⟩ ?_
         refine bfe h (fun hc44 h=>?_) fun hc44 h=>?_
         ·refine wft hc44 ?_
          obtain⟨x45,hl46,h⟩:=bno h
          exact wy1 tbk [(6,rp [(.tmp 61,I y35),(.tmp 63,I x39.1.Amount)] (I ((if x39.1.Amount<y35 then x39.1.Amount else y35)))),(9,rp [(.tmp 64,(I ((if x39.1.Amount<y35 then x39.1.Amount else y35))))] (I x45))] ⟨Qhr rfl,Qdp hl46 (aas rfl),tv⟩<|bln<|thn<|wxz1<|thn<|arm (mto (n:=75) [(0,.ref 0 53 0 0),(1,I p0),(2,I y5),(6,I y27),(7,I x39.1.Price),(8,I x45),(9,I y35),(10,(I (w64 (y27-1))))] [0,1,2] [(Qev p2 p3 p4 p5 p6 y6 y7),(.own 1 (y8.map Qaa)),(.own 1 (y9.map Qaa))] hq (prr (pw (pw (pw (pw (pw (pw (pw pn)))))))) (qb (lcc (lc (rnd Qag) (lc (.rn (Qae rfl)) (lc (.rn (Qae rfl)) (Qb7 (Qaq fun _=>rwl) (Qaq fun _=>rwl)))))) (qc (spr Qab) (qc (spr Qab) qn)))) (ih (y27,x39.1.Price,x45,y35,w64 (y27-1)) h)
         ·exact wfn hc44<|Qaf<|bln<|thn<|wxz1<|thn<|arm (mto (n:=75) [(0,.ref 0 53 0 0),(1,I p0),(2,I y5),(6,I y23),(7,I y24),(8,I y25),(9,I y35),(10,(I (w64 (y27-1))))] [0,1,2] [(Qev p2 p3 p4 p5 p6 y6 y7),(.own 1 (y8.map Qaa)),(.own 1 (y9.map Qaa))] hq (prr (pw (pw (pw (pw (pw (pw (pw pn)))))))) (qb (lcc (lc (rnd Qag) (lc (.rn (Qae rfl)) (lc (.rn (Qae rfl)) (Qb7 (Qaq fun _=>rwl) (Qaq fun _=>rwl)))))) (qc (spr Qab) (qc (spr Qab) qn)))) (ih (y23,y24,y25,y35,w64 (y27-1)) h)
       ·exact wx tbk [(1,rp [(.tmp 47,B x39.2)] (B false))] ⟨asb hb40 (amv rfl),tv⟩<|wfa<|Qaf<|bln<|thn<|wxz1<|thn<|arm (mto (n:=75) [(0,.ref 0 53 0 0),(1,I p0),(2,I y5),(6,I y23),(7,I y24),(8,I y25),(9,I y35),(10,(I (w64 (y27-1))))] [0,1,2] [(Qev p2 p3 p4 p5 p6 y6 y7),(.own 1 (y8.map Qaa)),(.own 1 (y9.map Qaa))] hq (prr (pw (pw (pw (pw (pw (pw (pw pn)))))))) (qb (lcc (lc (rnd Qag) (lc (.rn (Qae rfl)) (lc (.rn (Qae rfl)) (Qb7 (Qaq fun _=>rwl) (Qaq fun _=>rwl)))))) (qc (spr Qab) (qc (spr Qab) qn)))) (ih (y23,y24,y25,y35,w64 (y27-1)) h)
     ·skip
      refine wxz ?_
      refine bfe h (fun hc47 h=>?_) fun hc47 h=>?_
      ·refine wft hc47 ?_
       obtain⟨hi48,h⟩:=cko h
       obtain⟨hi48a,hi48b⟩:=Qat hi48
       obtain⟨x49,hg50,h⟩:=bno h
       obtain⟨x51,hl52,h⟩:=bno h
       refine wy1 tbk [(2,rb [(.tmp 25,.ref 0 53 0 0)] [(0,(Qev p2 p3 p4 p5 p6 y6 y7))] (.ref 0 53 0 0)),(7,rb [(.tmp 30,.ref 0 53 0 0)] [(0,(Qev p2 p3 p4 p5 p6 y6 y7))] (.ref 0 53 0 0)),(11,rb [(.tmp 33,(.own 2 1 (0) p6)),(.tmp 34,I y27)] [(2,(.own 1 (y9.map Qaa)))] (.ref 2 1 y27.toNat 0)),(12,rb [(.tmp 35,(.ref 2 1 y27.toNat 0))] [(2,(.own 1 (y9.map Qaa)))] (I x49)),(14,rp [(.tmp 24,I y26),(.tmp 37,(I (w64 (p2-x49))))] (I ((if (w64 (p2-x49))<y26 then w64 (p2-x49) else y26)))),(15,rp [(.tmp 38,(I ((if (w64 (p2-x49))<y26 then w64 (p2-x49) else y26))))] (I x51))] ⟨Qb5 rfl,Qb5 rfl,aio rfl underlying25 ti3 (odt hi48a) (odt hi48b) (Nat.zero_add _),ald rfl ti3 (by decide) (mgt Qaa hg50) (nle rfl) rfl,Qhr rfl,Qdp hl52 (aas rfl),tv⟩<|thn ?_
       exact⟨(x51),h,(mto (n:=75) [(0,.ref 0 53 0 0),(1,I p0),(2,I y5),(6,I y23),(7,I y24),(8,I y25),(9,I x51),(10,I y27)] [0,1,2] [(Qev p2 p3 p4 p5 p6 y6 y7),(.own 1 (y8.map Qaa)),(.own 1 (y9.map Qaa))] hq (prr (pw (pw (pw (pw (pw (pw (pw pn)))))))) (qb (lcc (lc (rnd Qag) (lc (.rn (Qae rfl)) (lc (.rn (Qae rfl)) (Qb7 (Qaq fun _=>rwl) (Qaq fun _=>rwl)))))) (qc (spr Qab) (qc (spr Qab) qn))))⟩
      ·exact wfn hc47<|Qaf<|thn<|⟨(y26),h,(mto (n:=75) [(0,.ref 0 53 0 0),(1,I p0),(2,I y5),(6,I y23),(7,I y24),(8,I y25),(9,I y26),(10,I y27)] [0,1,2] [(Qev p2 p3 p4 p5 p6 y6 y7),(.own 1 (y8.map Qaa)),(.own 1 (y9.map Qaa))] hq (prr (pw (pw (pw (pw (pw (pw (pw pn)))))))) (qb (lcc (lc (rnd Qag) (lc (.rn (Qae rfl)) (lc (.rn (Qae rfl)) (Qb7 (Qaq fun _=>rwl) (Qaq fun _=>rwl)))))) (qc (spr Qab) (qc (spr Qab) qn))))⟩
    ·exact wfn hc34<|Qax<|Qan<|Qan<|Qaw rfl<|thn<|⟨(y23,y25),h,(mto (n:=75) [(0,.ref 0 53 0 0),(1,I p0),(2,I y5),(6,I y23),(8,I y25)] [0,1,2] [(Qev p2 p3 p4 p5 p6 y6 y7),(.own 1 (y8.map Qaa)),(.own 1 (y9.map Qaa))] hq (prr (pw (pw (pw (pw pn))))) (qb (lcc (lc (rnd Qag) (lc (.rn (Qae rfl)) (lc (.rn (Qae rfl)) (Qb7 (Qaq fun _=>rwl) (Qaq fun _=>rwl)))))) (qc (spr Qab) (qc (spr Qab) qn))))⟩
  ·refine wfn hc16<|Qax<|Qan<|Qan<|Qaw rfl<|Qqo ?_
   obtain rfl:=osi h
   exact⟨_,(mto (n:=75) (l':=[]) (own':=[(Qev p2 p3 p4 p5 p6 y6 y7),(.own 1 (y8.map Qaa)),(.own 1 (y9.map Qaa))]) [] [0,1,2] [(Qev p2 p3 p4 p5 p6 y6 y7),(.own 1 (y8.map Qaa)),(.own 1 (y9.map Qaa))] hq pn (qb (lcc (lc (rnd Qag) (lc (.rn (Qae rfl)) (lc (.rn (Qae rfl)) (Qb7 (Qaq fun _=>rwl) (Qaq fun _=>rwl)))))) (qc (spr Qab) (qc (spr Qab) qn)))),fio [] tv⟩
def Qd7 (_N:Nat) (_p0:Qbw) (_p1:Int):Option Unit:=
  some ()
abbrev Qte:AV:=.fn (.func 103) [] [(.ref 0 2 (0) 0),(.ref 1 1 (0) 0)]
abbrev Qx0 (p0:Qbw):Slot:=.own 2 [[(I p0.Use),(.dat 2 (p0.Stairs.map Qbl))]]
theorem Qez (N:Nat) (p0:Qbw) (p1:Int) (r:Unit) (h:Qd7 N p0 p1=some r):Spec prog 75 [(.agg [(I p0.Use),(.dat 2 (p0.Stairs.map Qbl))]),(I p1)] [] Qte [(Qx0 p0),(.own 1 [[(I p1)]])]:=by
  refine sF func75 2 fun _ _ _ hq hd0=>?_
  unfold Qd7 at h
  refine wxz<|wx tbk [(0,rp [(.tmp 2,.ref 0 2 0 0),(.tmp 3,.ref 1 1 0 0)] Qte)] ⟨Qe2 (fs:=[]) (cs:=[.ref 0 2 0 0,.ref 1 1 0 0]) rfl rfl rfl rfl,tv⟩ ?_
  refine wmr (mto (n:=6) (l':=[(4,Qte)]) (own':=[(Qx0 p0),(.own 1 [[I p1]])]) [(4,Qte)] [0,1] [(Qx0 p0),(.own 1 [[I p1]])] hq (pc (.rn (Qap rn0 (rnc (rqr rfl) (rnc (rqr rfl) rn0)))) pn) (qb (lc rwl (lc (rnd Qbu) ln)) (qb (lc rwl ln) qn)))<|Qac ?_
  obtain rfl:=osi h
  exact⟨_,Mor.rfl,fio [Qte] ⟨rot,tv⟩⟩
def Qc0 (N:Nat) (p1:List Qbc):Nat→Int→Int→Option (List (Qbc×Int))
  |0,_,_=>none
  |n7+1,y1,y2=>
    bif (decide (y1<(p1.length:Int))) then
     (getI p1 y1).bind fun x9=>
     (some (if x9.Amount<y2 then x9.Amount else y2)).bind fun x13=>
     yld (x9,x13)<|
     Qc0 N p1 n7 (w64 (y1+1)) (w64 (y2-x13))
    else
     some ([])
def Qd6 (N:Nat) (_p0:Int) (p1:List Qbc) (p2:Int):Option (List (Qbc×Int)):=
  Qc0 N p1 N 0 p2
abbrev Qtd (p1:List Qbc):AV:=.dat 2 (p1.map Qbl)
abbrev Qtc (p0:Int) (p1:List Qbc):Slot:=.own 2 [[(I p0),(Qtd p1)]]
def Qvw (x9:Qbc):AV:=.agg [(I x9.Amount),(I x9.Price)]
theorem Qey (N:Nat) (p0:Int) (p1:List Qbc) (p2:Int) (r:(List (Qbc×Int))) (h:Qd6 N p0 p1 p2=some r):Qmc prog 103 [(.ref 0 2 (0) 0),(.ref 1 1 (0) 0)] [(Qtc p0 p1),(.own 1 [[(I p2)]])] (fun x=>[(.agg #[(.int .i64 x.1.Amount),(.int .i64 x.1.Price)]),(.int .i64 x.2)]) r:=by
  refine Qmg func103 rfl rfl (fun X φ0 w0 l J hq hy=>?_)
  unfold Qd6 at h
  refine wx tbk [(2,rp _ _)] ⟨alq 2 Qbl p1 underlying60,tv⟩<|Qai ?_
  refine wmr (mto (n:=27) (l':=[(0,(.lit (.func (.yield l) #[] #[]))),(2,.ref 1 1 0 0),(8,(Qtd p1)),(9,(I ((p1.length:Int)))),(10,I 0)]) (own':=[(Qtc p0 p1),(.own 1 [[I p2]]),(.far (J (some r)))]) [(0,(.lit (.func (.yield l) #[] #[]))),(2,.ref 1 1 0 0),(8,(Qtd p1)),(9,(I ((p1.length:Int)))),(10,I 0)] [0,1,2] [(Qtc p0 p1),(.own 1 [[I p2]]),(.far (J (some r)))] hq (pw (prr (pc (rnd Qbu) (pw (pw pn))))) (qb (lc rwl (lc (rnd Qbu) ln)) (qb (lc rwl ln) (qc (.far _) qn)))) ?_
  refine Qb0 (τ:=(Int×Int)×List (Qbc×Int)) (fun n t=>Qc0 N p1 n t.1.1 t.1.2=some t.2) (fun ⟨⟨y1,y2⟩,q3⟩=>⟨mk 27 [(0,(.lit (.func (.yield l) #[] #[]))),(2,.ref 1 1 0 0),(8,(Qtd p1)),(9,(I ((p1.length:Int)))),(10,I y1)],[(Qtc p0 p1),(.own 1 [[I y2]]),(.far (J (some q3)))]⟩) (fun t h=>by rw[Qc0] at h;cases h) (fun n7 ih t h=>?_) N ((0,p2),r) h
  obtain⟨⟨y1,y2⟩,q3⟩:=t
  rw[Qc0] at h
  try dsimp only at h
  refine wxz<|wsq ?_
  refine bfe h (fun hc8 h=>?_) fun hc8 h=>?_
  ·refine wft hc8<|Qaf<|thn<|wsq<|Qai ?_
   obtain⟨x9,hg10,h⟩:=bno h
   obtain⟨hi11,hj12⟩:=gsm hg10
   refine wx tbk [(0,rp _ _)] ⟨aiq underlying60 ti64 Qbl hi11 hj12,tv⟩ ?_
   obtain⟨x13,hl14,h⟩:=bno h
   refine wx tbk [(3,rp [(.tmp 14,I y2),(.tmp 16,I x9.Amount)] (I ((if x9.Amount<y2 then x9.Amount else y2)))),(4,rp [(.tmp 17,(I ((if x9.Amount<y2 then x9.Amount else y2))))] (I x13))] ⟨Qhr rfl,Qdp hl14 (aas rfl),tv⟩<|wsq ?_
   obtain⟨q15,hy_,hq_⟩:=Qto h
   clear h
   subst hq_
   have h:=hy_
   clear hy_
   refine Qq2 3 [mv 0 (.lit (.func (.yield l) #[] #[])),rb [(.tmp 5,.ref 3 2 0 0)] [(3,.own 2 [[I x9.Amount,I x9.Price]])] (Qvw x9),mv 6 (I x13),⟨[(.tmp 18,(.lit (.func (.yield l) #[] #[]))),(.tmp 19,(Qvw x9)),(.tmp 20,I x13)],[(2,(.far (J (some ((x9,x13)::q15)))))],B true,[(2,(.far (J (some q15))))],false⟩,rp [(.tmp 21,B true)] (B false)] [mv 0 (.lit (.func (.yield l) #[] #[])),rb [(.tmp 5,.ref 3 2 0 0)] [(3,.own 2 [[I x9.Amount,I x9.Price]])] (Qvw x9),mv 6 (I x13),⟨[(.tmp 18,(.lit (.func (.yield l) #[] #[]))),(.tmp 19,(Qvw x9)),(.tmp 20,I x13)],[(2,(.far (J (some ((x9,x13)::q15)))))],B false,[(2,(.far (J none)))],false⟩,rp [(.tmp 21,B false)] (B true)] (by exact⟨by kernel_rfl,by kernel_rfl⟩) (by exact⟨by kernel_rfl,by kernel_rfl⟩) rfl rfl rfl rfl (Ql7 (rd':=(.tmp 18,.lit (.func (.yield l) #[] #[]))::[(.tmp 19,.lit (.agg #[(.int .i64 x9.Amount),(.int .i64 x9.Price)])),(.tmp 20,.lit (.int .i64 x13))]) ⟨rfl,lrf,rfl,(Less.lits [(.int .i64 x9.Amount),(.int .i64 x9.Price)]),rfl,lrf,tv⟩ (Qky (x:=(x9,x13)) (rest:=q15) rfl rfl hy rfl)) (⟨fun _ _=>amv rfl,fun _ _=>ald rfl ti64 (by decide) rfl (nle rfl) rfl,fun _ _=>amv rfl,fun _ h=>absurd rfl h,fun _ _=>Qiw rfl,tv⟩) (⟨fun _ _=>amv rfl,fun _ _=>ald rfl ti64 (by decide) rfl (nle rfl) rfl,fun _ _=>amv rfl,fun _ h=>absurd rfl h,fun _ _=>Qiw rfl,tv⟩) ?_ ?_
   ·skip
    exact wfa<|Qaf<|thn<|wxz1<|bln<|thn<|wxz1<|thn<|arm (mto (n:=27) [(0,(.lit (.func (.yield l) #[] #[]))),(2,.ref 1 1 0 0),(8,(Qtd p1)),(9,(I ((p1.length:Int)))),(10,(I (w64 (y1+1))))] [0,1,2] [(Qtc p0 p1),(.own 1 [[(I (w64 (y2-x13)))]]),(.far (J (some q15)))] hq (pw (prr (pc (rnd Qbu) (pw (pw pn))))) (qb (lc rwl (lc (rnd Qbu) ln)) (qb (lc rwl ln) (qc (.far _) qn)))) (ih ((w64 (y1+1),w64 (y2-x13)),q15) h)
   ·clear h
    exact wtr<|Qac<|Qah<|Qal<|Qah<|Qah<|Qal<|Or.inr (by kernel_rfl)
  ·refine wfn hc8<|Qax<|Qan<|Qan<|Qaw rfl ?_
   obtain rfl:=osi h
   exact Or.inl rfl
def Qdb (N:Nat) (k2:Int→Option Int):(List (Qbc×Int))→Int→Option Int
  |[],y7=>
    k2 (y7)
  |x10::q11,y7=>
    Qdb N k2 q11 (w64 (y7+(w64 (x10.1.Price*x10.2))))
def Qfn (N:Nat) (p0:Qbw) (p1:Int):Option Int:=
  Qcx (fun y1=>
    some y1) fun k2:Int→Option Int=>
  (Qd7 N p0 p1).bind fun _=>
  (Qd6 N p0.Use p0.Stairs p1).bind fun q5=>
  Qdb N k2 q5 0
def Q04 (p0:Qbw):AV:=.dat 2 (p0.Stairs.map Qbl)
def Q03:AV:=.fn (.func 103) [] [(.ref 2 2 (0) 0),(.ref 3 1 (0) 0)]
def Qvx (p0:Qbw):Slot:=.own 2 [[(I p0.Use),(Q04 p0)]]
theorem Qhe (N:Nat) (p0:Qbw) (p1 r:Int) (h:Qfn N p0 p1=some r):Spec prog 58 [(.agg (Qay p0)),(I p1)] [] (I r) []:=by
  refine sA func58 0 fun _ _ _ hq hd0=>?_
  unfold Qfn at h
  refine wxz ?_
  obtain⟨k2,hk_k2,h⟩:=jko h
  refine wjn (τ:=Int) (fun t=>k2 t=some r) (fun y1=>⟨mk 19 [(4,.ref 0 1 0 0)],[(.own 1 [[I y1]])]⟩) (fun y1 h=>?_) ?_
  ·subst hk_k2
   refine wxz<|Qac ?_
   obtain rfl:=osi h
   exact fend ⟨[I y1],⟨Qbd (n:=0) (m:=1) (j:=0) (i:=0) (xs:=[[I y1]]) (by kernel_rfl) (by kernel_rfl) ti3 (by decide) rfl (nle rfl) rfl,tv⟩,rfl⟩ nll
  ·skip
   obtain⟨x4,hf3,h⟩:=bno h
   refine wx tbk [(2,⟨_,_,_,_,false⟩)] ⟨acq [(.agg [I p0.Use,(Q04 p0)]),I p1] [] [(Qvx p0),(.own 1 [[I p1]])] Q03 [2,3] Qpk (Qez N p0 p1 _ hf3) (Qb9 (rnc (.plain _ (NLt.agg _ (nlc nll (nlc (nld Qbu _) nl0)))) (rnc (.plain _ nll) rn0))) Qam (slc (Qaj (rnc (.plain _ nll) (rnc (pld Qbu) rn0))) (slc (Qaj (rnc (.plain _ nll) rn0)) Qam)) (Qap rn0 (rnc (Qeq rfl) (rnc (Qeq rfl) rn0))),tv⟩<|Qai ?_
   obtain⟨q5,hL6,h⟩:=bno h
   refine wmr (mto (n:=19) (l':=[(4,.ref 0 1 0 0),(9,(.fn (.func 103) [] [.ref 1 2 0 0,.ref 2 1 0 0]))]) (own':=[(.own 1 [[I 0]]),(Qvx p0),(.own 1 [[I p1]])]) [(4,.ref 1 1 0 0),(9,Q03)] [1,2,3] [(.own 1 [[I 0]]),(Qvx p0),(.own 1 [[I p1]])] hq (prr (pc (.rn (Qap rn0 (rnc (rqr rfl) (rnc (rqr rfl) rn0)))) pn)) (qb (lc rwl ln) (qb (lc rwl (lc (rnd Qbu) ln)) (qb (lc rwl ln) qn)))) ?_
   refine Qgv (τ:=(Int)) (kb:=3) (caps:=[.ref 1 2 0 0,.ref 2 1 0 0]) (σr:=[(Qvx p0),(.own 1 [[I p1]])]) (encs:=fun x=>[(.agg #[(.int .i64 x.1.Amount),(.int .i64 x.1.Price)]),(.int .i64 x.2)]) (fun x=>[(.agg [I x.1.Amount,I x.1.Price]),I x.2]) [1,2] (fun n hn=>hq n (Nat.le_trans (nle rfl) hn)) hd0 (Qey N p0.Use p0.Stairs p1 _ hL6) Qnr (by kernel_rfl) (by kernel_rfl) (Qb9 (rnc (Qeq rfl) (rnc (Qeq rfl) rn0))) (slc (Qaj (rnc (.plain _ nll) (rnc (pld Qbu) rn0))) (slc (Qaj (rnc (.plain _ nll) rn0)) Qam)) (by kernel_rfl) (fun _=>rfl) (fun x=>⟨(Less.unlits [(.int .i64 x.1.Amount),(.int .i64 x.1.Price)]),lrf,tv⟩) (Qmi (Qcg (NLt.ref _ _ _ _ (by decide)) (Qcg (NLt.fn _ _ _ nl0 (nlc (NLt.ref _ _ _ _ (by decide)) (nlc (NLt.ref _ _ _ _ (by decide)) nl0))) Qkp))) (fun y7=>[(.own 1 [[I y7]]),.dead,.dead]) (fun _=>rfl) (fun _=>rfl) (fun l t=>Qdb N k2 l t=some r) (0) h (by kernel_rfl) ?_ ?_
   ·intro l12 o13 X16 φ17 w18 hφ15 x10 q11 y7 h
    rw[Qdb] at h
    refine wxz<|wxz1 ?_
    refine⟨by kernel_rfl,fun o14=>?_⟩
    exact Qai<|wxz1<|bln<|⟨(w64 (y7+(w64 (x10.1.Price*x10.2)))),h,Qhg (own':=[(.own 1 [[(I ((w64 (y7+(w64 (x10.1.Price*x10.2))))))]]),.dead,.dead,(.far (farL l12 o14))]) [0,1,2,3] [(.own 1 [[(I (w64 (y7+(w64 (x10.1.Price*x10.2)))))]]),.dead,.dead,(.far (farL l12 o14))] (by kernel_rfl) (by kernel_rfl) ⟨(spb (lc rwl ln)),.dead,.dead,.far _,tv⟩⟩
   ·intro y7 h
    rw[Qdb] at h
    exact bln<|thn<|⟨(y7),h,(mto (n:=19) [(4,.ref 0 1 0 0)] [0] [(.own 1 [[I y7]])] hq (prr pn) (qb (lc rwl ln) qn))⟩
def Qcd (N:Nat) (p0:Int) (p2:List Qbw) (p4:List Int) (k14:(List Int)→Option (List Int)):Nat→Int→(List Int)→Option (List Int)
  |0,_,_=>none
  |n19+1,y15,y16=>
    bif (decide (y15<(w64 ((((p2.length:Int).toNat:Nat):Int)-1)))) then
     Qcx (fun y21=>
       (getI p4 y15).bind fun x23=>
       bif (decide (x23<p0)) then
        chk (decide (0≤y15)&&decide (y15.toNat<(p2.length:Int).toNat))<|
        (y21[y15.toNat]?).bind fun x29=>
        chk (decide (0≤w64 (y15+1))&&decide ((w64 (y15+1)).toNat<(p2.length:Int).toNat))<|
        (y21[(w64 (y15+1)).toNat]?).bind fun x32=>
        chk (decide (0≤y15)&&decide (y15.toNat<(p2.length:Int).toNat))<|
        (y21[y15.toNat]?).bind fun _=>
        Qcd N p0 p2 p4 k14 n19 (w64 (y15+1)) (y21.set y15.toNat (if x32>x29 then x32 else x29))
       else
        Qcd N p0 p2 p4 k14 n19 (w64 (y15+1)) y21) fun k22:(List Int)→Option (List Int)=>
     (getI p4 y15).bind fun x37=>
     bif (decide (x37>0)) then
      chk (decide (0≤w64 (y15+1))&&decide ((w64 (y15+1)).toNat<(p2.length:Int).toNat))<|
      (y16[(w64 (y15+1)).toNat]?).bind fun x43=>
      chk (decide (0≤y15)&&decide (y15.toNat<(p2.length:Int).toNat))<|
      (y16[y15.toNat]?).bind fun x46=>
      chk (decide (0≤w64 (y15+1))&&decide ((w64 (y15+1)).toNat<(p2.length:Int).toNat))<|
      (y16[(w64 (y15+1)).toNat]?).bind fun _=>
      k22 (y16.set ((w64 (y15+1)).toNat) (if x46>x43 then x46 else x43))
     else
      k22 (y16)
    else
     k14 (y16)
def Qcp (N:Nat) (p0:Int) (p2:List Qbw) (p4:List Int) (k6:(List Int)→Option (List Int)):Nat→Int→(List Int)→Option (List Int)
  |0,_,_=>none
  |n11+1,y7,y8=>
    bif (decide (y7<(p2.length:Int))) then
     Qcx (fun y13=>
       Qcp N p0 p2 p4 k6 n11 (w64 (y7+1)) y13) fun k14:(List Int)→Option (List Int)=>
     Qcd N p0 p2 p4 k14 N 0 y8
    else
     k6 (y8)
def Qb3 (N:Nat) (p2:List Qbw) (y51:Int) (k58:(List Int)→Option (List Int)):(List (Qbc×Int))→(List Int)→Option (List Int)
  |[],y71=>
    k58 (y71)
  |x74::q75,y71=>
    bif (decide (x74.2>0)) then
     chk (decide (0≤y51)&&decide (y51.toNat<(p2.length:Int).toNat))<|
     (y71[y51.toNat]?).bind fun _=>
     Qb3 N p2 y51 k58 q75 (y71.set y51.toNat x74.1.Price)
    else
     Qb3 N p2 y51 k58 q75 y71
def Qco (N:Nat) (p2:List Qbw) (p3:List Int) (k4:(List Int)→Option (List Int)):Nat→Int→(List Int)→Option (List Int)
  |0,_,_=>none
  |n55+1,y51,y52=>
    bif (decide (y51<(p2.length:Int))) then
     Qcx (fun y57=>
       Qco N p2 p3 k4 n55 (w64 (y51+1)) y57) fun k58:(List Int)→Option (List Int)=>
     (getI p2 y51).bind fun x59=>
     (getI p3 y51).bind fun x63=>
     (Qd7 N x59 x63).bind fun _=>
     (Qd6 N x59.Use x59.Stairs x63).bind fun q69=>
     Qb3 N p2 y51 k58 q69 y52
    else
     k4 (y52)
def Qfb (N:Nat) (p0 _p1:Int) (p2:List Qbw) (p3 p4:List Int) (_p5 _p6:(Nat→Int)):Option (List Int):=
  chk (decide (0≤(p2.length:Int))&&decide (8*(p2.length:Int)≤281474976710656)&&decide ((p2.length:Int)≤9223372036854775807))<|
  Qcx (fun y3=>
    Qcx (fun y5=>
      some y5) fun k6:(List Int)→Option (List Int)=>
    Qcp N p0 p2 p4 k6 N 0 y3) fun k4:(List Int)→Option (List Int)=>
  Qco N p2 p3 k4 N 0 (List.replicate (p2.length:Int).toNat 0)
abbrev Qe4 (p2:List Qbw):AV:=.dat 2 (p2.map Qay)
def Q02 (p2:List Qbw):Slot:=.own 1 ((List.replicate (p2.length:Int).toNat 0:List Int).map Qaa)
def Qgw (p2:List Qbw):Slot:=.own 1 [[(.own 1 1 (0) ((p2.length:Int).toNat))]]
def Q01:AV:=.fn (.func 103) [] [(.ref 4 2 (0) 0),(.ref 5 1 (0) 0)]
def Qm0 (x59:Qbw):Slot:=.own 2 [[(I x59.Use),(.dat 2 (x59.Stairs.map Qbl))]]
def Qlg (p2:List Qbw):Slot:=.own 1 [[(.own 4 1 (0) ((p2.length:Int).toNat))]]
theorem Qic (N:Nat) (p0 p1:Int) (p2:List Qbw) (p3 p4:List Int) (p5 p6:(Nat→Int)) (r:List Int) (h:Qfb N p0 p1 p2 p3 p4 p5 p6=some r):Spec prog 59 [(.dptr ((I p0)::(I p1)::(Qe4 p2)::(.dat 1 (p3.map Qaa))::(.dat 1 (p4.map Qaa))::(arrF 24 p5++arrF 24 p6)) 0)] [] (.own 0 1 (0) ((p2.length:Int).toNat)) [(.own 1 (r.map Qaa))]:=by
  refine sF func59 1 fun _ _ _ hq hd0=>?_
  unfold Qfb at h
  refine wxz ?_
  obtain⟨hm2,h⟩:=cko h
  refine wx tbk [(5,rp _ _),(6,⟨[(.tmp 14,(I ((p2.length:Int)))),(.tmp 14,(I ((p2.length:Int))))],[(0,.unused)],(.own 0 1 (0) ((p2.length:Int).toNat)),[(0,(Q02 p2))],false⟩)] ⟨alq 2 Qay p2 underlying55,Qf5 rfl underlying25 te3 tz3 rfl (Qp4 hm2) rfl (Qp3 hm2) (Qma hm2) (Qjo Qaa rfl),tv⟩ ?_
  obtain⟨k4,hk_k4,h⟩:=jko h
  refine wjn (τ:=(List Int)) (fun t=>k4 t=some r) (fun y3=>⟨mk 111 [(0,(.dptr ((I p0)::(I p1)::(Qe4 p2)::(.dat 1 (p3.map Qaa))::(.dat 1 (p4.map Qaa))::(arrF 24 p5++arrF 24 p6)) 0)),(3,.ref 0 1 0 0)],[(Qgw p2),(.own 1 (y3.map Qaa))]⟩) (fun y3 h=>?_) ?_
  ·subst hk_k4
   obtain⟨k6,hk_k6,h⟩:=jko h
   refine wjn (τ:=(List Int)) (fun t=>k6 t=some r) (fun y5=>⟨mk 111 [(3,.ref 0 1 0 0)],[(Qgw p2),(.own 1 (y5.map Qaa))]⟩) (fun y5 h=>?_) ?_
   ·subst hk_k6
    refine wxz<|wmr (mto (n:=111) (l':=[(2,(.own 0 1 (0) ((p2.length:Int).toNat)))]) (own':=[(.own 1 (y5.map Qaa))]) [(2,(.own 1 1 (0) ((p2.length:Int).toNat)))] [1] [(.own 1 (y5.map Qaa))] hq (pc (.rn (Qae rfl)) pn) (qc (spr Qab) qn))<|Qac ?_
    obtain rfl:=osi h
    exact⟨_,Mor.rfl,fio [(.own 0 1 (0) ((p2.length:Int).toNat))] ⟨rot,tv⟩⟩
   ·skip
    refine wx tbk [(5,rp _ _)] ⟨alq 2 Qay p2 underlying55,tv⟩<|Qai ?_
    refine wmr (mto (n:=111) (l':=[(0,(.dptr ((I p0)::(I p1)::(Qe4 p2)::(.dat 1 (p3.map Qaa))::(.dat 1 (p4.map Qaa))::(arrF 24 p5++arrF 24 p6)) 0)),(3,.ref 0 1 0 0),(51,(I ((p2.length:Int)))),(52,I 0)]) (own':=[(Qgw p2),(.own 1 (y3.map Qaa))]) [(0,(.dptr ((I p0)::(I p1)::(Qe4 p2)::(.dat 1 (p3.map Qaa))::(.dat 1 (p4.map Qaa))::(arrF 24 p5++arrF 24 p6)) 0)),(3,.ref 0 1 0 0),(51,(I ((p2.length:Int)))),(52,I 0)] [0,1] [(Qgw p2),(.own 1 (y3.map Qaa))] hq (pc (.rn (.plain _ (NLt.dptr _ _ (nlcc (nlc (nld Qag _) (nlc (nld Qab _) (nlc (nld Qab _) (Qdq Qdx Qdx)))))))) (prr (pw (pw pn)))) (qb (lc (.rn (Qae rfl)) ln) (qc (spr Qab) qn))) ?_
    refine Qb0 (τ:=Int×(List Int)) (fun n t=>Qcp N p0 p2 p4 k6 n t.1 t.2=some r) (fun ⟨y7,y8⟩=>⟨mk 111 [(0,(.dptr ((I p0)::(I p1)::(Qe4 p2)::(.dat 1 (p3.map Qaa))::(.dat 1 (p4.map Qaa))::(arrF 24 p5++arrF 24 p6)) 0)),(3,.ref 0 1 0 0),(51,(I ((p2.length:Int)))),(52,I y7)],[(Qgw p2),(.own 1 (y8.map Qaa))]⟩) (fun t h=>by rw[Qcp] at h;cases h) (fun n11 ih t h=>?_) N (0,y3) h
    obtain⟨y7,y8⟩:=t
    rw[Qcp] at h
    skip
    refine wxz<|wsq ?_
    refine bfe h (fun hc12 h=>?_) fun hc12 h=>?_
    ·refine wft hc12<|Qaf<|thn ?_
     obtain⟨k14,hk_k14,h⟩:=jko h
     refine wjn (τ:=(List Int)) (fun t=>k14 t=some r) (fun y13=>⟨mk 111 [(0,(.dptr ((I p0)::(I p1)::(Qe4 p2)::(.dat 1 (p3.map Qaa))::(.dat 1 (p4.map Qaa))::(arrF 24 p5++arrF 24 p6)) 0)),(3,.ref 0 1 0 0),(51,(I ((p2.length:Int)))),(52,I y7)],[(Qgw p2),(.own 1 (y13.map Qaa))]⟩) (fun y13 h=>?_) ?_
     ·subst hk_k14
      exact wxz1<|thn<|arm (mto (n:=111) [(0,(.dptr ((I p0)::(I p1)::(Qe4 p2)::(.dat 1 (p3.map Qaa))::(.dat 1 (p4.map Qaa))::(arrF 24 p5++arrF 24 p6)) 0)),(3,.ref 0 1 0 0),(51,(I ((p2.length:Int)))),(52,(I (w64 (y7+1))))] [0,1] [(Qgw p2),(.own 1 (y13.map Qaa))] hq (pc (.rn (.plain _ (NLt.dptr _ _ (nlcc (nlc (nld Qag _) (nlc (nld Qab _) (nlc (nld Qab _) (Qdq Qdx Qdx)))))))) (prr (pw (pw pn)))) (qb (lc (.rn (Qae rfl)) ln) (qc (spr Qab) qn))) (ih (w64 (y7+1),y13) h)
     ·skip
      refine Qai<|wx tbk [(1,rp [(.tmp 54,(.own 1 1 (0) ((p2.length:Int).toNat)))] (I ((((p2.length:Int).toNat:Nat):Int))))] ⟨aln rfl underlying25 rfl,tv⟩<|Qai ?_
      refine wmr (mto (n:=111) (l':=[(0,(.dptr ((I p0)::(I p1)::(Qe4 p2)::(.dat 1 (p3.map Qaa))::(.dat 1 (p4.map Qaa))::(arrF 24 p5++arrF 24 p6)) 0)),(3,.ref 0 1 0 0),(51,(I ((p2.length:Int)))),(52,I y7),(56,(I (w64 ((((p2.length:Int).toNat:Nat):Int)-1)))),(57,I 0)]) (own':=[(Qgw p2),(.own 1 (y8.map Qaa))]) [(0,(.dptr ((I p0)::(I p1)::(Qe4 p2)::(.dat 1 (p3.map Qaa))::(.dat 1 (p4.map Qaa))::(arrF 24 p5++arrF 24 p6)) 0)),(3,.ref 0 1 0 0),(51,(I ((p2.length:Int)))),(52,I y7),(56,(I (w64 ((((p2.length:Int).toNat:Nat):Int)-1)))),(57,I 0)] [0,1] [(Qgw p2),(.own 1 (y8.map Qaa))] hq (pc (.rn (.plain _ (NLt.dptr _ _ (nlcc (nlc (nld Qag _) (nlc (nld Qab _) (nlc (nld Qab _) (Qdq Qdx Qdx)))))))) (prr (pw (pw (pw (pw pn)))))) (qb (lc (.rn (Qae rfl)) ln) (qc (spr Qab) qn))) ?_
      refine Qb0 (τ:=Int×(List Int)) (fun n t=>Qcd N p0 p2 p4 k14 n t.1 t.2=some r) (fun ⟨y15,y16⟩=>⟨mk 111 [(0,(.dptr ((I p0)::(I p1)::(Qe4 p2)::(.dat 1 (p3.map Qaa))::(.dat 1 (p4.map Qaa))::(arrF 24 p5++arrF 24 p6)) 0)),(3,.ref 0 1 0 0),(51,(I ((p2.length:Int)))),(52,I y7),(56,(I (w64 ((((p2.length:Int).toNat:Nat):Int)-1)))),(57,I y15)],[(Qgw p2),(.own 1 (y16.map Qaa))]⟩) (fun t h=>by rw[Qcd] at h;cases h) (fun n19 ih t h=>?_) N (0,y8) h
      obtain⟨y15,y16⟩:=t
      rw[Qcd] at h
      skip
      refine wxz<|wsq ?_
      refine bfe h (fun hc20 h=>?_) fun hc20 h=>?_
      ·refine wft hc20<|Qaf<|thn<|wsq<|Qai<|wxz ?_
       obtain⟨k22,hk_k22,h⟩:=jko h
       refine wjn (τ:=(List Int)) (fun t=>k22 t=some r) (fun y21=>⟨mk 111 [(0,(.dptr ((I p0)::(I p1)::(Qe4 p2)::(.dat 1 (p3.map Qaa))::(.dat 1 (p4.map Qaa))::(arrF 24 p5++arrF 24 p6)) 0)),(3,.ref 0 1 0 0),(8,I y15),(51,(I ((p2.length:Int)))),(52,I y7),(56,(I (w64 ((((p2.length:Int).toNat:Nat):Int)-1)))),(57,I y15)],[(Qgw p2),(.own 1 (y21.map Qaa))]⟩) (fun y21 h=>?_) ?_
       ·subst hk_k22
        obtain⟨x23,hg24,h⟩:=bno h
        obtain⟨hi25,hj26⟩:=gsm hg24
        refine wxd tbk [(5,rp _ _)] ⟨aiq underlying25 ti3 Qaa hi25 hj26,tv⟩ ?_
        refine bfe h (fun hc27 h=>?_) fun hc27 h=>?_
        ·refine wft hc27 ?_
         obtain⟨hi28,h⟩:=cko h
         obtain⟨hi28a,hi28b⟩:=Qat hi28
         obtain⟨x29,hg30,h⟩:=bno h
         obtain⟨hi31,h⟩:=cko h
         obtain⟨hi31a,hi31b⟩:=Qat hi31
         obtain⟨x32,hg33,h⟩:=bno h
         obtain⟨hi34,h⟩:=cko h
         obtain⟨hi34a,hi34b⟩:=Qat hi34
         obtain⟨x35,hg36,h⟩:=bno h
         refine wy1 tbk [(4,rb [(.tmp 97,(.own 1 1 (0) ((p2.length:Int).toNat))),(.tmp 98,I y15)] [(1,(.own 1 (y21.map Qaa)))] (.ref 1 1 y15.toNat 0)),(5,rb [(.tmp 99,(.ref 1 1 y15.toNat 0))] [(1,(.own 1 (y21.map Qaa)))] (I x29)),(9,rb [(.tmp 101,(.own 1 1 (0) ((p2.length:Int).toNat))),(.tmp 103,(I (w64 (y15+1))))] [(1,(.own 1 (y21.map Qaa)))] (.ref 1 1 ((w64 (y15+1)).toNat) 0)),(10,rb [(.tmp 104,(.ref 1 1 ((w64 (y15+1)).toNat) 0))] [(1,(.own 1 (y21.map Qaa)))] (I x32)),(11,rp [(.tmp 100,I x29),(.tmp 105,I x32)] (I ((if x32>x29 then x32 else x29)))),(12,rb [(.tmp 95,(.own 1 1 (0) ((p2.length:Int).toNat))),(.tmp 96,I y15)] [(1,(.own 1 (y21.map Qaa)))] (.ref 1 1 y15.toNat 0)),(13,⟨[(.tmp 107,(.ref 1 1 y15.toNat 0)),(.tmp 106,(I ((if x32>x29 then x32 else x29))))],[(1,(.own 1 (y21.map Qaa)))],.any,[(1,(.own 1 ((y21.set y15.toNat (if x32>x29 then x32 else x29):List Int).map Qaa)))],false⟩)] ⟨aio rfl underlying25 ti3 (odt hi28a) (odt hi28b) (Nat.zero_add _),ald rfl ti3 (by decide) (mgt Qaa hg30) (nle rfl) rfl,aio rfl underlying25 ti3 (odt hi31a) (odt hi31b) (Nat.zero_add _),ald rfl ti3 (by decide) (mgt Qaa hg33) (nle rfl) rfl,Qg8 rfl,aio rfl underlying25 ti3 (odt hi34a) (odt hi34b) (Nat.zero_add _),ast rfl ti3 (by rfl) (mgt Qaa hg36) (nle rfl) (Qd2 Qaa rfl),tv⟩<|bln<|thn<|wxz1<|thn ?_
         exact arm (mto (n:=111) [(0,(.dptr ((I p0)::(I p1)::(Qe4 p2)::(.dat 1 (p3.map Qaa))::(.dat 1 (p4.map Qaa))::(arrF 24 p5++arrF 24 p6)) 0)),(3,.ref 0 1 0 0),(51,(I ((p2.length:Int)))),(52,I y7),(56,(I (w64 ((((p2.length:Int).toNat:Nat):Int)-1)))),(57,(I (w64 (y15+1))))] [0,1] [(Qgw p2),(.own 1 ((y21.set y15.toNat (if x32>x29 then x32 else x29):List Int).map Qaa))] hq (pc (.rn (.plain _ (NLt.dptr _ _ (nlcc (nlc (nld Qag _) (nlc (nld Qab _) (nlc (nld Qab _) (Qdq Qdx Qdx)))))))) (prr (pw (pw (pw (pw pn)))))) (qb (lc (.rn (Qae rfl)) ln) (qc (spr Qab) qn))) (ih (w64 (y15+1),y21.set y15.toNat (if x32>x29 then x32 else x29)) h)
        ·exact wfn hc27<|Qaf<|bln<|thn<|wxz1<|thn<|arm (mto (n:=111) [(0,(.dptr ((I p0)::(I p1)::(Qe4 p2)::(.dat 1 (p3.map Qaa))::(.dat 1 (p4.map Qaa))::(arrF 24 p5++arrF 24 p6)) 0)),(3,.ref 0 1 0 0),(51,(I ((p2.length:Int)))),(52,I y7),(56,(I (w64 ((((p2.length:Int).toNat:Nat):Int)-1)))),(57,(I (w64 (y15+1))))] [0,1] [(Qgw p2),(.own 1 (y21.map Qaa))] hq (pc (.rn (.plain _ (NLt.dptr _ _ (nlcc (nlc (nld Qag _) (nlc (nld Qab _) (nlc (nld Qab _) (Qdq Qdx Qdx)))))))) (prr (pw (pw (pw (pw pn)))))) (qb (lc (.rn (Qae rfl)) ln) (qc (spr Qab) qn))) (ih (w64 (y15+1),y21) h)
       ·skip
        obtain⟨x37,hg38,h⟩:=bno h
        obtain⟨hi39,hj40⟩:=gsm hg38
        refine wx tbk [(5,rp _ _)] ⟨aiq underlying25 ti3 Qaa hi39 hj40,tv⟩ ?_
        refine bfe h (fun hc41 h=>?_) fun hc41 h=>?_
        ·refine wft hc41 ?_
         obtain⟨hi42,h⟩:=cko h
         obtain⟨hi42a,hi42b⟩:=Qat hi42
         obtain⟨x43,hg44,h⟩:=bno h
         obtain⟨hi45,h⟩:=cko h
         obtain⟨hi45a,hi45b⟩:=Qat hi45
         obtain⟨x46,hg47,h⟩:=bno h
         obtain⟨hi48,h⟩:=cko h
         obtain⟨hi48a,hi48b⟩:=Qat hi48
         obtain⟨x49,hg50,h⟩:=bno h
         refine wy1 tbk [(6,rb [(.tmp 71,(.own 1 1 (0) ((p2.length:Int).toNat))),(.tmp 73,(I (w64 (y15+1))))] [(1,(.own 1 (y16.map Qaa)))] (.ref 1 1 ((w64 (y15+1)).toNat) 0)),(7,rb [(.tmp 74,(.ref 1 1 ((w64 (y15+1)).toNat) 0))] [(1,(.own 1 (y16.map Qaa)))] (I x43)),(10,rb [(.tmp 76,(.own 1 1 (0) ((p2.length:Int).toNat))),(.tmp 77,I y15)] [(1,(.own 1 (y16.map Qaa)))] (.ref 1 1 y15.toNat 0)),(11,rb [(.tmp 78,(.ref 1 1 y15.toNat 0))] [(1,(.own 1 (y16.map Qaa)))] (I x46)),(12,rp [(.tmp 75,I x43),(.tmp 79,I x46)] (I ((if x46>x43 then x46 else x43)))),(13,rb [(.tmp 68,(.own 1 1 (0) ((p2.length:Int).toNat))),(.tmp 70,(I (w64 (y15+1))))] [(1,(.own 1 (y16.map Qaa)))] (.ref 1 1 ((w64 (y15+1)).toNat) 0)),(14,⟨[(.tmp 81,(.ref 1 1 ((w64 (y15+1)).toNat) 0)),(.tmp 80,(I ((if x46>x43 then x46 else x43))))],[(1,(.own 1 (y16.map Qaa)))],.any,[(1,(.own 1 ((y16.set ((w64 (y15+1)).toNat) (if x46>x43 then x46 else x43):List Int).map Qaa)))],false⟩)] ⟨aio rfl underlying25 ti3 (odt hi42a) (odt hi42b) (Nat.zero_add _),ald rfl ti3 (by decide) (mgt Qaa hg44) (nle rfl) rfl,aio rfl underlying25 ti3 (odt hi45a) (odt hi45b) (Nat.zero_add _),ald rfl ti3 (by decide) (mgt Qaa hg47) (nle rfl) rfl,Qg8 rfl,aio rfl underlying25 ti3 (odt hi48a) (odt hi48b) (Nat.zero_add _),ast rfl ti3 (by rfl) (mgt Qaa hg50) (nle rfl) (Qd2 Qaa rfl),tv⟩<|thn ?_
         exact⟨(y16.set ((w64 (y15+1)).toNat) (if x46>x43 then x46 else x43)),h,(mto (n:=111) [(0,(.dptr ((I p0)::(I p1)::(Qe4 p2)::(.dat 1 (p3.map Qaa))::(.dat 1 (p4.map Qaa))::(arrF 24 p5++arrF 24 p6)) 0)),(3,.ref 0 1 0 0),(8,I y15),(51,(I ((p2.length:Int)))),(52,I y7),(56,(I (w64 ((((p2.length:Int).toNat:Nat):Int)-1)))),(57,I y15)] [0,1] [(Qgw p2),(.own 1 ((y16.set ((w64 (y15+1)).toNat) (if x46>x43 then x46 else x43):List Int).map Qaa))] hq (pc (.rn (.plain _ (NLt.dptr _ _ (nlcc (nlc (nld Qag _) (nlc (nld Qab _) (nlc (nld Qab _) (Qdq Qdx Qdx)))))))) (prr (pw (pw (pw (pw (pw pn))))))) (qb (lc (.rn (Qae rfl)) ln) (qc (spr Qab) qn)))⟩
        ·exact wfn hc41<|Qaf<|thn<|⟨(y16),h,(mto (n:=111) [(0,(.dptr ((I p0)::(I p1)::(Qe4 p2)::(.dat 1 (p3.map Qaa))::(.dat 1 (p4.map Qaa))::(arrF 24 p5++arrF 24 p6)) 0)),(3,.ref 0 1 0 0),(8,I y15),(51,(I ((p2.length:Int)))),(52,I y7),(56,(I (w64 ((((p2.length:Int).toNat:Nat):Int)-1)))),(57,I y15)] [0,1] [(Qgw p2),(.own 1 (y16.map Qaa))] hq (pc (.rn (.plain _ (NLt.dptr _ _ (nlcc (nlc (nld Qag _) (nlc (nld Qab _) (nlc (nld Qab _) (Qdq Qdx Qdx)))))))) (prr (pw (pw (pw (pw (pw pn))))))) (qb (lc (.rn (Qae rfl)) ln) (qc (spr Qab) qn)))⟩
      ·exact wfn hc20<|Qax<|Qan<|Qan<|Qaw rfl<|bln<|thn<|⟨(y16),h,(mto (n:=111) [(0,(.dptr ((I p0)::(I p1)::(Qe4 p2)::(.dat 1 (p3.map Qaa))::(.dat 1 (p4.map Qaa))::(arrF 24 p5++arrF 24 p6)) 0)),(3,.ref 0 1 0 0),(51,(I ((p2.length:Int)))),(52,I y7)] [0,1] [(Qgw p2),(.own 1 (y16.map Qaa))] hq (pc (.rn (.plain _ (NLt.dptr _ _ (nlcc (nlc (nld Qag _) (nlc (nld Qab _) (nlc (nld Qab _) (Qdq Qdx Qdx)))))))) (prr (pw (pw pn)))) (qb (lc (.rn (Qae rfl)) ln) (qc (spr Qab) qn)))⟩
    ·exact wfn hc12<|Qax<|Qan<|Qan<|Qaw rfl<|thn<|⟨(y8),h,(mto (n:=111) [(3,.ref 0 1 0 0)] [0,1] [(Qgw p2),(.own 1 (y8.map Qaa))] hq (prr pn) (qb (lc (.rn (Qae rfl)) ln) (qc (spr Qab) qn)))⟩
  ·skip
   refine wx tbk [(5,rp _ _)] ⟨alq 2 Qay p2 underlying55,tv⟩<|Qai ?_
   refine wmr (mto (n:=111) (l':=[(0,(.dptr ((I p0)::(I p1)::(Qe4 p2)::(.dat 1 (p3.map Qaa))::(.dat 1 (p4.map Qaa))::(arrF 24 p5++arrF 24 p6)) 0)),(3,.ref 0 1 0 0),(20,(Qe4 p2)),(21,(I ((p2.length:Int)))),(22,I 0)]) (own':=[(Qgw p2),(.own 1 (((List.replicate (p2.length:Int).toNat 0):List Int).map Qaa))]) [(0,(.dptr ((I p0)::(I p1)::(Qe4 p2)::(.dat 1 (p3.map Qaa))::(.dat 1 (p4.map Qaa))::(arrF 24 p5++arrF 24 p6)) 0)),(3,.ref 1 1 0 0),(20,(Qe4 p2)),(21,(I ((p2.length:Int)))),(22,I 0)] [1,0] [(.own 1 [[(.own 0 1 (0) ((p2.length:Int).toNat))]]),(Q02 p2)] hq (pc (.rn (.plain _ (NLt.dptr _ _ (nlcc (nlc (nld Qag _) (nlc (nld Qab _) (nlc (nld Qab _) (Qdq Qdx Qdx)))))))) (prr (pc (rnd Qag) (pw (pw pn))))) (qb (lc (.rn (Qae rfl)) ln) (qc (spr Qab) qn))) ?_
   refine Qb0 (τ:=Int×(List Int)) (fun n t=>Qco N p2 p3 k4 n t.1 t.2=some r) (fun ⟨y51,y52⟩=>⟨mk 111 [(0,(.dptr ((I p0)::(I p1)::(Qe4 p2)::(.dat 1 (p3.map Qaa))::(.dat 1 (p4.map Qaa))::(arrF 24 p5++arrF 24 p6)) 0)),(3,.ref 0 1 0 0),(20,(Qe4 p2)),(21,(I ((p2.length:Int)))),(22,I y51)],[(Qgw p2),(.own 1 (y52.map Qaa))]⟩) (fun t h=>by rw[Qco] at h;cases h) (fun n55 ih t h=>?_) N (0,List.replicate (p2.length:Int).toNat 0) h
   obtain⟨y51,y52⟩:=t
   rw[Qco] at h
   skip
   refine wxz<|wsq ?_
   refine bfe h (fun hc56 h=>?_) fun hc56 h=>?_
   ·refine wft hc56<|Qaf<|thn ?_
    obtain⟨k58,hk_k58,h⟩:=jko h
    refine wjn (τ:=(List Int)) (fun t=>k58 t=some r) (fun y57=>⟨mk 111 [(0,(.dptr ((I p0)::(I p1)::(Qe4 p2)::(.dat 1 (p3.map Qaa))::(.dat 1 (p4.map Qaa))::(arrF 24 p5++arrF 24 p6)) 0)),(3,.ref 0 1 0 0),(20,(Qe4 p2)),(21,(I ((p2.length:Int)))),(22,I y51)],[(Qgw p2),(.own 1 (y57.map Qaa))]⟩) (fun y57 h=>?_) ?_
    ·subst hk_k58
     exact wxz1<|thn<|arm (mto (n:=111) [(0,(.dptr ((I p0)::(I p1)::(Qe4 p2)::(.dat 1 (p3.map Qaa))::(.dat 1 (p4.map Qaa))::(arrF 24 p5++arrF 24 p6)) 0)),(3,.ref 0 1 0 0),(20,(Qe4 p2)),(21,(I ((p2.length:Int)))),(22,(I (w64 (y51+1))))] [0,1] [(Qgw p2),(.own 1 (y57.map Qaa))] hq (pc (.rn (.plain _ (NLt.dptr _ _ (nlcc (nlc (nld Qag _) (nlc (nld Qab _) (nlc (nld Qab _) (Qdq Qdx Qdx)))))))) (prr (pc (rnd Qag) (pw (pw pn))))) (qb (lc (.rn (Qae rfl)) ln) (qc (spr Qab) qn))) (ih (w64 (y51+1),y57) h)
    ·skip
     refine Qai ?_
     obtain⟨x59,hg60,h⟩:=bno h
     obtain⟨hi61,hj62⟩:=gsm hg60
     refine wx tbk [(1,rp _ _)] ⟨aiq underlying55 ti62 Qay hi61 hj62,tv⟩ ?_
     obtain⟨x63,hg64,h⟩:=bno h
     obtain⟨hi65,hj66⟩:=gsm hg64
     obtain⟨x68,hf67,h⟩:=bno h
     refine wxd tbk [(6,rp _ _),(8,⟨_,_,_,_,false⟩)] ⟨aiq underlying25 ti3 Qaa hi65 hj66,acq [(.agg [I x59.Use,(.dat 2 (x59.Stairs.map Qbl))]),I x63] [] [(Qm0 x59),(.own 1 [[I x63]])] Q01 [4,5] Qpk (Qez N x59 x63 _ hf67) (Qb9 (rnc (.plain _ (NLt.agg _ (nlc nll (nlc (nld Qbu _) nl0)))) (rnc (.plain _ nll) rn0))) Qam (slc (Qaj (rnc (.plain _ nll) (rnc (pld Qbu) rn0))) (slc (Qaj (rnc (.plain _ nll) rn0)) Qam)) (Qap rn0 (rnc (Qeq rfl) (rnc (Qeq rfl) rn0))),tv⟩<|Qai ?_
     obtain⟨q69,hL70,h⟩:=bno h
     refine wmr (mto (n:=111) (l':=[(0,(.dptr ((I p0)::(I p1)::(Qe4 p2)::(.dat 1 (p3.map Qaa))::(.dat 1 (p4.map Qaa))::(arrF 24 p5++arrF 24 p6)) 0)),(3,.ref 0 1 0 0),(4,.ref 1 1 0 0),(20,(Qe4 p2)),(21,(I ((p2.length:Int)))),(22,I y51),(35,(.fn (.func 103) [] [.ref 2 2 0 0,.ref 3 1 0 0]))]) (own':=[(Qlg p2),(.own 1 [[I y51]]),(Qm0 x59),(.own 1 [[I x63]]),(.own 1 (y52.map Qaa))]) [(0,(.dptr ((I p0)::(I p1)::(Qe4 p2)::(.dat 1 (p3.map Qaa))::(.dat 1 (p4.map Qaa))::(arrF 24 p5++arrF 24 p6)) 0)),(3,.ref 0 1 0 0),(4,.ref 2 1 0 0),(20,(Qe4 p2)),(21,(I ((p2.length:Int)))),(22,I y51),(35,Q01)] [0,2,4,5,1] [(Qgw p2),(.own 1 [[I y51]]),(Qm0 x59),(.own 1 [[I x63]]),(.own 1 (y52.map Qaa))] hq (pc (.rn (.plain _ (NLt.dptr _ _ (nlcc (nlc (nld Qag _) (nlc (nld Qab _) (nlc (nld Qab _) (Qdq Qdx Qdx)))))))) (prr (prr (pc (rnd Qag) (pw (pw (pc (.rn (Qap rn0 (rnc (rqr rfl) (rnc (rqr rfl) rn0)))) pn))))))) (qb (lc (.rn (Qae rfl)) ln) (qb (lc rwl ln) (qb (lc rwl (lc (rnd Qbu) ln)) (qb (lc rwl ln) (qc (spr Qab) qn)))))) ?_
     refine Qgv (τ:=((List Int))) (kb:=5) (caps:=[.ref 2 2 0 0,.ref 3 1 0 0]) (σr:=[(Qm0 x59),(.own 1 [[I x63]])]) (encs:=fun x=>[(.agg #[(.int .i64 x.1.Amount),(.int .i64 x.1.Price)]),(.int .i64 x.2)]) (fun x=>[(.agg [I x.1.Amount,I x.1.Price]),I x.2]) [2,3] (fun n hn=>hq n (Nat.le_trans (nle rfl) hn)) hd0 (Qey N x59.Use x59.Stairs x63 _ hL70) Qnr (by kernel_rfl) (by kernel_rfl) (Qb9 (rnc (Qeq rfl) (rnc (Qeq rfl) rn0))) (slc (Qaj (rnc (.plain _ nll) (rnc (pld Qbu) rn0))) (slc (Qaj (rnc (.plain _ nll) rn0)) Qam)) (by kernel_rfl) (fun _=>rfl) (fun x=>⟨(Less.unlits [(.int .i64 x.1.Amount),(.int .i64 x.1.Price)]),lrf,tv⟩) (Qmi (Qcg (NLt.of0 (NLt.dptr _ _ (nlcc (nlc (nld Qag _) (nlc (nld Qab _) (nlc (nld Qab _) (Qdq Qdx Qdx))))))) (Qcg (NLt.ref _ _ _ _ (by decide)) (Qcg (NLt.ref _ _ _ _ (by decide)) (Qcg (NLt.of0 (nld Qag _)) (Qcg (NLt.of0 nll) (Qcg (NLt.of0 nll) (Qcg (NLt.fn _ _ _ nl0 (nlc (NLt.ref _ _ _ _ (by decide)) (nlc (NLt.ref _ _ _ _ (by decide)) nl0))) Qkp)))))))) (fun y71=>[(Qlg p2),(.own 1 [[I y51]]),.dead,.dead,(.own 1 (y71.map Qaa))]) (fun _=>rfl) (fun _=>rfl) (fun l t=>Qb3 N p2 y51 k58 l t=some r) y52 h (by kernel_rfl) ?_ ?_
     ·intro l76 o77 X80 φ81 w82 hφ79 x74 q75 y71 h
      rw[Qb3] at h
      refine wxz<|wxz1 ?_
      refine⟨by kernel_rfl,fun o78=>?_⟩
      refine Qai<|wxz ?_
      refine bfe h (fun hc83 h=>?_) fun hc83 h=>?_
      ·refine wft hc83 ?_
       obtain⟨hi84,h⟩:=cko h
       obtain⟨hi84a,hi84b⟩:=Qat hi84
       obtain⟨x85,hg86,h⟩:=bno h
       refine wx1 tbk [(4,rb [(.tmp 40,(.own 4 1 (0) ((p2.length:Int).toNat))),(.tmp 41,I y51)] [(4,(.own 1 (y71.map Qaa)))] (.ref 4 1 y51.toNat 0)),(5,⟨[(.tmp 44,(.ref 4 1 y51.toNat 0)),(.tmp 43,I x74.1.Price)],[(4,(.own 1 (y71.map Qaa)))],.any,[(4,(.own 1 ((y71.set y51.toNat x74.1.Price:List Int).map Qaa)))],false⟩)] ⟨aio rfl underlying25 ti3 (odt hi84a) (odt hi84b) (Nat.zero_add _),ast rfl ti3 (by rfl) (mgt Qaa hg86) (nle rfl) (Qd2 Qaa rfl),tv⟩<|bln ?_
       exact⟨(y71.set y51.toNat x74.1.Price),h,Qhg (own':=[(Qlg p2),(.own 1 [[I y51]]),.dead,.dead,(.own 1 (((y71.set y51.toNat x74.1.Price):List Int).map Qaa)),(.far (farL l76 o78))]) [0,1,2,3,4,5] [(Qlg p2),(.own 1 [[I y51]]),.dead,.dead,(.own 1 ((y71.set y51.toNat x74.1.Price:List Int).map Qaa)),(.far (farL l76 o78))] (by kernel_rfl) (by kernel_rfl) ⟨(spb (lc (.rn (Qae rfl)) ln)),(spb (lc rwl ln)),.dead,.dead,(spr Qab),.far _,tv⟩⟩
      ·exact wfn hc83<|Qaf<|bln<|⟨(y71),h,Qhg (own':=[(Qlg p2),(.own 1 [[I y51]]),.dead,.dead,(.own 1 (y71.map Qaa)),(.far (farL l76 o78))]) [0,1,2,3,4,5] [(Qlg p2),(.own 1 [[I y51]]),.dead,.dead,(.own 1 (y71.map Qaa)),(.far (farL l76 o78))] (by kernel_rfl) (by kernel_rfl) ⟨(spb (lc (.rn (Qae rfl)) ln)),(spb (lc rwl ln)),.dead,.dead,(spr Qab),.far _,tv⟩⟩
     ·intro y71 h
      rw[Qb3] at h
      exact bln<|bln<|thn<|⟨(y71),h,(mto (n:=111) [(0,(.dptr ((I p0)::(I p1)::(Qe4 p2)::(.dat 1 (p3.map Qaa))::(.dat 1 (p4.map Qaa))::(arrF 24 p5++arrF 24 p6)) 0)),(3,.ref 0 1 0 0),(20,(Qe4 p2)),(21,(I ((p2.length:Int)))),(22,I y51)] [0,4] [(Qlg p2),(.own 1 (y71.map Qaa))] hq (pc (.rn (.plain _ (NLt.dptr _ _ (nlcc (nlc (nld Qag _) (nlc (nld Qab _) (nlc (nld Qab _) (Qdq Qdx Qdx)))))))) (prr (pc (rnd Qag) (pw (pw pn))))) (qb (lc (.rn (Qae rfl)) ln) (qc (spr Qab) qn)))⟩
   ·exact wfn hc56<|Qax<|Qan<|Qan<|Qaw rfl<|thn<|⟨(y52),h,(mto (n:=111) [(0,(.dptr ((I p0)::(I p1)::(Qe4 p2)::(.dat 1 (p3.map Qaa))::(.dat 1 (p4.map Qaa))::(arrF 24 p5++arrF 24 p6)) 0)),(3,.ref 0 1 0 0)] [0,1] [(Qgw p2),(.own 1 (y52.map Qaa))] hq (pc (.rn (.plain _ (NLt.dptr _ _ (nlcc (nlc (nld Qag _) (nlc (nld Qab _) (nlc (nld Qab _) (Qdq Qdx Qdx)))))))) (prr pn)) (qb (lc (.rn (Qae rfl)) ln) (qc (spr Qab) qn)))⟩
def Qdl (N:Nat) (p0:GDay) (y19:List Int) (k23:Int→Option ((List Int)×(List Int)×Int×Int)):Nat→Int→Int→Option ((List Int)×(List Int)×Int×Int)
  |0,_,_=>none
  |n34+1,y30,y31=>
    bif (decide (y31<(p0.Hours.length:Int))) then
     (getI p0.Hours y31).bind fun x36=>
     chk (decide (0≤y31)&&decide (y31.toNat<(p0.Hours.length:Int).toNat))<|
     (y19[y31.toNat]?).bind fun x41=>
     (Qfn N x36 x41).bind fun x44=>
     Qdl N p0 y19 k23 n34 (w64 (y30+x44)) (w64 (y31+1))
    else
     k23 (y30)
def Qdk (N:Nat) (p0:GDay) (k21:(Nat→Int)×(Nat→Int)×(List Int)×(List Int)→Option ((List Int)×(List Int)×Int×Int)):Nat→Int→Int→(Nat→Int)→(Nat→Int)→(List Int)→(List Int)→Option ((List Int)×(List Int)×Int×Int)
  |0,_,_,_,_,_,_=>none
  |n57+1,y45,y46,y47,y48,y49,y50=>
    bif (decide (y46<(p0.Hours.length:Int))) then
     (getI p0.Hours y46).bind fun x59=>
     (some (if (w64 (x59.Use-y45))>0 then w64 (x59.Use-y45) else 0)).bind fun x63=>
     (Qfx N y46 x63 p0.Tank p0.Start p0.Hours ((p0.Hours.length:Int).toNat) ((p0.Hours.length:Int).toNat) y47 y48 y49 y50).bind fun x66=>
     (some (if (w64 (y45-x59.Use))>0 then w64 (y45-x59.Use) else 0)).bind fun x67=>
     chk (decide (0≤y46)&&decide (y46.toNat<((p0.Hours.length:Int).toNat)))<|
     (x66.2.2.2[y46.toNat]?).bind fun x70=>
     chk (decide (0≤y46)&&decide (y46.toNat<((p0.Hours.length:Int).toNat)))<|
     (x66.2.2.2[y46.toNat]?).bind fun _=>
     Qdk N p0 k21 n57 x67 (w64 (y46+1)) x66.1 x66.2.1 x66.2.2.1 (x66.2.2.2.set y46.toNat (w64 (x70+x67)))
    else
     k21 (y47,y48,y49,y50)
def Qc8 (N:Nat) (p0:GDay) (k16:(Nat→Int)→Option ((List Int)×(List Int)×Int×Int)):Nat→Int→(Nat→Int)→Option ((List Int)×(List Int)×Int×Int)
  |0,_,_=>none
  |n79+1,y75,y76=>
    bif (decide (y75<(p0.Hours.length:Int))) then
     (getI p0.Hours y75).bind fun x81=>
     bif (decide ((x81.Stairs.length:Int)>0)) then
      (getI x81.Stairs 0).bind fun x86=>
      chk (decide (0≤y75)&&decide (y75.toNat<24))<|
      Qc8 N p0 k16 n79 (w64 (y75+1)) (setF y76 y75.toNat x86.Amount)
     else
      Qc8 N p0 k16 n79 (w64 (y75+1)) y76
    else
     k16 (y76)
def Qf7 (N:Nat) (p0:GDay):Option ((List Int)×(List Int)×Int×Int):=
  (Qds N p0).bind fun x8=>
  bif (!x8) then
   some ([],[],0,1)
  else
   (Qfo N p0).bind fun x11=>
   bif (decide (x11.1≥0)) then
    some ([],[],0,7)
   else
    chk (decide (0≤(p0.Hours.length:Int))&&decide (8*(p0.Hours.length:Int)≤281474976710656)&&decide ((p0.Hours.length:Int)≤9223372036854775807))<|
    chk (decide (0≤(p0.Hours.length:Int))&&decide (8*(p0.Hours.length:Int)≤281474976710656)&&decide ((p0.Hours.length:Int)≤9223372036854775807))<|
    Qcx (fun y15=>
      Qcx (fun ⟨y17,y18,y19,y20⟩=>
        Qcx (fun y22=>
          chk (decide ((p0.Hours.length:Int).toNat≤y19.length))<|
          chk (decide ((p0.Hours.length:Int).toNat≤y20.length))<|
          (Qfb N p0.Tank p0.Start p0.Hours (y19.take ((p0.Hours.length:Int).toNat)) (y20.take ((p0.Hours.length:Int).toNat)) y17 y18).bind fun x27=>
          chk (decide ((p0.Hours.length:Int).toNat≤y19.length))<|
          chk (decide ((p0.Hours.length:Int).toNat≤x27.length))<|
          some (y19.take ((p0.Hours.length:Int).toNat),x27.take ((p0.Hours.length:Int).toNat),y22,0)) fun k23:Int→Option ((List Int)×(List Int)×Int×Int)=>
        Qdl N p0 y19 k23 N 0 0) fun k21:(Nat→Int)×(Nat→Int)×(List Int)×(List Int)→Option ((List Int)×(List Int)×Int×Int)=>
      Qdk N p0 k21 N p0.Start 0 (fun _=>0) y15 (List.replicate (p0.Hours.length:Int).toNat 0) (List.replicate (p0.Hours.length:Int).toNat 0)) fun k16:(Nat→Int)→Option ((List Int)×(List Int)×Int×Int)=>
    Qc8 N p0 k16 N 0 (fun _=>0)
def Qft (p0:GDay):AV:=.dat 2 (p0.Hours.map Qay)
def Q13 (p0:GDay):AV:=.agg [(I p0.Tank),(I p0.Start),(Qft p0)]
def Qij:AV:=.dat 1 (([]:List Int).map Qaa)
def Qib (p0:GDay):Slot:=.own 1 ((List.replicate (p0.Hours.length:Int).toNat 0:List Int).map Qaa)
def Qki (p0:GDay):Slot:=.own 3 [[(I p0.Tank),(I p0.Start),(Qft p0)]]
def Qo6 (p0:GDay) (y15:(Nat→Int)):Slot:=.own 53 [((I p0.Tank)::(I p0.Start)::(Qft p0)::(.own 2 1 (0) ((p0.Hours.length:Int).toNat))::(.own 3 1 (0) ((p0.Hours.length:Int).toNat))::(arrF 24 (fun _=>0)++arrF 24 y15))]
def Qtg (p0:GDay) (y17 y18:(Nat→Int)):Slot:=.own 53 [((I p0.Tank)::(I p0.Start)::(Qft p0)::(.own 2 1 (0) ((p0.Hours.length:Int).toNat))::(.own 3 1 (0) ((p0.Hours.length:Int).toNat))::(arrF 24 y17++arrF 24 y18))]
def Qii (p0:GDay) (y17 y18:(Nat→Int)):Slot:=.own 53 [((I p0.Tank)::(I p0.Start)::(Qft p0)::(.own 1 1 (0) ((p0.Hours.length:Int).toNat))::(.own 2 1 (0) ((p0.Hours.length:Int).toNat))::(arrF 24 y17++arrF 24 y18))]
def Qjh (y19:List Int) (p0:GDay):AV:=.dat 1 ((y19.take ((p0.Hours.length:Int).toNat):List Int).map Qaa)
def Qm1 (x27:List Int) (p0:GDay):AV:=.dat 1 ((x27.take ((p0.Hours.length:Int).toNat):List Int).map Qaa)
def Qxs (p0:GDay):Slot:=.own 1 (((List.replicate (p0.Hours.length:Int).toNat 0):List Int).map Qaa)
def Qo5 (p0:GDay) (y47 y48:(Nat→Int)):Slot:=.own 53 [((I p0.Tank)::(I p0.Start)::(Qft p0)::(.own 2 1 (0) ((p0.Hours.length:Int).toNat))::(.own 3 1 (0) ((p0.Hours.length:Int).toNat))::(arrF 24 y47++arrF 24 y48))]
def Qo4 (p0:GDay) (x66:((Nat→Int)×(Nat→Int)×(List Int)×(List Int))):Slot:=.own 53 [((I p0.Tank)::(I p0.Start)::(Qft p0)::(.own 2 1 (0) (((p0.Hours.length:Int).toNat)))::(.own 3 1 (0) (((p0.Hours.length:Int).toNat)))::(arrF 24 x66.1++arrF 24 x66.2.1))]
def Qkh (p0:GDay) (y76:(Nat→Int)):Slot:=.own 53 [((I p0.Tank)::(I p0.Start)::(Qft p0)::(.own 2 1 (0) ((p0.Hours.length:Int).toNat))::(.own 3 1 (0) ((p0.Hours.length:Int).toNat))::(arrF 24 (fun _=>0)++arrF 24 y76))]
def Qtf (p0:GDay) (y76:(Nat→Int)) (y75:Int) (x86:Qbc):Slot:=.own 53 [((I p0.Tank)::(I p0.Start)::(Qft p0)::(.own 2 1 (0) ((p0.Hours.length:Int).toNat))::(.own 3 1 (0) ((p0.Hours.length:Int).toNat))::(arrF 24 (fun _=>0)++arrF 24 (setF y76 y75.toNat x86.Amount)))]
theorem Qhp (N:Nat) (p0:GDay) (r:((List Int)×(List Int)×Int×Int)) (h:Qf7 N p0=some r):Spec prog 20 [(.agg (Qiv p0))] [] (.tup [(.dat 1 (r.1.map Qaa)),(.dat 1 (r.2.1.map Qaa)),(I r.2.2.1),(I r.2.2.2)]) []:=by
  refine sF func20 0 fun _ _ _ hq hd0=>?_
  unfold Qf7 at h
  refine wxz<|wsq ?_
  obtain⟨x8,hf7,h⟩:=bno h
  refine wx tbk [(1,rp _ _)] ⟨apw Qlw (Qd8 N p0 _ hf7),tv⟩ ?_
  refine bfe h (fun hc9 h=>?_) fun hc9 h=>?_
  ·refine wft hc9<|wxz ?_
   refine wmr (mto (n:=121) (l':=[(2,Qij),(3,Qij),(4,I 0),(5,I 1)]) (own':=[]) [(2,nilS),(3,nilS),(4,I 0),(5,I 1)] [] [] hq (pc (.nil _) (pc (.nil _) (pw (pw pn)))) qn)<|Qac<|Qah ?_
   obtain rfl:=osi h
   exact⟨_,Mor.rfl,fio [Qij,Qij,I 0,I 1] ⟨rot,rot,rot,rot,tv⟩⟩
  ·refine wfn hc9<|Qaf<|thn<|wsq ?_
   obtain⟨x11,hf10,h⟩:=bno h
   refine wx tbk [(1,rp _ _)] ⟨apw Qun (Qhf N p0 _ hf10),tv⟩<|wxz ?_
   refine bfe h (fun hc12 h=>?_) fun hc12 h=>?_
   ·refine wft hc12<|wxz ?_
    refine wmr (mto (n:=121) (l':=[(2,Qij),(3,Qij),(4,I 0),(5,I 7)]) (own':=[]) [(2,nilS),(3,nilS),(4,I 0),(5,I 7)] [] [] hq (pc (.nil _) (pc (.nil _) (pw (pw pn)))) qn)<|Qac<|Qah ?_
    obtain rfl:=osi h
    exact⟨_,Mor.rfl,fio [Qij,Qij,I 0,I 7] ⟨rot,rot,rot,rot,tv⟩⟩
   ·refine wfn hc12<|Qaf<|thn ?_
    obtain⟨hm13,h⟩:=cko h
    obtain⟨hm14,h⟩:=cko h
    refine wxd tbk [(3,rp _ _),(4,⟨[(.tmp 29,(I ((p0.Hours.length:Int)))),(.tmp 29,(I ((p0.Hours.length:Int))))],[(1,.unused)],(.own 1 1 (0) ((p0.Hours.length:Int).toNat)),[(1,(Qib p0))],false⟩),(7,rp _ _),(8,⟨[(.tmp 33,(I ((p0.Hours.length:Int)))),(.tmp 33,(I ((p0.Hours.length:Int))))],[(2,.unused)],(.own 2 1 (0) ((p0.Hours.length:Int).toNat)),[(2,(Qib p0))],false⟩),(9,rp _ _)] ⟨alq 2 Qay p0.Hours underlying55,Qf5 rfl underlying25 te3 tz3 rfl (Qp4 hm13) rfl (Qp3 hm13) (Qma hm13) (Qjo Qaa rfl),alq 2 Qay p0.Hours underlying55,Qf5 rfl underlying25 te3 tz3 rfl (Qp4 hm14) rfl (Qp3 hm14) (Qma hm14) (Qjo Qaa rfl),Qak (vs:=[(Q13 p0),(.own 1 1 (0) ((p0.Hours.length:Int).toNat)),(.own 2 1 (0) ((p0.Hours.length:Int).toNat))]) rfl Q19 Q1g rfl (by rfl) rfl,tv⟩ ?_
    obtain⟨k16,hk_k16,h⟩:=jko h
    refine wjn (τ:=(Nat→Int)) (fun t=>k16 t=some r) (fun y15=>⟨mk 121 [(1,.ref 0 3 0 0),(4,I 0),(8,.ref 1 53 0 0)],[(Qki p0),(Qo6 p0 y15),(Qib p0),(Qib p0)]⟩) (fun y15 h=>?_) ?_
    ·subst hk_k16
     refine wxz ?_
     obtain⟨k21,hk_k21,h⟩:=jko h
     refine wjn (τ:=(Nat→Int)×(Nat→Int)×(List Int)×(List Int)) (fun t=>k21 t=some r) (fun ⟨y17,y18,y19,y20⟩=>⟨mk 121 [(1,.ref 0 3 0 0),(4,I 0),(8,.ref 1 53 0 0)],[(Qki p0),(Qtg p0 y17 y18),(.own 1 (y19.map Qaa)),(.own 1 (y20.map Qaa))]⟩) (fun t h=>?_) ?_
     ·subst hk_k21
      obtain⟨y17,y18,y19,y20⟩:=t
      obtain⟨k23,hk_k23,h⟩:=jko h
      refine wjn (τ:=Int) (fun t=>k23 t=some r) (fun y22=>⟨mk 121 [(4,I y22),(8,.ref 0 53 0 0)],[(Qii p0 y17 y18),(.own 1 (y19.map Qaa)),(.own 1 (y20.map Qaa))]⟩) (fun y22 h=>?_) ?_
      ·subst hk_k23
       obtain⟨hz24,h⟩:=cko h
       obtain⟨hz25,h⟩:=cko h
       obtain⟨x27,hf26,h⟩:=bno h
       refine wxd tbk [(1,rb [(.tmp 114,.ref 0 53 0 0)] [(0,(Qii p0 y17 y18))] (.ref 0 53 0 0)),(5,⟨[fu 59,(.tmp 118,.ref 0 53 0 0)],[(0,(Qii p0 y17 y18)),(1,(.own 1 (y19.map Qaa))),(2,(.own 1 (y20.map Qaa))),(3,.unused)],(.own 3 1 (0) ((p0.Hours.length:Int).toNat)),[(3,(.own 1 (x27.map Qaa)))],false⟩)] ⟨Qb5 rfl,Qgs (rd':=[fu 59,(.tmp 118,(.dptr ((I p0.Tank)::(I p0.Start)::(Qft p0)::(Qjh y19 p0)::(.dat 1 ((y20.take ((p0.Hours.length:Int).toNat):List Int).map Qaa))::(arrF 24 y17++arrF 24 y18)) 0))]) [(0,53,[((I p0.Tank)::(I p0.Start)::(Qft p0)::(.own 1 1 (0) ((p0.Hours.length:Int).toNat))::(.own 2 1 (0) ((p0.Hours.length:Int).toNat))::(arrF 24 y17++arrF 24 y18))]),(1,1,y19.map Qaa),(2,1,y20.map Qaa)] ⟨rfl,.same _,rfl,(Q1q 0 rfl (lc (.same _) (lc (.same _) (lc (.same _) (lc (Qpq 1 rfl hz24) (lc (Qpq 2 rfl hz25) (Qb7 (Qaq fun _=>(.same _)) (Qaq fun _=>(.same _))))))))),tv⟩ (by rfl) (.own _ _ _ _ (nin rfl)) (Qqn (.own _ _ (Qmn Qt4 _)) Qnb) (acq [(.dptr ((I p0.Tank)::(I p0.Start)::(Qft p0)::(.dat 1 (((y19.take ((p0.Hours.length:Int).toNat)):List Int).map Qaa))::(.dat 1 (((y20.take ((p0.Hours.length:Int).toNat)):List Int).map Qaa))::(arrF 24 y17++arrF 24 y18)) 0)] [] [(.own 1 (x27.map Qaa))] (.own 3 1 (0) ((p0.Hours.length:Int).toNat)) [3] Qzg (Qic N p0.Tank p0.Start p0.Hours (y19.take ((p0.Hours.length:Int).toNat)) (y20.take ((p0.Hours.length:Int).toNat)) y17 y18 _ hf26) (Qb9 (rnc (.plain _ (NLt.dptr _ _ (nlcc (nlc (nld Qag _) (nlc (nld Qab _) (nlc (nld Qab _) (Qdq Qdx Qdx))))))) rn0)) Qam (slc (Qbo Qab) Qam) (Qe6 rfl)),tv⟩ ?_
       obtain⟨hz28,h⟩:=cko h
       refine wmr (Qls (n:=121) (l':=[(2,(Qjh y19 p0)),(3,(.own 3 1 (0) ((p0.Hours.length:Int).toNat))),(4,I y22),(5,I 0)]) 1 [(2,(.own 1 1 (0) ((p0.Hours.length:Int).toNat))),(3,(.own 3 1 (0) ((p0.Hours.length:Int).toNat))),(4,I y22),(5,I 0)] (by kernel_rfl) (by kernel_rfl) (by kernel_rfl) ⟨rfl,(Qjt hz28),rfl,(.same _),rfl,(.same _),rfl,(.same _),tv⟩ rfl) ?_
       obtain⟨hz29,h⟩:=cko h
       refine wmr (Qls (n:=121) (l':=[(2,(Qjh y19 p0)),(3,(Qm1 x27 p0)),(4,I y22),(5,I 0)]) 3 [(2,(Qjh y19 p0)),(3,(.own 3 1 (0) ((p0.Hours.length:Int).toNat))),(4,I y22),(5,I 0)] (by kernel_rfl) (by kernel_rfl) (by kernel_rfl) ⟨rfl,(.same _),rfl,(Qjt hz29),rfl,(.same _),rfl,(.same _),tv⟩ rfl) ?_
       refine wmr (mto (n:=121) (l':=[(2,(Qjh y19 p0)),(3,(Qm1 x27 p0)),(4,I y22),(5,I 0)]) (own':=[]) [(2,(Qjh y19 p0)),(3,(Qm1 x27 p0)),(4,I y22),(5,I 0)] [] [] hq (pc (rnd Qab) (pc (rnd Qab) (pw (pw pn)))) qn)<|Qac ?_
       obtain rfl:=osi h
       exact⟨_,Mor.rfl,fio [(Qjh y19 p0),(Qm1 x27 p0),I y22,I 0] ⟨rot,rot,rot,rot,tv⟩⟩
      ·skip
       refine wx tbk [(2,rp _ _)] ⟨alq 2 Qay p0.Hours underlying55,tv⟩<|Qai ?_
       refine wmr (mto (n:=121) (l':=[(4,I 0),(8,.ref 0 53 0 0),(95,(Qft p0)),(96,(I ((p0.Hours.length:Int)))),(97,I 0)]) (own':=[(Qii p0 y17 y18),(.own 1 (y19.map Qaa)),(.own 1 (y20.map Qaa))]) [(4,I 0),(8,.ref 1 53 0 0),(95,(Qft p0)),(96,(I ((p0.Hours.length:Int)))),(97,I 0)] [1,2,3] [(Qtg p0 y17 y18),(.own 1 (y19.map Qaa)),(.own 1 (y20.map Qaa))] hq (pw (prr (pc (rnd Qag) (pw (pw pn))))) (qb (lcc (lc (rnd Qag) (lc (.rn (Qae rfl)) (lc (.rn (Qae rfl)) (Qb7 (Qaq fun _=>rwl) (Qaq fun _=>rwl)))))) (qc (spr Qab) (qc (spr Qab) qn)))) ?_
       refine Qb0 (τ:=Int×Int) (fun n t=>Qdl N p0 y19 k23 n t.1 t.2=some r) (fun ⟨y30,y31⟩=>⟨mk 121 [(4,I y30),(8,.ref 0 53 0 0),(95,(Qft p0)),(96,(I ((p0.Hours.length:Int)))),(97,I y31)],[(Qii p0 y17 y18),(.own 1 (y19.map Qaa)),(.own 1 (y20.map Qaa))]⟩) (fun t h=>by rw[Qdl] at h;cases h) (fun n34 ih t h=>?_) N (0,0) h
       obtain⟨y30,y31⟩:=t
       rw[Qdl] at h
       skip
       refine wxz<|wsq ?_
       refine bfe h (fun hc35 h=>?_) fun hc35 h=>?_
       ·refine wft hc35<|Qaf<|thn<|wsq<|Qai ?_
        obtain⟨x36,hg37,h⟩:=bno h
        obtain⟨hi38,hj39⟩:=gsm hg37
        refine wx tbk [(1,rp _ _)] ⟨aiq underlying55 ti62 Qay hi38 hj39,tv⟩ ?_
        obtain⟨hi40,h⟩:=cko h
        obtain⟨hi40a,hi40b⟩:=Qat hi40
        obtain⟨x41,hg42,h⟩:=bno h
        obtain⟨x44,hf43,h⟩:=bno h
        refine wy1 tbk [(3,rb [(.tmp 104,.ref 0 53 0 0)] [(0,(Qii p0 y17 y18))] (.ref 0 53 0 0)),(7,rb [(.tmp 107,(.own 1 1 (0) ((p0.Hours.length:Int).toNat))),(.tmp 108,I y31)] [(1,(.own 1 (y19.map Qaa)))] (.ref 1 1 y31.toNat 0)),(8,rb [(.tmp 109,(.ref 1 1 y31.toNat 0))] [(1,(.own 1 (y19.map Qaa)))] (I x41)),(9,rp _ _)] ⟨Qb5 rfl,aio rfl underlying25 ti3 (odt hi40a) (odt hi40b) (Nat.zero_add _),ald rfl ti3 (by decide) (mgt Qaa hg42) (nle rfl) rfl,apw Qum (Qhe N x36 x41 _ hf43),tv⟩<|bln<|thn<|wxz1<|thn ?_
        exact arm (mto (n:=121) [(4,(I (w64 (y30+x44)))),(8,.ref 0 53 0 0),(95,(Qft p0)),(96,(I ((p0.Hours.length:Int)))),(97,(I (w64 (y31+1))))] [0,1,2] [(Qii p0 y17 y18),(.own 1 (y19.map Qaa)),(.own 1 (y20.map Qaa))] hq (pw (prr (pc (rnd Qag) (pw (pw pn))))) (qb (lcc (lc (rnd Qag) (lc (.rn (Qae rfl)) (lc (.rn (Qae rfl)) (Qb7 (Qaq fun _=>rwl) (Qaq fun _=>rwl)))))) (qc (spr Qab) (qc (spr Qab) qn)))) (ih (w64 (y30+x44),w64 (y31+1)) h)
       ·exact wfn hc35<|Qax<|Qan<|Qan<|Qaw rfl<|thn<|⟨(y30),h,(mto (n:=121) [(4,I y30),(8,.ref 0 53 0 0)] [0,1,2] [(Qii p0 y17 y18),(.own 1 (y19.map Qaa)),(.own 1 (y20.map Qaa))] hq (pw (prr pn)) (qb (lcc (lc (rnd Qag) (lc (.rn (Qae rfl)) (lc (.rn (Qae rfl)) (Qb7 (Qaq fun _=>rwl) (Qaq fun _=>rwl)))))) (qc (spr Qab) (qc (spr Qab) qn))))⟩
     ·skip
      refine wx tbk [(2,rp _ _)] ⟨alq 2 Qay p0.Hours underlying55,tv⟩<|Qai ?_
      refine wmr (mto (n:=121) (l':=[(1,.ref 0 3 0 0),(4,I 0),(8,.ref 1 53 0 0),(11,I p0.Start),(63,(Qft p0)),(64,(I ((p0.Hours.length:Int)))),(65,I 0)]) (own':=[(Qki p0),(Qo6 p0 y15),(Qxs p0),(Qxs p0)]) [(1,.ref 0 3 0 0),(4,I 0),(8,.ref 1 53 0 0),(11,I p0.Start),(63,(Qft p0)),(64,(I ((p0.Hours.length:Int)))),(65,I 0)] [0,1,2,3] [(Qki p0),(Qo6 p0 y15),(Qib p0),(Qib p0)] hq (prr (pw (prr (pw (pc (rnd Qag) (pw (pw pn))))))) (qb (lcc (lc (rnd Qag) ln)) (qb (lcc (lc (rnd Qag) (lc (.rn (Qae rfl)) (lc (.rn (Qae rfl)) (Qb7 (Qaq fun _=>rwl) (Qaq fun _=>rwl)))))) (qc (spr Qab) (qc (spr Qab) qn))))) ?_
      refine Qb0 (τ:=Int×Int×(Nat→Int)×(Nat→Int)×(List Int)×(List Int)) (fun n t=>Qdk N p0 k21 n t.1 t.2.1 t.2.2.1 t.2.2.2.1 t.2.2.2.2.1 t.2.2.2.2.2=some r) (fun ⟨y45,y46,y47,y48,y49,y50⟩=>⟨mk 121 [(1,.ref 0 3 0 0),(4,I 0),(8,.ref 1 53 0 0),(11,I y45),(63,(Qft p0)),(64,(I ((p0.Hours.length:Int)))),(65,I y46)],[(Qki p0),(Qo5 p0 y47 y48),(.own 1 (y49.map Qaa)),(.own 1 (y50.map Qaa))]⟩) (fun t h=>by rw[Qdk] at h;cases h) (fun n57 ih t h=>?_) N (p0.Start,0,fun _=>0,y15,List.replicate (p0.Hours.length:Int).toNat 0,List.replicate (p0.Hours.length:Int).toNat 0) h
      obtain⟨y45,y46,y47,y48,y49,y50⟩:=t
      rw[Qdk] at h
      skip
      refine wxz<|wsq ?_
      refine bfe h (fun hc58 h=>?_) fun hc58 h=>?_
      ·refine wft hc58<|Qaf<|thn<|wsq<|Qai ?_
       obtain⟨x59,hg60,h⟩:=bno h
       obtain⟨hi61,hj62⟩:=gsm hg60
       refine wx tbk [(1,rp _ _)] ⟨aiq underlying55 ti62 Qay hi61 hj62,tv⟩ ?_
       obtain⟨x63,hl64,h⟩:=bno h
       obtain⟨x66,hf65,h⟩:=bno h
       refine wx tbk [(6,rp [ci 0,(.tmp 75,(I (w64 (x59.Use-y45))))] (I x63)),(7,⟨_,_,_,_,false⟩)] ⟨Qdp hl64 (Qg8 rfl),acq [.ref 1 53 0 0,I y46,I x63] [(Qo5 p0 y47 y48),(.own 1 (y49.map Qaa)),(.own 1 (y50.map Qaa))] [(Qo4 p0 x66),(.own 1 (x66.2.2.1.map Qaa)),(.own 1 (x66.2.2.2.map Qaa))] (.tup []) [1,2,3] Qzh (Qi5 N y46 x63 p0.Tank p0.Start p0.Hours ((p0.Hours.length:Int).toNat) ((p0.Hours.length:Int).toNat) y47 y48 y49 y50 _ hf65) (Qb9 (rnc (Qbg rfl) (rncc rn0))) (slc (Qaj (rncc (rnc (pld Qag) (rnc (Qea rfl) (rnc (Qea rfl) (Qb7 (Qaq fun _=>(.plain _ nll)) (Qaq fun _=>(.plain _ nll)))))))) (slc (Qbo Qab) (slc (Qbo Qab) Qam))) (slc (Qaj (rncc (rnc (pld Qag) (rnc (Qe6 rfl) (rnc (Qe6 rfl) (Qb7 (Qaq fun _=>(.plain _ nll)) (Qaq fun _=>(.plain _ nll)))))))) (slc (Qbo Qab) (slc (Qbo Qab) Qam))) (.plain _ (NLt.tup _ nl0)),tv⟩ ?_
       obtain⟨x67,hl68,h⟩:=bno h
       refine wx tbk [(4,rp [ci 0,(.tmp 81,(I (w64 (y45-x59.Use))))] (I x67))] ⟨Qdp hl68 (Qg8 rfl),tv⟩ ?_
       obtain⟨hi69,h⟩:=cko h
       obtain⟨hi69a,hi69b⟩:=Qat hi69
       obtain⟨x70,hg71,h⟩:=bno h
       obtain⟨hi72,h⟩:=cko h
       obtain⟨hi72a,hi72b⟩:=Qat hi72
       obtain⟨x73,hg74,h⟩:=bno h
       refine wx1 tbk [(1,rb [(.tmp 83,.ref 1 53 0 0)] [(1,(Qo4 p0 x66))] (.ref 1 53 0 0)),(5,rb [(.tmp 86,(.own 3 1 (0) (((p0.Hours.length:Int).toNat)))),(.tmp 87,I y46)] [(3,(.own 1 (x66.2.2.2.map Qaa)))] (.ref 3 1 y46.toNat 0)),(6,rb [(.tmp 88,(.ref 3 1 y46.toNat 0))] [(3,(.own 1 (x66.2.2.2.map Qaa)))] (I x70)),(9,rb [(.tmp 86,(.own 3 1 (0) (((p0.Hours.length:Int).toNat)))),(.tmp 87,I y46)] [(3,(.own 1 (x66.2.2.2.map Qaa)))] (.ref 3 1 y46.toNat 0)),(10,⟨[(.tmp 92,(.ref 3 1 y46.toNat 0)),(.tmp 91,(I (w64 (x70+x67))))],[(3,(.own 1 (x66.2.2.2.map Qaa)))],.any,[(3,(.own 1 ((x66.2.2.2.set y46.toNat (w64 (x70+x67)):List Int).map Qaa)))],false⟩)] ⟨Qb5 rfl,aio rfl underlying25 ti3 (odt hi69a) (odt hi69b) (Nat.zero_add _),ald rfl ti3 (by decide) (mgt Qaa hg71) (nle rfl) rfl,aio rfl underlying25 ti3 (odt hi72a) (odt hi72b) (Nat.zero_add _),ast rfl ti3 (by rfl) (mgt Qaa hg74) (nle rfl) (Qd2 Qaa rfl),tv⟩<|bln<|thn<|wxz1<|thn ?_
       exact arm (mto (n:=121) [(1,.ref 0 3 0 0),(4,I 0),(8,.ref 1 53 0 0),(11,I x67),(63,(Qft p0)),(64,(I ((p0.Hours.length:Int)))),(65,(I (w64 (y46+1))))] [0,1,2,3] [(Qki p0),(Qo4 p0 x66),(.own 1 (x66.2.2.1.map Qaa)),(.own 1 ((x66.2.2.2.set y46.toNat (w64 (x70+x67)):List Int).map Qaa))] hq (prr (pw (prr (pw (pc (rnd Qag) (pw (pw pn))))))) (qb (lcc (lc (rnd Qag) ln)) (qb (lcc (lc (rnd Qag) (lc (.rn (Qae rfl)) (lc (.rn (Qae rfl)) (Qb7 (Qaq fun _=>rwl) (Qaq fun _=>rwl)))))) (qc (spr Qab) (qc (spr Qab) qn))))) (ih (x67,w64 (y46+1),x66.1,x66.2.1,x66.2.2.1,x66.2.2.2.set y46.toNat (w64 (x70+x67))) h)
      ·exact wfn hc58<|Qax<|Qan<|Qan<|Qaw rfl<|thn<|⟨(y47,y48,y49,y50),h,(mto (n:=121) [(1,.ref 0 3 0 0),(4,I 0),(8,.ref 1 53 0 0)] [0,1,2,3] [(Qki p0),(Qo5 p0 y47 y48),(.own 1 (y49.map Qaa)),(.own 1 (y50.map Qaa))] hq (prr (pw (prr pn))) (qb (lcc (lc (rnd Qag) ln)) (qb (lcc (lc (rnd Qag) (lc (.rn (Qae rfl)) (lc (.rn (Qae rfl)) (Qb7 (Qaq fun _=>rwl) (Qaq fun _=>rwl)))))) (qc (spr Qab) (qc (spr Qab) qn)))))⟩
    ·skip
     refine wx tbk [(2,rp _ _)] ⟨alq 2 Qay p0.Hours underlying55,tv⟩<|Qai ?_
     refine wmr (mto (n:=121) (l':=[(1,.ref 0 3 0 0),(4,I 0),(8,.ref 1 53 0 0),(38,(Qft p0)),(39,(I ((p0.Hours.length:Int)))),(40,I 0)]) (own':=[(Qki p0),(.own 53 [((I p0.Tank)::(I p0.Start)::(Qft p0)::(.own 2 1 (0) ((p0.Hours.length:Int).toNat))::(.own 3 1 (0) ((p0.Hours.length:Int).toNat))::(arrF 24 (fun _=>0)++arrF 24 (fun _=>0)))]),(Qib p0),(Qib p0)]) [(1,.ref 0 3 0 0),(4,I 0),(8,.ref 3 53 0 0),(38,(Qft p0)),(39,(I ((p0.Hours.length:Int)))),(40,I 0)] [0,3,1,2] [(Qki p0),(.own 53 [((I p0.Tank)::(I p0.Start)::(Qft p0)::(.own 1 1 (0) ((p0.Hours.length:Int).toNat))::(.own 2 1 (0) ((p0.Hours.length:Int).toNat))::(arrF 24 (fun _=>0)++arrF 24 (fun _=>0)))]),(Qib p0),(Qib p0)] hq (prr (pw (prr (pc (rnd Qag) (pw (pw pn)))))) (qb (lcc (lc (rnd Qag) ln)) (qb (lcc (lc (rnd Qag) (lc (.rn (Qae rfl)) (lc (.rn (Qae rfl)) (Qb7 (Qaq fun _=>rwl) (Qaq fun _=>rwl)))))) (qc (spr Qab) (qc (spr Qab) qn))))) ?_
     refine Qb0 (τ:=Int×(Nat→Int)) (fun n t=>Qc8 N p0 k16 n t.1 t.2=some r) (fun ⟨y75,y76⟩=>⟨mk 121 [(1,.ref 0 3 0 0),(4,I 0),(8,.ref 1 53 0 0),(38,(Qft p0)),(39,(I ((p0.Hours.length:Int)))),(40,I y75)],[(Qki p0),(Qkh p0 y76),(Qib p0),(Qib p0)]⟩) (fun t h=>by rw[Qc8] at h;cases h) (fun n79 ih t h=>?_) N (0,fun _=>0) h
     obtain⟨y75,y76⟩:=t
     rw[Qc8] at h
     skip
     refine wxz<|wsq ?_
     refine bfe h (fun hc80 h=>?_) fun hc80 h=>?_
     ·refine wft hc80<|Qaf<|thn<|wsq<|Qai ?_
      obtain⟨x81,hg82,h⟩:=bno h
      obtain⟨hi83,hj84⟩:=gsm hg82
      refine wx tbk [(1,rp _ _)] ⟨aiq underlying55 ti62 Qay hi83 hj84,tv⟩ ?_
      refine wx tbk [(2,rp _ _)] ⟨alq 2 Qbl x81.Stairs underlying60,tv⟩ ?_
      refine bfe h (fun hc85 h=>?_) fun hc85 h=>?_
      ·refine wft hc85 ?_
       obtain⟨x86,hg87,h⟩:=bno h
       obtain⟨hi88,hj89⟩:=gsm hg87
       obtain⟨hi90,h⟩:=cko h
       obtain⟨hi90a,hi90b⟩:=Qat hi90
       refine wy1 tbk [(4,rp _ _),(7,rb [(.tmp 49,.ref 1 53 0 0)] [(1,(Qkh p0 y76))] (.ref 1 53 0 0)),(9,rb [(.tmp 57,.ref 1 53 0 29),(.tmp 50,I y75)] [(1,(Qkh p0 y76))] (.ref 1 53 0 (29+y75.toNat*1))),(10,⟨[(.tmp 58,(.ref 1 53 0 (29+y75.toNat*1))),(.tmp 55,I x86.Amount)],[(1,(Qkh p0 y76))],.any,[(1,(Qtf p0 y76 y75 x86))],false⟩)] ⟨aiq underlying60 ti64 Qbl hi88 hj89,Qb5 rfl,Qd4 rfl underlying132 ti3 (odt hi90a) (odt hi90b) rfl,ast rfl ti3 (by rfl) rfl (Qia (n:=24) (odt hi90b) (nle rfl)) (Qqm (pre:=((I p0.Tank)::(I p0.Start)::(Qft p0)::(.own 2 1 (0) ((p0.Hours.length:Int).toNat))::(.own 3 1 (0) ((p0.Hours.length:Int).toNat))::arrF 24 (fun _=>0))) (post:=[]) (n:=24) (f:=y76) (by kernel_rfl) rfl (by kernel_rfl) (odt hi90b)),tv⟩<|bln<|thn<|wxz1<|thn ?_
       exact arm (mto (n:=121) [(1,.ref 0 3 0 0),(4,I 0),(8,.ref 1 53 0 0),(38,(Qft p0)),(39,(I ((p0.Hours.length:Int)))),(40,(I (w64 (y75+1))))] [0,1,2,3] [(Qki p0),(Qtf p0 y76 y75 x86),(Qib p0),(Qib p0)] hq (prr (pw (prr (pc (rnd Qag) (pw (pw pn)))))) (qb (lcc (lc (rnd Qag) ln)) (qb (lcc (lc (rnd Qag) (lc (.rn (Qae rfl)) (lc (.rn (Qae rfl)) (Qb7 (Qaq fun _=>rwl) (Qaq fun _=>rwl)))))) (qc (spr Qab) (qc (spr Qab) qn))))) (ih (w64 (y75+1),setF y76 y75.toNat x86.Amount) h)
      ·exact wfn hc85<|Qaf<|bln<|thn<|wxz1<|thn<|arm (mto (n:=121) [(1,.ref 0 3 0 0),(4,I 0),(8,.ref 1 53 0 0),(38,(Qft p0)),(39,(I ((p0.Hours.length:Int)))),(40,(I (w64 (y75+1))))] [0,1,2,3] [(Qki p0),(Qkh p0 y76),(Qib p0),(Qib p0)] hq (prr (pw (prr (pc (rnd Qag) (pw (pw pn)))))) (qb (lcc (lc (rnd Qag) ln)) (qb (lcc (lc (rnd Qag) (lc (.rn (Qae rfl)) (lc (.rn (Qae rfl)) (Qb7 (Qaq fun _=>rwl) (Qaq fun _=>rwl)))))) (qc (spr Qab) (qc (spr Qab) qn))))) (ih (w64 (y75+1),y76) h)
     ·exact wfn hc80<|Qax<|Qan<|Qan<|Qaw rfl<|thn<|⟨(y76),h,(mto (n:=121) [(1,.ref 0 3 0 0),(4,I 0),(8,.ref 1 53 0 0)] [0,1,2,3] [(Qki p0),(Qkh p0 y76),(Qib p0),(Qib p0)] hq (prr (pw (prr pn))) (qb (lcc (lc (rnd Qag) ln)) (qb (lcc (lc (rnd Qag) (lc (.rn (Qae rfl)) (lc (.rn (Qae rfl)) (Qb7 (Qaq fun _=>rwl) (Qaq fun _=>rwl)))))) (qc (spr Qab) (qc (spr Qab) qn)))))⟩
def Qdc (N:Nat) (p0:GDay) (p1:List Int) (k3:(List Int)→Option ((List Int)×Bool)):Nat→(List Int)→Int→Int→Option ((List Int)×Bool)
  |0,_,_,_=>none
  |n10+1,y4,y5,y6=>
    bif (decide (y6<(p0.Hours.length:Int))) then
     (getI p0.Hours y6).bind fun x12=>
     (getI p1 y6).bind fun x16=>
     (Qe8 N x12).bind fun x21=>
     (Qa0 N x16 0 x21).bind fun x23=>
     bif (!x23) then
      some ([],false)
     else
      (some (w64 (y5+(w64 (x16-x12.Use))))).bind fun x25=>
      (Qa0 N x25 0 p0.Tank).bind fun x28=>
      bif (!x28) then
       some ([],false)
      else
       chk (decide ((y4.length+([x25]).length)*8≤140737488355328))<|
       Qdc N p0 p1 k3 n10 (y4++([x25])) x25 (w64 (y6+1))
    else
     k3 (y4)
def Qe9 (N:Nat) (p0:GDay) (p1:List Int):Option ((List Int)×Bool):=
  bif ((p1.length:Int) != (p0.Hours.length:Int)) then
   some ([],false)
  else
   Qcx (fun y2=>
     some (y2,true)) fun k3:(List Int)→Option ((List Int)×Bool)=>
   Qdc N p0 p1 k3 N ([]) p0.Start 0
def Qtb (p0:GDay):AV:=.dat 2 (p0.Hours.map Qay)
def Qta:AV:=.dat 1 (([]:List Int).map Qaa)
def Qvu (p0:GDay):Slot:=.own 3 [[(I p0.Tank),(I p0.Start),(Qtb p0)]]
theorem Qg4 (N:Nat) (p0:GDay) (p1:List Int) (r:((List Int)×Bool)) (h:Qe9 N p0 p1=some r):Spec prog 72 [(.agg (Qiv p0)),(.dat 1 (p1.map Qaa))] [] (.tup [(.dat 1 (r.1.map Qaa)),(B r.2)]) []:=by
  refine sA func72 0 fun _ _ _ hq hd0=>?_
  unfold Qe9 at h
  refine wxz<|wsq ?_
  refine wx tbk [(1,rp _ _),(4,rp _ _)] ⟨alq 1 Qaa p1 underlying25,alq 2 Qay p0.Hours underlying55,tv⟩ ?_
  refine bfe h (fun hc1 h=>?_) fun hc1 h=>?_
  ·refine wft hc1<|wxz<|Qac<|Qah ?_
   obtain rfl:=osi h
   exact fie [Qta,B false] ⟨Qgt (v:=nilS) rot Less.nil,rot,tv⟩
  ·refine wfn hc1<|Qaf<|thn<|wxz<|wxz ?_
   obtain⟨k3,hk_k3,h⟩:=jko h
   refine wjn (τ:=(List Int)) (fun t=>k3 t=some r) (fun y2=>⟨mk 54 [(6,(.acc 0 3 1 (y2.map Qaa)))],[.tok]⟩) (fun y2 h=>?_) ?_
   ·subst hk_k3
    refine wxz<|Qac ?_
    obtain rfl:=osi h
    exact fie [(.dat 1 (y2.map Qaa)),B true] ⟨Qgt (v:=(.acc 0 3 1 (y2.map Qaa))) rot Less.acc,rot,tv⟩
   ·skip
    refine wx tbk [(2,rp _ _)] ⟨alq 2 Qay p0.Hours underlying55,tv⟩<|Qai ?_
    refine wmr (Mor.trans (Qy3 1 3 1 6 (by kernel_rfl) (by kernel_rfl)) (mto (n:=54) (l':=[(1,(.dat 1 (p1.map Qaa))),(2,.ref 0 3 0 0),(6,(.acc 1 3 1 ((([]):List Int).map Qaa))),(7,I p0.Start),(19,(Qtb p0)),(20,(I ((p0.Hours.length:Int)))),(21,I 0)]) (own':=[(Qvu p0),.tok]) [(1,(.dat 1 (p1.map Qaa))),(2,.ref 0 3 0 0),(6,(.acc 1 3 1 (([]:List Int).map Qaa))),(7,I p0.Start),(19,(Qtb p0)),(20,(I ((p0.Hours.length:Int)))),(21,I 0)] [0,1] [(Qvu p0),.tok] hq (pc (rnd Qab) (prr (pc (.rn (Qpf rfl (Qip Qab _))) (pw (pc (rnd Qag) (pw (pw pn))))))) (qb (lcc (lc (rnd Qag) ln)) (qc .tok qn)))) ?_
    refine Qb0 (τ:=(List Int)×Int×Int) (fun n t=>Qdc N p0 p1 k3 n t.1 t.2.1 t.2.2=some r) (fun ⟨y4,y5,y6⟩=>⟨mk 54 [(1,(.dat 1 (p1.map Qaa))),(2,.ref 0 3 0 0),(6,(.acc 1 3 1 (y4.map Qaa))),(7,I y5),(19,(Qtb p0)),(20,(I ((p0.Hours.length:Int)))),(21,I y6)],[(Qvu p0),.tok]⟩) (fun t h=>by rw[Qdc] at h;cases h) (fun n10 ih t h=>?_) N ([],p0.Start,0) h
    obtain⟨y4,y5,y6⟩:=t
    rw[Qdc] at h
    skip
    refine wxz<|wsq ?_
    refine bfe h (fun hc11 h=>?_) fun hc11 h=>?_
    ·refine wft hc11<|Qaf<|thn<|wsq<|Qai ?_
     obtain⟨x12,hg13,h⟩:=bno h
     obtain⟨hi14,hj15⟩:=gsm hg13
     refine wx tbk [(1,rp _ _)] ⟨aiq underlying55 ti62 Qay hi14 hj15,tv⟩<|wsq ?_
     obtain⟨x16,hg17,h⟩:=bno h
     obtain⟨hi18,hj19⟩:=gsm hg17
     obtain⟨x21,hf20,h⟩:=bno h
     obtain⟨x23,hf22,h⟩:=bno h
     refine wxd tbk [(2,rp _ _),(5,rp _ _),(6,rp _ _)] ⟨aiq underlying25 ti3 Qaa hi18 hj19,apw Qud (Qg3 N x12 _ hf20),apw Qd3 (Qar N x16 0 x21 _ hf22),tv⟩ ?_
     refine bfe h (fun hc24 h=>?_) fun hc24 h=>?_
     ·refine wft hc24<|wxz<|Qac<|Qah<|Qal<|Qah<|Qah<|Qal<|Qah ?_
      obtain rfl:=osi h
      exact fie [Qta,B false] ⟨Qgt (v:=nilS) rot Less.nil,rot,tv⟩
     ·refine wfn hc24<|Qaf<|thn ?_
      obtain⟨x25,hl26,h⟩:=bno h
      refine wxd tbk [(3,rp _ _),(9,rp [(.tmp 42,(I (w64 (y5+(w64 (x16-x12.Use))))))] (I x25))] ⟨aiq underlying25 ti3 Qaa hi18 hj19,Qdp hl26 (aas rfl),tv⟩<|wsq ?_
      obtain⟨x28,hf27,h⟩:=bno h
      refine wx tbk [(3,rp _ _)] ⟨apw Qd3 (Qar N x25 0 p0.Tank _ hf27),tv⟩ ?_
      refine bfe h (fun hc29 h=>?_) fun hc29 h=>?_
      ·refine wft hc29<|wxz<|Qac<|Qah<|Qal<|Qah<|Qah<|Qal<|Qah ?_
       obtain rfl:=osi h
       exact fie [Qta,B false] ⟨Qgt (v:=nilS) rot Less.nil,rot,tv⟩
      ·refine wfn hc29<|Qaf<|thn ?_
       obtain⟨ha30,h⟩:=cko h
       refine wx1 tbk [(2,rp [(.tmp 49,I x25)] (.dat 1 (([x25]:List Int).map Qaa))),(3,⟨[(.tmp 48,(.acc 1 3 1 (y4.map Qaa))),(.tmp 50,(.dat 1 (([x25]:List Int).map Qaa)))],[(1,.tok),(3,.unused)],(.acc 3 3 1 ((y4++([x25]):List Int).map Qaa)),[(1,.dead),(3,.tok)],false⟩)] ⟨Qa6 (vs:=[I x25]) rfl underlying25 ti3 tz3 rfl (by decide) rfl (by decide) (by rfl) (by rfl) (by rfl) rfl,Qva rfl underlying25 te3 (Base.acc _ _) rfl rfl (by rfl) (Qz0 Qaa ha30) (Qzz Qaa ha30 (by decide)) (Qzy Qaa) rfl rfl,tv⟩<|bln<|thn<|wxz1<|thn ?_
       exact arm (mto (n:=54) [(1,(.dat 1 (p1.map Qaa))),(2,.ref 0 3 0 0),(6,(.acc 3 3 1 ((y4++([x25]):List Int).map Qaa))),(7,I x25),(19,(Qtb p0)),(20,(I ((p0.Hours.length:Int)))),(21,(I (w64 (y6+1))))] [0,3] [(Qvu p0),.tok] hq (pc (rnd Qab) (prr (pc (.rn (Qpf rfl (Qip Qab _))) (pw (pc (rnd Qag) (pw (pw pn))))))) (qb (lcc (lc (rnd Qag) ln)) (qc .tok qn))) (ih (y4++([x25]),x25,w64 (y6+1)) h)
    ·exact wfn hc11<|Qax<|Qan<|Qan<|Qaw rfl<|thn<|⟨(y4),h,(mto (n:=54) [(6,(.acc 1 3 1 (y4.map Qaa)))] [1] [.tok] hq (pc (.rn (Qpf rfl (Qip Qab _))) pn) (qc .tok qn))⟩
def Qen (N:Nat) (p0:GDay) (p1:List Int) (k8:Int→Option (Int×Int)):Nat→Int→Int→Option (Int×Int)
  |0,_,_=>none
  |n13+1,y9,y10=>
    bif (decide (y10<(p0.Hours.length:Int))) then
     (getI p0.Hours y10).bind fun x15=>
     (getI p1 y10).bind fun x19=>
     (Qfn N x15 x19).bind fun x24=>
     Qen N p0 p1 k8 n13 (w64 (y9+x24)) (w64 (y10+1))
    else
     k8 (y9)
def Qkm (N:Nat) (p0:GDay) (p1:List Int):Option (Int×Int):=
  (Qds N p0).bind fun x2=>
  bif (!x2) then
   some (0,1)
  else
   (Qe9 N p0 p1).bind fun x5=>
   bif (!x5.2) then
    some (0,2)
   else
    Qcx (fun y7=>
      some (y7,0)) fun k8:Int→Option (Int×Int)=>
    Qen N p0 p1 k8 N 0 0
def Qvv (p0:GDay):AV:=.dat 2 (p0.Hours.map Qay)
theorem Qm7 (N:Nat) (p0:GDay) (p1:List Int) (r:(Int×Int)) (h:Qkm N p0 p1=some r):Spec prog 30 [(.agg (Qiv p0)),(.dat 1 (p1.map Qaa))] [] (.tup [(I r.1),(I r.2)]) []:=by
  refine sA func30 0 fun _ _ _ hq hd0=>?_
  unfold Qkm at h
  refine wxz<|wsq ?_
  obtain⟨x2,hf1,h⟩:=bno h
  refine wx tbk [(1,rp _ _)] ⟨apw Qlw (Qd8 N p0 _ hf1),tv⟩ ?_
  refine bfe h (fun hc3 h=>?_) fun hc3 h=>?_
  ·refine wft hc3<|wxz<|Qac<|Qah ?_
   obtain rfl:=osi h
   exact fie [I 0,I 1] ⟨rot,rot,tv⟩
  ·refine wfn hc3<|Qaf<|thn<|wsq ?_
   obtain⟨x5,hf4,h⟩:=bno h
   refine wx tbk [(2,rp _ _)] ⟨apw Quh (Qg4 N p0 p1 _ hf4),tv⟩<|wxz ?_
   refine bfe h (fun hc6 h=>?_) fun hc6 h=>?_
   ·refine wft hc6<|wxz<|Qac<|Qah ?_
    obtain rfl:=osi h
    exact fie [I 0,I 2] ⟨rot,rot,tv⟩
   ·refine wfn hc6<|Qaf<|thn<|wxz ?_
    obtain⟨k8,hk_k8,h⟩:=jko h
    refine wjn (τ:=Int) (fun t=>k8 t=some r) (fun y7=>⟨mk 40 [(8,I y7)],[]⟩) (fun y7 h=>?_) ?_
    ·subst hk_k8
     refine wxz<|Qac ?_
     obtain rfl:=osi h
     exact fie [I y7,I 0] ⟨rot,rot,tv⟩
    ·skip
     refine wx tbk [(2,rp _ _)] ⟨alq 2 Qay p0.Hours underlying55,tv⟩<|Qai ?_
     refine wmr (mto (n:=40) (l':=[(1,(.dat 1 (p1.map Qaa))),(8,I 0),(23,(Qvv p0)),(24,(I ((p0.Hours.length:Int)))),(25,I 0)]) (own':=[]) [(1,(.dat 1 (p1.map Qaa))),(8,I 0),(23,(Qvv p0)),(24,(I ((p0.Hours.length:Int)))),(25,I 0)] [] [] hq (pc (rnd Qab) (pw (pc (rnd Qag) (pw (pw pn))))) qn) ?_
     refine Qb0 (τ:=Int×Int) (fun n t=>Qen N p0 p1 k8 n t.1 t.2=some r) (fun ⟨y9,y10⟩=>⟨mk 40 [(1,(.dat 1 (p1.map Qaa))),(8,I y9),(23,(Qvv p0)),(24,(I ((p0.Hours.length:Int)))),(25,I y10)],[]⟩) (fun t h=>by rw[Qen] at h;cases h) (fun n13 ih t h=>?_) N (0,0) h
     obtain⟨y9,y10⟩:=t
     rw[Qen] at h
     skip
     refine wxz<|wsq ?_
     refine bfe h (fun hc14 h=>?_) fun hc14 h=>?_
     ·refine wft hc14<|Qaf<|thn<|wsq<|Qai ?_
      obtain⟨x15,hg16,h⟩:=bno h
      obtain⟨hi17,hj18⟩:=gsm hg16
      refine wx tbk [(1,rp _ _)] ⟨aiq underlying55 ti62 Qay hi17 hj18,tv⟩ ?_
      obtain⟨x19,hg20,h⟩:=bno h
      obtain⟨hi21,hj22⟩:=gsm hg20
      obtain⟨x24,hf23,h⟩:=bno h
      exact wy1 tbk [(4,rp _ _),(6,rp _ _)] ⟨aiq underlying25 ti3 Qaa hi21 hj22,apw Qum (Qhe N x15 x19 _ hf23),tv⟩<|bln<|thn<|wxz1<|thn<|arm (mto (n:=40) [(1,(.dat 1 (p1.map Qaa))),(8,(I (w64 (y9+x24)))),(23,(Qvv p0)),(24,(I ((p0.Hours.length:Int)))),(25,(I (w64 (y10+1))))] [] [] hq (pc (rnd Qab) (pw (pc (rnd Qag) (pw (pw pn))))) qn) (ih (w64 (y9+x24),w64 (y10+1)) h)
     ·exact wfn hc14<|Qax<|Qan<|Qan<|Qaw rfl<|thn<|⟨(y9),h,(mto (n:=40) [(8,I y9)] [] [] hq (pw pn) qn)⟩
end
end Go.Proofs.Ytjpfjfdaomckhaa
