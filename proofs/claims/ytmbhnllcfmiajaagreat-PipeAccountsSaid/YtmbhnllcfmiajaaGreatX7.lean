/-
  Functions of the program: what they compute, as plain functions, and that they do. No conditions.
-/
import Derived.Test.YtmbhnllcfmiajaaGreatX6
import Derived.Test.YtmbhnllcfmiajaaGreatEngOb
namespace Go.Proofs.YtmbhnllcfmiajaaGreat
set_option maxRecDepth 100000
set_option maxHeartbeats 4000000
open Go.RowKit
def Qih (_N:Nat) (p0:GRow) (p1:GStream):Option GParts:=
  (some (w64 (p1.Heat - (w64 (p1.Mass * p0.Liquid))))).bind fun x1=>
  Qbb (fun y3=>
    Qbb (fun _=>
      Qbb (fun ⟨y6,y7,y8,y9,y10,y11⟩=>
        Qbb (fun y13=>
          (some (if (w64 (p1.Silica - (w64 (y9 * p0.Silica))))>0 then w64 (p1.Silica - (w64 (y9 * p0.Silica))) else 0)).bind fun x15=>
          some (⟨(⟨y6,y7,0,y8⟩:GStream),(⟨y9,y10,w64 (p1.Silica - x15),y11⟩:GStream),y13,x15⟩:GParts)) fun k14:Int→Option GParts=>
        bif (decide (x1>0)) then
         k14 (w64 (y10 - (w64 (y9 * p0.Liquid))))
        else
         k14 (0)) fun k12:Int×Int×Int×Int×Int×Int→Option GParts=>
      bif (decide (y3>0)) then
       k12 (y3,w64 (y3 * p0.Vapour),p1.Gas,w64 (p1.Mass - y3),w64 (p1.Heat - (w64 (y3 * p0.Vapour))),0)
      else
       k12 (0,0,0,p1.Mass,p1.Heat,p1.Gas)) fun k5:Unit→Option GParts=>
    bif (y3==p1.Mass) then
     bif (decide (y3>0)) then
      some (⟨(⟨y3,p1.Heat,0,p1.Gas⟩:GStream),(⟨0,0,0,0⟩:GStream),0,p1.Silica⟩:GParts)
     else
      k5 ()
    else
     k5 ()) fun k4:Int→Option GParts=>
  bif (decide (x1>0)) then
   bif (decide (p1.Heat≥(w64 (p1.Mass * p0.Vapour)))) then
    k4 (p1.Mass)
   else
    chk ((w64 (p0.Vapour - p0.Liquid)) != 0)<|
    (some (w64 (x1.tdiv (w64 (p0.Vapour - p0.Liquid))))).bind fun x24=>
    k4 (x24)
  else
   k4 (0)
def Qly (p0:GRow):Slot:=.own 5 [[(I (p0.T)),(I (p0.P)),(I (p0.Liquid)),(I (p0.Vapour)),(I (p0.Silica))]]
def Qlx (p1:GStream):Slot:=.own 4 [[(I (p1.Mass)),(I (p1.Heat)),(I (p1.Silica)),(I (p1.Gas))]]
def Qkk:Slot:=.own 10 [[(I (0)),(I (0)),(I (0)),(I (0)),(I (0)),(I (0)),(I (0)),(I (0)),(I (0)),(I (0))]]
theorem Qts (N:Nat) (p0:GRow) (p1:GStream) (r:GParts) (h:Qih N p0 p1=some r):Spec Tryz.prog 63 [(.agg (Qa4 p0)),(.agg (Qaa p1))] [] (.agg (Qyu r)) []:=by
  refine Qah Tryz.func63 rfl 0 (nle rfl) (fun X φ0 w0 hφ0 hd0=>?_)
  unfold Qih at h
  refine wxz ?_
  obtain ⟨x1,hl2,h⟩:=bno h
  refine wx tbk [(8,rp [(.tmp 15,(I (w64 (p1.Heat - (w64 (p1.Mass * p0.Liquid))))))] (I x1))] ⟨Qhj hl2 (aas rfl),tv⟩<|wxz ?_
  obtain ⟨k4,hk_k4,h⟩:=jko h
  refine wjn (τ:=Int) (fun t=>k4 t=some r) (fun y3=>⟨mk 118 [(2,.ref 0 5 0 0),(3,.ref 1 4 0 0),(4,.ref 2 10 0 0),(5,I x1),(6,I y3)],[(Qly p0),(Qlx p1),Qkk]⟩) (fun y3 h=>?_) ?_
  ·subst hk_k4
   refine wxz ?_
   obtain ⟨k5,hk_k5,h⟩:=jko h
   refine wjn (τ:=Unit) (fun t=>k5 t=some r) (fun _=>⟨mk 118 [(2,.ref 0 5 0 0),(3,.ref 1 4 0 0),(4,.ref 2 10 0 0),(5,I x1),(6,I y3),(7,.ref 3 10 0 0)],[(Qly p0),(Qlx p1),Qkk,Qkk]⟩) (fun t h=>?_) ?_
   ·subst hk_k5
    refine wxz ?_
    obtain ⟨k12,hk_k12,h⟩:=jko h
    refine wjn (τ:=Int×Int×Int×Int×Int×Int) (fun t=>k12 t=some r) (fun ⟨y6,y7,y8,y9,y10,y11⟩=>⟨mk 118 [(2,.ref 0 5 0 0),(3,.ref 1 4 0 0),(4,.ref 2 10 0 0),(5,I x1),(7,.ref 3 10 0 0)],[(Qly p0),(Qlx p1),Qkk,(.own 10 [[I y6,I y7,I 0,I y8,I y9,I y10,I p1.Silica,I y11,I 0,I 0]])]⟩) (fun t h=>?_) ?_
    ·subst hk_k12
     obtain ⟨y6,y7,y8,y9,y10,y11⟩:=t
     obtain ⟨k14,hk_k14,h⟩:=jko h
     refine wjn (τ:=Int) (fun t=>k14 t=some r) (fun y13=>⟨mk 118 [(2,.ref 0 5 0 0),(3,.ref 1 4 0 0),(4,.ref 2 10 0 0),(7,.ref 3 10 0 0)],[(Qly p0),(Qlx p1),Qkk,(.own 10 [[I y6,I y7,I 0,I y8,I y9,I y10,I p1.Silica,I y11,I y13,I 0]])]⟩) (fun y13 h=>?_) ?_
     ·subst hk_k14
      obtain ⟨x15,hl16,h⟩:=bno h
      refine wx tbk [(9,rp [ci 0,(.tmp 107,(I (w64 (p1.Silica - (w64 (y9 * p0.Silica))))))] (I x15))] ⟨Qhj hl16 (Qmf rfl),tv⟩<|wxz<|wxz<|Qaf ?_
      obtain rfl:=osi h
      exact fend ⟨[(.agg [I y6,I y7,I 0,I y8,I y9,I y10,(I (w64 (p1.Silica - x15))),I y11,I y13,I x15])],⟨Qbj (n:=2) (m:=10) (j:=0) (i:=0) (xs:=[[I y6,I y7,I 0,I y8,I y9,I y10,(I (w64 (p1.Silica - x15))),I y11,I y13,I x15]]) (by kernel_rfl) (by kernel_rfl) Zmj (by decide) rfl (nle rfl) rfl,tv⟩,rfl⟩ (NLt.agg _ (nlcc (nlcc (nlcc (nlcc (nlcc nl0))))))
     ·skip
      refine wxz ?_
      refine bfe h (fun hc17 h=>?_) fun hc17 h=>?_
      ·exact wft hc17<|wxz1<|thn<|⟨(w64 (y10 - (w64 (y9 * p0.Liquid)))),h,(mto (n:=118) [(2,.ref 0 5 0 0),(3,.ref 1 4 0 0),(4,.ref 2 10 0 0),(7,.ref 3 10 0 0)] [0,1,2,3] [(Qly p0),(Qlx p1),Qkk,(.own 10 [[I y6,I y7,I 0,I y8,I y9,I y10,I p1.Silica,I y11,(I (w64 (y10 - (w64 (y9 * p0.Liquid))))),I 0]])] hφ0 (prr (prr (prr (prr pn)))) (qb (lcc (lcc (lc rwl ln))) (qb (lcc (lcc ln)) (qb (lcc (lcc (lcc (lcc (lcc ln))))) (qb (lcc (lcc (lcc (lcc (lcc ln))))) qn)))))⟩
      ·exact wfn hc17<|Qan<|thn<|⟨(0),h,(mto (n:=118) [(2,.ref 0 5 0 0),(3,.ref 1 4 0 0),(4,.ref 2 10 0 0),(7,.ref 3 10 0 0)] [0,1,2,3] [(Qly p0),(Qlx p1),Qkk,(.own 10 [[I y6,I y7,I 0,I y8,I y9,I y10,I p1.Silica,I y11,I 0,I 0]])] hφ0 (prr (prr (prr (prr pn)))) (qb (lcc (lcc (lc rwl ln))) (qb (lcc (lcc ln)) (qb (lcc (lcc (lcc (lcc (lcc ln))))) (qb (lcc (lcc (lcc (lcc (lcc ln))))) qn)))))⟩
    ·skip
     refine wxz ?_
     refine bfe h (fun hc18 h=>?_) fun hc18 h=>?_
     ·refine wft hc18<|wx tbk [(7,rp [(.tmp 62,I y3),(.tmp 66,(I (w64 (y3 * p0.Vapour)))),(.tmp 68,I p1.Gas)] (.agg [I y3,(I (w64 (y3 * p0.Vapour))),I 0,I p1.Gas]))] ⟨Qaz (vs:=[I y3,(I (w64 (y3 * p0.Vapour))),I p1.Gas]) rfl ts89 tz89 rfl (by rfl) rfl,tv⟩ ?_
      exact wx1 tbk [(13,rp [(.tmp 74,(I (w64 (p1.Mass - y3)))),(.tmp 81,(I (w64 (p1.Heat - (w64 (y3 * p0.Vapour)))))),(.tmp 83,I p1.Silica)] (.agg [(I (w64 (p1.Mass - y3))),(I (w64 (p1.Heat - (w64 (y3 * p0.Vapour))))),I p1.Silica,I 0]))] ⟨Qaz (vs:=[(I (w64 (p1.Mass - y3))),(I (w64 (p1.Heat - (w64 (y3 * p0.Vapour))))),I p1.Silica]) rfl ts89 tz89 rfl (by rfl) rfl,tv⟩<|thn<|⟨(y3,w64 (y3 * p0.Vapour),p1.Gas,w64 (p1.Mass - y3),w64 (p1.Heat - (w64 (y3 * p0.Vapour))),0),h,(mto (n:=118) [(2,.ref 0 5 0 0),(3,.ref 1 4 0 0),(4,.ref 2 10 0 0),(5,I x1),(7,.ref 3 10 0 0)] [0,1,2,3] [(Qly p0),(Qlx p1),Qkk,(.own 10 [[I y3,(I (w64 (y3 * p0.Vapour))),I 0,I p1.Gas,(I (w64 (p1.Mass - y3))),(I (w64 (p1.Heat - (w64 (y3 * p0.Vapour))))),I p1.Silica,I 0,I 0,I 0]])] hφ0 (prr (prr (prr (pw (prr pn))))) (qb (lcc (lcc (lc rwl ln))) (qb (lcc (lcc ln)) (qb (lcc (lcc (lcc (lcc (lcc ln))))) (qb (lcc (lcc (lcc (lcc (lcc ln))))) qn)))))⟩
     ·exact wfn hc18<|Qan<|thn<|⟨(0,0,0,p1.Mass,p1.Heat,p1.Gas),h,(mto (n:=118) [(2,.ref 0 5 0 0),(3,.ref 1 4 0 0),(4,.ref 2 10 0 0),(5,I x1),(7,.ref 3 10 0 0)] [0,1,2,3] [(Qly p0),(Qlx p1),Qkk,(.own 10 [[I 0,I 0,I 0,I 0,I p1.Mass,I p1.Heat,I p1.Silica,I p1.Gas,I 0,I 0]])] hφ0 (prr (prr (prr (pw (prr pn))))) (qb (lcc (lcc (lc rwl ln))) (qb (lcc (lcc ln)) (qb (lcc (lcc (lcc (lcc (lcc ln))))) (qb (lcc (lcc (lcc (lcc (lcc ln))))) qn)))))⟩
   ·skip
    refine bfe h (fun hb19 h=>?_) fun hb19 h=>?_
    ·refine wx tbk [(4,rp [(.tmp 42,(B ((y3==p1.Mass))))] (B true))] ⟨asb hb19 (amv rfl),tv⟩ ?_
     refine bfe h (fun hc20 h=>?_) fun hc20 h=>?_
     ·refine wft hc20<|wx tbk [(5,rp [(.tmp 47,I y3),(.tmp 49,I p1.Heat),(.tmp 51,I p1.Gas)] (.agg [I y3,I p1.Heat,I 0,I p1.Gas]))] ⟨Qaz (vs:=[I y3,I p1.Heat,I p1.Gas]) rfl ts89 tz89 rfl (by rfl) rfl,tv⟩<|wxz<|wxz<|Qaf<|Qag ?_
      obtain rfl:=osi h
      exact fend ⟨[(.agg [I y3,I p1.Heat,I 0,I p1.Gas,I 0,I 0,I 0,I 0,I 0,I p1.Silica])],⟨Qbj (n:=2) (m:=10) (j:=0) (i:=0) (xs:=[[I y3,I p1.Heat,I 0,I p1.Gas,I 0,I 0,I 0,I 0,I 0,I p1.Silica]]) (by kernel_rfl) (by kernel_rfl) Zmj (by decide) rfl (nle rfl) rfl,tv⟩,rfl⟩ (NLt.agg _ (nlcc (nlcc (nlcc (nlcc (nlcc nl0))))))
     ·exact wfn hc20<|Qan<|thn<|⟨(),h,(mto (n:=118) [(2,.ref 0 5 0 0),(3,.ref 1 4 0 0),(4,.ref 2 10 0 0),(5,I x1),(6,I y3),(7,.ref 3 10 0 0)] [0,1,2,3] [(Qly p0),(Qlx p1),Qkk,Qkk] hφ0 (prr (prr (prr (pw (pw (prr pn)))))) (qb (lcc (lcc (lc rwl ln))) (qb (lcc (lcc ln)) (qb (lcc (lcc (lcc (lcc (lcc ln))))) (qb (lcc (lcc (lcc (lcc (lcc ln))))) qn)))))⟩
    ·exact wx tbk [(4,rp [(.tmp 42,(B ((y3==p1.Mass))))] (B false))] ⟨asb hb19 (amv rfl),tv⟩<|wfa<|Qan<|thn<|⟨(),h,(mto (n:=118) [(2,.ref 0 5 0 0),(3,.ref 1 4 0 0),(4,.ref 2 10 0 0),(5,I x1),(6,I y3),(7,.ref 3 10 0 0)] [0,1,2,3] [(Qly p0),(Qlx p1),Qkk,Qkk] hφ0 (prr (prr (prr (pw (pw (prr pn)))))) (qb (lcc (lcc (lc rwl ln))) (qb (lcc (lcc ln)) (qb (lcc (lcc (lcc (lcc (lcc ln))))) (qb (lcc (lcc (lcc (lcc (lcc ln))))) qn)))))⟩
  ·skip
   refine bfe h (fun hb21 h=>?_) fun hb21 h=>?_
   ·refine wx tbk [(2,rp [(.tmp 17,(B ((decide (x1>0)))))] (B true))] ⟨asb hb21 (amv rfl),tv⟩ ?_
    refine bfe h (fun hc22 h=>?_) fun hc22 h=>?_
    ·exact wft hc22<|wxz1<|thn<|⟨(p1.Mass),h,(mto (n:=118) [(2,.ref 0 5 0 0),(3,.ref 1 4 0 0),(4,.ref 2 10 0 0),(5,I x1),(6,I p1.Mass)] [0,1,2] [(Qly p0),(Qlx p1),Qkk] hφ0 (prr (prr (prr (pw (pw pn))))) (qb (lcc (lcc (lc rwl ln))) (qb (lcc (lcc ln)) (qb (lcc (lcc (lcc (lcc (lcc ln))))) qn))))⟩
    ·refine wfn hc22<|wxz<|wft hb21 ?_
     obtain ⟨hz23,h⟩:=cko h
     obtain ⟨x24,hl25,h⟩:=bno h
     exact wx1 tbk [(6,rp [(.tmp 32,I x1),(.tmp 37,(I (w64 (p0.Vapour - p0.Liquid))))] (I (w64 (x1.tdiv (w64 (p0.Vapour - p0.Liquid)))))),(7,rp [(.tmp 38,(I (w64 (x1.tdiv (w64 (p0.Vapour - p0.Liquid))))))] (I x24))] ⟨Qkd rfl (Qlf hz23),Qhj hl25 (aas rfl),tv⟩<|thn<|⟨(x24),h,(mto (n:=118) [(2,.ref 0 5 0 0),(3,.ref 1 4 0 0),(4,.ref 2 10 0 0),(5,I x1),(6,I x24)] [0,1,2] [(Qly p0),(Qlx p1),Qkk] hφ0 (prr (prr (prr (pw (pw pn))))) (qb (lcc (lcc (lc rwl ln))) (qb (lcc (lcc ln)) (qb (lcc (lcc (lcc (lcc (lcc ln))))) qn))))⟩
   ·exact wx tbk [(2,rp [(.tmp 17,(B ((decide (x1>0)))))] (B false))] ⟨asb hb21 (amv rfl),tv⟩<|wfa<|wxz<|wfn hb21<|Qan<|thn<|⟨(0),h,(mto (n:=118) [(2,.ref 0 5 0 0),(3,.ref 1 4 0 0),(4,.ref 2 10 0 0),(5,I x1),(6,I 0)] [0,1,2] [(Qly p0),(Qlx p1),Qkk] hφ0 (prr (prr (prr (pw (pw pn))))) (qb (lcc (lcc (lc rwl ln))) (qb (lcc (lcc ln)) (qb (lcc (lcc (lcc (lcc (lcc ln))))) qn))))⟩
def Qe9 (N:Nat) (p0:(List GStream)) (k5:Int×Int×Int×Int→Option GStream):Nat→Int→Int→Int→Int→Int→Option GStream
  | 0,_,_,_,_,_=>none
  | n16+1,y6,y7,y8,y9,y10=>
    bif (decide (y6<(p0.length:Int))) then
     (getI p0 y6).bind fun x18=>
     Qe9 N p0 k5 n16 (w64 (y6+1)) (w64 (y7+x18.Mass)) (w64 (y8+x18.Heat)) (w64 (y9+x18.Silica)) (w64 (y10+x18.Gas))
    else
     k5 (y7,y8,y9,y10)
def Qgx (N:Nat) (p0:(List GStream)):Option GStream:=
  Qbb (fun ⟨y1,y2,y3,y4⟩=>
    some (⟨y1,y2,y3,y4⟩:GStream)) fun k5:Int×Int×Int×Int→Option GStream=>
  Qe9 N p0 k5 N 0 0 0 0 0
def Qru:Slot:=.own 4 [[(I (0)),(I (0)),(I (0)),(I (0))]]
def Qpr (p0:(List GStream)):AV:=.dat 4 ((p0:List GStream).map Qaa)
theorem Qix (N:Nat) (p0:(List GStream)) (r:GStream) (h:Qgx N p0=some r):Spec Tryz.prog 38 [(.dat 4 (p0.map Qaa))] [] (.agg (Qaa r)) []:=by
  refine Qah Tryz.func38 rfl 0 (nle rfl) (fun X φ0 w0 hφ0 hd0=>?_)
  unfold Qgx at h
  refine wxz<|wxz ?_
  obtain ⟨k5,hk_k5,h⟩:=jko h
  refine wjn (τ:=Int×Int×Int×Int) (fun t=>k5 t=some r) (fun ⟨y1,y2,y3,y4⟩=>⟨mk 45 [(2,.ref 0 4 0 0),(3,.ref 1 4 0 0)],[Qru,(.own 4 [[I y1,I y2,I y3,I y4]])]⟩) (fun t h=>?_) ?_
  ·subst hk_k5
   obtain ⟨y1,y2,y3,y4⟩:=t
   refine wxz<|Qaf ?_
   obtain rfl:=osi h
   exact fend ⟨[(.agg [I y1,I y2,I y3,I y4])],⟨Qbj (n:=0) (m:=4) (j:=0) (i:=0) (xs:=[[I y1,I y2,I y3,I y4]]) (by kernel_rfl) (by kernel_rfl) ti89 (by decide) rfl (nle rfl) rfl,tv⟩,rfl⟩ (NLt.agg _ (nlcc (nlcc nl0)))
  ·skip
   refine wxz<|Qaj ?_
   refine wmr (mto (n:=45) (l':=[(0,(Qpr p0)),(2,.ref 0 4 0 0),(3,.ref 1 4 0 0),(4,I 0)]) (own':=[Qru,Qru]) [(0,(Qpr p0)),(2,.ref 0 4 0 0),(3,.ref 1 4 0 0),(4,I 0)] [0,1] [Qru,Qru] hφ0 (pc (rnd Qac) (prr (prr (pw pn)))) (qb (lcc (lcc ln)) (qb (lcc (lcc ln)) qn))) ?_
   refine Qbt (τ:=Int×Int×Int×Int×Int) (fun n t=>Qe9 N p0 k5 n t.1 t.2.1 t.2.2.1 t.2.2.2.1 t.2.2.2.2=some r) (fun ⟨y6,y7,y8,y9,y10⟩=>⟨mk 45 [(0,(Qpr p0)),(2,.ref 0 4 0 0),(3,.ref 1 4 0 0),(4,I y6)],[Qru,(.own 4 [[I y7,I y8,I y9,I y10]])]⟩) (fun t h=>by rw [Qe9] at h; cases h) (fun n16 ih t h=>?_) N (0,0,0,0,0) h
   obtain ⟨y6,y7,y8,y9,y10⟩:=t
   rw [Qe9] at h
   skip
   refine wsq<|wx tbk [(2,rp [(.tmp 6,(Qpr p0))] (I ((p0.length:Int))))] ⟨alm (c:=Qaa) (l:=p0) (aln rfl Tryz.underlying28 rfl),tv⟩ ?_
   refine bfe h (fun hc17 h=>?_) fun hc17 h=>?_
   ·refine wft hc17<|Qan<|thn<|wsq<|Qaj ?_
    obtain ⟨x18,hg19,h⟩:=bno h
    obtain ⟨hi20,hj21⟩:=gsm hg19
    refine wy1 tbk [(4,rp [(.tmp 13,(Qpr p0)),(.tmp 14,I y6)] (.dptr (Qaa (x18)) 0)),(12,rp [(.tmp 21,(Qpr p0)),(.tmp 22,I y6)] (.dptr (Qaa (x18)) 0)),(20,rp [(.tmp 29,(Qpr p0)),(.tmp 30,I y6)] (.dptr (Qaa (x18)) 0)),(28,rp [(.tmp 37,(Qpr p0)),(.tmp 38,I y6)] (.dptr (Qaa (x18)) 0)),(32,rp [(.tmp 18,(I (w64 (y7+x18.Mass)))),(.tmp 26,(I (w64 (y8+x18.Heat)))),(.tmp 34,(I (w64 (y9+x18.Silica)))),(.tmp 42,(I (w64 (y10+x18.Gas))))] (.agg [(I (w64 (y7+x18.Mass))),(I (w64 (y8+x18.Heat))),(I (w64 (y9+x18.Silica))),(I (w64 (y10+x18.Gas)))]))] ⟨aid rfl Tryz.underlying28 ti89 rfl rfl hi20 (mgt Qaa hj21) rfl,aid rfl Tryz.underlying28 ti89 rfl rfl hi20 (mgt Qaa hj21) rfl,aid rfl Tryz.underlying28 ti89 rfl rfl hi20 (mgt Qaa hj21) rfl,aid rfl Tryz.underlying28 ti89 rfl rfl hi20 (mgt Qaa hj21) rfl,Qaz (vs:=[(I (w64 (y7+x18.Mass))),(I (w64 (y8+x18.Heat))),(I (w64 (y9+x18.Silica))),(I (w64 (y10+x18.Gas)))]) rfl ts89 tz89 rfl (by rfl) rfl,tv⟩<|bln<|thn<|wxz1<|thn ?_
    exact arm (mto (n:=45) [(0,(Qpr p0)),(2,.ref 0 4 0 0),(3,.ref 1 4 0 0),(4,(I (w64 (y6+1))))] [0,1] [Qru,(.own 4 [[(I (w64 (y7+x18.Mass))),(I (w64 (y8+x18.Heat))),(I (w64 (y9+x18.Silica))),(I (w64 (y10+x18.Gas)))]])] hφ0 (pc (rnd Qac) (prr (prr (pw pn)))) (qb (lcc (lcc ln)) (qb (lcc (lcc ln)) qn))) (ih (w64 (y6+1),w64 (y7+x18.Mass),w64 (y8+x18.Heat),w64 (y9+x18.Silica),w64 (y10+x18.Gas)) h)
   ·exact wfn hc17<|Qbd<|Qax<|Qax<|Qbc rfl<|thn<|⟨(y7,y8,y9,y10),h,(mto (n:=45) [(2,.ref 0 4 0 0),(3,.ref 1 4 0 0)] [0,1] [Qru,(.own 4 [[I y7,I y8,I y9,I y10]])] hφ0 (prr (prr pn)) (qb (lcc (lcc ln)) (qb (lcc (lcc ln)) qn)))⟩
def Qib (_N:Nat) (p0:Int) (p1:Int) (p2:Int):Option Int:=
  bif (p2==0) then
   some 0
  else
   chk (p2 != 0)<|
   (some (w64 ((w64 (p0 * p1)).tdiv p2))).bind fun x3=>
   some x3
theorem Qlt (N:Nat) (p0:Int) (p1:Int) (p2:Int) (r:Int) (h:Qib N p0 p1 p2=some r):Spec Tryz.prog 99 [(I p0),(I p1),(I p2)] [] (I r) []:=by
  refine Qah Tryz.func99 rfl 0 (nle rfl) (fun X φ0 w0 hφ0 hd0=>?_)
  unfold Qib at h
  refine wxz<|wsq<|wxz ?_
  refine bfe h (fun hc1 h=>?_) fun hc1 h=>?_
  ·refine wft hc1<|wxz<|Qaf<|Qag ?_
   obtain rfl:=osi h
   exact fend ⟨[I 0],⟨rot,tv⟩,rfl⟩ nll
  ·refine wfn hc1<|Qan<|thn ?_
   obtain ⟨hz2,h⟩:=cko h
   obtain ⟨x3,hl4,h⟩:=bno h
   refine wx tbk [(4,rp [(.tmp 11,(I (w64 (p0 * p1)))),(.tmp 12,I p2)] (I (w64 ((w64 (p0 * p1)).tdiv p2)))),(5,rp [(.tmp 13,(I (w64 ((w64 (p0 * p1)).tdiv p2))))] (I x3))] ⟨Qkd rfl (Qlf hz2),Qhj hl4 (aas rfl),tv⟩<|Qaf ?_
   obtain rfl:=osi h
   exact fend ⟨[I x3],⟨rot,tv⟩,rfl⟩ nll
def Qem (N:Nat) (p0:GStream) (p1:(List Int)) (y8:(List Int)) (k14:(List GStream)×Int×Int×Int→Option ((List GStream)×GLoss)):Nat→(List GStream)→Int→Int→Int→Int→Option ((List GStream)×GLoss)
  | 0,_,_,_,_,_=>none
  | n25+1,y15,y16,y17,y18,y19=>
    bif (decide (y16<(p1.length:Int))) then
     chk (decide (0≤y16)&&decide (y16.toNat<(p1.length:Int).toNat))<|
     (y8[y16.toNat]?).bind fun x28=>
     (Qib N p0.Heat x28 p0.Mass).bind fun x31=>
     (Qib N p0.Silica x28 p0.Mass).bind fun x33=>
     (Qib N p0.Gas x28 p0.Mass).bind fun x35=>
     chk (decide ((y15.length+([(⟨x28,x31,x33,x35⟩:GStream)]).length) * 32≤140737488355328))<|
     Qem N p0 p1 y8 k14 n25 (y15++([(⟨x28,x31,x33,x35⟩:GStream)])) (w64 (y16+1)) (w64 (y17 - x31)) (w64 (y18 - x33)) (w64 (y19 - x35))
    else
     k14 (y15,y17,y18,y19)
def Qcv (N:Nat) (p0:GStream) (p1:(List Int)) (y1:Int) (y39:(List Bool)) (k46:Int→Option ((List GStream)×GLoss)):Nat→Int→Int→Option ((List GStream)×GLoss)
  | 0,_,_=>none
  | n60+1,y56,y57=>
    bif (decide (y57<(p1.length:Int))) then
     chk (decide (0≤y57)&&decide (y57.toNat<(p1.length:Int).toNat))<|
     (y39[y57.toNat]?).bind fun x63=>
     bif (!x63) then
      bif (decide (y56<0)) then
       Qcv N p0 p1 y1 y39 k46 n60 y57 (w64 (y57+1))
      else
       (getI p1 y57).bind fun x67=>
       chk (y1 != 0)<|
       (getI p1 y56).bind fun x72=>
       chk (y1 != 0)<|
       bif (decide (((w64 (p0.Mass * x67)).tmod y1)>((w64 (p0.Mass * x72)).tmod y1))) then
        Qcv N p0 p1 y1 y39 k46 n60 y57 (w64 (y57+1))
       else
        Qcv N p0 p1 y1 y39 k46 n60 y56 (w64 (y57+1))
     else
      Qcv N p0 p1 y1 y39 k46 n60 y56 (w64 (y57+1))
    else
     k46 (y56)
def Qel (N:Nat) (p0:GStream) (p1:(List Int)) (y1:Int) (k9:(List Int)→Option ((List GStream)×GLoss)):Nat→Int→(List Int)→(List Bool)→Option ((List GStream)×GLoss)
  | 0,_,_,_=>none
  | n43+1,y37,y38,y39=>
    bif (decide (y37>0)) then
     Qbb (fun y45=>
       chk (decide (0≤y45)&&decide (y45.toNat<(p1.length:Int).toNat))<|
       (y39[y45.toNat]?).bind fun _=>
       chk (decide (0≤y45)&&decide (y45.toNat<(p1.length:Int).toNat))<|
       (y38[y45.toNat]?).bind fun x51=>
       chk (decide (0≤y45)&&decide (y45.toNat<(p1.length:Int).toNat))<|
       (y38[y45.toNat]?).bind fun _=>
       Qel N p0 p1 y1 k9 n43 (w64 (y37 - 1)) (y38.set y45.toNat (w64 (x51+1))) (y39.set y45.toNat true)) fun k46:Int→Option ((List GStream)×GLoss)=>
     Qcv N p0 p1 y1 y39 k46 N (-1) 0
    else
     k9 (y38)
def Qek (N:Nat) (p0:GStream) (p1:(List Int)) (y1:Int) (k6:Int×(List Int)→Option ((List GStream)×GLoss)):Nat→Int→Int→(List Int)→Option ((List GStream)×GLoss)
  | 0,_,_,_=>none
  | n84+1,y78,y79,y80=>
    bif (decide (y79<(p1.length:Int))) then
     (getI p1 y79).bind fun x86=>
     chk (y1 != 0)<|
     chk (decide (0≤y79)&&decide (y79.toNat<(p1.length:Int).toNat))<|
     (y80[y79.toNat]?).bind fun _=>
     chk (decide (0≤y79)&&decide (y79.toNat<(p1.length:Int).toNat))<|
     ((y80.set y79.toNat (w64 ((w64 (p0.Mass * x86)).tdiv y1)))[y79.toNat]?).bind fun x95=>
     Qek N p0 p1 y1 k6 n84 (w64 (y78 - x95)) (w64 (y79+1)) (y80.set y79.toNat (w64 ((w64 (p0.Mass * x86)).tdiv y1)))
    else
     k6 (y78,y80)
def Qej (N:Nat) (p1:(List Int)) (k2:Int→Option ((List GStream)×GLoss)):Nat→Int→Int→Option ((List GStream)×GLoss)
  | 0,_,_=>none
  | n101+1,y97,y98=>
    bif (decide (y98<(p1.length:Int))) then
     (getI p1 y98).bind fun x103=>
     Qej N p1 k2 n101 (w64 (y97+x103)) (w64 (y98+1))
    else
     k2 (y97)
def Qhp (N:Nat) (p0:GStream) (p1:(List Int)):Option ((List GStream)×GLoss):=
  Qbb (fun y1=>
    chk (decide (0≤(p1.length:Int))&&decide (8 * (p1.length:Int)≤281474976710656)&&decide ((p1.length:Int)≤9223372036854775807))<|
    Qbb (fun ⟨y4,y5⟩=>
      chk (decide (0≤(p1.length:Int))&&decide (1 * (p1.length:Int)≤281474976710656)&&decide ((p1.length:Int)≤9223372036854775807))<|
      Qbb (fun y8=>
        Qbb (fun ⟨y10,y11,y12,y13⟩=>
          some (y10,(⟨y11,y12,y13⟩:GLoss))) fun k14:(List GStream)×Int×Int×Int→Option ((List GStream)×GLoss)=>
        Qem N p0 p1 y8 k14 N ([]) 0 p0.Heat p0.Silica p0.Gas) fun k9:(List Int)→Option ((List GStream)×GLoss)=>
      Qel N p0 p1 y1 k9 N y4 y5 (List.replicate (p1.length:Int).toNat false)) fun k6:Int×(List Int)→Option ((List GStream)×GLoss)=>
    Qek N p0 p1 y1 k6 N p0.Mass 0 (List.replicate (p1.length:Int).toNat 0)) fun k2:Int→Option ((List GStream)×GLoss)=>
  Qej N p1 k2 N 0 0
def Qd1 (p1:(List Int)):AV:=.dat 1 ((p1:List Int).map Qal)
def Qfm (p0:GStream):Slot:=.own 4 [[(I (p0.Mass)),(I (p0.Heat)),(I (p0.Silica)),(I (p0.Gas))]]
def Qfd:Slot:=.own 3 [[(I (0)),(I (0)),(I (0))]]
def Zjp (p1:(List Int)):Slot:=.own 1 ((List.replicate (p1.length:Int).toNat 0:List Int).map Qal)
def Zbj (p1:(List Int)):Slot:=.own 1 ((List.replicate (p1.length:Int).toNat false:List Bool).map Qot)
def Qoy (y8:(List Int)):Slot:=.own 1 ((y8:List Int).map Qal)
def Q2p (y15:(List GStream)):AV:=.acc 4 89 4 ((y15:List GStream).map Qaa)
def Qh8 (y38:(List Int)):Slot:=.own 1 ((y38:List Int).map Qal)
def Qin (y39:(List Bool)):Slot:=.own 1 ((y39:List Bool).map Qot)
def Qxq (p1:(List Int)) (y57:Int) (y39:(List Bool)) (x63:Bool):List (Nat×Rec):=[(2,rb [((.tmp 71),(.own 3 1 (0) ((p1.length:Int).toNat))),((.tmp 72),(I (y57)))] [(3,(Qin y39))] (.ref 3 1 (y57.toNat) 0)),(3,rb [((.tmp 73),(.ref 3 1 (y57.toNat) 0))] [(3,(Qin y39))] (B (x63)))]
def Qxs (y80:(List Int)):Slot:=.own 1 ((y80:List Int).map Qal)
def Qxr (y80:(List Int)) (y79:Int) (p0:GStream) (x86:Int) (y1:Int):Slot:=.own 1 ((y80.set y79.toNat (w64 ((w64 (p0.Mass * x86)).tdiv y1)):List Int).map Qal)
theorem Qnm (N:Nat) (p0:GStream) (p1:(List Int)) (r:((List GStream)×GLoss)) (h:Qhp N p0 p1=some r):Spec Tryz.prog 64 [(.agg (Qaa p0)),(.dat 1 (p1.map Qal))] [] (.tup [(.dat 4 (r.1.map Qaa)),(.agg (Zeg r.2))]) []:=by
  refine Qah Tryz.func64 rfl 0 (nle rfl) (fun X φ0 w0 hφ0 hd0=>?_)
  unfold Qhp at h
  refine wxz<|wxe ?_
  obtain ⟨k2,hk_k2,h⟩:=jko h
  refine wjn (τ:=Int) (fun t=>k2 t=some r) (fun y1=>⟨mk 172 [(1,(Qd1 p1)),(2,.ref 0 4 0 0),(5,.ref 1 3 0 0),(6,I y1),(7,I p0.Mass)],[(Qfm p0),Qfd]⟩) (fun y1 h=>?_) ?_
  ·subst hk_k2
   obtain ⟨hm3,h⟩:=cko h
   refine wx tbk [(1,rp [(.tmp 33,(Qd1 p1))] (I ((p1.length:Int)))),(2,⟨[(.tmp 34,(I ((p1.length:Int)))),(.tmp 34,(I ((p1.length:Int))))],[(2,.unused)],(.own 2 1 (0) ((p1.length:Int).toNat)),[(2,(Zjp p1))],false⟩)] ⟨alm (c:=Qal) (l:=p1) (aln rfl Tryz.underlying27 rfl),Qmg rfl Tryz.underlying27 te3 tz3 rfl (Q1q hm3) rfl (Q1p hm3) (Q1o hm3) (Qx4 Qal rfl),tv⟩ ?_
   obtain ⟨k6,hk_k6,h⟩:=jko h
   refine wjn (τ:=Int×(List Int)) (fun t=>k6 t=some r) (fun ⟨y4,y5⟩=>⟨mk 172 [(1,(Qd1 p1)),(2,.ref 0 4 0 0),(5,.ref 1 3 0 0),(6,I y1),(7,I y4),(9,(.own 2 1 (0) ((p1.length:Int).toNat)))],[(Qfm p0),Qfd,(.own 1 ((y5:List Int).map Qal))]⟩) (fun t h=>?_) ?_
   ·subst hk_k6
    obtain ⟨y4,y5⟩:=t
    obtain ⟨hm7,h⟩:=cko h
    refine wx tbk [(1,rp [(.tmp 60,(Qd1 p1))] (I ((p1.length:Int)))),(2,⟨[(.tmp 61,(I ((p1.length:Int)))),(.tmp 61,(I ((p1.length:Int))))],[(3,.unused)],(.own 3 1 (0) ((p1.length:Int).toNat)),[(3,(Zbj p1))],false⟩)] ⟨alm (c:=Qal) (l:=p1) (aln rfl Tryz.underlying27 rfl),Qmg rfl Tryz.underlying185 te4 tz4 rfl (Q1q hm7) rfl (Q1p hm7) (Q1o hm7) (Qx4 Qot rfl),tv⟩ ?_
    obtain ⟨k9,hk_k9,h⟩:=jko h
    refine wjn (τ:=(List Int)) (fun t=>k9 t=some r) (fun y8=>⟨mk 172 [(1,(Qd1 p1)),(2,.ref 0 4 0 0),(5,.ref 1 3 0 0),(9,(.own 2 1 (0) ((p1.length:Int).toNat)))],[(Qfm p0),Qfd,(Qoy y8)]⟩) (fun y8 h=>?_) ?_
    ·subst hk_k9
     refine wx tbk [(6,rp [(.tmp 114,I p0.Heat),(.tmp 116,I p0.Silica),(.tmp 118,I p0.Gas)] (.agg [I p0.Heat,I p0.Silica,I p0.Gas]))] ⟨Qaz (vs:=[I p0.Heat,I p0.Silica,I p0.Gas]) rfl Zpr Zmg rfl (by rfl) rfl,tv⟩<|wxz ?_
     obtain ⟨k14,hk_k14,h⟩:=jko h
     refine wjn (τ:=(List GStream)×Int×Int×Int) (fun t=>k14 t=some r) (fun ⟨y10,y11,y12,y13⟩=>⟨mk 172 [(5,.ref 0 3 0 0),(14,.ref 1 3 0 0),(15,(.acc 2 89 4 ((y10:List GStream).map Qaa)))],[Qfd,(.own 3 [[I y11,I y12,I y13]]),.tok]⟩) (fun t h=>?_) ?_
     ·subst hk_k14
      obtain ⟨y10,y11,y12,y13⟩:=t
      refine wxe<|Qaf ?_
      obtain rfl:=osi h
      exact fend ⟨[(.dat 4 ((y10:List GStream).map Qaa)),(.agg [I y11,I y12,I y13])],⟨Qd2 (v:=(.acc 2 89 4 ((y10:List GStream).map Qaa))) (rot) Less.acc,Qbj (n:=0) (m:=3) (j:=0) (i:=0) (xs:=[[I y11,I y12,I y13]]) (by kernel_rfl) (by kernel_rfl) Zpu (by decide) rfl (nle rfl) rfl,tv⟩,rfl⟩ (NLt.tup _ (nlc (nld Qac _) (nlc (NLt.agg _ (nlcc (nlc nll nl0))) nl0)))
     ·skip
      refine wxz<|Qaj ?_
      refine wmr (Mor.trans (Qlu 4 89 4 15 (by kernel_rfl) (by kernel_rfl)) (mto (n:=172) (l':=[(1,(Qd1 p1)),(2,.ref 0 4 0 0),(5,.ref 1 3 0 0),(9,(.own 2 1 (0) ((p1.length:Int).toNat))),(14,.ref 3 3 0 0),(15,(.acc 4 89 4 ((([]):List GStream).map Qaa))),(16,I 0)]) (own':=[(Qfm p0),Qfd,(Qoy y8),(.own 3 [[I p0.Heat,I p0.Silica,I p0.Gas]]),.tok]) [(1,(Qd1 p1)),(2,.ref 0 4 0 0),(5,.ref 1 3 0 0),(9,(.own 2 1 (0) ((p1.length:Int).toNat))),(14,.ref 3 3 0 0),(15,(.acc 4 89 4 (([]:List GStream).map Qaa))),(16,I 0)] [0,1,2,3,4] [(Qfm p0),Qfd,(Qoy y8),(.own 3 [[I p0.Heat,I p0.Silica,I p0.Gas]]),.tok] hφ0 (pc (rnd Qae) (prr (prr (pc (.rn (Qa3 rfl)) (prr (pc (.rn (Qaw rfl (Qas Qac _))) (pw pn))))))) (qb (lcc (lcc ln)) (qb (lcc (lc rwl ln)) (qc (spr Qae) (qb (lcc (lc rwl ln)) (qc .tok qn))))))) ?_
      refine Qbt (τ:=(List GStream)×Int×Int×Int×Int) (fun n t=>Qem N p0 p1 y8 k14 n t.1 t.2.1 t.2.2.1 t.2.2.2.1 t.2.2.2.2=some r) (fun ⟨y15,y16,y17,y18,y19⟩=>⟨mk 172 [(1,(Qd1 p1)),(2,.ref 0 4 0 0),(5,.ref 1 3 0 0),(9,(.own 2 1 (0) ((p1.length:Int).toNat))),(14,.ref 3 3 0 0),(15,(Q2p y15)),(16,I y16)],[(Qfm p0),Qfd,(Qoy y8),(.own 3 [[I y17,I y18,I y19]]),.tok]⟩) (fun t h=>by rw [Qem] at h; cases h) (fun n25 ih t h=>?_) N ([],0,p0.Heat,p0.Silica,p0.Gas) h
      obtain ⟨y15,y16,y17,y18,y19⟩:=t
      rw [Qem] at h
      skip
      refine wsq<|wx tbk [(2,rp [(.tmp 121,(Qd1 p1))] (I ((p1.length:Int))))] ⟨alm (c:=Qal) (l:=p1) (aln rfl Tryz.underlying27 rfl),tv⟩ ?_
      refine bfe h (fun hc26 h=>?_) fun hc26 h=>?_
      ·refine wft hc26<|Qan<|thn<|wsq<|Qaj ?_
       obtain ⟨hi27,h⟩:=cko h
       obtain ⟨hi27a,hi27b⟩:=Qd0 hi27
       obtain ⟨x28,hg29,h⟩:=bno h
       refine wx tbk [(2,rb [(.tmp 126,(.own 2 1 (0) ((p1.length:Int).toNat))),(.tmp 127,I y16)] [(2,(Qoy y8))] (.ref 2 1 (y16.toNat) 0)),(3,rb [(.tmp 128,(.ref 2 1 (y16.toNat) 0))] [(2,(Qoy y8))] (I x28))] ⟨aio rfl Tryz.underlying27 ti3 (odt hi27a) (odt hi27b) (Nat.zero_add _),ald rfl ti3 (by decide) (mgt Qal hg29) (nle rfl) rfl,tv⟩ ?_
       obtain ⟨x31,hf30,h⟩:=bno h
       obtain ⟨x33,hf32,h⟩:=bno h
       obtain ⟨x35,hf34,h⟩:=bno h
       refine wxd tbk [(6,rp [fu 99,(.tmp 132,I p0.Heat),(.tmp 133,I x28),(.tmp 135,I p0.Mass)] (I x31)),(12,rp [fu 99,(.tmp 138,I p0.Silica),(.tmp 139,I x28),(.tmp 141,I p0.Mass)] (I x33)),(18,rp [fu 99,(.tmp 144,I p0.Gas),(.tmp 145,I x28),(.tmp 147,I p0.Mass)] (I x35)),(19,rp [(.tmp 130,I x28),(.tmp 136,I x31),(.tmp 142,I x33),(.tmp 148,I x35)] (.agg [I x28,I x31,I x33,I x35]))] ⟨apv Q3q (Qlt N p0.Heat x28 p0.Mass _ hf30) (nlcc (nlc nll nl0)) nll,apv Q3q (Qlt N p0.Silica x28 p0.Mass _ hf32) (nlcc (nlc nll nl0)) nll,apv Q3q (Qlt N p0.Gas x28 p0.Mass _ hf34) (nlcc (nlc nll nl0)) nll,Qaz (vs:=[I x28,I x31,I x33,I x35]) rfl ts89 tz89 rfl (by rfl) rfl,tv⟩ ?_
       obtain ⟨ha36,h⟩:=cko h
       refine wx tbk [(2,rp [(.tmp 151,(.agg [I x28,I x31,I x33,I x35]))] (.dat 4 (([(⟨x28,x31,x33,x35⟩:GStream)]:List GStream).map Qaa))),(3,⟨[(.tmp 150,(Q2p y15)),(.tmp 152,(.dat 4 (([(⟨x28,x31,x33,x35⟩:GStream)]:List GStream).map Qaa)))],[(4,.tok),(6,.unused)],(.acc 6 89 4 ((y15++([(⟨x28,x31,x33,x35⟩:GStream)]):List GStream).map Qaa)),[(4,.dead),(6,.tok)],false⟩)] ⟨Qbe (vs:=[(.agg [I x28,I x31,I x33,I x35])]) rfl Tryz.underlying28 ti89 tz89 rfl (by decide) rfl (by decide) (by rfl) (by rfl) (by rfl) rfl,Qdj rfl Tryz.underlying28 te89 (Base.acc _ _) rfl rfl (by rfl) (Qf4 Qaa ha36) (Qf3 Qaa ha36 (by decide)) (Qf2 Qaa) rfl rfl,tv⟩ ?_
       exact wx1 tbk [(15,rp [(.tmp 158,(I (w64 (y17 - x31)))),(.tmp 163,(I (w64 (y18 - x33)))),(.tmp 168,(I (w64 (y19 - x35))))] (.agg [(I (w64 (y17 - x31))),(I (w64 (y18 - x33))),(I (w64 (y19 - x35)))]))] ⟨Qaz (vs:=[(I (w64 (y17 - x31))),(I (w64 (y18 - x33))),(I (w64 (y19 - x35)))]) rfl Zpr Zmg rfl (by rfl) rfl,tv⟩<|bln<|thn<|wxz1<|thn<|arm (mto (n:=172) [(1,(Qd1 p1)),(2,.ref 0 4 0 0),(5,.ref 1 3 0 0),(9,(.own 2 1 (0) ((p1.length:Int).toNat))),(14,.ref 3 3 0 0),(15,(.acc 6 89 4 ((y15++([(⟨x28,x31,x33,x35⟩:GStream)]):List GStream).map Qaa))),(16,(I (w64 (y16+1))))] [0,1,2,3,6] [(Qfm p0),Qfd,(Qoy y8),(.own 3 [[(I (w64 (y17 - x31))),(I (w64 (y18 - x33))),(I (w64 (y19 - x35)))]]),.tok] hφ0 (pc (rnd Qae) (prr (prr (pc (.rn (Qa3 rfl)) (prr (pc (.rn (Qaw rfl (Qas Qac _))) (pw pn))))))) (qb (lcc (lcc ln)) (qb (lcc (lc rwl ln)) (qc (spr Qae) (qb (lcc (lc rwl ln)) (qc .tok qn)))))) (ih (y15++([(⟨x28,x31,x33,x35⟩:GStream)]),w64 (y16+1),w64 (y17 - x31),w64 (y18 - x33),w64 (y19 - x35)) h)
      ·exact wfn hc26<|Qbd<|Qax<|Qax<|Qbc rfl<|thn<|⟨(y15,y17,y18,y19),h,(mto (n:=172) [(5,.ref 1 3 0 0),(14,.ref 3 3 0 0),(15,(Q2p y15))] [1,3,4] [Qfd,(.own 3 [[I y17,I y18,I y19]]),.tok] hφ0 (prr (prr (pc (.rn (Qaw rfl (Qas Qac _))) pn))) (qb (lcc (lc rwl ln)) (qb (lcc (lc rwl ln)) (qc .tok qn))))⟩
    ·skip
     refine Qaj<|wmr (mto (n:=172) (l':=[(1,(Qd1 p1)),(2,.ref 0 4 0 0),(5,.ref 1 3 0 0),(6,I y1),(7,I y4),(9,(.own 2 1 (0) ((p1.length:Int).toNat))),(11,(.own 3 1 (0) ((p1.length:Int).toNat)))]) (own':=[(Qfm p0),Qfd,(.own 1 ((y5:List Int).map Qal)),(.own 1 (((List.replicate (p1.length:Int).toNat false):List Bool).map Qot))]) [(1,(Qd1 p1)),(2,.ref 0 4 0 0),(5,.ref 1 3 0 0),(6,I y1),(7,I y4),(9,(.own 2 1 (0) ((p1.length:Int).toNat))),(11,(.own 3 1 (0) ((p1.length:Int).toNat)))] [0,1,2,3] [(Qfm p0),Qfd,(.own 1 ((y5:List Int).map Qal)),(Zbj p1)] hφ0 (pc (rnd Qae) (prr (prr (pw (pw (pc (.rn (Qa3 rfl)) (pc (.rn (Qa3 rfl)) pn))))))) (qb (lcc (lcc ln)) (qb (lcc (lc rwl ln)) (qc (spr Qae) (qc (spr Qnq) qn))))) ?_
     refine Qbt (τ:=Int×(List Int)×(List Bool)) (fun n t=>Qel N p0 p1 y1 k9 n t.1 t.2.1 t.2.2=some r) (fun ⟨y37,y38,y39⟩=>⟨mk 172 [(1,(Qd1 p1)),(2,.ref 0 4 0 0),(5,.ref 1 3 0 0),(6,I y1),(7,I y37),(9,(.own 2 1 (0) ((p1.length:Int).toNat))),(11,(.own 3 1 (0) ((p1.length:Int).toNat)))],[(Qfm p0),Qfd,(Qh8 y38),(Qin y39)]⟩) (fun t h=>by rw [Qel] at h; cases h) (fun n43 ih t h=>?_) N (y4,y5,List.replicate (p1.length:Int).toNat false) h
     obtain ⟨y37,y38,y39⟩:=t
     rw [Qel] at h
     skip
     refine wsq<|wxz ?_
     refine bfe h (fun hc44 h=>?_) fun hc44 h=>?_
     ·refine wft hc44<|Qan<|thn<|Qaj<|wxz ?_
      obtain ⟨k46,hk_k46,h⟩:=jko h
      refine wjn (τ:=Int) (fun t=>k46 t=some r) (fun y45=>⟨mk 172 [(1,(Qd1 p1)),(2,.ref 0 4 0 0),(5,.ref 1 3 0 0),(6,I y1),(7,I y37),(9,(.own 2 1 (0) ((p1.length:Int).toNat))),(11,(.own 3 1 (0) ((p1.length:Int).toNat))),(12,I y45)],[(Qfm p0),Qfd,(Qh8 y38),(Qin y39)]⟩) (fun y45 h=>?_) ?_
      ·subst hk_k46
       obtain ⟨hi47,h⟩:=cko h
       obtain ⟨hi47a,hi47b⟩:=Qd0 hi47
       obtain ⟨x48,hg49,h⟩:=bno h
       refine wx tbk [(2,rb [(.tmp 102,(.own 3 1 (0) ((p1.length:Int).toNat))),(.tmp 103,I y45)] [(3,(Qin y39))] (.ref 3 1 (y45.toNat) 0)),(3,⟨[(.tmp 104,(.ref 3 1 (y45.toNat) 0)),cb true],[(3,(Qin y39))],.any,[(3,(.own 1 ((y39.set y45.toNat true:List Bool).map Qot)))],false⟩)] ⟨aio rfl Tryz.underlying185 ti4 (odt hi47a) (odt hi47b) (Nat.zero_add _),ast rfl ti4 (by rfl) (mgt Qot hg49) (nle rfl) (Qgv Qot rfl),tv⟩ ?_
       obtain ⟨hi50,h⟩:=cko h
       obtain ⟨hi50a,hi50b⟩:=Qd0 hi50
       obtain ⟨x51,hg52,h⟩:=bno h
       obtain ⟨hi53,h⟩:=cko h
       obtain ⟨hi53a,hi53b⟩:=Qd0 hi53
       obtain ⟨x54,hg55,h⟩:=bno h
       refine wx tbk [(2,rb [(.tmp 105,(.own 2 1 (0) ((p1.length:Int).toNat))),(.tmp 106,I y45)] [(2,(Qh8 y38))] (.ref 2 1 (y45.toNat) 0)),(3,rb [(.tmp 107,(.ref 2 1 (y45.toNat) 0))] [(2,(Qh8 y38))] (I x51)),(5,rb [(.tmp 105,(.own 2 1 (0) ((p1.length:Int).toNat))),(.tmp 106,I y45)] [(2,(Qh8 y38))] (.ref 2 1 (y45.toNat) 0)),(6,⟨[(.tmp 110,(.ref 2 1 (y45.toNat) 0)),(.tmp 109,(I (w64 (x51+1))))],[(2,(Qh8 y38))],.any,[(2,(.own 1 ((y38.set y45.toNat (w64 (x51+1)):List Int).map Qal)))],false⟩)] ⟨aio rfl Tryz.underlying27 ti3 (odt hi50a) (odt hi50b) (Nat.zero_add _),ald rfl ti3 (by decide) (mgt Qal hg52) (nle rfl) rfl,aio rfl Tryz.underlying27 ti3 (odt hi53a) (odt hi53b) (Nat.zero_add _),ast rfl ti3 (by rfl) (mgt Qal hg55) (nle rfl) (Qgv Qal rfl),tv⟩<|wxz1<|bln<|thn ?_
       exact arm (mto (n:=172) [(1,(Qd1 p1)),(2,.ref 0 4 0 0),(5,.ref 1 3 0 0),(6,I y1),(7,(I (w64 (y37 - 1)))),(9,(.own 2 1 (0) ((p1.length:Int).toNat))),(11,(.own 3 1 (0) ((p1.length:Int).toNat)))] [0,1,2,3] [(Qfm p0),Qfd,(.own 1 ((y38.set y45.toNat (w64 (x51+1)):List Int).map Qal)),(.own 1 ((y39.set y45.toNat true:List Bool).map Qot))] hφ0 (pc (rnd Qae) (prr (prr (pw (pw (pc (.rn (Qa3 rfl)) (pc (.rn (Qa3 rfl)) pn))))))) (qb (lcc (lcc ln)) (qb (lcc (lc rwl ln)) (qc (spr Qae) (qc (spr Qnq) qn))))) (ih (w64 (y37 - 1),y38.set y45.toNat (w64 (x51+1)),y39.set y45.toNat true) h)
      ·skip
       refine wxz<|Qaj ?_
       refine wmr (mto (n:=172) (l':=[(1,(Qd1 p1)),(2,.ref 0 4 0 0),(5,.ref 1 3 0 0),(6,I y1),(7,I y37),(9,(.own 2 1 (0) ((p1.length:Int).toNat))),(11,(.own 3 1 (0) ((p1.length:Int).toNat))),(12,(I ((-1)))),(13,I 0)]) (own':=[(Qfm p0),Qfd,(Qh8 y38),(Qin y39)]) [(1,(Qd1 p1)),(2,.ref 0 4 0 0),(5,.ref 1 3 0 0),(6,I y1),(7,I y37),(9,(.own 2 1 (0) ((p1.length:Int).toNat))),(11,(.own 3 1 (0) ((p1.length:Int).toNat))),(12,(I ((-1)))),(13,I 0)] [0,1,2,3] [(Qfm p0),Qfd,(Qh8 y38),(Qin y39)] hφ0 (pc (rnd Qae) (prr (prr (pw (pw (pc (.rn (Qa3 rfl)) (pc (.rn (Qa3 rfl)) (pw (pw pn))))))))) (qb (lcc (lcc ln)) (qb (lcc (lc rwl ln)) (qc (spr Qae) (qc (spr Qnq) qn))))) ?_
       refine Qbt (τ:=Int×Int) (fun n t=>Qcv N p0 p1 y1 y39 k46 n t.1 t.2=some r) (fun ⟨y56,y57⟩=>⟨mk 172 [(1,(Qd1 p1)),(2,.ref 0 4 0 0),(5,.ref 1 3 0 0),(6,I y1),(7,I y37),(9,(.own 2 1 (0) ((p1.length:Int).toNat))),(11,(.own 3 1 (0) ((p1.length:Int).toNat))),(12,I y56),(13,I y57)],[(Qfm p0),Qfd,(Qh8 y38),(Qin y39)]⟩) (fun t h=>by rw [Qcv] at h; cases h) (fun n60 ih t h=>?_) N ((-1),0) h
       obtain ⟨y56,y57⟩:=t
       rw [Qcv] at h
       skip
       refine wsq<|wx tbk [(2,rp [(.tmp 66,(Qd1 p1))] (I ((p1.length:Int))))] ⟨alm (c:=Qal) (l:=p1) (aln rfl Tryz.underlying27 rfl),tv⟩ ?_
       refine bfe h (fun hc61 h=>?_) fun hc61 h=>?_
       ·refine wft hc61<|Qan<|thn<|wsq<|Qaj ?_
        obtain ⟨hi62,h⟩:=cko h
        obtain ⟨hi62a,hi62b⟩:=Qd0 hi62
        obtain ⟨x63,hg64,h⟩:=bno h
        refine hpre (A:=(Qxq p1 y57 y39 x63)) ⟨aio rfl Tryz.underlying185 ti4 (odt hi62a) (odt hi62b) (Nat.zero_add _),ald rfl ti4 (by decide) (mgt Qot hg64) (nle rfl) rfl,tv⟩ fun q1_=>?_
        refine bfe h (fun hb65 h=>?_) fun hb65 h=>?_
        ·refine bfe h (fun hb66 h=>?_) fun hb66 h=>?_
         ·exact wxd tbk (hcat (Qxq p1 y57 y39 x63) [(5,rp [(.tmp 75,(B ((!x63))))] (B true)),(8,rp [(.tmp 76,B true),(.tmp 78,(B ((decide (y56<0)))))] (B true))]) (hap q1_ ⟨asb hb65 (amv rfl),asb hb66 (ag_ (amv rfl)),tv⟩)<|wtr<|wxz1<|bln<|thn<|wxz1<|thn<|arm (mto (n:=172) [(1,(Qd1 p1)),(2,.ref 0 4 0 0),(5,.ref 1 3 0 0),(6,I y1),(7,I y37),(9,(.own 2 1 (0) ((p1.length:Int).toNat))),(11,(.own 3 1 (0) ((p1.length:Int).toNat))),(12,I y57),(13,(I (w64 (y57+1))))] [0,1,2,3] [(Qfm p0),Qfd,(Qh8 y38),(Qin y39)] hφ0 (pc (rnd Qae) (prr (prr (pw (pw (pc (.rn (Qa3 rfl)) (pc (.rn (Qa3 rfl)) (pw (pw pn))))))))) (qb (lcc (lcc ln)) (qb (lcc (lc rwl ln)) (qc (spr Qae) (qc (spr Qnq) qn))))) (ih (y57,w64 (y57+1)) h)
         ·obtain ⟨x67,hg68,h⟩:=bno h
          obtain ⟨hi69,hj70⟩:=gsm hg68
          obtain ⟨hz71,h⟩:=cko h
          obtain ⟨x72,hg73,h⟩:=bno h
          obtain ⟨hi74,hj75⟩:=gsm hg73
          obtain ⟨hz76,h⟩:=cko h
          refine wxd tbk (hcat (Qxq p1 y57 y39 x63) [(5,rp [(.tmp 75,(B ((!x63))))] (B true)),(8,rp [(.tmp 76,B true),(.tmp 78,(B ((decide (y56<0)))))] (B false)),(13,rp [(.tmp 79,B false),(.tmp 82,(Qd1 p1)),(.tmp 83,I y57)] (.dptr (Qal (x67)) 0)),(17,rp [(.tmp 79,B false),(.tmp 86,(I (w64 (p0.Mass * x67)))),(.tmp 87,I y1)] (I ((w64 (p0.Mass * x67)).tmod y1))),(22,rp [(.tmp 79,B false),(.tmp 91,(Qd1 p1)),(.tmp 92,I y56)] (.dptr (Qal (x72)) 0)),(26,rp [(.tmp 79,B false),(.tmp 95,(I (w64 (p0.Mass * x72)))),(.tmp 96,I y1)] (I ((w64 (p0.Mass * x72)).tmod y1)))]) (hap q1_ ⟨asb hb65 (amv rfl),asb hb66 (ag_ (amv rfl)),ag_ (aid rfl Tryz.underlying27 ti3 rfl rfl hi69 (mgt Qal hj70) rfl),ag_ (Qux rfl (Qlf hz71)),ag_ (aid rfl Tryz.underlying27 ti3 rfl rfl hi74 (mgt Qal hj75) rfl),ag_ (Qux rfl (Qlf hz76)),tv⟩) ?_
          refine bfe h (fun hc77 h=>?_) fun hc77 h=>?_
          ·exact wft hc77<|wxz1<|bln<|thn<|wxz1<|thn<|arm (mto (n:=172) [(1,(Qd1 p1)),(2,.ref 0 4 0 0),(5,.ref 1 3 0 0),(6,I y1),(7,I y37),(9,(.own 2 1 (0) ((p1.length:Int).toNat))),(11,(.own 3 1 (0) ((p1.length:Int).toNat))),(12,I y57),(13,(I (w64 (y57+1))))] [0,1,2,3] [(Qfm p0),Qfd,(Qh8 y38),(Qin y39)] hφ0 (pc (rnd Qae) (prr (prr (pw (pw (pc (.rn (Qa3 rfl)) (pc (.rn (Qa3 rfl)) (pw (pw pn))))))))) (qb (lcc (lcc ln)) (qb (lcc (lc rwl ln)) (qc (spr Qae) (qc (spr Qnq) qn))))) (ih (y57,w64 (y57+1)) h)
          ·exact wfn hc77<|Qan<|bln<|thn<|wxz1<|thn<|arm (mto (n:=172) [(1,(Qd1 p1)),(2,.ref 0 4 0 0),(5,.ref 1 3 0 0),(6,I y1),(7,I y37),(9,(.own 2 1 (0) ((p1.length:Int).toNat))),(11,(.own 3 1 (0) ((p1.length:Int).toNat))),(12,I y56),(13,(I (w64 (y57+1))))] [0,1,2,3] [(Qfm p0),Qfd,(Qh8 y38),(Qin y39)] hφ0 (pc (rnd Qae) (prr (prr (pw (pw (pc (.rn (Qa3 rfl)) (pc (.rn (Qa3 rfl)) (pw (pw pn))))))))) (qb (lcc (lcc ln)) (qb (lcc (lc rwl ln)) (qc (spr Qae) (qc (spr Qnq) qn))))) (ih (y56,w64 (y57+1)) h)
        ·exact wxd tbk (hcat (Qxq p1 y57 y39 x63) [(5,rp [(.tmp 75,(B ((!x63))))] (B false))]) (hap q1_ ⟨asb hb65 (amv rfl),tv⟩)<|wfa<|Qan<|bln<|thn<|wxz1<|thn<|arm (mto (n:=172) [(1,(Qd1 p1)),(2,.ref 0 4 0 0),(5,.ref 1 3 0 0),(6,I y1),(7,I y37),(9,(.own 2 1 (0) ((p1.length:Int).toNat))),(11,(.own 3 1 (0) ((p1.length:Int).toNat))),(12,I y56),(13,(I (w64 (y57+1))))] [0,1,2,3] [(Qfm p0),Qfd,(Qh8 y38),(Qin y39)] hφ0 (pc (rnd Qae) (prr (prr (pw (pw (pc (.rn (Qa3 rfl)) (pc (.rn (Qa3 rfl)) (pw (pw pn))))))))) (qb (lcc (lcc ln)) (qb (lcc (lc rwl ln)) (qc (spr Qae) (qc (spr Qnq) qn))))) (ih (y56,w64 (y57+1)) h)
       ·exact wfn hc61<|Qbd<|Qax<|Qax<|Qbc rfl<|thn<|⟨(y56),h,(mto (n:=172) [(1,(Qd1 p1)),(2,.ref 0 4 0 0),(5,.ref 1 3 0 0),(6,I y1),(7,I y37),(9,(.own 2 1 (0) ((p1.length:Int).toNat))),(11,(.own 3 1 (0) ((p1.length:Int).toNat))),(12,I y56)] [0,1,2,3] [(Qfm p0),Qfd,(Qh8 y38),(Qin y39)] hφ0 (pc (rnd Qae) (prr (prr (pw (pw (pc (.rn (Qa3 rfl)) (pc (.rn (Qa3 rfl)) (pw pn)))))))) (qb (lcc (lcc ln)) (qb (lcc (lc rwl ln)) (qc (spr Qae) (qc (spr Qnq) qn)))))⟩
     ·exact wfn hc44<|Qbd<|Qax<|Qax<|Qbc rfl<|thn<|⟨(y38),h,(mto (n:=172) [(1,(Qd1 p1)),(2,.ref 0 4 0 0),(5,.ref 1 3 0 0),(9,(.own 2 1 (0) ((p1.length:Int).toNat)))] [0,1,2] [(Qfm p0),Qfd,(Qh8 y38)] hφ0 (pc (rnd Qae) (prr (prr (pc (.rn (Qa3 rfl)) pn)))) (qb (lcc (lcc ln)) (qb (lcc (lc rwl ln)) (qc (spr Qae) qn))))⟩
   ·skip
    refine wxz<|Qaj ?_
    refine wmr (mto (n:=172) (l':=[(1,(Qd1 p1)),(2,.ref 0 4 0 0),(5,.ref 1 3 0 0),(6,I y1),(7,I p0.Mass),(9,(.own 2 1 (0) ((p1.length:Int).toNat))),(10,I 0)]) (own':=[(Qfm p0),Qfd,(.own 1 (((List.replicate (p1.length:Int).toNat 0):List Int).map Qal))]) [(1,(Qd1 p1)),(2,.ref 0 4 0 0),(5,.ref 1 3 0 0),(6,I y1),(7,I p0.Mass),(9,(.own 2 1 (0) ((p1.length:Int).toNat))),(10,I 0)] [0,1,2] [(Qfm p0),Qfd,(Zjp p1)] hφ0 (pc (rnd Qae) (prr (prr (pw (pw (pc (.rn (Qa3 rfl)) (pw pn))))))) (qb (lcc (lcc ln)) (qb (lcc (lc rwl ln)) (qc (spr Qae) qn)))) ?_
    refine Qbt (τ:=Int×Int×(List Int)) (fun n t=>Qek N p0 p1 y1 k6 n t.1 t.2.1 t.2.2=some r) (fun ⟨y78,y79,y80⟩=>⟨mk 172 [(1,(Qd1 p1)),(2,.ref 0 4 0 0),(5,.ref 1 3 0 0),(6,I y1),(7,I y78),(9,(.own 2 1 (0) ((p1.length:Int).toNat))),(10,I y79)],[(Qfm p0),Qfd,(Qxs y80)]⟩) (fun t h=>by rw [Qek] at h; cases h) (fun n84 ih t h=>?_) N (p0.Mass,0,List.replicate (p1.length:Int).toNat 0) h
    obtain ⟨y78,y79,y80⟩:=t
    rw [Qek] at h
    skip
    refine wsq<|wx tbk [(2,rp [(.tmp 37,(Qd1 p1))] (I ((p1.length:Int))))] ⟨alm (c:=Qal) (l:=p1) (aln rfl Tryz.underlying27 rfl),tv⟩ ?_
    refine bfe h (fun hc85 h=>?_) fun hc85 h=>?_
    ·refine wft hc85<|Qan<|thn<|wsq<|Qaj ?_
     obtain ⟨x86,hg87,h⟩:=bno h
     obtain ⟨hi88,hj89⟩:=gsm hg87
     obtain ⟨hz90,h⟩:=cko h
     obtain ⟨hi91,h⟩:=cko h
     obtain ⟨hi91a,hi91b⟩:=Qd0 hi91
     obtain ⟨x92,hg93,h⟩:=bno h
     refine wxd tbk [(6,rp [(.tmp 46,(Qd1 p1)),(.tmp 47,I y79)] (.dptr (Qal (x86)) 0)),(10,rp [(.tmp 50,(I (w64 (p0.Mass * x86)))),(.tmp 51,I y1)] (I (w64 ((w64 (p0.Mass * x86)).tdiv y1)))),(11,rb [(.tmp 42,(.own 2 1 (0) ((p1.length:Int).toNat))),(.tmp 43,I y79)] [(2,(Qxs y80))] (.ref 2 1 (y79.toNat) 0)),(12,⟨[(.tmp 53,(.ref 2 1 (y79.toNat) 0)),(.tmp 52,(I (w64 ((w64 (p0.Mass * x86)).tdiv y1))))],[(2,(Qxs y80))],.any,[(2,(Qxr y80 y79 p0 x86 y1))],false⟩)] ⟨aid rfl Tryz.underlying27 ti3 rfl rfl hi88 (mgt Qal hj89) rfl,Qkd rfl (Qlf hz90),aio rfl Tryz.underlying27 ti3 (odt hi91a) (odt hi91b) (Nat.zero_add _),ast rfl ti3 (by rfl) (mgt Qal hg93) (nle rfl) (Qgv Qal rfl),tv⟩ ?_
     obtain ⟨hi94,h⟩:=cko h
     obtain ⟨hi94a,hi94b⟩:=Qd0 hi94
     obtain ⟨x95,hg96,h⟩:=bno h
     refine wx1 tbk [(3,rb [(.tmp 55,(.own 2 1 (0) ((p1.length:Int).toNat))),(.tmp 56,I y79)] [(2,(Qxr y80 y79 p0 x86 y1))] (.ref 2 1 (y79.toNat) 0)),(4,rb [(.tmp 57,(.ref 2 1 (y79.toNat) 0))] [(2,(Qxr y80 y79 p0 x86 y1))] (I x95))] ⟨aio rfl Tryz.underlying27 ti3 (odt hi94a) (odt hi94b) (Nat.zero_add _),ald rfl ti3 (by decide) (mgt Qal hg96) (nle rfl) rfl,tv⟩<|bln<|thn<|wxz1<|thn ?_
     exact arm (mto (n:=172) [(1,(Qd1 p1)),(2,.ref 0 4 0 0),(5,.ref 1 3 0 0),(6,I y1),(7,(I (w64 (y78 - x95)))),(9,(.own 2 1 (0) ((p1.length:Int).toNat))),(10,(I (w64 (y79+1))))] [0,1,2] [(Qfm p0),Qfd,(Qxr y80 y79 p0 x86 y1)] hφ0 (pc (rnd Qae) (prr (prr (pw (pw (pc (.rn (Qa3 rfl)) (pw pn))))))) (qb (lcc (lcc ln)) (qb (lcc (lc rwl ln)) (qc (spr Qae) qn)))) (ih (w64 (y78 - x95),w64 (y79+1),y80.set y79.toNat (w64 ((w64 (p0.Mass * x86)).tdiv y1))) h)
    ·exact wfn hc85<|Qbd<|Qax<|Qax<|Qbc rfl<|thn<|⟨(y78,y80),h,(mto (n:=172) [(1,(Qd1 p1)),(2,.ref 0 4 0 0),(5,.ref 1 3 0 0),(6,I y1),(7,I y78),(9,(.own 2 1 (0) ((p1.length:Int).toNat)))] [0,1,2] [(Qfm p0),Qfd,(Qxs y80)] hφ0 (pc (rnd Qae) (prr (prr (pw (pw (pc (.rn (Qa3 rfl)) pn)))))) (qb (lcc (lcc ln)) (qb (lcc (lc rwl ln)) (qc (spr Qae) qn))))⟩
  ·skip
   refine wxz<|Qaj ?_
   refine wmr (mto (n:=172) (l':=[(1,(Qd1 p1)),(2,.ref 0 4 0 0),(5,.ref 1 3 0 0),(6,I 0),(7,I p0.Mass),(8,I 0)]) (own':=[(Qfm p0),Qfd]) [(1,(Qd1 p1)),(2,.ref 0 4 0 0),(5,.ref 1 3 0 0),(6,I 0),(7,I p0.Mass),(8,I 0)] [0,1] [(Qfm p0),Qfd] hφ0 (pc (rnd Qae) (prr (prr (pw (pw (pw pn)))))) (qb (lcc (lcc ln)) (qb (lcc (lc rwl ln)) qn))) ?_
   refine Qbt (τ:=Int×Int) (fun n t=>Qej N p1 k2 n t.1 t.2=some r) (fun ⟨y97,y98⟩=>⟨mk 172 [(1,(Qd1 p1)),(2,.ref 0 4 0 0),(5,.ref 1 3 0 0),(6,I y97),(7,I p0.Mass),(8,I y98)],[(Qfm p0),Qfd]⟩) (fun t h=>by rw [Qej] at h; cases h) (fun n101 ih t h=>?_) N (0,0) h
   obtain ⟨y97,y98⟩:=t
   rw [Qej] at h
   skip
   refine wsq<|wx tbk [(2,rp [(.tmp 22,(Qd1 p1))] (I ((p1.length:Int))))] ⟨alm (c:=Qal) (l:=p1) (aln rfl Tryz.underlying27 rfl),tv⟩ ?_
   refine bfe h (fun hc102 h=>?_) fun hc102 h=>?_
   ·refine wft hc102<|Qan<|thn<|wsq<|Qaj ?_
    obtain ⟨x103,hg104,h⟩:=bno h
    obtain ⟨hi105,hj106⟩:=gsm hg104
    exact wx1 tbk [(3,rp [(.tmp 28,(Qd1 p1)),(.tmp 29,I y98)] (.dptr (Qal (x103)) 0))] ⟨aid rfl Tryz.underlying27 ti3 rfl rfl hi105 (mgt Qal hj106) rfl,tv⟩<|bln<|thn<|wxz1<|thn<|arm (mto (n:=172) [(1,(Qd1 p1)),(2,.ref 0 4 0 0),(5,.ref 1 3 0 0),(6,(I (w64 (y97+x103)))),(7,I p0.Mass),(8,(I (w64 (y98+1))))] [0,1] [(Qfm p0),Qfd] hφ0 (pc (rnd Qae) (prr (prr (pw (pw (pw pn)))))) (qb (lcc (lcc ln)) (qb (lcc (lc rwl ln)) qn))) (ih (w64 (y97+x103),w64 (y98+1)) h)
   ·exact wfn hc102<|Qbd<|Qax<|Qax<|Qbc rfl<|thn<|⟨(y97),h,(mto (n:=172) [(1,(Qd1 p1)),(2,.ref 0 4 0 0),(5,.ref 1 3 0 0),(6,I y97),(7,I p0.Mass)] [0,1] [(Qfm p0),Qfd] hφ0 (pc (rnd Qae) (prr (prr (pw (pw pn))))) (qb (lcc (lcc ln)) (qb (lcc (lc rwl ln)) qn)))⟩
def Qdk (N:Nat) (p0:(List GStream)) (k1:Unit→Option Bool):Nat→Int→Option Bool
  | 0,_=>none
  | n4+1,y2=>
    bif (decide (y2<(p0.length:Int))) then
     (getI p0 y2).bind fun x6=>
     (Qgf N x6).bind fun x11=>
     bif (!x11) then
      some false
     else
      Qdk N p0 k1 n4 (w64 (y2+1))
    else
     k1 ()
def Qh4 (N:Nat) (p0:(List GStream)):Option Bool:=
  Qbb (fun _=>
    some true) fun k1:Unit→Option Bool=>
  Qdk N p0 k1 N 0
def Qvq (p0:(List GStream)):AV:=.dat 4 ((p0:List GStream).map Qaa)
def Zpj (x6:GStream):AV:=.agg [(I (x6.Mass)),(I (x6.Heat)),(I (x6.Silica)),(I (x6.Gas))]
theorem Qq9 (N:Nat) (p0:(List GStream)) (r:Bool) (h:Qh4 N p0=some r):Spec Tryz.prog 98 [(.dat 4 (p0.map Qaa))] [] (B r) []:=by
  refine Qah Tryz.func98 rfl 0 (nle rfl) (fun X φ0 w0 hφ0 hd0=>?_)
  unfold Qh4 at h
  refine wxz ?_
  obtain ⟨k1,hk_k1,h⟩:=jko h
  refine wjn (τ:=Unit) (fun t=>k1 t=some r) (fun _=>⟨mk 16 [],[]⟩) (fun t h=>?_) ?_
  ·subst hk_k1
   exact wxz<|Qaf<|frb h
  ·skip
   refine wxz<|Qaj ?_
   refine wmr (mto (n:=16) (l':=[(0,(Qvq p0)),(3,I 0)]) (own':=[]) [(0,(Qvq p0)),(3,I 0)] [] [] hφ0 (pc (rnd Qac) (pw pn)) qn) ?_
   refine Qbt (τ:=Int) (fun n t=>Qdk N p0 k1 n t=some r) (fun y2=>⟨mk 16 [(0,(Qvq p0)),(3,I y2)],[]⟩) (fun t h=>by rw [Qdk] at h; cases h) (fun n4 ih y2 h=>?_) N (0) h
   rw [Qdk] at h
   skip
   refine wsq<|wx tbk [(2,rp [(.tmp 5,(Qvq p0))] (I ((p0.length:Int))))] ⟨alm (c:=Qaa) (l:=p0) (aln rfl Tryz.underlying28 rfl),tv⟩ ?_
   refine bfe h (fun hc5 h=>?_) fun hc5 h=>?_
   ·refine wft hc5<|Qan<|thn<|wsq<|Qaj ?_
    obtain ⟨x6,hg7,h⟩:=bno h
    obtain ⟨hi8,hj9⟩:=gsm hg7
    obtain ⟨x11,hf10,h⟩:=bno h
    refine wx tbk [(2,rp [(.tmp 10,(Qvq p0)),(.tmp 11,I y2)] (.dptr (Qaa (x6)) 0)),(4,rp [fu 121,(.tmp 13,(Zpj x6))] (B x11))] ⟨aid rfl Tryz.underlying28 ti89 rfl rfl hi8 (mgt Qaa hj9) rfl,apv Zhy (Qnn N x6 _ hf10) (nlc (NLt.agg _ (nlcc (nlcc nl0))) nl0) nll,tv⟩ ?_
    refine bfe h (fun hc12 h=>?_) fun hc12 h=>?_
    ·exact wft hc12<|wxz<|Qaf<|Qaq<|Qag<|Qag<|Qaq<|Qag<|frb h
    ·exact wfn hc12<|Qan<|bln<|thn<|wxz1<|thn<|arm (mto (n:=16) [(0,(Qvq p0)),(3,(I (w64 (y2+1))))] [] [] hφ0 (pc (rnd Qac) (pw pn)) qn) (ih (w64 (y2+1)) h)
   ·exact wfn hc5<|Qbd<|Qax<|Qax<|Qbc rfl<|thn<|⟨(),h,(mto (n:=16) [] [] [] hφ0 pn qn)⟩
def Qdo (N:Nat) (p0:GNet) (p1:Int) (k2:Int→Option Int):Nat→Int→Int→Option Int
  | 0,_,_=>none
  | n7+1,y3,y4=>
    bif (decide (y4<(p0.Elements.length:Int))) then
     (getI p0.Elements y4).bind fun x9=>
     bif (x9.Kind==p1) then
      Qdo N p0 p1 k2 n7 (w64 (y3+1)) (w64 (y4+1))
     else
      Qdo N p0 p1 k2 n7 y3 (w64 (y4+1))
    else
     k2 (y3)
def Qj6 (N:Nat) (p0:GNet) (p1:Int):Option Int:=
  Qbb (fun y1=>
    some y1) fun k2:Int→Option Int=>
  Qdo N p0 p1 k2 N 0 0
def Zbi (p0:GNet):AV:=.dat 7 ((p0.Elements:List GElement).map Qad)
def Qzv (p0:GNet):Slot:=.own 2 [[(.dat 5 ((p0.Table:List GRow).map Qa4)),(Zbi p0)]]
theorem Qtq (N:Nat) (p0:GNet) (p1:Int) (r:Int) (h:Qj6 N p0 p1=some r):Spec Tryz.prog 29 [(.agg (Qhz p0)),(K .u8 p1)] [] (I r) []:=by
  refine Qah Tryz.func29 rfl 0 (nle rfl) (fun X φ0 w0 hφ0 hd0=>?_)
  unfold Qj6 at h
  refine wxz<|wxz ?_
  obtain ⟨k2,hk_k2,h⟩:=jko h
  refine wjn (τ:=Int) (fun t=>k2 t=some r) (fun y1=>⟨mk 25 [(5,I y1)],[]⟩) (fun y1 h=>?_) ?_
  ·subst hk_k2
   refine wxz<|Qaf ?_
   obtain rfl:=osi h
   exact fend ⟨[I y1],⟨rot,tv⟩,rfl⟩ nll
  ·skip
   refine wxz<|Qaj ?_
   refine wmr (mto (n:=25) (l':=[(1,(K .u8 (p1))),(2,.ref 0 2 0 0),(5,I 0),(6,I 0)]) (own':=[(Qzv p0)]) [(1,(K .u8 (p1))),(2,.ref 0 2 0 0),(5,I 0),(6,I 0)] [0] [(Qzv p0)] hφ0 (pw (prr (pw (pw pn)))) (qb (lc (rnd Qai) (lc (rnd Qab) ln)) qn)) ?_
   refine Qbt (τ:=Int×Int) (fun n t=>Qdo N p0 p1 k2 n t.1 t.2=some r) (fun ⟨y3,y4⟩=>⟨mk 25 [(1,(K .u8 (p1))),(2,.ref 0 2 0 0),(5,I y3),(6,I y4)],[(Qzv p0)]⟩) (fun t h=>by rw [Qdo] at h; cases h) (fun n7 ih t h=>?_) N (0,0) h
   obtain ⟨y3,y4⟩:=t
   rw [Qdo] at h
   skip
   refine wsq<|wx tbk [(3,rp [(.tmp 9,(Zbi p0))] (I ((p0.Elements.length:Int))))] ⟨alm (c:=Qad) (l:=p0.Elements) (aln rfl Tryz.underlying24 rfl),tv⟩ ?_
   refine bfe h (fun hc8 h=>?_) fun hc8 h=>?_
   ·refine wft hc8<|Qan<|thn<|wsq<|Qaj ?_
    obtain ⟨x9,hg10,h⟩:=bno h
    obtain ⟨hi11,hj12⟩:=gsm hg10
    refine wx tbk [(3,rp [(.tmp 15,(Zbi p0)),(.tmp 16,I y4)] (.dptr (Qad (x9)) 0))] ⟨aid rfl Tryz.underlying24 ti59 rfl rfl hi11 (mgt Qad hj12) rfl,tv⟩ ?_
    refine bfe h (fun hc13 h=>?_) fun hc13 h=>?_
    ·exact wft hc13<|wxz1<|bln<|thn<|wxz1<|thn<|arm (mto (n:=25) [(1,(K .u8 (p1))),(2,.ref 0 2 0 0),(5,(I (w64 (y3+1)))),(6,(I (w64 (y4+1))))] [0] [(Qzv p0)] hφ0 (pw (prr (pw (pw pn)))) (qb (lc (rnd Qai) (lc (rnd Qab) ln)) qn)) (ih (w64 (y3+1),w64 (y4+1)) h)
    ·exact wfn hc13<|Qan<|bln<|thn<|wxz1<|thn<|arm (mto (n:=25) [(1,(K .u8 (p1))),(2,.ref 0 2 0 0),(5,I y3),(6,(I (w64 (y4+1))))] [0] [(Qzv p0)] hφ0 (pw (prr (pw (pw pn)))) (qb (lc (rnd Qai) (lc (rnd Qab) ln)) qn)) (ih (y3,w64 (y4+1)) h)
   ·exact wfn hc8<|Qbd<|Qax<|Qax<|Qbc rfl<|thn<|⟨(y3),h,(mto (n:=25) [(5,I y3)] [] [] hφ0 (pw pn) qn)⟩
def Qhc (N:Nat) (p0:GNet) (p1:(List GStream)):Option Int:=
  Qbb (fun _=>
    (Qgx N p1).bind fun x3=>
    bif (decide (x3.Mass>1000000)) then
     some 3
    else
     bif (decide (x3.Gas>1000000000)) then
      some 3
     else
      some 0) fun k1:Unit→Option Int=>
  (Qj6 N p0 1).bind fun x7=>
  bif ((p1.length:Int) != x7) then
   some 1
  else
   (Qh4 N p1).bind fun x10=>
   bif (!x10) then
    some 1
   else
    k1 ()
def Qzu (p1:(List GStream)):AV:=.dat 4 ((p1:List GStream).map Qaa)
def Zpi (p0:GNet):AV:=.dat 5 ((p0.Table:List GRow).map Qa4)
def Zph (p0:GNet):AV:=.dat 7 ((p0.Elements:List GElement).map Qad)
def Zbh (p1:(List GStream)) (p0:GNet) (x7:Int):List (Nat×Rec):=[(1,rp [((.tmp 6),(Qzu p1))] (I ((p1.length:Int)))),(3,rp [fu 29,((.tmp 8),(.agg [(Zpi p0),(Zph p0)])),((.const (.int .u8 1)),(K .u8 (1)))] (I (x7)))]
theorem Qo6 (N:Nat) (p0:GNet) (p1:(List GStream)) (r:Int) (h:Qhc N p0 p1=some r):Spec Tryz.prog 61 [(.agg (Qhz p0)),(.dat 4 (p1.map Qaa))] [] (I r) []:=by
  refine Qah Tryz.func61 rfl 0 (nle rfl) (fun X φ0 w0 hφ0 hd0=>?_)
  unfold Qhc at h
  refine wxz ?_
  obtain ⟨k1,hk_k1,h⟩:=jko h
  refine wjn (τ:=Unit) (fun t=>k1 t=some r) (fun _=>⟨mk 26 [(1,(Qzu p1))],[]⟩) (fun t h=>?_) ?_
  ·subst hk_k1
   obtain ⟨x3,hf2,h⟩:=bno h
   refine wx tbk [(1,rp [fu 38,(.tmp 16,(Qzu p1))] (.agg [I x3.Mass,I x3.Heat,I x3.Silica,I x3.Gas]))] ⟨apv Qul (Qix N p1 _ hf2) (nlc (nld Qac _) nl0) (NLt.agg _ (nlcc (nlcc nl0))),tv⟩<|wsq ?_
   refine bfe h (fun hb4 h=>?_) fun hb4 h=>?_
   ·refine wx tbk [(3,rp [(.tmp 20,(B ((decide (x3.Mass>1000000)))))] (B true))] ⟨asb hb4 (amv rfl),tv⟩<|wtr<|wxz<|Qaf<|Qag ?_
    obtain rfl:=osi h
    exact fend ⟨[I 3],⟨rot,tv⟩,rfl⟩ nll
   ·refine wx tbk [(3,rp [(.tmp 20,(B ((decide (x3.Mass>1000000)))))] (B false))] ⟨asb hb4 (amv rfl),tv⟩ ?_
    refine bfe h (fun hc5 h=>?_) fun hc5 h=>?_
    ·refine wft hc5<|wxz<|Qaf<|Qag ?_
     obtain rfl:=osi h
     exact fend ⟨[I 3],⟨rot,tv⟩,rfl⟩ nll
    ·refine wfn hc5<|Qan<|thn<|wxz<|Qaf ?_
     obtain rfl:=osi h
     exact fend ⟨[I 0],⟨rot,tv⟩,rfl⟩ nll
  ·skip
   obtain ⟨x7,hf6,h⟩:=bno h
   refine hpre (A:=(Zbh p1 p0 x7)) ⟨alm (c:=Qaa) (l:=p1) (aln rfl Tryz.underlying28 rfl),apv Zny (Qtq N p0 1 _ hf6) (nlc (NLt.agg _ (nlc (nld Qai _) (nlc (nld Qab _) nl0))) (nlc nll nl0)) nll,tv⟩ fun q1_=>?_
   refine bfe h (fun hb8 h=>?_) fun hb8 h=>?_
   ·refine wx tbk (hcat (Zbh p1 p0 x7) [(5,rp [(.tmp 10,(B (((p1.length:Int) != x7))))] (B true))]) (hap q1_ ⟨asb hb8 (amv rfl),tv⟩)<|wtr<|wxz<|Qaf<|Qag ?_
    obtain rfl:=osi h
    exact fend ⟨[I 1],⟨rot,tv⟩,rfl⟩ nll
   ·obtain ⟨x10,hf9,h⟩:=bno h
    refine wx tbk (hcat (Zbh p1 p0 x7) [(5,rp [(.tmp 10,(B (((p1.length:Int) != x7))))] (B false)),(7,rp [(.tmp 11,B false),fu 98,(.tmp 12,(Qzu p1))] (B x10))]) (hap q1_ ⟨asb hb8 (amv rfl),ag_ (apv Zne (Qq9 N p1 _ hf9) (nlc (nld Qac _) nl0) nll),tv⟩) ?_
    refine bfe h (fun hc11 h=>?_) fun hc11 h=>?_
    ·refine wft hc11<|wxz<|Qaf<|Qag ?_
     obtain rfl:=osi h
     exact fend ⟨[I 1],⟨rot,tv⟩,rfl⟩ nll
    ·exact wfn hc11<|Qan<|thn<|⟨(),h,(mto (n:=26) [(1,(Qzu p1))] [] [] hφ0 (pc (rnd Qac) pn) qn)⟩
def Qka (N:Nat) (p0:GNet) (p1:(List Int)) (p2:(List GStream)):Option Int:=
  (Qj5 N p0).bind fun x2=>
  bif (!x2) then
   some 1
  else
   (Qgw N p0 p1).bind fun x5=>
   bif (!x5) then
    some 1
   else
    (Qhc N p0 p2).bind fun x8=>
    some x8
def Zpg (p0:GNet):AV:=.dat 7 ((p0.Elements:List GElement).map Qad)
def Zbg (p0:GNet):AV:=.agg [(.dat 5 ((p0.Table:List GRow).map Qa4)),(Zpg p0)]
def Zbf (p0:GNet) (x2:Bool):List (Nat×Rec):=[(1,rp [fu 28,((.tmp 7),(Zbg p0))] (B (x2)))]
theorem Qua (N:Nat) (p0:GNet) (p1:(List Int)) (p2:(List GStream)) (r:Int) (h:Qka N p0 p1 p2=some r):Spec Tryz.prog 20 [(.agg (Qhz p0)),(.dat 1 (p1.map Qal)),(.dat 4 (p2.map Qaa))] [] (I r) []:=by
  refine Qah Tryz.func20 rfl 0 (nle rfl) (fun X φ0 w0 hφ0 hd0=>?_)
  unfold Qka at h
  refine wxz<|wsq ?_
  obtain ⟨x2,hf1,h⟩:=bno h
  refine hpre (A:=(Zbf p0 x2)) ⟨apv Znz (Qtp N p0 _ hf1) (nlc (NLt.agg _ (nlc (nld Qai _) (nlc (nld Qab _) nl0))) nl0) nll,tv⟩ fun q1_=>?_
  refine bfe h (fun hb3 h=>?_) fun hb3 h=>?_
  ·refine wx tbk (hcat (Zbf p0 x2) [(3,rp [(.tmp 9,(B ((!x2))))] (B true))]) (hap q1_ ⟨asb hb3 (amv rfl),tv⟩)<|wtr<|wxz<|Qaf<|Qag ?_
   obtain rfl:=osi h
   exact fend ⟨[I 1],⟨rot,tv⟩,rfl⟩ nll
  ·obtain ⟨x5,hf4,h⟩:=bno h
   refine wx tbk (hcat (Zbf p0 x2) [(3,rp [(.tmp 9,(B ((!x2))))] (B false)),(6,rp [(.tmp 10,B false),fu 33,(.tmp 11,(Zbg p0)),(.tmp 12,(.dat 1 ((p1:List Int).map Qal)))] (B x5))]) (hap q1_ ⟨asb hb3 (amv rfl),ag_ (apv Znx (Qof N p0 p1 _ hf4) (nlc (NLt.agg _ (nlc (nld Qai _) (nlc (nld Qab _) nl0))) (nlc (nld Qae _) nl0)) nll),tv⟩) ?_
   refine bfe h (fun hc6 h=>?_) fun hc6 h=>?_
   ·refine wft hc6<|wxz<|Qaf<|Qag ?_
    obtain rfl:=osi h
    exact fend ⟨[I 1],⟨rot,tv⟩,rfl⟩ nll
   ·refine wfn hc6<|Qan<|thn ?_
    obtain ⟨x8,hf7,h⟩:=bno h
    refine wx tbk [(2,rp [fu 61,(.tmp 16,(Zbg p0)),(.tmp 17,(.dat 4 ((p2:List GStream).map Qaa)))] (I x8))] ⟨apv Zno (Qo6 N p0 p2 _ hf7) (nlc (NLt.agg _ (nlc (nld Qai _) (nlc (nld Qab _) nl0))) (nlc (nld Qac _) nl0)) nll,tv⟩<|Qaf ?_
    obtain rfl:=osi h
    exact fend ⟨[I x8],⟨rot,tv⟩,rfl⟩ nll
def Qfr (N:Nat) (x26:GElement) (k40:(List GStream)×(List (List GStream))×(List GLost)×(List Int)→Option (GTick×Int×Int)):Nat→(List GStream)→Int→(List (List GStream))→(List GLost)→(List Int)→Option (GTick×Int×Int)
  | 0,_,_,_,_,_=>none
  | n129+1,y119,y120,y121,y122,y123=>
    bif (decide (y120<(x26.From.length:Int))) then
     chk (decide ((([]:List GStream).length+y119.length) * 32≤140737488355328))<|
     (getI x26.From y120).bind fun x132=>
     (getI y121 x132.Element).bind fun x136=>
     (getI x136 x132.Outlet).bind fun x140=>
     chk (decide (1≤([x140]).length))<|
     chk (decide (((([]:List GStream)++y119).length+(([x140]).take 1).length) * 32≤140737488355328))<|
     Qfr N x26 k40 n129 ((([]:List GStream)++y119)++(([x140]).take 1)) (w64 (y120+1)) y121 y122 y123
    else
     k40 (y119,y121,y122,y123)
def Qfs (N:Nat) (p0:GNet) (p1:(List Int)) (p2:(List GStream)) (k5:Int×(List (List GStream))×(List GLost)×(List Int)→Option (GTick×Int×Int)):Nat→Int→Int→Int→(List (List GStream))→(List GLost)→(List Int)→Option (GTick×Int×Int)
  | 0,_,_,_,_,_,_=>none
  | n18+1,y6,y7,y8,y9,y10,y11=>
    bif (decide (y8<(p0.Elements.length:Int))) then
     Qbb (fun ⟨y20,y21,y22,y23,y24⟩=>
       Qfs N p0 p1 p2 k5 n18 y20 y21 (w64 (y8+1)) y22 y23 y24) fun k25:Int×Int×(List (List GStream))×(List GLost)×(List Int)→Option (GTick×Int×Int)=>
     (getI p0.Elements y8).bind fun x26=>
     Qbb (fun ⟨y30,y31,y32,y33,y34⟩=>
       Qbb (fun ⟨y36,y37,y38,y39⟩=>
         (Qgx N y36).bind fun x42=>
         (getI p1 y8).bind fun x43=>
         (Qj4 N x26 x43).bind fun x48=>
         bif (decide (x42.Mass>x48)) then
          some ((⟨[],[],[]⟩:GTick),0,y8)
         else
          Qbb (fun ⟨y50,y51,y52,y53,y54⟩=>
            Qbb (fun ⟨y56,y57,y58,y59,y60,y61,y62,y63,y64⟩=>
              Qbb (fun ⟨y66,y67,y68,y69,y70,y71,y72,y73⟩=>
                chk (decide ((y67.length+([y66]).length) * 24≤140737488355328))<|
                chk (decide (1≤([(⟨y70,y71,y72,y73⟩:GLost)]).length))<|
                chk (decide ((y68.length+(([(⟨y70,y71,y72,y73⟩:GLost)]).take 1).length) * 32≤140737488355328))<|
                chk (decide ((y69.length+([w64 (x43+y73)]).length) * 8≤140737488355328))<|
                k25 (y56,y30,y67++([y66]),y68++(([(⟨y70,y71,y72,y73⟩:GLost)]).take 1),y69++([w64 (x43+y73)]))) fun k74:(List GStream)×(List (List GStream))×(List GLost)×(List Int)×Int×Int×Int×Int→Option (GTick×Int×Int)=>
              bif (x26.Kind==5) then
               (Qhp N x42 x26.Weights).bind fun x81=>
               k74 (x81.1,y58,y59,y60,x81.2.Heat,x81.2.Silica,x81.2.Gas,0)
              else
               k74 (y57,y58,y59,y60,y61,y62,y63,y64)) fun k65:Int×(List GStream)×(List (List GStream))×(List GLost)×(List Int)×Int×Int×Int×Int→Option (GTick×Int×Int)=>
            bif (x26.Kind==4) then
             (getI p0.Table x26.Level).bind fun x83=>
             (Qih N x83 x42).bind fun x88=>
             Qbb (fun ⟨y89,y90,y91,y92,y93,y94,y95⟩=>
               (some (w64 (y6+x88.Steam.Mass))).bind fun x97=>
               k65 (x97,y89,y90,y91,y92,y93,y94,y95,x88.Scale)) fun k96:(List GStream)×(List (List GStream))×(List GLost)×(List Int)×Int×Int×Int→Option (GTick×Int×Int)=>
             bif (decide (x26.Amount>0)) then
              (Qhp N (⟨x88.Water.Mass,x88.Water.Heat,x88.Water.Silica,x88.Water.Gas⟩:GStream) ([w64 (1000 - x26.Amount),x26.Amount])).bind fun x101=>
              (getI x101.1 1).bind fun x102=>
              (Qgx N ([(⟨x88.Steam.Mass,x88.Steam.Heat,x88.Steam.Silica,x88.Steam.Gas⟩:GStream),x102])).bind fun x107=>
              (getI x101.1 0).bind fun x108=>
              k96 ([x107,x108],y50,y51,y52,x101.2.Heat,x101.2.Silica,x101.2.Gas)
             else
              k96 ([(⟨x88.Steam.Mass,x88.Steam.Heat,x88.Steam.Silica,x88.Steam.Gas⟩:GStream),(⟨x88.Water.Mass,x88.Water.Heat,x88.Water.Silica,x88.Water.Gas⟩:GStream)],y50,y51,y52,y54,0,0)
            else
             chk (decide (1≤y53.length))<|
             k65 (y6,y53.take 1,y50,y51,y52,y54,0,0,0)) fun k55:(List (List GStream))×(List GLost)×(List Int)×(List GStream)×Int→Option (GTick×Int×Int)=>
          bif (x26.Kind==3) then
           (some (w64 (x42.Heat - (if x42.Heat<x26.Amount then x42.Heat else x26.Amount)))).bind fun x114=>
           chk (decide (0≤0)&&decide ((0:Int).toNat<1))<|
           (([x42])[(0:Int).toNat]?).bind fun x117=>
           k55 (y37,y38,y39,([x42]).set ((0:Int).toNat) (⟨x117.Mass,x114,x117.Silica,x117.Gas⟩:GStream),(if x42.Heat<x26.Amount then x42.Heat else x26.Amount))
          else
           k55 (y37,y38,y39,[x42],0)) fun k40:(List GStream)×(List (List GStream))×(List GLost)×(List Int)→Option (GTick×Int×Int)=>
       Qfr N x26 k40 N y31 0 y32 y33 y34) fun k35:Int×(List GStream)×(List (List GStream))×(List GLost)×(List Int)→Option (GTick×Int×Int)=>
     bif (x26.Kind==1) then
      chk (decide (0≤y7)&&decide (y7≤w64 (y7+1))&&decide (w64 (y7+1)≤(p2.length:Int)))<|
      k35 (w64 (y7+1),(p2.drop y7.toNat).take ((w64 (y7+1)).toNat - y7.toNat),y9,y10,y11)
     else
      k35 (y7,[],y9,y10,y11)
    else
     k5 (y6,y9,y10,y11)
def Qnl (N:Nat) (p0:GNet) (p1:(List Int)) (p2:(List GStream)):Option (GTick×Int×Int):=
  Qbb (fun ⟨y1,y2,y3,y4⟩=>
    some ((⟨y2,y3,y4⟩:GTick),y1,(-1))) fun k5:Int×(List (List GStream))×(List GLost)×(List Int)→Option (GTick×Int×Int)=>
  Qfs N p0 p1 p2 k5 N 0 0 0 ([]) ([]) ([])
def Qfz:Slot:=.own 3 [[nilS,nilS,nilS]]
def Qxk (y2:(List (List GStream))):AV:=.acc 2 28 1 ((y2:List (List GStream)).map Qak)
def Qxj (y3:(List GLost)):AV:=.acc 3 90 4 ((y3:List GLost).map Qa0)
def Qxi (y4:(List Int)):AV:=.acc 4 3 1 ((y4:List Int).map Qal)
def Qxp:AV:=.acc 3 28 1 (([]:List (List GStream)).map Qak)
def Q5e:AV:=.acc 4 90 4 (([]:List GLost).map Qa0)
def Qdu (p1:(List Int)):AV:=.dat 1 ((p1:List Int).map Qal)
def Qd8 (p2:(List GStream)):AV:=.dat 4 ((p2:List GStream).map Qaa)
def Zjo (p0:GNet):AV:=.dat 5 ((p0.Table:List GRow).map Qa4)
def Zbe (p0:GNet):AV:=.dat 7 ((p0.Elements:List GElement).map Qad)
def Qgm (p0:GNet):Slot:=.own 2 [[(Zjo p0),(Zbe p0)]]
def Qpq (y9:(List (List GStream))) (y10:(List GLost)) (y11:(List Int)):Slot:=.own 3 [[(.acc 3 28 1 ((y9:List (List GStream)).map Qak)),(.acc 4 90 4 ((y10:List GLost).map Qa0)),(.acc 5 3 1 ((y11:List Int).map Qal))]]
def Qxo (y31:(List GStream)):AV:=.dat 4 ((y31:List GStream).map Qaa)
def Qxn (y32:(List (List GStream))):AV:=.acc 4 28 1 ((y32:List (List GStream)).map Qak)
def Qxm (y33:(List GLost)):AV:=.acc 5 90 4 ((y33:List GLost).map Qa0)
def Qxl (y34:(List Int)):AV:=.acc 6 3 1 ((y34:List Int).map Qal)
def Qnd (x26:GElement):AV:=.dat 2 ((x26.From:List GPort).map Qap)
def Qtb (x26:GElement):AV:=.dat 1 ((x26.Weights:List Int).map Qal)
def Qd9 (x26:GElement):Slot:=.own 7 [[(K .u8 (x26.Kind)),(Qnd x26),(I (x26.Level)),(I (x26.Amount)),(I (x26.Wide)),(I (x26.Narrow)),(Qtb x26)]]
def Qzs (y36:(List GStream)):AV:=.dat 4 ((y36:List GStream).map Qaa)
def Qta (y37:(List (List GStream))):AV:=.acc 4 28 1 ((y37:List (List GStream)).map Qak)
def Qs9 (y38:(List GLost)):AV:=.acc 5 90 4 ((y38:List GLost).map Qa0)
def Qsz (x42:GStream):AV:=.agg [(I (x42.Mass)),(I (x42.Heat)),(I (x42.Silica)),(I (x42.Gas))]
def Zbd (x26:GElement):AV:=.agg [(K .u8 (x26.Kind)),(Qnd x26),(I (x26.Level)),(I (x26.Amount)),(I (x26.Wide)),(I (x26.Narrow)),(Qtb x26)]
def Qpp (x42:GStream):Slot:=.own 4 (([x42]:List GStream).map Qaa)
def Qnc (y50:(List (List GStream))) (y51:(List GLost)) (y52:(List Int)):Slot:=.own 3 [[(.acc 7 28 1 ((y50:List (List GStream)).map Qak)),(.acc 8 90 4 ((y51:List GLost).map Qa0)),(.acc 9 3 1 ((y52:List Int).map Qal))]]
def Qh2 (x42:GStream):Slot:=.own 4 [[(I (x42.Mass)),(I (x42.Heat)),(I (x42.Silica)),(I (x42.Gas))]]
def Qpo (y54:Int):Slot:=.own 4 [[(I (y54)),(I (0)),(I (0)),(I (0))]]
def Qs8 (y58:(List (List GStream))):AV:=.acc 6 28 1 ((y58:List (List GStream)).map Qak)
def Qs7 (y59:(List GLost)):AV:=.acc 7 90 4 ((y59:List GLost).map Qa0)
def Qs6 (y66:(List GStream)):AV:=.dat 4 ((y66:List GStream).map Qaa)
def Qs5 (y68:(List GLost)):AV:=.acc 5 90 4 ((y68:List GLost).map Qa0)
def Qzq (y69:(List Int)):AV:=.acc 6 3 1 ((y69:List Int).map Qal)
def Qzp (y67:(List (List GStream))) (y66:(List GStream)):AV:=.acc 7 28 1 ((y67++([y66]):List (List GStream)).map Qak)
def Qzo (y68:(List GLost)) (y70:Int) (y71:Int) (y72:Int) (y73:Int):AV:=.acc 9 90 4 ((y68++(([(⟨y70,y71,y72,y73⟩:GLost)]).take 1):List GLost).map Qa0)
def Zbc (x83:GRow):AV:=.agg [(I (x83.T)),(I (x83.P)),(I (x83.Liquid)),(I (x83.Vapour)),(I (x83.Silica))]
def Qpn (x88:GParts):AV:=.agg [(I (x88.Steam.Mass)),(I (x88.Steam.Heat)),(I (x88.Steam.Silica)),(I (x88.Steam.Gas))]
def Qs3 (x88:GParts):AV:=.agg [(I (x88.Water.Mass)),(I (x88.Water.Heat)),(I (x88.Water.Silica)),(I (x88.Water.Gas))]
def Qzn (x88:GParts):AV:=.dat 4 (([(⟨x88.Steam.Mass,x88.Steam.Heat,x88.Steam.Silica,x88.Steam.Gas⟩:GStream),(⟨x88.Water.Mass,x88.Water.Heat,x88.Water.Silica,x88.Water.Gas⟩:GStream)]:List GStream).map Qaa)
def Qs4 (x88:GParts):Slot:=.own 10 [[(I (x88.Steam.Mass)),(I (x88.Steam.Heat)),(I (x88.Steam.Silica)),(I (x88.Steam.Gas)),(I (x88.Water.Mass)),(I (x88.Water.Heat)),(I (x88.Water.Silica)),(I (x88.Water.Gas)),(I (x88.Rest)),(I (x88.Scale))]]
def Qzr (x26:GElement):AV:=.dat 1 (([w64 (1000 - x26.Amount),x26.Amount]:List Int).map Qal)
def Q5d (x102:GStream):AV:=.agg [(I (x102.Mass)),(I (x102.Heat)),(I (x102.Silica)),(I (x102.Gas))]
def Qzm (x88:GParts) (x102:GStream):AV:=.dat 4 (([(⟨x88.Steam.Mass,x88.Steam.Heat,x88.Steam.Silica,x88.Steam.Gas⟩:GStream),x102]:List GStream).map Qaa)
def Qs2 (x107:GStream):AV:=.agg [(I (x107.Mass)),(I (x107.Heat)),(I (x107.Silica)),(I (x107.Gas))]
def Qzl (x108:GStream):AV:=.agg [(I (x108.Mass)),(I (x108.Heat)),(I (x108.Silica)),(I (x108.Gas))]
def Qzk (x42:GStream) (x117:GStream) (x114:Int):Slot:=.own 4 ((([x42]).set ((0:Int).toNat) (⟨x117.Mass,x114,x117.Silica,x117.Gas⟩:GStream):List GStream).map Qaa)
def Qpm (y121:(List (List GStream))):AV:=.acc 4 28 1 ((y121:List (List GStream)).map Qak)
def Qs0 (y122:(List GLost)):AV:=.acc 5 90 4 ((y122:List GLost).map Qa0)
def Q5f:AV:=.acc 7 89 4 ((([]:List GStream):List GStream).map Qaa)
def Qs1 (y119:(List GStream)):AV:=.acc 8 89 4 ((([]:List GStream)++y119:List GStream).map Qaa)
def Qzj (x140:GStream):AV:=.agg [(I (x140.Mass)),(I (x140.Heat)),(I (x140.Silica)),(I (x140.Gas))]
def Qzt (p2:(List GStream)) (y7:Int):AV:=.dat 4 (((p2.drop y7.toNat).take ((w64 (y7+1)).toNat - y7.toNat):List GStream).map Qaa)
theorem Q0e (N:Nat) (p0:GNet) (p1:(List Int)) (p2:(List GStream)) (r:(GTick×Int×Int)) (h:Qnl N p0 p1 p2=some r):Spec Tryz.prog 22 [(.agg (Qhz p0)),(.dat 1 (p1.map Qal)),(.dat 4 (p2.map Qaa))] [] (.tup [(.agg (Zn6 r.1)),(I r.2.1),(I r.2.2)]) []:=by
  refine Qah Tryz.func22 rfl 0 (nle rfl) (fun X φ0 w0 hφ0 hd0=>?_)
  unfold Qnl at h
  refine wxz<|wxz<|wxz ?_
  obtain ⟨k5,hk_k5,h⟩:=jko h
  refine wjn (τ:=Int×(List (List GStream))×(List GLost)×(List Int)) (fun t=>k5 t=some r) (fun ⟨y1,y2,y3,y4⟩=>⟨mk 209 [(6,.ref 0 3 0 0),(9,.ref 1 3 0 0),(10,I y1)],[Qfz,(.own 3 [[(Qxk y2),(Qxj y3),(Qxi y4)]]),.tok,.tok,.tok]⟩) (fun t h=>?_) ?_
  ·subst hk_k5
   obtain ⟨y1,y2,y3,y4⟩:=t
   refine wxz<|Qaf ?_
   obtain rfl:=osi h
   exact fend ⟨[(.agg [(.dat 1 ((y2:List (List GStream)).map Qak)),(.dat 4 ((y3:List GLost).map Qa0)),(.dat 1 ((y4:List Int).map Qal))]),I y1,(I ((-1)))],⟨Qd2 (v:=(.agg [(Qxk y2),(Qxj y3),(Qxi y4)])) (Qbj (n:=0) (m:=3) (j:=0) (i:=0) (xs:=[[(Qxk y2),(Qxj y3),(Qxi y4)]]) (by kernel_rfl) (by kernel_rfl) ti52 (by decide) rfl (nle rfl) rfl) (Less.agg ⟨Less.acc,Less.acc,Less.acc,tv⟩),rot,rot,tv⟩,rfl⟩ (NLt.tup _ (nlc (NLt.agg _ (nlc (nld Qam _) (nlc (nld Qau _) (nlc (nld Qae _) nl0)))) (nlcc nl0)))
  ·skip
   refine wxz<|Qaj ?_
   refine wmr (Mor.trans (Qln (n:=3) (ty:=28) (m:=1) (q:=2) (mq:=3) (c:=[nilS,nilS,nilS]) 0 (by kernel_rfl) (by kernel_rfl) (by kernel_rfl) (by decide)) (Mor.trans (Qln (n:=4) (ty:=90) (m:=4) (q:=2) (mq:=3) (c:=[Qxp,nilS,nilS]) 1 (by kernel_rfl) (by kernel_rfl) (by kernel_rfl) (by decide)) (Mor.trans (Qln (n:=5) (ty:=3) (m:=1) (q:=2) (mq:=3) (c:=[Qxp,Q5e,nilS]) 2 (by kernel_rfl) (by kernel_rfl) (by kernel_rfl) (by decide)) (mto (n:=209) (l':=[(1,(Qdu p1)),(2,(Qd8 p2)),(3,.ref 0 2 0 0),(6,.ref 1 3 0 0),(9,.ref 2 3 0 0),(10,I 0),(11,I 0),(12,I 0)]) (own':=[(Qgm p0),Qfz,(.own 3 [[(.acc 3 28 1 ((([]):List (List GStream)).map Qak)),(.acc 4 90 4 ((([]):List GLost).map Qa0)),(.acc 5 3 1 ((([]):List Int).map Qal))]]),.tok,.tok,.tok]) [(1,(Qdu p1)),(2,(Qd8 p2)),(3,.ref 0 2 0 0),(6,.ref 1 3 0 0),(9,.ref 2 3 0 0),(10,I 0),(11,I 0),(12,I 0)] [0,1,2,3,4,5] [(Qgm p0),Qfz,(.own 3 [[Qxp,Q5e,(.acc 5 3 1 (([]:List Int).map Qal))]]),.tok,.tok,.tok] hφ0 (pc (rnd Qae) (pc (rnd Qac) (prr (prr (prr (pw (pw (pw pn)))))))) (qb (lc (rnd Qai) (lc (rnd Qab) ln)) (qb (lcc (lc rwl ln)) (qb (lc (.rn (Qaw rfl (Qas Qam _))) (lc (.rn (Qaw rfl (Qas Qau _))) (lc (.rn (Qaw rfl (Qas Qae _))) ln))) (qc .tok (qc .tok (qc .tok qn)))))))))) ?_
   refine Qbt (τ:=Int×Int×Int×(List (List GStream))×(List GLost)×(List Int)) (fun n t=>Qfs N p0 p1 p2 k5 n t.1 t.2.1 t.2.2.1 t.2.2.2.1 t.2.2.2.2.1 t.2.2.2.2.2=some r) (fun ⟨y6,y7,y8,y9,y10,y11⟩=>⟨mk 209 [(1,(Qdu p1)),(2,(Qd8 p2)),(3,.ref 0 2 0 0),(6,.ref 1 3 0 0),(9,.ref 2 3 0 0),(10,I y6),(11,I y7),(12,I y8)],[(Qgm p0),Qfz,(Qpq y9 y10 y11),.tok,.tok,.tok]⟩) (fun t h=>by rw [Qfs] at h; cases h) (fun n18 ih t h=>?_) N (0,0,0,[],[],[]) h
   obtain ⟨y6,y7,y8,y9,y10,y11⟩:=t
   rw [Qfs] at h
   skip
   refine wsq<|wx tbk [(3,rp [(.tmp 26,(Zbe p0))] (I ((p0.Elements.length:Int))))] ⟨alm (c:=Qad) (l:=p0.Elements) (aln rfl Tryz.underlying24 rfl),tv⟩ ?_
   refine bfe h (fun hc19 h=>?_) fun hc19 h=>?_
   ·refine wft hc19<|Qan<|thn ?_
    obtain ⟨k25,hk_k25,h⟩:=jko h
    refine wjn (τ:=Int×Int×(List (List GStream))×(List GLost)×(List Int)) (fun t=>k25 t=some r) (fun ⟨y20,y21,y22,y23,y24⟩=>⟨mk 209 [(1,(Qdu p1)),(2,(Qd8 p2)),(3,.ref 0 2 0 0),(6,.ref 1 3 0 0),(9,.ref 2 3 0 0),(10,I y20),(11,I y21),(12,I y8)],[(Qgm p0),Qfz,(.own 3 [[(.acc 3 28 1 ((y22:List (List GStream)).map Qak)),(.acc 4 90 4 ((y23:List GLost).map Qa0)),(.acc 5 3 1 ((y24:List Int).map Qal))]]),.tok,.tok,.tok]⟩) (fun t h=>?_) ?_
    ·subst hk_k25
     obtain ⟨y20,y21,y22,y23,y24⟩:=t
     exact wxz1<|thn<|arm (mto (n:=209) [(1,(Qdu p1)),(2,(Qd8 p2)),(3,.ref 0 2 0 0),(6,.ref 1 3 0 0),(9,.ref 2 3 0 0),(10,I y20),(11,I y21),(12,(I (w64 (y8+1))))] [0,1,2,3,4,5] [(Qgm p0),Qfz,(.own 3 [[(.acc 3 28 1 ((y22:List (List GStream)).map Qak)),(.acc 4 90 4 ((y23:List GLost).map Qa0)),(.acc 5 3 1 ((y24:List Int).map Qal))]]),.tok,.tok,.tok] hφ0 (pc (rnd Qae) (pc (rnd Qac) (prr (prr (prr (pw (pw (pw pn)))))))) (qb (lc (rnd Qai) (lc (rnd Qab) ln)) (qb (lcc (lc rwl ln)) (qb (lc (.rn (Qaw rfl (Qas Qam _))) (lc (.rn (Qaw rfl (Qas Qau _))) (lc (.rn (Qaw rfl (Qas Qae _))) ln))) (qc .tok (qc .tok (qc .tok qn))))))) (ih (y20,y21,w64 (y8+1),y22,y23,y24) h)
    ·skip
     refine Qaj ?_
     obtain ⟨x26,hg27,h⟩:=bno h
     obtain ⟨hi28,hj29⟩:=gsm hg27
     refine wx tbk [(3,rp [(.tmp 32,(Zbe p0)),(.tmp 33,I y8)] (.dptr (Qad (x26)) 0))] ⟨aid rfl Tryz.underlying24 ti59 rfl rfl hi28 (mgt Qad hj29) rfl,tv⟩<|wxz ?_
     obtain ⟨k35,hk_k35,h⟩:=jko h
     refine wjn (τ:=Int×(List GStream)×(List (List GStream))×(List GLost)×(List Int)) (fun t=>k35 t=some r) (fun ⟨y30,y31,y32,y33,y34⟩=>⟨mk 209 [(1,(Qdu p1)),(2,(Qd8 p2)),(3,.ref 0 2 0 0),(6,.ref 1 3 0 0),(9,.ref 2 3 0 0),(10,I y6),(11,I y30),(12,I y8),(13,.ref 3 7 0 0),(14,(Qxo y31))],[(Qgm p0),Qfz,(.own 3 [[(Qxn y32),(Qxm y33),(Qxl y34)]]),(Qd9 x26),.tok,.tok,.tok]⟩) (fun t h=>?_) ?_
     ·subst hk_k35
      obtain ⟨y30,y31,y32,y33,y34⟩:=t
      obtain ⟨k40,hk_k40,h⟩:=jko h
      refine wjn (τ:=(List GStream)×(List (List GStream))×(List GLost)×(List Int)) (fun t=>k40 t=some r) (fun ⟨y36,y37,y38,y39⟩=>⟨mk 209 [(1,(Qdu p1)),(2,(Qd8 p2)),(3,.ref 0 2 0 0),(6,.ref 1 3 0 0),(9,.ref 2 3 0 0),(10,I y6),(11,I y30),(12,I y8),(13,.ref 3 7 0 0),(14,(Qzs y36))],[(Qgm p0),Qfz,(.own 3 [[(Qta y37),(Qs9 y38),(.acc 6 3 1 ((y39:List Int).map Qal))]]),(Qd9 x26),.tok,.tok,.tok]⟩) (fun t h=>?_) ?_
      ·subst hk_k40
       obtain ⟨y36,y37,y38,y39⟩:=t
       obtain ⟨x42,hf41,h⟩:=bno h
       refine wx tbk [(1,rp [fu 38,(.tmp 76,(Qzs y36))] (Qsz x42))] ⟨apv Qul (Qix N y36 _ hf41) (nlc (nld Qac _) nl0) (NLt.agg _ (nlcc (nlcc nl0))),tv⟩<|wsq ?_
       obtain ⟨x43,hg44,h⟩:=bno h
       obtain ⟨hi45,hj46⟩:=gsm hg44
       obtain ⟨x48,hf47,h⟩:=bno h
       refine wxd tbk [(5,rp [(.tmp 81,(Qdu p1)),(.tmp 82,I y8)] (.dptr (Qal (x43)) 0)),(7,rp [fu 62,(.tmp 80,(Zbd x26)),(.tmp 84,I x43)] (I x48))] ⟨aid rfl Tryz.underlying27 ti3 rfl rfl hi45 (mgt Qal hj46) rfl,apv Znn (Qto N x26 x43 _ hf47) (nlc (NLt.agg _ (nlc nll (nlc (nld Qay _) (nlcc (nlcc (nlc (nld Qae _) nl0)))))) (nlc nll nl0)) nll,tv⟩ ?_
       refine bfe h (fun hc49 h=>?_) fun hc49 h=>?_
       ·refine wft hc49<|wx tbk [(0,rp [] (.agg [nilS,nilS,nilS]))] ⟨Qaz (vs:=[]) rfl ts52 tz52 rfl (by rfl) rfl,tv⟩<|Qaf<|Qag<|Qaq<|Qag<|Qag<|Qaq<|Qag ?_
        obtain rfl:=osi h
        exact fend ⟨[(.agg [(.dat 1 (([]:List (List GStream)).map Qak)),(.dat 4 (([]:List GLost).map Qa0)),(.dat 1 (([]:List Int).map Qal))]),I 0,I y8],⟨Qd2 (v:=(.agg [nilS,nilS,nilS])) (Qbj (n:=1) (m:=3) (j:=0) (i:=0) (xs:=[[nilS,nilS,nilS]]) (by kernel_rfl) (by kernel_rfl) ti52 (by decide) rfl (nle rfl) rfl) (Less.agg ⟨Less.nil,Less.nil,Less.nil,tv⟩),rot,rot,tv⟩,rfl⟩ (NLt.tup _ (nlc (NLt.agg _ (nlc (nld Qam _) (nlc (nld Qau _) (nlc (nld Qae _) nl0)))) (nlcc nl0)))
       ·refine wfn hc49<|Qan<|thn ?_
        refine wx tbk [(1,⟨[(.tmp 89,(Qsz x42))],[(8,.unused)],(.own 8 4 (0) (1)),[(8,(Qpp x42))],false⟩)] ⟨Qmy (vs:=[(Qsz x42)]) rfl Tryz.underlying28 ti89 tz89 rfl (by decide) rfl (by decide) (by rfl) (by rfl) (by rfl) rfl,tv⟩<|wxz ?_
        obtain ⟨k55,hk_k55,h⟩:=jko h
        refine wjn (τ:=(List (List GStream))×(List GLost)×(List Int)×(List GStream)×Int) (fun t=>k55 t=some r) (fun ⟨y50,y51,y52,y53,y54⟩=>⟨mk 209 [(1,(Qdu p1)),(2,(Qd8 p2)),(3,.ref 0 2 0 0),(6,.ref 1 3 0 0),(9,.ref 2 3 0 0),(10,I y6),(11,I y30),(12,I y8),(13,.ref 3 7 0 0),(16,.ref 4 4 0 0),(17,(.own 5 4 (0) (1))),(18,.ref 6 4 0 0)],[(Qgm p0),Qfz,(Qnc y50 y51 y52),(Qd9 x26),(Qh2 x42),(.own 4 ((y53:List GStream).map Qaa)),(Qpo y54),.tok,.tok,.tok]⟩) (fun t h=>?_) ?_
        ·subst hk_k55
         obtain ⟨y50,y51,y52,y53,y54⟩:=t
         obtain ⟨k65,hk_k65,h⟩:=jko h
         refine wjn (τ:=Int×(List GStream)×(List (List GStream))×(List GLost)×(List Int)×Int×Int×Int×Int) (fun t=>k65 t=some r) (fun ⟨y56,y57,y58,y59,y60,y61,y62,y63,y64⟩=>⟨mk 209 [(1,(Qdu p1)),(2,(Qd8 p2)),(3,.ref 0 2 0 0),(6,.ref 1 3 0 0),(9,.ref 2 3 0 0),(10,I y56),(11,I y30),(12,I y8),(13,.ref 3 7 0 0),(16,.ref 4 4 0 0),(17,(.dat 4 ((y57:List GStream).map Qaa))),(18,.ref 5 4 0 0)],[(Qgm p0),Qfz,(.own 3 [[(Qs8 y58),(Qs7 y59),(.acc 8 3 1 ((y60:List Int).map Qal))]]),(Qd9 x26),(Qh2 x42),(.own 4 [[I y61,I y62,I y63,I y64]]),.tok,.tok,.tok]⟩) (fun t h=>?_) ?_
         ·subst hk_k65
          obtain ⟨y56,y57,y58,y59,y60,y61,y62,y63,y64⟩:=t
          obtain ⟨k74,hk_k74,h⟩:=jko h
          refine wjn (τ:=(List GStream)×(List (List GStream))×(List GLost)×(List Int)×Int×Int×Int×Int) (fun t=>k74 t=some r) (fun ⟨y66,y67,y68,y69,y70,y71,y72,y73⟩=>⟨mk 209 [(1,(Qdu p1)),(2,(Qd8 p2)),(3,.ref 0 2 0 0),(6,.ref 1 3 0 0),(9,.ref 2 3 0 0),(10,I y56),(11,I y30),(12,I y8),(17,(Qs6 y66)),(18,.ref 3 4 0 0)],[(Qgm p0),Qfz,(.own 3 [[(.acc 4 28 1 ((y67:List (List GStream)).map Qak)),(Qs5 y68),(Qzq y69)]]),(.own 4 [[I y70,I y71,I y72,I y73]]),.tok,.tok,.tok]⟩) (fun t h=>?_) ?_
          ·subst hk_k74
           obtain ⟨y66,y67,y68,y69,y70,y71,y72,y73⟩:=t
           obtain ⟨ha75,h⟩:=cko h
           obtain ⟨hz76,h⟩:=cko h
           obtain ⟨ha77,h⟩:=cko h
           obtain ⟨ha78,h⟩:=cko h
           refine wy1 tbk [(3,rp [(.tmp 185,(Qs6 y66))] (.dat 1 (([y66]:List (List GStream)).map Qak))),(4,⟨[(.tmp 184,(.acc 4 28 1 ((y67:List (List GStream)).map Qak))),(.tmp 186,(.dat 1 (([y66]:List (List GStream)).map Qak)))],[(4,.tok),(7,.unused)],(Qzp y67 y66),[(4,.dead),(7,.tok)],false⟩),(8,⟨[(.tmp 190,(.agg [I y70,I y71,I y72,I y73]))],[(8,.unused)],(.own 8 4 (0) (1)),[(8,(.own 4 (([(⟨y70,y71,y72,y73⟩:GLost)]:List GLost).map Qa0)))],false⟩),(9,⟨[(.tmp 189,(Qs5 y68)),(.tmp 191,(.own 8 4 (0) (1)))],[(8,(.own 4 (([(⟨y70,y71,y72,y73⟩:GLost)]:List GLost).map Qa0))),(5,.tok),(9,.unused)],(Qzo y68 y70 y71 y72 y73),[(5,.dead),(9,.tok)],false⟩),(14,rp [(.tmp 195,(Qdu p1)),(.tmp 196,I y8)] (.dptr (Qal (x43)) 0)),(19,rp [(.tmp 201,(I (w64 (x43+y73))))] (.dat 1 (([w64 (x43+y73)]:List Int).map Qal))),(20,⟨[(.tmp 194,(Qzq y69)),(.tmp 202,(.dat 1 (([w64 (x43+y73)]:List Int).map Qal)))],[(6,.tok),(10,.unused)],(.acc 10 3 1 ((y69++([w64 (x43+y73)]):List Int).map Qal)),[(6,.dead),(10,.tok)],false⟩)] ⟨Qbe (vs:=[(Qs6 y66)]) rfl Tryz.underlying49 ti28 tz28 rfl (by decide) rfl (by decide) (by rfl) (by rfl) (by rfl) rfl,Qdj rfl Tryz.underlying49 te28 (Base.acc _ _) rfl rfl (by rfl) (Qf4 Qak ha75) (Qf3 Qak ha75 (by decide)) (Qf2 Qak) rfl rfl,Qmy (vs:=[(.agg [I y70,I y71,I y72,I y73])]) rfl Tryz.underlying50 ti90 tz90 rfl (by decide) rfl (by decide) (by rfl) (by rfl) (by rfl) rfl,Qhy (rd':=[(.tmp 189,(Qs5 y68)),(.tmp 191,(.dat 4 ((([(⟨y70,y71,y72,y73⟩:GLost)]).take 1:List GLost).map Qa0)))]) [(8,4,([(⟨y70,y71,y72,y73⟩:GLost)]:List GLost).map Qa0)] ⟨rfl,.same _,rfl,(Qup 0 rfl hz76),tv⟩ (by rfl) (.acc _ _ _ _ (nin rfl) (by simp) (Qyd Zde _)) (Qp3 .dead (Qp3 .tok Qq8)) (Qdj rfl Tryz.underlying50 te90 (Base.acc _ _) rfl rfl (Qmq Qa0 Zcz _) (Qf4 Qa0 ha77) (Qf3 Qa0 ha77 (by decide)) (Qf2 Qa0) rfl rfl),aid rfl Tryz.underlying27 ti3 rfl rfl hi45 (mgt Qal hj46) rfl,Qbe (vs:=[(I (w64 (x43+y73)))]) rfl Tryz.underlying27 ti3 tz3 rfl (by decide) rfl (by decide) (by rfl) (by rfl) (by rfl) rfl,Qdj rfl Tryz.underlying27 te3 (Base.acc _ _) rfl rfl (by rfl) (Qf4 Qal ha78) (Qf3 Qal ha78 (by decide)) (Qf2 Qal) rfl rfl,tv⟩<|bln<|thn ?_
           exact ⟨(y56,y30,y67++([y66]),y68++(([(⟨y70,y71,y72,y73⟩:GLost)]).take 1),y69++([w64 (x43+y73)])),h,(mto (n:=209) [(1,(Qdu p1)),(2,(Qd8 p2)),(3,.ref 0 2 0 0),(6,.ref 1 3 0 0),(9,.ref 2 3 0 0),(10,I y56),(11,I y30),(12,I y8)] [0,1,2,7,9,10] [(Qgm p0),Qfz,(.own 3 [[(Qzp y67 y66),(Qzo y68 y70 y71 y72 y73),(.acc 10 3 1 ((y69++([w64 (x43+y73)]):List Int).map Qal))]]),.tok,.tok,.tok] hφ0 (pc (rnd Qae) (pc (rnd Qac) (prr (prr (prr (pw (pw (pw pn)))))))) (qb (lc (rnd Qai) (lc (rnd Qab) ln)) (qb (lcc (lc rwl ln)) (qb (lc (.rn (Qaw rfl (Qas Qam _))) (lc (.rn (Qaw rfl (Qas Qau _))) (lc (.rn (Qaw rfl (Qas Qae _))) ln))) (qc .tok (qc .tok (qc .tok qn)))))))⟩
          ·skip
           refine wxz ?_
           refine bfe h (fun hc79 h=>?_) fun hc79 h=>?_
           ·refine wft hc79 ?_
            obtain ⟨x81,hf80,h⟩:=bno h
            refine wx tbk [(3,rp [fu 64,(.tmp 169,(Qsz x42)),(.tmp 171,(Qtb x26))] (.tup [(.dat 4 ((x81.1:List GStream).map Qaa)),(.agg [I x81.2.Heat,I x81.2.Silica,I x81.2.Gas])]))] ⟨apv Zd0 (Qnm N x42 x26.Weights _ hf80) (nlc (NLt.agg _ (nlcc (nlcc nl0))) (nlc (nld Qae _) nl0)) (NLt.tup _ (nlc (nld Qac _) (nlc (NLt.agg _ (nlcc (nlc nll nl0))) nl0))),tv⟩ ?_
            exact wy1 tbk [(7,rp [(.tmp 177,I x81.2.Heat),(.tmp 179,I x81.2.Silica),(.tmp 181,I x81.2.Gas),ci 0] (.agg [I x81.2.Heat,I x81.2.Silica,I x81.2.Gas,I 0]))] ⟨Qaz (vs:=[I x81.2.Heat,I x81.2.Silica,I x81.2.Gas,I 0]) rfl ts90 tz90 rfl (by rfl) rfl,tv⟩<|thn<|⟨(x81.1,y58,y59,y60,x81.2.Heat,x81.2.Silica,x81.2.Gas,0),h,(mto (n:=209) [(1,(Qdu p1)),(2,(Qd8 p2)),(3,.ref 0 2 0 0),(6,.ref 1 3 0 0),(9,.ref 2 3 0 0),(10,I y56),(11,I y30),(12,I y8),(17,(.dat 4 ((x81.1:List GStream).map Qaa))),(18,.ref 5 4 0 0)] [0,1,2,5,6,7,8] [(Qgm p0),Qfz,(.own 3 [[(Qs8 y58),(Qs7 y59),(.acc 8 3 1 ((y60:List Int).map Qal))]]),(.own 4 [[I x81.2.Heat,I x81.2.Silica,I x81.2.Gas,I 0]]),.tok,.tok,.tok] hφ0 (pc (rnd Qae) (pc (rnd Qac) (prr (prr (prr (pw (pw (pw (pc (rnd Qac) (prr pn)))))))))) (qb (lc (rnd Qai) (lc (rnd Qab) ln)) (qb (lcc (lc rwl ln)) (qb (lc (.rn (Qaw rfl (Qas Qam _))) (lc (.rn (Qaw rfl (Qas Qau _))) (lc (.rn (Qaw rfl (Qas Qae _))) ln))) (qb (lcc (lcc ln)) (qc .tok (qc .tok (qc .tok qn))))))))⟩
           ·exact wfn hc79<|Qan<|thn<|⟨(y57,y58,y59,y60,y61,y62,y63,y64),h,(mto (n:=209) [(1,(Qdu p1)),(2,(Qd8 p2)),(3,.ref 0 2 0 0),(6,.ref 1 3 0 0),(9,.ref 2 3 0 0),(10,I y56),(11,I y30),(12,I y8),(17,(.dat 4 ((y57:List GStream).map Qaa))),(18,.ref 5 4 0 0)] [0,1,2,5,6,7,8] [(Qgm p0),Qfz,(.own 3 [[(Qs8 y58),(Qs7 y59),(.acc 8 3 1 ((y60:List Int).map Qal))]]),(.own 4 [[I y61,I y62,I y63,I y64]]),.tok,.tok,.tok] hφ0 (pc (rnd Qae) (pc (rnd Qac) (prr (prr (prr (pw (pw (pw (pc (rnd Qac) (prr pn)))))))))) (qb (lc (rnd Qai) (lc (rnd Qab) ln)) (qb (lcc (lc rwl ln)) (qb (lc (.rn (Qaw rfl (Qas Qam _))) (lc (.rn (Qaw rfl (Qas Qau _))) (lc (.rn (Qaw rfl (Qas Qae _))) ln))) (qb (lcc (lcc ln)) (qc .tok (qc .tok (qc .tok qn))))))))⟩
         ·skip
          refine wxz ?_
          refine bfe h (fun hc82 h=>?_) fun hc82 h=>?_
          ·refine wft hc82 ?_
           obtain ⟨x83,hg84,h⟩:=bno h
           obtain ⟨hi85,hj86⟩:=gsm hg84
           obtain ⟨x88,hf87,h⟩:=bno h
           refine wxd tbk [(4,rp [(.tmp 112,(Zjo p0)),(.tmp 114,I x26.Level)] (.dptr (Qa4 (x83)) 0)),(7,rp [fu 63,(.tmp 116,(Zbc x83)),(.tmp 117,(Qsz x42))] (.agg [I x88.Steam.Mass,I x88.Steam.Heat,I x88.Steam.Silica,I x88.Steam.Gas,I x88.Water.Mass,I x88.Water.Heat,I x88.Water.Silica,I x88.Water.Gas,I x88.Rest,I x88.Scale]))] ⟨aid rfl Tryz.underlying23 Qsb rfl rfl hi85 (mgt Qa4 hj86) rfl,apv Znm (Qts N x83 x42 _ hf87) (nlc (NLt.agg _ (nlcc (nlcc (nlc nll nl0)))) (nlc (NLt.agg _ (nlcc (nlcc nl0))) nl0)) (NLt.agg _ (nlcc (nlcc (nlcc (nlcc (nlcc nl0)))))),tv⟩ ?_
           refine wx tbk [(4,rp [(.tmp 120,(Qpn x88)),(.tmp 122,(Qs3 x88))] (Qzn x88))] ⟨Qbe (vs:=[(Qpn x88),(Qs3 x88)]) rfl Tryz.underlying28 ti89 tz89 rfl (by decide) rfl (by decide) (by rfl) (by rfl) (by rfl) rfl,tv⟩ ?_
           obtain ⟨k96,hk_k96,h⟩:=jko h
           refine wjn (τ:=(List GStream)×(List (List GStream))×(List GLost)×(List Int)×Int×Int×Int) (fun t=>k96 t=some r) (fun ⟨y89,y90,y91,y92,y93,y94,y95⟩=>⟨mk 209 [(1,(Qdu p1)),(2,(Qd8 p2)),(3,.ref 0 2 0 0),(6,.ref 1 3 0 0),(9,.ref 2 3 0 0),(10,I y6),(11,I y30),(12,I y8),(13,.ref 3 7 0 0),(16,.ref 4 4 0 0),(17,(.dat 4 ((y89:List GStream).map Qaa))),(18,.ref 5 4 0 0),(19,.ref 6 10 0 0)],[(Qgm p0),Qfz,(.own 3 [[(.acc 7 28 1 ((y90:List (List GStream)).map Qak)),(.acc 8 90 4 ((y91:List GLost).map Qa0)),(.acc 9 3 1 ((y92:List Int).map Qal))]]),(Qd9 x26),(Qh2 x42),(.own 4 [[I y93,I y94,I y95,I 0]]),(Qs4 x88),.tok,.tok,.tok]⟩) (fun t h=>?_) ?_
           ·subst hk_k96
            obtain ⟨y89,y90,y91,y92,y93,y94,y95⟩:=t
            refine wxz ?_
            obtain ⟨x97,hl98,h⟩:=bno h
            exact wx1 tbk [(5,rp [(.tmp 164,(I (w64 (y6+x88.Steam.Mass))))] (I x97))] ⟨Qhj hl98 (aas rfl),tv⟩<|thn<|⟨(x97,y89,y90,y91,y92,y93,y94,y95,x88.Scale),h,(mto (n:=209) [(1,(Qdu p1)),(2,(Qd8 p2)),(3,.ref 0 2 0 0),(6,.ref 1 3 0 0),(9,.ref 2 3 0 0),(10,I x97),(11,I y30),(12,I y8),(13,.ref 3 7 0 0),(16,.ref 4 4 0 0),(17,(.dat 4 ((y89:List GStream).map Qaa))),(18,.ref 5 4 0 0)] [0,1,2,3,4,5,7,8,9] [(Qgm p0),Qfz,(.own 3 [[(.acc 7 28 1 ((y90:List (List GStream)).map Qak)),(.acc 8 90 4 ((y91:List GLost).map Qa0)),(.acc 9 3 1 ((y92:List Int).map Qal))]]),(Qd9 x26),(Qh2 x42),(.own 4 [[I y93,I y94,I y95,I x88.Scale]]),.tok,.tok,.tok] hφ0 (pc (rnd Qae) (pc (rnd Qac) (prr (prr (prr (pw (pw (pw (prr (prr (pc (rnd Qac) (prr pn)))))))))))) (qb (lc (rnd Qai) (lc (rnd Qab) ln)) (qb (lcc (lc rwl ln)) (qb (lc (.rn (Qaw rfl (Qas Qam _))) (lc (.rn (Qaw rfl (Qas Qau _))) (lc (.rn (Qaw rfl (Qas Qae _))) ln))) (qb (lc rwl (lc (rnd Qay) (lcc (lcc (lc (rnd Qae) ln))))) (qb (lcc (lcc ln)) (qb (lcc (lcc ln)) (qc .tok (qc .tok (qc .tok qn))))))))))⟩
           ·skip
            refine wxz ?_
            refine bfe h (fun hc99 h=>?_) fun hc99 h=>?_
            ·refine wft hc99 ?_
             obtain ⟨x101,hf100,h⟩:=bno h
             refine wx tbk [(7,rp [(.tmp 132,(I (w64 (1000 - x26.Amount)))),(.tmp 134,I x26.Amount)] (Qzr x26)),(8,rp [fu 64,(.tmp 129,(Qs3 x88)),(.tmp 135,(Qzr x26))] (.tup [(.dat 4 ((x101.1:List GStream).map Qaa)),(.agg [I x101.2.Heat,I x101.2.Silica,I x101.2.Gas])]))] ⟨Qbe (vs:=[(I (w64 (1000 - x26.Amount))),I x26.Amount]) rfl Tryz.underlying27 ti3 tz3 rfl (by decide) rfl (by decide) (by rfl) (by rfl) (by rfl) rfl,apv Zd0 (Qnm N (⟨x88.Water.Mass,x88.Water.Heat,x88.Water.Silica,x88.Water.Gas⟩:GStream) ([w64 (1000 - x26.Amount),x26.Amount]) _ hf100) (nlc (NLt.agg _ (nlcc (nlcc nl0))) (nlc (nld Qae _) nl0)) (NLt.tup _ (nlc (nld Qac _) (nlc (NLt.agg _ (nlcc (nlc nll nl0))) nl0))),tv⟩ ?_
             obtain ⟨x102,hg103,h⟩:=bno h
             obtain ⟨hi104,hj105⟩:=gsm hg103
             obtain ⟨x107,hf106,h⟩:=bno h
             obtain ⟨x108,hg109,h⟩:=bno h
             obtain ⟨hi110,hj111⟩:=gsm hg109
             refine wxd tbk [(3,rp [(.tmp 141,(.dat 4 ((x101.1:List GStream).map Qaa))),ci 1] (.dptr (Qaa (x102)) 0)),(5,rp [(.tmp 140,(Qpn x88)),(.tmp 143,(Q5d x102))] (Qzm x88 x102)),(6,rp [fu 38,(.tmp 144,(Qzm x88 x102))] (Qs2 x107)),(8,rp [(.tmp 146,(.dat 4 ((x101.1:List GStream).map Qaa))),ci 0] (.dptr (Qaa (x108)) 0)),(10,rp [(.tmp 145,(Qs2 x107)),(.tmp 148,(Qzl x108))] (.dat 4 (([x107,x108]:List GStream).map Qaa)))] ⟨aid rfl Tryz.underlying28 ti89 rfl rfl hi104 (mgt Qaa hj105) rfl,Qbe (vs:=[(Qpn x88),(Q5d x102)]) rfl Tryz.underlying28 ti89 tz89 rfl (by decide) rfl (by decide) (by rfl) (by rfl) (by rfl) rfl,apv Qul (Qix N ([(⟨x88.Steam.Mass,x88.Steam.Heat,x88.Steam.Silica,x88.Steam.Gas⟩:GStream),x102]) _ hf106) (nlc (nld Qac _) nl0) (NLt.agg _ (nlcc (nlcc nl0))),aid rfl Tryz.underlying28 ti89 rfl rfl hi110 (mgt Qaa hj111) rfl,Qbe (vs:=[(Qs2 x107),(Qzl x108)]) rfl Tryz.underlying28 ti89 tz89 rfl (by decide) rfl (by decide) (by rfl) (by rfl) (by rfl) rfl,tv⟩ ?_
             exact wx1 tbk [(6,rp [(.tmp 151,I x101.2.Heat),(.tmp 153,I x101.2.Silica),(.tmp 155,I x101.2.Gas),ci 0] (.agg [I x101.2.Heat,I x101.2.Silica,I x101.2.Gas,I 0]))] ⟨Qaz (vs:=[I x101.2.Heat,I x101.2.Silica,I x101.2.Gas,I 0]) rfl ts90 tz90 rfl (by rfl) rfl,tv⟩<|thn<|⟨([x107,x108],y50,y51,y52,x101.2.Heat,x101.2.Silica,x101.2.Gas),h,(mto (n:=209) [(1,(Qdu p1)),(2,(Qd8 p2)),(3,.ref 0 2 0 0),(6,.ref 1 3 0 0),(9,.ref 2 3 0 0),(10,I y6),(11,I y30),(12,I y8),(13,.ref 3 7 0 0),(16,.ref 4 4 0 0),(17,(.dat 4 (([x107,x108]:List GStream).map Qaa))),(18,.ref 6 4 0 0),(19,.ref 10 10 0 0)] [0,1,2,3,4,6,10,7,8,9] [(Qgm p0),Qfz,(Qnc y50 y51 y52),(Qd9 x26),(Qh2 x42),(.own 4 [[I x101.2.Heat,I x101.2.Silica,I x101.2.Gas,I 0]]),(Qs4 x88),.tok,.tok,.tok] hφ0 (pc (rnd Qae) (pc (rnd Qac) (prr (prr (prr (pw (pw (pw (prr (prr (pc (rnd Qac) (prr (prr pn))))))))))))) (qb (lc (rnd Qai) (lc (rnd Qab) ln)) (qb (lcc (lc rwl ln)) (qb (lc (.rn (Qaw rfl (Qas Qam _))) (lc (.rn (Qaw rfl (Qas Qau _))) (lc (.rn (Qaw rfl (Qas Qae _))) ln))) (qb (lc rwl (lc (rnd Qay) (lcc (lcc (lc (rnd Qae) ln))))) (qb (lcc (lcc ln)) (qb (lcc (lcc ln)) (qb (lcc (lcc (lcc (lcc (lcc ln))))) (qc .tok (qc .tok (qc .tok qn)))))))))))⟩
            ·exact wfn hc99<|Qan<|thn<|⟨([(⟨x88.Steam.Mass,x88.Steam.Heat,x88.Steam.Silica,x88.Steam.Gas⟩:GStream),(⟨x88.Water.Mass,x88.Water.Heat,x88.Water.Silica,x88.Water.Gas⟩:GStream)],y50,y51,y52,y54,0,0),h,(mto (n:=209) [(1,(Qdu p1)),(2,(Qd8 p2)),(3,.ref 0 2 0 0),(6,.ref 1 3 0 0),(9,.ref 2 3 0 0),(10,I y6),(11,I y30),(12,I y8),(13,.ref 3 7 0 0),(16,.ref 4 4 0 0),(17,(Qzn x88)),(18,.ref 6 4 0 0),(19,.ref 10 10 0 0)] [0,1,2,3,4,6,10,7,8,9] [(Qgm p0),Qfz,(Qnc y50 y51 y52),(Qd9 x26),(Qh2 x42),(Qpo y54),(Qs4 x88),.tok,.tok,.tok] hφ0 (pc (rnd Qae) (pc (rnd Qac) (prr (prr (prr (pw (pw (pw (prr (prr (pc (rnd Qac) (prr (prr pn))))))))))))) (qb (lc (rnd Qai) (lc (rnd Qab) ln)) (qb (lcc (lc rwl ln)) (qb (lc (.rn (Qaw rfl (Qas Qam _))) (lc (.rn (Qaw rfl (Qas Qau _))) (lc (.rn (Qaw rfl (Qas Qae _))) ln))) (qb (lc rwl (lc (rnd Qay) (lcc (lcc (lc (rnd Qae) ln))))) (qb (lcc (lcc ln)) (qb (lcc (lcc ln)) (qb (lcc (lcc (lcc (lcc (lcc ln))))) (qc .tok (qc .tok (qc .tok qn)))))))))))⟩
          ·refine wfn hc82<|Qan<|thn ?_
           obtain ⟨hz112,h⟩:=cko h
           exact ⟨(y6,y53.take 1,y50,y51,y52,y54,0,0,0),h,(Mor.trans (Zc6 (n:=209) (m:=4) (xs:=(y53:List GStream).map Qaa) (l':=[(1,(Qdu p1)),(2,(Qd8 p2)),(3,.ref 0 2 0 0),(6,.ref 1 3 0 0),(9,.ref 2 3 0 0),(10,I y6),(11,I y30),(12,I y8),(13,.ref 3 7 0 0),(16,.ref 4 4 0 0),(17,(.dat 4 ((y53.take 1:List GStream).map Qaa))),(18,.ref 6 4 0 0)]) (own':=[(Qgm p0),Qfz,(Qnc y50 y51 y52),(Qd9 x26),(Qh2 x42),.dead,(Qpo y54),.tok,.tok,.tok]) 5 [(1,(Qdu p1)),(2,(Qd8 p2)),(3,.ref 0 2 0 0),(6,.ref 1 3 0 0),(9,.ref 2 3 0 0),(10,I y6),(11,I y30),(12,I y8),(13,.ref 3 7 0 0),(16,.ref 4 4 0 0),(17,(.own 5 4 (0) (1))),(18,.ref 6 4 0 0)] (by kernel_rfl) (by kernel_rfl) (by kernel_rfl) ⟨rfl,.same _,rfl,.same _,rfl,.same _,rfl,.same _,rfl,.same _,rfl,.same _,rfl,.same _,rfl,.same _,rfl,.same _,rfl,.same _,rfl,(Qrk hz112),rfl,.same _,tv⟩ (by kernel_rfl)) (mto (n:=209) [(1,(Qdu p1)),(2,(Qd8 p2)),(3,.ref 0 2 0 0),(6,.ref 1 3 0 0),(9,.ref 2 3 0 0),(10,I y6),(11,I y30),(12,I y8),(13,.ref 3 7 0 0),(16,.ref 4 4 0 0),(17,(.dat 4 ((y53.take 1:List GStream).map Qaa))),(18,.ref 6 4 0 0)] [0,1,2,3,4,6,7,8,9] [(Qgm p0),Qfz,(Qnc y50 y51 y52),(Qd9 x26),(Qh2 x42),(Qpo y54),.tok,.tok,.tok] hφ0 (pc (rnd Qae) (pc (rnd Qac) (prr (prr (prr (pw (pw (pw (prr (prr (pc (rnd Qac) (prr pn)))))))))))) (qb (lc (rnd Qai) (lc (rnd Qab) ln)) (qb (lcc (lc rwl ln)) (qb (lc (.rn (Qaw rfl (Qas Qam _))) (lc (.rn (Qaw rfl (Qas Qau _))) (lc (.rn (Qaw rfl (Qas Qae _))) ln))) (qb (lc rwl (lc (rnd Qay) (lcc (lcc (lc (rnd Qae) ln))))) (qb (lcc (lcc ln)) (qb (lcc (lcc ln)) (qc .tok (qc .tok (qc .tok qn)))))))))))⟩
        ·skip
         refine wxz ?_
         refine bfe h (fun hc113 h=>?_) fun hc113 h=>?_
         ·refine wft hc113<|wx tbk [(4,rp [(.tmp 95,I x26.Amount),(.tmp 97,I x42.Heat)] (I ((if x42.Heat<x26.Amount then x42.Heat else x26.Amount))))] ⟨Qqr rfl,tv⟩ ?_
          obtain ⟨x114,hl115,h⟩:=bno h
          obtain ⟨hi116,h⟩:=cko h
          obtain ⟨hi116a,hi116b⟩:=Qd0 hi116
          obtain ⟨x117,hg118,h⟩:=bno h
          refine wx1 tbk [(5,rp [(.tmp 102,I x42.Heat),(.tmp 104,(I ((if x42.Heat<x26.Amount then x42.Heat else x26.Amount))))] (I x114)),(6,rb [(.tmp 100,(.own 8 4 (0) (1))),ci 0] [(8,(Qpp x42))] (.ref 8 4 ((0:Int).toNat) 0)),(8,⟨[(.tmp 107,(.ref 8 4 ((0:Int).toNat) 1)),(.tmp 105,I x114)],[(8,(Qpp x42))],.any,[(8,(Qzk x42 x117 x114))],false⟩)] ⟨Qhj hl115 (abn rfl rfl),aio rfl Tryz.underlying28 ti89 (odt hi116a) (odt hi116b) (Nat.zero_add _),ast rfl ti3 (by rfl) (mgt Qaa hg118) (nle rfl) (Qgv Qaa rfl),tv⟩<|thn ?_
          exact ⟨(y37,y38,y39,([x42]).set ((0:Int).toNat) (⟨x117.Mass,x114,x117.Silica,x117.Gas⟩:GStream),(if x42.Heat<x26.Amount then x42.Heat else x26.Amount)),h,(mto (n:=209) [(1,(Qdu p1)),(2,(Qd8 p2)),(3,.ref 0 2 0 0),(6,.ref 1 3 0 0),(9,.ref 2 3 0 0),(10,I y6),(11,I y30),(12,I y8),(13,.ref 3 7 0 0),(16,.ref 7 4 0 0),(17,(.own 8 4 (0) (1))),(18,.ref 9 4 0 0)] [0,1,2,3,7,8,9,4,5,6] [(Qgm p0),Qfz,(.own 3 [[(Qta y37),(Qs9 y38),(.acc 6 3 1 ((y39:List Int).map Qal))]]),(Qd9 x26),(Qh2 x42),(Qzk x42 x117 x114),(.own 4 [[(I ((if x42.Heat<x26.Amount then x42.Heat else x26.Amount))),I 0,I 0,I 0]]),.tok,.tok,.tok] hφ0 (pc (rnd Qae) (pc (rnd Qac) (prr (prr (prr (pw (pw (pw (prr (prr (pc (.rn (Qa3 rfl)) (prr pn)))))))))))) (qb (lc (rnd Qai) (lc (rnd Qab) ln)) (qb (lcc (lc rwl ln)) (qb (lc (.rn (Qaw rfl (Qas Qam _))) (lc (.rn (Qaw rfl (Qas Qau _))) (lc (.rn (Qaw rfl (Qas Qae _))) ln))) (qb (lc rwl (lc (rnd Qay) (lcc (lcc (lc (rnd Qae) ln))))) (qb (lcc (lcc ln)) (qc (spr Qac) (qb (lcc (lcc ln)) (qc .tok (qc .tok (qc .tok qn)))))))))))⟩
         ·exact wfn hc113<|Qan<|thn<|⟨(y37,y38,y39,[x42],0),h,(mto (n:=209) [(1,(Qdu p1)),(2,(Qd8 p2)),(3,.ref 0 2 0 0),(6,.ref 1 3 0 0),(9,.ref 2 3 0 0),(10,I y6),(11,I y30),(12,I y8),(13,.ref 3 7 0 0),(16,.ref 7 4 0 0),(17,(.own 8 4 (0) (1))),(18,.ref 9 4 0 0)] [0,1,2,3,7,8,9,4,5,6] [(Qgm p0),Qfz,(.own 3 [[(Qta y37),(Qs9 y38),(.acc 6 3 1 ((y39:List Int).map Qal))]]),(Qd9 x26),(Qh2 x42),(Qpp x42),(.own 4 [[I 0,I 0,I 0,I 0]]),.tok,.tok,.tok] hφ0 (pc (rnd Qae) (pc (rnd Qac) (prr (prr (prr (pw (pw (pw (prr (prr (pc (.rn (Qa3 rfl)) (prr pn)))))))))))) (qb (lc (rnd Qai) (lc (rnd Qab) ln)) (qb (lcc (lc rwl ln)) (qb (lc (.rn (Qaw rfl (Qas Qam _))) (lc (.rn (Qaw rfl (Qas Qau _))) (lc (.rn (Qaw rfl (Qas Qae _))) ln))) (qb (lc rwl (lc (rnd Qay) (lcc (lcc (lc (rnd Qae) ln))))) (qb (lcc (lcc ln)) (qc (spr Qac) (qb (lcc (lcc ln)) (qc .tok (qc .tok (qc .tok qn)))))))))))⟩
      ·skip
       refine wxz<|Qaj ?_
       refine wmr (mto (n:=209) (l':=[(1,(Qdu p1)),(2,(Qd8 p2)),(3,.ref 0 2 0 0),(6,.ref 1 3 0 0),(9,.ref 2 3 0 0),(10,I y6),(11,I y30),(12,I y8),(13,.ref 3 7 0 0),(14,(Qxo y31)),(15,I 0)]) (own':=[(Qgm p0),Qfz,(.own 3 [[(Qxn y32),(Qxm y33),(Qxl y34)]]),(Qd9 x26),.tok,.tok,.tok]) [(1,(Qdu p1)),(2,(Qd8 p2)),(3,.ref 0 2 0 0),(6,.ref 1 3 0 0),(9,.ref 2 3 0 0),(10,I y6),(11,I y30),(12,I y8),(13,.ref 3 7 0 0),(14,(Qxo y31)),(15,I 0)] [0,1,2,3,4,5,6] [(Qgm p0),Qfz,(.own 3 [[(Qxn y32),(Qxm y33),(Qxl y34)]]),(Qd9 x26),.tok,.tok,.tok] hφ0 (pc (rnd Qae) (pc (rnd Qac) (prr (prr (prr (pw (pw (pw (prr (pc (rnd Qac) (pw pn))))))))))) (qb (lc (rnd Qai) (lc (rnd Qab) ln)) (qb (lcc (lc rwl ln)) (qb (lc (.rn (Qaw rfl (Qas Qam _))) (lc (.rn (Qaw rfl (Qas Qau _))) (lc (.rn (Qaw rfl (Qas Qae _))) ln))) (qb (lc rwl (lc (rnd Qay) (lcc (lcc (lc (rnd Qae) ln))))) (qc .tok (qc .tok (qc .tok qn)))))))) ?_
       refine Qbt (τ:=(List GStream)×Int×(List (List GStream))×(List GLost)×(List Int)) (fun n t=>Qfr N x26 k40 n t.1 t.2.1 t.2.2.1 t.2.2.2.1 t.2.2.2.2=some r) (fun ⟨y119,y120,y121,y122,y123⟩=>⟨mk 209 [(1,(Qdu p1)),(2,(Qd8 p2)),(3,.ref 0 2 0 0),(6,.ref 1 3 0 0),(9,.ref 2 3 0 0),(10,I y6),(11,I y30),(12,I y8),(13,.ref 3 7 0 0),(14,(.dat 4 ((y119:List GStream).map Qaa))),(15,I y120)],[(Qgm p0),Qfz,(.own 3 [[(Qpm y121),(Qs0 y122),(.acc 6 3 1 ((y123:List Int).map Qal))]]),(Qd9 x26),.tok,.tok,.tok]⟩) (fun t h=>by rw [Qfr] at h; cases h) (fun n129 ih t h=>?_) N (y31,0,y32,y33,y34) h
       obtain ⟨y119,y120,y121,y122,y123⟩:=t
       rw [Qfr] at h
       skip
       refine wsq<|wx tbk [(3,rp [(.tmp 48,(Qnd x26))] (I ((x26.From.length:Int))))] ⟨alm (c:=Qap) (l:=x26.From) (aln rfl Tryz.underlying57 rfl),tv⟩ ?_
       refine bfe h (fun hc130 h=>?_) fun hc130 h=>?_
       ·refine wft hc130<|Qan<|thn<|wsq<|Qaj ?_
        obtain ⟨ha131,h⟩:=cko h
        obtain ⟨x132,hg133,h⟩:=bno h
        obtain ⟨hi134,hj135⟩:=gsm hg133
        obtain ⟨x136,hg137,h⟩:=bno h
        obtain ⟨hi138,hj139⟩:=gsm hg137
        obtain ⟨x140,hg141,h⟩:=bno h
        obtain ⟨hi142,hj143⟩:=gsm hg141
        obtain ⟨hz144,h⟩:=cko h
        obtain ⟨ha145,h⟩:=cko h
        refine wy1 tbk [(0,⟨[],[(7,.unused)],Q5f,[(7,.tok)],false⟩),(2,⟨[(.tmp 53,Q5f),(.tmp 54,(.dat 4 ((y119:List GStream).map Qaa)))],[(7,.tok),(8,.unused)],(Qs1 y119),[(7,.dead),(8,.tok)],false⟩),(8,rp [(.tmp 59,(Qnd x26)),(.tmp 60,I y120)] (.dptr (Qap (x132)) 0)),(11,rp [(.tmp 57,(Qpm y121)),(.tmp 63,I x132.Element)] (.dptr (Qak (x136)) 0)),(16,rp [(.tmp 67,(Qnd x26)),(.tmp 68,I y120)] (.dptr (Qap (x132)) 0)),(19,rp [(.tmp 65,(.dat 4 ((x136:List GStream).map Qaa))),(.tmp 71,I x132.Outlet)] (.dptr (Qaa (x140)) 0)),(21,⟨[(.tmp 73,(Qzj x140))],[(9,.unused)],(.own 9 4 (0) (1)),[(9,(.own 4 (([x140]:List GStream).map Qaa)))],false⟩),(22,⟨[(.tmp 55,(Qs1 y119)),(.tmp 74,(.own 9 4 (0) (1)))],[(9,(.own 4 (([x140]:List GStream).map Qaa))),(8,.tok),(10,.unused)],(.acc 10 89 4 (((([]:List GStream)++y119)++(([x140]).take 1):List GStream).map Qaa)),[(8,.dead),(10,.tok)],false⟩)] ⟨Qkp rfl Tryz.underlying28 ti89 tz89,Qdj rfl Tryz.underlying28 te89 (Base.acc _ _) rfl rfl (Qmq Qaa Qt3 _) (Qf4 Qaa ha131) (Qf3 Qaa ha131 (by decide)) (Qf2 Qaa) rfl rfl,aid rfl Tryz.underlying57 ti61 rfl rfl hi134 (mgt Qap hj135) rfl,aid rfl Tryz.underlying49 ti28 rfl rfl hi138 (mgt Qak hj139) rfl,aid rfl Tryz.underlying57 ti61 rfl rfl hi134 (mgt Qap hj135) rfl,aid rfl Tryz.underlying28 ti89 rfl rfl hi142 (mgt Qaa hj143) rfl,Qmy (vs:=[(Qzj x140)]) rfl Tryz.underlying28 ti89 tz89 rfl (by decide) rfl (by decide) (by rfl) (by rfl) (by rfl) rfl,Qhy (rd':=[(.tmp 55,(Qs1 y119)),(.tmp 74,(.dat 4 ((([x140]).take 1:List GStream).map Qaa)))]) [(9,4,([x140]:List GStream).map Qaa)] ⟨rfl,.same _,rfl,(Qup 0 rfl hz144),tv⟩ (by rfl) (.acc _ _ _ _ (nin rfl) (by simp) (Qyd Qt9 _)) (Qp3 .dead (Qp3 .tok Qq8)) (Qdj rfl Tryz.underlying28 te89 (Base.acc _ _) rfl rfl (Qmq Qaa Qt3 _) (Qf4 Qaa ha145) (Qf3 Qaa ha145 (by decide)) (Qf2 Qaa) rfl rfl),tv⟩<|bln<|thn<|wxz1<|thn ?_
        exact arm (mto (n:=209) [(1,(Qdu p1)),(2,(Qd8 p2)),(3,.ref 0 2 0 0),(6,.ref 1 3 0 0),(9,.ref 2 3 0 0),(10,I y6),(11,I y30),(12,I y8),(13,.ref 3 7 0 0),(14,(.acc 10 89 4 (((([]:List GStream)++y119)++(([x140]).take 1):List GStream).map Qaa))),(15,(I (w64 (y120+1))))] [0,1,2,3,4,5,6] [(Qgm p0),Qfz,(.own 3 [[(Qpm y121),(Qs0 y122),(.acc 6 3 1 ((y123:List Int).map Qal))]]),(Qd9 x26),.tok,.tok,.tok] hφ0 (pc (rnd Qae) (pc (rnd Qac) (prr (prr (prr (pw (pw (pw (prr (pc (.dat _ _ _ _ (Qas Qac _)) (pw pn))))))))))) (qb (lc (rnd Qai) (lc (rnd Qab) ln)) (qb (lcc (lc rwl ln)) (qb (lc (.rn (Qaw rfl (Qas Qam _))) (lc (.rn (Qaw rfl (Qas Qau _))) (lc (.rn (Qaw rfl (Qas Qae _))) ln))) (qb (lc rwl (lc (rnd Qay) (lcc (lcc (lc (rnd Qae) ln))))) (qc .tok (qc .tok (qc .tok qn)))))))) (ih ((([]:List GStream)++y119)++(([x140]).take 1),w64 (y120+1),y121,y122,y123) h)
       ·exact wfn hc130<|Qbd<|Qax<|Qax<|Qbc rfl<|thn<|⟨(y119,y121,y122,y123),h,(mto (n:=209) [(1,(Qdu p1)),(2,(Qd8 p2)),(3,.ref 0 2 0 0),(6,.ref 1 3 0 0),(9,.ref 2 3 0 0),(10,I y6),(11,I y30),(12,I y8),(13,.ref 3 7 0 0),(14,(.dat 4 ((y119:List GStream).map Qaa)))] [0,1,2,3,4,5,6] [(Qgm p0),Qfz,(.own 3 [[(Qpm y121),(Qs0 y122),(.acc 6 3 1 ((y123:List Int).map Qal))]]),(Qd9 x26),.tok,.tok,.tok] hφ0 (pc (rnd Qae) (pc (rnd Qac) (prr (prr (prr (pw (pw (pw (prr (pc (rnd Qac) pn)))))))))) (qb (lc (rnd Qai) (lc (rnd Qab) ln)) (qb (lcc (lc rwl ln)) (qb (lc (.rn (Qaw rfl (Qas Qam _))) (lc (.rn (Qaw rfl (Qas Qau _))) (lc (.rn (Qaw rfl (Qas Qae _))) ln))) (qb (lc rwl (lc (rnd Qay) (lcc (lcc (lc (rnd Qae) ln))))) (qc .tok (qc .tok (qc .tok qn))))))))⟩
     ·skip
      refine wxz ?_
      refine bfe h (fun hc146 h=>?_) fun hc146 h=>?_
      ·refine wft hc146 ?_
       obtain ⟨hs147,h⟩:=cko h
       exact wx tbk [(4,rp [(.tmp 39,(Qd8 p2)),(.tmp 40,I y7),(.tmp 42,(I (w64 (y7+1))))] (Qzt p2 y7))] ⟨Qnx (k:=.i64) (k':=.i64) (lo:=some (.tmp 40)) (hi:=some (.tmp 42)) (l:=y7) (hh:=w64 (y7+1)) rfl Tryz.underlying28 ti89 rfl (fun e=>nomatch e) (fun e=>nomatch e) (Q1q hs147) (Q1p hs147) (Zoe (Qaa) hs147) (Zre Qaa),tv⟩<|wxz1<|thn<|⟨(w64 (y7+1),(p2.drop y7.toNat).take ((w64 (y7+1)).toNat - y7.toNat),y9,y10,y11),h,(mto (n:=209) [(1,(Qdu p1)),(2,(Qd8 p2)),(3,.ref 0 2 0 0),(6,.ref 1 3 0 0),(9,.ref 2 3 0 0),(10,I y6),(11,(I (w64 (y7+1)))),(12,I y8),(13,.ref 6 7 0 0),(14,(Qzt p2 y7))] [0,1,2,6,3,4,5] [(Qgm p0),Qfz,(Qpq y9 y10 y11),(Qd9 x26),.tok,.tok,.tok] hφ0 (pc (rnd Qae) (pc (rnd Qac) (prr (prr (prr (pw (pw (pw (prr (pc (rnd Qac) pn)))))))))) (qb (lc (rnd Qai) (lc (rnd Qab) ln)) (qb (lcc (lc rwl ln)) (qb (lc (.rn (Qaw rfl (Qas Qam _))) (lc (.rn (Qaw rfl (Qas Qau _))) (lc (.rn (Qaw rfl (Qas Qae _))) ln))) (qb (lc rwl (lc (rnd Qay) (lcc (lcc (lc (rnd Qae) ln))))) (qc .tok (qc .tok (qc .tok qn))))))))⟩
      ·exact wfn hc146<|Qan<|thn<|⟨(y7,[],y9,y10,y11),h,(mto (n:=209) [(1,(Qdu p1)),(2,(Qd8 p2)),(3,.ref 0 2 0 0),(6,.ref 1 3 0 0),(9,.ref 2 3 0 0),(10,I y6),(11,I y7),(12,I y8),(13,.ref 6 7 0 0),(14,nilS)] [0,1,2,6,3,4,5] [(Qgm p0),Qfz,(Qpq y9 y10 y11),(Qd9 x26),.tok,.tok,.tok] hφ0 (pc (rnd Qae) (pc (rnd Qac) (prr (prr (prr (pw (pw (pw (prr (pc (.nil _) pn)))))))))) (qb (lc (rnd Qai) (lc (rnd Qab) ln)) (qb (lcc (lc rwl ln)) (qb (lc (.rn (Qaw rfl (Qas Qam _))) (lc (.rn (Qaw rfl (Qas Qau _))) (lc (.rn (Qaw rfl (Qas Qae _))) ln))) (qb (lc rwl (lc (rnd Qay) (lcc (lcc (lc (rnd Qae) ln))))) (qc .tok (qc .tok (qc .tok qn))))))))⟩
   ·exact wfn hc19<|Qbd<|Qax<|Qax<|Qbc rfl<|thn<|⟨(y6,y9,y10,y11),h,(mto (n:=209) [(6,.ref 1 3 0 0),(9,.ref 2 3 0 0),(10,I y6)] [1,2,3,4,5] [Qfz,(Qpq y9 y10 y11),.tok,.tok,.tok] hφ0 (prr (prr (pw pn))) (qb (lcc (lc rwl ln)) (qb (lc (.rn (Qaw rfl (Qas Qam _))) (lc (.rn (Qaw rfl (Qas Qau _))) (lc (.rn (Qaw rfl (Qas Qae _))) ln))) (qc .tok (qc .tok (qc .tok qn))))))⟩
def Qld (_N:Nat) (p0:GStream):Option GStream:=
  some p0
def Zjn (p0:GStream):AV:=.agg [(I (p0.Mass)),(I (p0.Heat)),(I (p0.Silica)),(I (p0.Gas))]
theorem Qor (N:Nat) (p0:GStream) (r:GStream) (h:Qld N p0=some r):Spec Tryz.prog 37 [(.agg (Qaa p0))] [] (.agg (Qaa r)) []:=by
  refine Qah Tryz.func37 rfl 0 (nle rfl) (fun X φ0 w0 hφ0 hd0=>?_)
  unfold Qld at h
  refine wxz<|wx tbk [(8,rp [(.tmp 4,I p0.Mass),(.tmp 6,I p0.Heat),(.tmp 8,I p0.Silica),(.tmp 10,I p0.Gas)] (Zjn p0))] ⟨Qaz (vs:=[I p0.Mass,I p0.Heat,I p0.Silica,I p0.Gas]) rfl ts89 tz89 rfl (by rfl) rfl,tv⟩<|Qaf ?_
  obtain rfl:=osi h
  exact fend ⟨[(Zjn p0)],⟨Qbj (n:=1) (m:=4) (j:=0) (i:=0) (xs:=[[I p0.Mass,I p0.Heat,I p0.Silica,I p0.Gas]]) (by kernel_rfl) (by kernel_rfl) ti89 (by decide) rfl (nle rfl) rfl,tv⟩,rfl⟩ (NLt.agg _ (nlcc (nlcc nl0)))
def Qd5 (N:Nat) (x2:(GTick×Int×Int)) (k5:(List GFall)→Option ((List GFall)×Int)):Nat→(List GFall)→Int→Option ((List GFall)×Int)
  | 0,_,_=>none
  | n10+1,y6,y7=>
    bif (decide (y7<(x2.1.Lost.length:Int))) then
     (getI x2.1.Lost y7).bind fun x12=>
     bif (decide (x12.Scale>0)) then
      chk (decide ((y6.length+([(⟨y7,x12.Scale⟩:GFall)]).length) * 16≤140737488355328))<|
      Qd5 N x2 k5 n10 (y6++([(⟨y7,x12.Scale⟩:GFall)])) (w64 (y7+1))
     else
      Qd5 N x2 k5 n10 y6 (w64 (y7+1))
    else
     k5 (y6)
def Qlc (N:Nat) (p0:GNet) (p1:(List Int)) (p2:(List GStream)):Option ((List GFall)×Int):=
  (Qmo N p0 p1 p2).bind fun x2=>
  bif (x2.2.2 != 0) then
   some ([],x2.2.2)
  else
   Qbb (fun y4=>
     some (y4,0)) fun k5:(List GFall)→Option ((List GFall)×Int)=>
   Qd5 N x2 k5 N ([]) 0
def Zpf (p0:GNet):AV:=.dat 5 ((p0.Table:List GRow).map Qa4)
def Zpe (p0:GNet):AV:=.dat 7 ((p0.Elements:List GElement).map Qad)
def Qrt (x2:(GTick×Int×Int)):AV:=.dat 4 ((x2.1.Lost:List GLost).map Qa0)
def Qxh (y6:(List GFall)):AV:=.acc 0 92 2 ((y6:List GFall).map Qfg)
theorem Qvf (N:Nat) (p0:GNet) (p1:(List Int)) (p2:(List GStream)) (r:((List GFall)×Int)) (h:Qlc N p0 p1 p2=some r):Spec Tryz.prog 35 [(.agg (Qhz p0)),(.dat 1 (p1.map Qal)),(.dat 4 (p2.map Qaa))] [] (.tup [(.dat 2 (r.1.map Qfg)),(I r.2)]) []:=by
  refine Qah Tryz.func35 rfl 0 (nle rfl) (fun X φ0 w0 hφ0 hd0=>?_)
  unfold Qlc at h
  refine wxz ?_
  obtain ⟨x2,hf1,h⟩:=bno h
  refine wx tbk [(3,rp [fu 16,(.tmp 15,(.agg [(Zpf p0),(Zpe p0)])),(.tmp 16,(.dat 1 ((p1:List Int).map Qal))),(.tmp 17,(.dat 4 ((p2:List GStream).map Qaa)))] (.tup [(.agg [(.dat 1 ((x2.1.Out:List (List GStream)).map Qak)),(Qrt x2),(.dat 1 ((x2.1.State:List Int).map Qal))]),I x2.2.1,I x2.2.2]))] ⟨apv Q3s (Qo7 N p0 p1 p2 _ hf1) (nlc (NLt.agg _ (nlc (nld Qai _) (nlc (nld Qab _) nl0))) (nlc (nld Qae _) (nlc (nld Qac _) nl0))) (NLt.tup _ (nlc (NLt.agg _ (nlc (nld Qam _) (nlc (nld Qau _) (nlc (nld Qae _) nl0)))) (nlcc nl0))),tv⟩<|wsq<|wxz ?_
  refine bfe h (fun hc3 h=>?_) fun hc3 h=>?_
  ·refine wft hc3<|wxz<|Qaf<|Qag ?_
   obtain rfl:=osi h
   exact fend ⟨[(.dat 2 (([]:List GFall).map Qfg)),I x2.2.2],⟨Qd2 (v:=nilS) (rot) Less.nil,rot,tv⟩,rfl⟩ (NLt.tup _ (nlc (nld Qgi _) (nlc nll nl0)))
  ·refine wfn hc3<|Qan<|thn<|wxz ?_
   obtain ⟨k5,hk_k5,h⟩:=jko h
   refine wjn (τ:=(List GFall)) (fun t=>k5 t=some r) (fun y4=>⟨mk 45 [(11,(.acc 0 92 2 ((y4:List GFall).map Qfg)))],[.tok]⟩) (fun y4 h=>?_) ?_
   ·subst hk_k5
    refine wxz<|Qaf ?_
    obtain rfl:=osi h
    exact fend ⟨[(.dat 2 ((y4:List GFall).map Qfg)),I 0],⟨Qd2 (v:=(.acc 0 92 2 ((y4:List GFall).map Qfg))) (rot) Less.acc,rot,tv⟩,rfl⟩ (NLt.tup _ (nlc (nld Qgi _) (nlc nll nl0)))
   ·skip
    refine wx tbk [(2,rp [(.tmp 26,(Qrt x2))] (I ((x2.1.Lost.length:Int))))] ⟨alm (c:=Qa0) (l:=x2.1.Lost) (aln rfl Tryz.underlying32 rfl),tv⟩<|Qaj ?_
    refine wmr (Mor.trans (Qlu 2 92 2 11 (by kernel_rfl) (by kernel_rfl)) (mto (n:=45) (l':=[(11,(.acc 0 92 2 ((([]):List GFall).map Qfg))),(26,(Qrt x2)),(27,(I ((x2.1.Lost.length:Int)))),(28,I 0)]) (own':=[.tok]) [(11,(.acc 2 92 2 (([]:List GFall).map Qfg))),(26,(Qrt x2)),(27,(I ((x2.1.Lost.length:Int)))),(28,I 0)] [2] [.tok] hφ0 (pc (.rn (Qaw rfl (Qas Qgi _))) (pc (rnd Qau) (pw (pw pn)))) (qc .tok qn))) ?_
    refine Qbt (τ:=(List GFall)×Int) (fun n t=>Qd5 N x2 k5 n t.1 t.2=some r) (fun ⟨y6,y7⟩=>⟨mk 45 [(11,(Qxh y6)),(26,(Qrt x2)),(27,(I ((x2.1.Lost.length:Int)))),(28,I y7)],[.tok]⟩) (fun t h=>by rw [Qd5] at h; cases h) (fun n10 ih t h=>?_) N ([],0) h
    obtain ⟨y6,y7⟩:=t
    rw [Qd5] at h
    skip
    refine wxz<|wsq ?_
    refine bfe h (fun hc11 h=>?_) fun hc11 h=>?_
    ·refine wft hc11<|Qan<|thn<|wsq<|Qaj ?_
     obtain ⟨x12,hg13,h⟩:=bno h
     obtain ⟨hi14,hj15⟩:=gsm hg13
     refine wx tbk [(1,rp [(.tmp 26,(Qrt x2)),(.tmp 28,I y7)] (.dptr (Qa0 (x12)) 0))] ⟨aid rfl Tryz.underlying32 ti82 rfl rfl hi14 (mgt Qa0 hj15) rfl,tv⟩<|wxz ?_
     refine bfe h (fun hc16 h=>?_) fun hc16 h=>?_
     ·refine wft hc16 ?_
      obtain ⟨ha17,h⟩:=cko h
      refine wx1 tbk [(4,rp [(.tmp 37,I y7),(.tmp 39,I x12.Scale)] (.agg [I y7,I x12.Scale])),(5,rp [(.tmp 40,(.agg [I y7,I x12.Scale]))] (.dat 2 (([(⟨y7,x12.Scale⟩:GFall)]:List GFall).map Qfg))),(6,⟨[(.tmp 36,(Qxh y6)),(.tmp 41,(.dat 2 (([(⟨y7,x12.Scale⟩:GFall)]:List GFall).map Qfg)))],[(0,.tok),(2,.unused)],(.acc 2 92 2 ((y6++([(⟨y7,x12.Scale⟩:GFall)]):List GFall).map Qfg)),[(0,.dead),(2,.tok)],false⟩)] ⟨Qaz (vs:=[I y7,I x12.Scale]) rfl ts92 tz92 rfl (by rfl) rfl,Qbe (vs:=[(.agg [I y7,I x12.Scale])]) rfl Tryz.underlying85 ti92 tz92 rfl (by decide) rfl (by decide) (by rfl) (by rfl) (by rfl) rfl,Qdj rfl Tryz.underlying85 te92 (Base.acc _ _) rfl rfl (by rfl) (Qf4 Qfg ha17) (Qf3 Qfg ha17 (by decide)) (Qf2 Qfg) rfl rfl,tv⟩<|bln<|thn<|wxz1<|thn ?_
      exact arm (mto (n:=45) [(11,(.acc 2 92 2 ((y6++([(⟨y7,x12.Scale⟩:GFall)]):List GFall).map Qfg))),(26,(Qrt x2)),(27,(I ((x2.1.Lost.length:Int)))),(28,(I (w64 (y7+1))))] [2] [.tok] hφ0 (pc (.rn (Qaw rfl (Qas Qgi _))) (pc (rnd Qau) (pw (pw pn)))) (qc .tok qn)) (ih (y6++([(⟨y7,x12.Scale⟩:GFall)]),w64 (y7+1)) h)
     ·exact wfn hc16<|Qan<|bln<|thn<|wxz1<|thn<|arm (mto (n:=45) [(11,(Qxh y6)),(26,(Qrt x2)),(27,(I ((x2.1.Lost.length:Int)))),(28,(I (w64 (y7+1))))] [0] [.tok] hφ0 (pc (.rn (Qaw rfl (Qas Qgi _))) (pc (rnd Qau) (pw (pw pn)))) (qc .tok qn)) (ih (y6,w64 (y7+1)) h)
    ·exact wfn hc11<|Qbd<|Qax<|Qax<|Qbc rfl<|thn<|⟨(y6),h,(mto (n:=45) [(11,(Qxh y6))] [0] [.tok] hφ0 (pc (.rn (Qaw rfl (Qas Qgi _))) pn) (qc .tok qn))⟩
end Go.Proofs.YtmbhnllcfmiajaaGreat
