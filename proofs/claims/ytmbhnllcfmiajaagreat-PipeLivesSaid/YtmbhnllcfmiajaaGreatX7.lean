/-
  Functions of the program: what they compute, as plain functions, and that they do. No conditions.
-/
import Derived.Test.YtmbhnllcfmiajaaGreatX6
import Derived.Test.YtmbhnllcfmiajaaGreatEngOb
namespace Go.Proofs.YtmbhnllcfmiajaaGreat
set_option maxRecDepth 100000
set_option maxHeartbeats 4000000
open Go.RowKit
def Qh5 (_N:Nat) (p0:GRow) (p1:GStream):Option GParts:=
  (some (w64 (p1.Heat - (w64 (p1.Mass * p0.Liquid))))).bind fun x1=>
  Qbh (fun y3=>
    Qbh (fun _=>
      Qbh (fun ⟨y6,y7,y8,y9,y10,y11⟩=>
        Qbh (fun y13=>
          (some (if (w64 (p1.Silica - (w64 (y9 * p0.Silica))))>0 then w64 (p1.Silica - (w64 (y9 * p0.Silica))) else 0)).bind fun x15=>
          some (⟨(⟨y6,y7,0,y8⟩:GStream),(⟨y9,y10,w64 (p1.Silica - x15),y11⟩:GStream),y13,x15⟩:GParts)) fun k14:Int→Option GParts=>
        bif (decide (x1>0)) then
         k14 (w64 (y10 - (w64 (y9 * p0.Liquid))))
        else
         k14 (0)) fun k12:Int×Int×Int×Int×Int×Int→Option GParts=>
      bif (decide (y3>0)) then
       k12 (y3,w64 (y3 * p0.Vapour),p1.Gas,w64 (p1.Mass - y3),w64 (p1.Heat - (w64 (y3 * p0.Vapour))),0)
      else
       k12 (0,0,0,p1.Mass,p1.Heat,p1.Gas)) fun k5:Unit→Option GParts=>
    bif (y3==p1.Mass) then
     bif (decide (y3>0)) then
      some (⟨(⟨y3,p1.Heat,0,p1.Gas⟩:GStream),(⟨0,0,0,0⟩:GStream),0,p1.Silica⟩:GParts)
     else
      k5 ()
    else
     k5 ()) fun k4:Int→Option GParts=>
  bif (decide (x1>0)) then
   bif (decide (p1.Heat≥(w64 (p1.Mass * p0.Vapour)))) then
    k4 (p1.Mass)
   else
    chk ((w64 (p0.Vapour - p0.Liquid)) != 0)<|
    (some (w64 (x1.tdiv (w64 (p0.Vapour - p0.Liquid))))).bind fun x24=>
    k4 (x24)
  else
   k4 (0)
def Qll (p0:GRow):Slot:=.own 5 [[(I (p0.T)),(I (p0.P)),(I (p0.Liquid)),(I (p0.Vapour)),(I (p0.Silica))]]
def Qlk (p1:GStream):Slot:=.own 4 [[(I (p1.Mass)),(I (p1.Heat)),(I (p1.Silica)),(I (p1.Gas))]]
def Qj7:Slot:=.own 10 [[(I (0)),(I (0)),(I (0)),(I (0)),(I (0)),(I (0)),(I (0)),(I (0)),(I (0)),(I (0))]]
theorem Qta (N:Nat) (p0:GRow) (p1:GStream) (r:GParts) (h:Qh5 N p0 p1=some r):Spec Tryz.prog 63 [(.agg (Qa0 p0)),(.agg (Qaa p1))] [] (.agg (Qxu r)) []:=by
  refine Qai Tryz.func63 rfl 0 (nle rfl) (fun X φ0 w0 hφ0 hd0=>?_)
  unfold Qh5 at h
  refine wxz ?_
  obtain ⟨x1,hl2,h⟩:=bno h
  refine wx tbk [(8,rp [(.tmp 15,(I (w64 (p1.Heat - (w64 (p1.Mass * p0.Liquid))))))] (I x1))] ⟨Qg6 hl2 (aas rfl),trivial⟩<|wxz ?_
  obtain ⟨k4,hk_k4,h⟩:=jko h
  refine wjn (τ:=Int) (fun t=>k4 t=some r) (fun y3=>⟨mk 118 [(2,.ref 0 5 0 0),(3,.ref 1 4 0 0),(4,.ref 2 10 0 0),(5,I x1),(6,I y3)],[(Qll p0),(Qlk p1),Qj7]⟩) (fun y3 h=>?_) ?_
  ·subst hk_k4
   refine wxz ?_
   obtain ⟨k5,hk_k5,h⟩:=jko h
   refine wjn (τ:=Unit) (fun t=>k5 t=some r) (fun _=>⟨mk 118 [(2,.ref 0 5 0 0),(3,.ref 1 4 0 0),(4,.ref 2 10 0 0),(5,I x1),(6,I y3),(7,.ref 3 10 0 0)],[(Qll p0),(Qlk p1),Qj7,Qj7]⟩) (fun t h=>?_) ?_
   ·subst hk_k5
    refine wxz ?_
    obtain ⟨k12,hk_k12,h⟩:=jko h
    refine wjn (τ:=Int×Int×Int×Int×Int×Int) (fun t=>k12 t=some r) (fun ⟨y6,y7,y8,y9,y10,y11⟩=>⟨mk 118 [(2,.ref 0 5 0 0),(3,.ref 1 4 0 0),(4,.ref 2 10 0 0),(5,I x1),(7,.ref 3 10 0 0)],[(Qll p0),(Qlk p1),Qj7,(.own 10 [[I y6,I y7,I 0,I y8,I y9,I y10,I p1.Silica,I y11,I 0,I 0]])]⟩) (fun t h=>?_) ?_
    ·subst hk_k12
     obtain ⟨y6,y7,y8,y9,y10,y11⟩:=t
     obtain ⟨k14,hk_k14,h⟩:=jko h
     refine wjn (τ:=Int) (fun t=>k14 t=some r) (fun y13=>⟨mk 118 [(2,.ref 0 5 0 0),(3,.ref 1 4 0 0),(4,.ref 2 10 0 0),(7,.ref 3 10 0 0)],[(Qll p0),(Qlk p1),Qj7,(.own 10 [[I y6,I y7,I 0,I y8,I y9,I y10,I p1.Silica,I y11,I y13,I 0]])]⟩) (fun y13 h=>?_) ?_
     ·subst hk_k14
      obtain ⟨x15,hl16,h⟩:=bno h
      refine wx tbk [(9,rp [ci 0,(.tmp 107,(I (w64 (p1.Silica - (w64 (y9 * p0.Silica))))))] (I x15))] ⟨Qg6 hl16 (Ql2 rfl),trivial⟩<|wxz<|wxz<|Qaf ?_
      obtain rfl:=osi h
      exact fend ⟨[(.agg [I y6,I y7,I 0,I y8,I y9,I y10,(I (w64 (p1.Silica - x15))),I y11,I y13,I x15])],⟨Qbv (n:=2) (m:=10) (j:=0) (i:=0) (xs:=[[I y6,I y7,I 0,I y8,I y9,I y10,(I (w64 (p1.Silica - x15))),I y11,I y13,I x15]]) (by kernel_rfl) (by kernel_rfl) Zje (by decide) rfl (nle rfl) rfl,trivial⟩,rfl⟩ (NLt.agg _ (nlcc (nlcc (nlcc (nlcc (nlcc nl0))))))
     ·skip
      refine wxz ?_
      refine bfe h (fun hc17 h=>?_) fun hc17 h=>?_
      ·exact wft hc17<|wxz1<|thn<|⟨(w64 (y10 - (w64 (y9 * p0.Liquid)))),h,(mto (n:=118) [(2,.ref 0 5 0 0),(3,.ref 1 4 0 0),(4,.ref 2 10 0 0),(7,.ref 3 10 0 0)] [0,1,2,3] [(Qll p0),(Qlk p1),Qj7,(.own 10 [[I y6,I y7,I 0,I y8,I y9,I y10,I p1.Silica,I y11,(I (w64 (y10 - (w64 (y9 * p0.Liquid))))),I 0]])] hφ0 (pc (.rn (rqr rfl)) (pc (.rn (rqr rfl)) (pc (.rn (rqr rfl)) (pc (.rn (rqr rfl)) pn)))) (qc (spb (lcc (lcc (lc rwl ln)))) (qc (spb (lcc (lcc ln))) (qc (spb (lcc (lcc (lcc (lcc (lcc ln)))))) (qc (spb (lcc (lcc (lcc (lcc (lcc ln)))))) qn)))))⟩
      ·exact wfn hc17<|Qam<|thn<|⟨(0),h,(mto (n:=118) [(2,.ref 0 5 0 0),(3,.ref 1 4 0 0),(4,.ref 2 10 0 0),(7,.ref 3 10 0 0)] [0,1,2,3] [(Qll p0),(Qlk p1),Qj7,(.own 10 [[I y6,I y7,I 0,I y8,I y9,I y10,I p1.Silica,I y11,I 0,I 0]])] hφ0 (pc (.rn (rqr rfl)) (pc (.rn (rqr rfl)) (pc (.rn (rqr rfl)) (pc (.rn (rqr rfl)) pn)))) (qc (spb (lcc (lcc (lc rwl ln)))) (qc (spb (lcc (lcc ln))) (qc (spb (lcc (lcc (lcc (lcc (lcc ln)))))) (qc (spb (lcc (lcc (lcc (lcc (lcc ln)))))) qn)))))⟩
    ·skip
     refine wxz ?_
     refine bfe h (fun hc18 h=>?_) fun hc18 h=>?_
     ·refine wft hc18<|wx tbk [(7,rp [(.tmp 62,I y3),(.tmp 66,(I (w64 (y3 * p0.Vapour)))),(.tmp 68,I p1.Gas)] (.agg [I y3,(I (w64 (y3 * p0.Vapour))),I 0,I p1.Gas]))] ⟨Qau (vs:=[I y3,(I (w64 (y3 * p0.Vapour))),I p1.Gas]) rfl ts89 tz89 rfl (by rfl) rfl,trivial⟩ ?_
      refine wx1 tbk [(13,rp [(.tmp 74,(I (w64 (p1.Mass - y3)))),(.tmp 81,(I (w64 (p1.Heat - (w64 (y3 * p0.Vapour)))))),(.tmp 83,I p1.Silica)] (.agg [(I (w64 (p1.Mass - y3))),(I (w64 (p1.Heat - (w64 (y3 * p0.Vapour))))),I p1.Silica,I 0]))] ⟨Qau (vs:=[(I (w64 (p1.Mass - y3))),(I (w64 (p1.Heat - (w64 (y3 * p0.Vapour))))),I p1.Silica]) rfl ts89 tz89 rfl (by rfl) rfl,trivial⟩<|thn ?_
      exact ⟨(y3,w64 (y3 * p0.Vapour),p1.Gas,w64 (p1.Mass - y3),w64 (p1.Heat - (w64 (y3 * p0.Vapour))),0),h,(mto (n:=118) [(2,.ref 0 5 0 0),(3,.ref 1 4 0 0),(4,.ref 2 10 0 0),(5,I x1),(7,.ref 3 10 0 0)] [0,1,2,3] [(Qll p0),(Qlk p1),Qj7,(.own 10 [[I y3,(I (w64 (y3 * p0.Vapour))),I 0,I p1.Gas,(I (w64 (p1.Mass - y3))),(I (w64 (p1.Heat - (w64 (y3 * p0.Vapour))))),I p1.Silica,I 0,I 0,I 0]])] hφ0 (pc (.rn (rqr rfl)) (pc (.rn (rqr rfl)) (pc (.rn (rqr rfl)) (pc rwl (pc (.rn (rqr rfl)) pn))))) (qc (spb (lcc (lcc (lc rwl ln)))) (qc (spb (lcc (lcc ln))) (qc (spb (lcc (lcc (lcc (lcc (lcc ln)))))) (qc (spb (lcc (lcc (lcc (lcc (lcc ln)))))) qn)))))⟩
     ·exact wfn hc18<|Qam<|thn<|⟨(0,0,0,p1.Mass,p1.Heat,p1.Gas),h,(mto (n:=118) [(2,.ref 0 5 0 0),(3,.ref 1 4 0 0),(4,.ref 2 10 0 0),(5,I x1),(7,.ref 3 10 0 0)] [0,1,2,3] [(Qll p0),(Qlk p1),Qj7,(.own 10 [[I 0,I 0,I 0,I 0,I p1.Mass,I p1.Heat,I p1.Silica,I p1.Gas,I 0,I 0]])] hφ0 (pc (.rn (rqr rfl)) (pc (.rn (rqr rfl)) (pc (.rn (rqr rfl)) (pc rwl (pc (.rn (rqr rfl)) pn))))) (qc (spb (lcc (lcc (lc rwl ln)))) (qc (spb (lcc (lcc ln))) (qc (spb (lcc (lcc (lcc (lcc (lcc ln)))))) (qc (spb (lcc (lcc (lcc (lcc (lcc ln)))))) qn)))))⟩
   ·skip
    refine bfe h (fun hb19 h=>?_) fun hb19 h=>?_
    ·refine wx tbk [(4,rp [(.tmp 42,(B ((y3==p1.Mass))))] (B true))] ⟨asb hb19 (amv rfl),trivial⟩ ?_
     refine bfe h (fun hc20 h=>?_) fun hc20 h=>?_
     ·refine wft hc20<|wx tbk [(5,rp [(.tmp 47,I y3),(.tmp 49,I p1.Heat),(.tmp 51,I p1.Gas)] (.agg [I y3,I p1.Heat,I 0,I p1.Gas]))] ⟨Qau (vs:=[I y3,I p1.Heat,I p1.Gas]) rfl ts89 tz89 rfl (by rfl) rfl,trivial⟩<|wxz<|wxz<|Qaf<|Qag ?_
      obtain rfl:=osi h
      exact fend ⟨[(.agg [I y3,I p1.Heat,I 0,I p1.Gas,I 0,I 0,I 0,I 0,I 0,I p1.Silica])],⟨Qbv (n:=2) (m:=10) (j:=0) (i:=0) (xs:=[[I y3,I p1.Heat,I 0,I p1.Gas,I 0,I 0,I 0,I 0,I 0,I p1.Silica]]) (by kernel_rfl) (by kernel_rfl) Zje (by decide) rfl (nle rfl) rfl,trivial⟩,rfl⟩ (NLt.agg _ (nlcc (nlcc (nlcc (nlcc (nlcc nl0))))))
     ·exact wfn hc20<|Qam<|thn<|⟨(),h,(mto (n:=118) [(2,.ref 0 5 0 0),(3,.ref 1 4 0 0),(4,.ref 2 10 0 0),(5,I x1),(6,I y3),(7,.ref 3 10 0 0)] [0,1,2,3] [(Qll p0),(Qlk p1),Qj7,Qj7] hφ0 (pc (.rn (rqr rfl)) (pc (.rn (rqr rfl)) (pc (.rn (rqr rfl)) (pc rwl (pc rwl (pc (.rn (rqr rfl)) pn)))))) (qc (spb (lcc (lcc (lc rwl ln)))) (qc (spb (lcc (lcc ln))) (qc (spb (lcc (lcc (lcc (lcc (lcc ln)))))) (qc (spb (lcc (lcc (lcc (lcc (lcc ln)))))) qn)))))⟩
    ·exact wx tbk [(4,rp [(.tmp 42,(B ((y3==p1.Mass))))] (B false))] ⟨asb hb19 (amv rfl),trivial⟩<|wfa<|Qam<|thn<|⟨(),h,(mto (n:=118) [(2,.ref 0 5 0 0),(3,.ref 1 4 0 0),(4,.ref 2 10 0 0),(5,I x1),(6,I y3),(7,.ref 3 10 0 0)] [0,1,2,3] [(Qll p0),(Qlk p1),Qj7,Qj7] hφ0 (pc (.rn (rqr rfl)) (pc (.rn (rqr rfl)) (pc (.rn (rqr rfl)) (pc rwl (pc rwl (pc (.rn (rqr rfl)) pn)))))) (qc (spb (lcc (lcc (lc rwl ln)))) (qc (spb (lcc (lcc ln))) (qc (spb (lcc (lcc (lcc (lcc (lcc ln)))))) (qc (spb (lcc (lcc (lcc (lcc (lcc ln)))))) qn)))))⟩
  ·skip
   refine bfe h (fun hb21 h=>?_) fun hb21 h=>?_
   ·refine wx tbk [(2,rp [(.tmp 17,(B ((decide (x1>0)))))] (B true))] ⟨asb hb21 (amv rfl),trivial⟩ ?_
    refine bfe h (fun hc22 h=>?_) fun hc22 h=>?_
    ·exact wft hc22<|wxz1<|thn<|⟨(p1.Mass),h,(mto (n:=118) [(2,.ref 0 5 0 0),(3,.ref 1 4 0 0),(4,.ref 2 10 0 0),(5,I x1),(6,I p1.Mass)] [0,1,2] [(Qll p0),(Qlk p1),Qj7] hφ0 (pc (.rn (rqr rfl)) (pc (.rn (rqr rfl)) (pc (.rn (rqr rfl)) (pc rwl (pc rwl pn))))) (qc (spb (lcc (lcc (lc rwl ln)))) (qc (spb (lcc (lcc ln))) (qc (spb (lcc (lcc (lcc (lcc (lcc ln)))))) qn))))⟩
    ·refine wfn hc22<|wxz<|wft hb21 ?_
     obtain ⟨hz23,h⟩:=cko h
     obtain ⟨x24,hl25,h⟩:=bno h
     exact wx1 tbk [(6,rp [(.tmp 32,I x1),(.tmp 37,(I (w64 (p0.Vapour - p0.Liquid))))] (I (w64 (x1.tdiv (w64 (p0.Vapour - p0.Liquid)))))),(7,rp [(.tmp 38,(I (w64 (x1.tdiv (w64 (p0.Vapour - p0.Liquid))))))] (I x24))] ⟨Qjv rfl (Qkx hz23),Qg6 hl25 (aas rfl),trivial⟩<|thn<|⟨(x24),h,(mto (n:=118) [(2,.ref 0 5 0 0),(3,.ref 1 4 0 0),(4,.ref 2 10 0 0),(5,I x1),(6,I x24)] [0,1,2] [(Qll p0),(Qlk p1),Qj7] hφ0 (pc (.rn (rqr rfl)) (pc (.rn (rqr rfl)) (pc (.rn (rqr rfl)) (pc rwl (pc rwl pn))))) (qc (spb (lcc (lcc (lc rwl ln)))) (qc (spb (lcc (lcc ln))) (qc (spb (lcc (lcc (lcc (lcc (lcc ln)))))) qn))))⟩
   ·exact wx tbk [(2,rp [(.tmp 17,(B ((decide (x1>0)))))] (B false))] ⟨asb hb21 (amv rfl),trivial⟩<|wfa<|wxz<|wfn hb21<|Qam<|thn<|⟨(0),h,(mto (n:=118) [(2,.ref 0 5 0 0),(3,.ref 1 4 0 0),(4,.ref 2 10 0 0),(5,I x1),(6,I 0)] [0,1,2] [(Qll p0),(Qlk p1),Qj7] hφ0 (pc (.rn (rqr rfl)) (pc (.rn (rqr rfl)) (pc (.rn (rqr rfl)) (pc rwl (pc rwl pn))))) (qc (spb (lcc (lcc (lc rwl ln)))) (qc (spb (lcc (lcc ln))) (qc (spb (lcc (lcc (lcc (lcc (lcc ln)))))) qn))))⟩
def Qe5 (N:Nat) (p0:(List GStream)) (k5:Int×Int×Int×Int→Option GStream):Nat→Int→Int→Int→Int→Int→Option GStream
  | 0,_,_,_,_,_=>none
  | n16+1,y6,y7,y8,y9,y10=>
    bif (decide (y6<(p0.length:Int))) then
     (getI p0 y6).bind fun x18=>
     Qe5 N p0 k5 n16 (w64 (y6+1)) (w64 (y7+x18.Mass)) (w64 (y8+x18.Heat)) (w64 (y9+x18.Silica)) (w64 (y10+x18.Gas))
    else
     k5 (y7,y8,y9,y10)
def Qhj (N:Nat) (p0:(List GStream)):Option GStream:=
  Qbh (fun ⟨y1,y2,y3,y4⟩=>
    some (⟨y1,y2,y3,y4⟩:GStream)) fun k5:Int×Int×Int×Int→Option GStream=>
  Qe5 N p0 k5 N 0 0 0 0 0
def Qrf:Slot:=.own 4 [[(I (0)),(I (0)),(I (0)),(I (0))]]
def Qpf (p0:(List GStream)):AV:=.dat 4 ((p0:List GStream).map Qaa)
theorem Ql9 (N:Nat) (p0:(List GStream)) (r:GStream) (h:Qhj N p0=some r):Spec Tryz.prog 38 [(.dat 4 (p0.map Qaa))] [] (.agg (Qaa r)) []:=by
  refine Qai Tryz.func38 rfl 0 (nle rfl) (fun X φ0 w0 hφ0 hd0=>?_)
  unfold Qhj at h
  refine wxz<|wxz ?_
  obtain ⟨k5,hk_k5,h⟩:=jko h
  refine wjn (τ:=Int×Int×Int×Int) (fun t=>k5 t=some r) (fun ⟨y1,y2,y3,y4⟩=>⟨mk 45 [(2,.ref 0 4 0 0),(3,.ref 1 4 0 0)],[Qrf,(.own 4 [[I y1,I y2,I y3,I y4]])]⟩) (fun t h=>?_) ?_
  ·subst hk_k5
   obtain ⟨y1,y2,y3,y4⟩:=t
   refine wxz<|Qaf ?_
   obtain rfl:=osi h
   exact fend ⟨[(.agg [I y1,I y2,I y3,I y4])],⟨Qbv (n:=0) (m:=4) (j:=0) (i:=0) (xs:=[[I y1,I y2,I y3,I y4]]) (by kernel_rfl) (by kernel_rfl) ti89 (by decide) rfl (nle rfl) rfl,trivial⟩,rfl⟩ (NLt.agg _ (nlcc (nlcc nl0)))
  ·skip
   refine wxz<|Qal ?_
   refine wmr (mto (n:=45) (l':=[(0,(Qpf p0)),(2,.ref 0 4 0 0),(3,.ref 1 4 0 0),(4,I 0)]) (own':=[Qrf,Qrf]) [(0,(Qpf p0)),(2,.ref 0 4 0 0),(3,.ref 1 4 0 0),(4,I 0)] [0,1] [Qrf,Qrf] hφ0 (pc (rnd Qac) (pc (.rn (rqr rfl)) (pc (.rn (rqr rfl)) (pc rwl pn)))) (qc (spb (lcc (lcc ln))) (qc (spb (lcc (lcc ln))) qn))) ?_
   refine Qby (τ:=Int×Int×Int×Int×Int) (fun n t=>Qe5 N p0 k5 n t.1 t.2.1 t.2.2.1 t.2.2.2.1 t.2.2.2.2=some r) (fun ⟨y6,y7,y8,y9,y10⟩=>⟨mk 45 [(0,(Qpf p0)),(2,.ref 0 4 0 0),(3,.ref 1 4 0 0),(4,I y6)],[Qrf,(.own 4 [[I y7,I y8,I y9,I y10]])]⟩) (fun t h=>by rw [Qe5] at h; cases h) (fun n16 ih t h=>?_) N (0,0,0,0,0) h
   obtain ⟨y6,y7,y8,y9,y10⟩:=t
   rw [Qe5] at h
   skip
   refine wsq<|wx tbk [(2,rp [(.tmp 6,(Qpf p0))] (I ((p0.length:Int))))] ⟨alm (c:=Qaa) (l:=p0) (aln rfl Tryz.underlying28 rfl),trivial⟩ ?_
   refine bfe h (fun hc17 h=>?_) fun hc17 h=>?_
   ·refine wft hc17<|Qam<|thn<|wsq<|Qal ?_
    obtain ⟨x18,hg19,h⟩:=bno h
    obtain ⟨hi20,hj21⟩:=gsm hg19
    refine wy1 tbk [(4,rp [(.tmp 13,(Qpf p0)),(.tmp 14,I y6)] (.dptr (Qaa (x18)) 0)),(12,rp [(.tmp 21,(Qpf p0)),(.tmp 22,I y6)] (.dptr (Qaa (x18)) 0)),(20,rp [(.tmp 29,(Qpf p0)),(.tmp 30,I y6)] (.dptr (Qaa (x18)) 0)),(28,rp [(.tmp 37,(Qpf p0)),(.tmp 38,I y6)] (.dptr (Qaa (x18)) 0)),(32,rp [(.tmp 18,(I (w64 (y7+x18.Mass)))),(.tmp 26,(I (w64 (y8+x18.Heat)))),(.tmp 34,(I (w64 (y9+x18.Silica)))),(.tmp 42,(I (w64 (y10+x18.Gas))))] (.agg [(I (w64 (y7+x18.Mass))),(I (w64 (y8+x18.Heat))),(I (w64 (y9+x18.Silica))),(I (w64 (y10+x18.Gas)))]))] ⟨aid rfl Tryz.underlying28 ti89 rfl rfl hi20 (mgt Qaa hj21) rfl,aid rfl Tryz.underlying28 ti89 rfl rfl hi20 (mgt Qaa hj21) rfl,aid rfl Tryz.underlying28 ti89 rfl rfl hi20 (mgt Qaa hj21) rfl,aid rfl Tryz.underlying28 ti89 rfl rfl hi20 (mgt Qaa hj21) rfl,Qau (vs:=[(I (w64 (y7+x18.Mass))),(I (w64 (y8+x18.Heat))),(I (w64 (y9+x18.Silica))),(I (w64 (y10+x18.Gas)))]) rfl ts89 tz89 rfl (by rfl) rfl,trivial⟩<|bln<|thn<|wxz1<|thn ?_
    exact arm (mto (n:=45) [(0,(Qpf p0)),(2,.ref 0 4 0 0),(3,.ref 1 4 0 0),(4,(I (w64 (y6+1))))] [0,1] [Qrf,(.own 4 [[(I (w64 (y7+x18.Mass))),(I (w64 (y8+x18.Heat))),(I (w64 (y9+x18.Silica))),(I (w64 (y10+x18.Gas)))]])] hφ0 (pc (rnd Qac) (pc (.rn (rqr rfl)) (pc (.rn (rqr rfl)) (pc rwl pn)))) (qc (spb (lcc (lcc ln))) (qc (spb (lcc (lcc ln))) qn))) (ih (w64 (y6+1),w64 (y7+x18.Mass),w64 (y8+x18.Heat),w64 (y9+x18.Silica),w64 (y10+x18.Gas)) h)
   ·exact wfn hc17<|Qbj<|Qav<|Qav<|Qbi rfl<|thn<|⟨(y7,y8,y9,y10),h,(mto (n:=45) [(2,.ref 0 4 0 0),(3,.ref 1 4 0 0)] [0,1] [Qrf,(.own 4 [[I y7,I y8,I y9,I y10]])] hφ0 (pc (.rn (rqr rfl)) (pc (.rn (rqr rfl)) pn)) (qc (spb (lcc (lcc ln))) (qc (spb (lcc (lcc ln))) qn)))⟩
def Qh1 (_N:Nat) (p0:Int) (p1:Int) (p2:Int):Option Int:=
  bif (p2==0) then
   some 0
  else
   chk (p2 != 0)<|
   (some (w64 ((w64 (p0 * p1)).tdiv p2))).bind fun x3=>
   some x3
theorem Qlf (N:Nat) (p0:Int) (p1:Int) (p2:Int) (r:Int) (h:Qh1 N p0 p1 p2=some r):Spec Tryz.prog 99 [(I p0),(I p1),(I p2)] [] (I r) []:=by
  refine Qai Tryz.func99 rfl 0 (nle rfl) (fun X φ0 w0 hφ0 hd0=>?_)
  unfold Qh1 at h
  refine wxz<|wsq<|wxz ?_
  refine bfe h (fun hc1 h=>?_) fun hc1 h=>?_
  ·refine wft hc1<|wxz<|Qaf<|Qag ?_
   obtain rfl:=osi h
   exact fend ⟨[I 0],⟨rot,trivial⟩,rfl⟩ nll
  ·refine wfn hc1<|Qam<|thn ?_
   obtain ⟨hz2,h⟩:=cko h
   obtain ⟨x3,hl4,h⟩:=bno h
   refine wx tbk [(4,rp [(.tmp 11,(I (w64 (p0 * p1)))),(.tmp 12,I p2)] (I (w64 ((w64 (p0 * p1)).tdiv p2)))),(5,rp [(.tmp 13,(I (w64 ((w64 (p0 * p1)).tdiv p2))))] (I x3))] ⟨Qjv rfl (Qkx hz2),Qg6 hl4 (aas rfl),trivial⟩<|Qaf ?_
   obtain rfl:=osi h
   exact fend ⟨[I x3],⟨rot,trivial⟩,rfl⟩ nll
def Qef (N:Nat) (p0:GStream) (p1:(List Int)) (y8:(List Int)) (k14:(List GStream)×Int×Int×Int→Option ((List GStream)×GLoss)):Nat→(List GStream)→Int→Int→Int→Int→Option ((List GStream)×GLoss)
  | 0,_,_,_,_,_=>none
  | n25+1,y15,y16,y17,y18,y19=>
    bif (decide (y16<(p1.length:Int))) then
     chk (decide (0≤y16)&&decide (y16.toNat<(p1.length:Int).toNat))<|
     (y8[y16.toNat]?).bind fun x28=>
     (Qh1 N p0.Heat x28 p0.Mass).bind fun x31=>
     (Qh1 N p0.Silica x28 p0.Mass).bind fun x33=>
     (Qh1 N p0.Gas x28 p0.Mass).bind fun x35=>
     chk (decide ((y15.length+([(⟨x28,x31,x33,x35⟩:GStream)]).length) * 32≤140737488355328))<|
     Qef N p0 p1 y8 k14 n25 (y15++([(⟨x28,x31,x33,x35⟩:GStream)])) (w64 (y16+1)) (w64 (y17 - x31)) (w64 (y18 - x33)) (w64 (y19 - x35))
    else
     k14 (y15,y17,y18,y19)
def Qcv (N:Nat) (p0:GStream) (p1:(List Int)) (y1:Int) (y39:(List Bool)) (k46:Int→Option ((List GStream)×GLoss)):Nat→Int→Int→Option ((List GStream)×GLoss)
  | 0,_,_=>none
  | n60+1,y56,y57=>
    bif (decide (y57<(p1.length:Int))) then
     chk (decide (0≤y57)&&decide (y57.toNat<(p1.length:Int).toNat))<|
     (y39[y57.toNat]?).bind fun x63=>
     bif (!x63) then
      bif (decide (y56<0)) then
       Qcv N p0 p1 y1 y39 k46 n60 y57 (w64 (y57+1))
      else
       (getI p1 y57).bind fun x67=>
       chk (y1 != 0)<|
       (getI p1 y56).bind fun x72=>
       chk (y1 != 0)<|
       bif (decide (((w64 (p0.Mass * x67)).tmod y1)>((w64 (p0.Mass * x72)).tmod y1))) then
        Qcv N p0 p1 y1 y39 k46 n60 y57 (w64 (y57+1))
       else
        Qcv N p0 p1 y1 y39 k46 n60 y56 (w64 (y57+1))
     else
      Qcv N p0 p1 y1 y39 k46 n60 y56 (w64 (y57+1))
    else
     k46 (y56)
def Qee (N:Nat) (p0:GStream) (p1:(List Int)) (y1:Int) (k9:(List Int)→Option ((List GStream)×GLoss)):Nat→Int→(List Int)→(List Bool)→Option ((List GStream)×GLoss)
  | 0,_,_,_=>none
  | n43+1,y37,y38,y39=>
    bif (decide (y37>0)) then
     Qbh (fun y45=>
       chk (decide (0≤y45)&&decide (y45.toNat<(p1.length:Int).toNat))<|
       (y39[y45.toNat]?).bind fun _=>
       chk (decide (0≤y45)&&decide (y45.toNat<(p1.length:Int).toNat))<|
       (y38[y45.toNat]?).bind fun x51=>
       chk (decide (0≤y45)&&decide (y45.toNat<(p1.length:Int).toNat))<|
       (y38[y45.toNat]?).bind fun _=>
       Qee N p0 p1 y1 k9 n43 (w64 (y37 - 1)) (y38.set y45.toNat (w64 (x51+1))) (y39.set y45.toNat true)) fun k46:Int→Option ((List GStream)×GLoss)=>
     Qcv N p0 p1 y1 y39 k46 N (-1) 0
    else
     k9 (y38)
def Qed (N:Nat) (p0:GStream) (p1:(List Int)) (y1:Int) (k6:Int×(List Int)→Option ((List GStream)×GLoss)):Nat→Int→Int→(List Int)→Option ((List GStream)×GLoss)
  | 0,_,_,_=>none
  | n84+1,y78,y79,y80=>
    bif (decide (y79<(p1.length:Int))) then
     (getI p1 y79).bind fun x86=>
     chk (y1 != 0)<|
     chk (decide (0≤y79)&&decide (y79.toNat<(p1.length:Int).toNat))<|
     (y80[y79.toNat]?).bind fun _=>
     chk (decide (0≤y79)&&decide (y79.toNat<(p1.length:Int).toNat))<|
     ((y80.set y79.toNat (w64 ((w64 (p0.Mass * x86)).tdiv y1)))[y79.toNat]?).bind fun x95=>
     Qed N p0 p1 y1 k6 n84 (w64 (y78 - x95)) (w64 (y79+1)) (y80.set y79.toNat (w64 ((w64 (p0.Mass * x86)).tdiv y1)))
    else
     k6 (y78,y80)
def Qec (N:Nat) (p1:(List Int)) (k2:Int→Option ((List GStream)×GLoss)):Nat→Int→Int→Option ((List GStream)×GLoss)
  | 0,_,_=>none
  | n101+1,y97,y98=>
    bif (decide (y98<(p1.length:Int))) then
     (getI p1 y98).bind fun x103=>
     Qec N p1 k2 n101 (w64 (y97+x103)) (w64 (y98+1))
    else
     k2 (y97)
def Qhd (N:Nat) (p0:GStream) (p1:(List Int)):Option ((List GStream)×GLoss):=
  Qbh (fun y1=>
    chk (decide (0≤(p1.length:Int))&&decide (8 * (p1.length:Int)≤281474976710656)&&decide ((p1.length:Int)≤9223372036854775807))<|
    Qbh (fun ⟨y4,y5⟩=>
      chk (decide (0≤(p1.length:Int))&&decide (1 * (p1.length:Int)≤281474976710656)&&decide ((p1.length:Int)≤9223372036854775807))<|
      Qbh (fun y8=>
        Qbh (fun ⟨y10,y11,y12,y13⟩=>
          some (y10,(⟨y11,y12,y13⟩:GLoss))) fun k14:(List GStream)×Int×Int×Int→Option ((List GStream)×GLoss)=>
        Qef N p0 p1 y8 k14 N ([]) 0 p0.Heat p0.Silica p0.Gas) fun k9:(List Int)→Option ((List GStream)×GLoss)=>
      Qee N p0 p1 y1 k9 N y4 y5 (List.replicate (p1.length:Int).toNat false)) fun k6:Int×(List Int)→Option ((List GStream)×GLoss)=>
    Qed N p0 p1 y1 k6 N p0.Mass 0 (List.replicate (p1.length:Int).toNat 0)) fun k2:Int→Option ((List GStream)×GLoss)=>
  Qec N p1 k2 N 0 0
def Qdw (p1:(List Int)):AV:=.dat 1 ((p1:List Int).map Qak)
def Qfi (p0:GStream):Slot:=.own 4 [[(I (p0.Mass)),(I (p0.Heat)),(I (p0.Silica)),(I (p0.Gas))]]
def Qe9:Slot:=.own 3 [[(I (0)),(I (0)),(I (0))]]
def Zgq (p1:(List Int)):Slot:=.own 1 ((List.replicate (p1.length:Int).toNat 0:List Int).map Qak)
def Q9e (p1:(List Int)):Slot:=.own 1 ((List.replicate (p1.length:Int).toNat false:List Bool).map Qmp)
def Qoj (y8:(List Int)):Slot:=.own 1 ((y8:List Int).map Qak)
def Q1h (y15:(List GStream)):AV:=.acc 4 89 4 ((y15:List GStream).map Qaa)
def Qhy (y38:(List Int)):Slot:=.own 1 ((y38:List Int).map Qak)
def Qg4 (y39:(List Bool)):Slot:=.own 1 ((y39:List Bool).map Qmp)
def Qwo (y80:(List Int)):Slot:=.own 1 ((y80:List Int).map Qak)
def Qwn (y80:(List Int)) (y79:Int) (p0:GStream) (x86:Int) (y1:Int):Slot:=.own 1 ((y80.set y79.toNat (w64 ((w64 (p0.Mass * x86)).tdiv y1)):List Int).map Qak)
theorem Qnc (N:Nat) (p0:GStream) (p1:(List Int)) (r:((List GStream)×GLoss)) (h:Qhd N p0 p1=some r):Spec Tryz.prog 64 [(.agg (Qaa p0)),(.dat 1 (p1.map Qak))] [] (.tup [(.dat 4 (r.1.map Qaa)),(.agg (Zbk r.2))]) []:=by
  refine Qai Tryz.func64 rfl 0 (nle rfl) (fun X φ0 w0 hφ0 hd0=>?_)
  unfold Qhd at h
  refine wxz<|wxe ?_
  obtain ⟨k2,hk_k2,h⟩:=jko h
  refine wjn (τ:=Int) (fun t=>k2 t=some r) (fun y1=>⟨mk 172 [(1,(Qdw p1)),(2,.ref 0 4 0 0),(5,.ref 1 3 0 0),(6,I y1),(7,I p0.Mass)],[(Qfi p0),Qe9]⟩) (fun y1 h=>?_) ?_
  ·subst hk_k2
   obtain ⟨hm3,h⟩:=cko h
   refine wx tbk [(1,rp [(.tmp 33,(Qdw p1))] (I ((p1.length:Int)))),(2,⟨[(.tmp 34,(I ((p1.length:Int)))),(.tmp 34,(I ((p1.length:Int))))],[(2,.unused)],(.own 2 1 (0) ((p1.length:Int).toNat)),[(2,(Zgq p1))],false⟩)] ⟨alm (c:=Qak) (l:=p1) (aln rfl Tryz.underlying27 rfl),Ql3 rfl Tryz.underlying27 te3 tz3 rfl (Q0s hm3) rfl (Q0r hm3) (Q0q hm3) (Qwy Qak rfl),trivial⟩ ?_
   obtain ⟨k6,hk_k6,h⟩:=jko h
   refine wjn (τ:=Int×(List Int)) (fun t=>k6 t=some r) (fun ⟨y4,y5⟩=>⟨mk 172 [(1,(Qdw p1)),(2,.ref 0 4 0 0),(5,.ref 1 3 0 0),(6,I y1),(7,I y4),(9,(.own 2 1 (0) ((p1.length:Int).toNat)))],[(Qfi p0),Qe9,(.own 1 ((y5:List Int).map Qak))]⟩) (fun t h=>?_) ?_
   ·subst hk_k6
    obtain ⟨y4,y5⟩:=t
    obtain ⟨hm7,h⟩:=cko h
    refine wx tbk [(1,rp [(.tmp 60,(Qdw p1))] (I ((p1.length:Int)))),(2,⟨[(.tmp 61,(I ((p1.length:Int)))),(.tmp 61,(I ((p1.length:Int))))],[(3,.unused)],(.own 3 1 (0) ((p1.length:Int).toNat)),[(3,(Q9e p1))],false⟩)] ⟨alm (c:=Qak) (l:=p1) (aln rfl Tryz.underlying27 rfl),Ql3 rfl Tryz.underlying185 te4 tz4 rfl (Q0s hm7) rfl (Q0r hm7) (Q0q hm7) (Qwy Qmp rfl),trivial⟩ ?_
    obtain ⟨k9,hk_k9,h⟩:=jko h
    refine wjn (τ:=(List Int)) (fun t=>k9 t=some r) (fun y8=>⟨mk 172 [(1,(Qdw p1)),(2,.ref 0 4 0 0),(5,.ref 1 3 0 0),(9,(.own 2 1 (0) ((p1.length:Int).toNat)))],[(Qfi p0),Qe9,(Qoj y8)]⟩) (fun y8 h=>?_) ?_
    ·subst hk_k9
     refine wx tbk [(6,rp [(.tmp 114,I p0.Heat),(.tmp 116,I p0.Silica),(.tmp 118,I p0.Gas)] (.agg [I p0.Heat,I p0.Silica,I p0.Gas]))] ⟨Qau (vs:=[I p0.Heat,I p0.Silica,I p0.Gas]) rfl Zme Zja rfl (by rfl) rfl,trivial⟩<|wxz ?_
     obtain ⟨k14,hk_k14,h⟩:=jko h
     refine wjn (τ:=(List GStream)×Int×Int×Int) (fun t=>k14 t=some r) (fun ⟨y10,y11,y12,y13⟩=>⟨mk 172 [(5,.ref 0 3 0 0),(14,.ref 1 3 0 0),(15,(.acc 2 89 4 ((y10:List GStream).map Qaa)))],[Qe9,(.own 3 [[I y11,I y12,I y13]]),.tok]⟩) (fun t h=>?_) ?_
     ·subst hk_k14
      obtain ⟨y10,y11,y12,y13⟩:=t
      refine wxe<|Qaf ?_
      obtain rfl:=osi h
      exact fend ⟨[(.dat 4 ((y10:List GStream).map Qaa)),(.agg [I y11,I y12,I y13])],⟨Qez (v:=(.acc 2 89 4 ((y10:List GStream).map Qaa))) (rot) Less.acc,Qbv (n:=0) (m:=3) (j:=0) (i:=0) (xs:=[[I y11,I y12,I y13]]) (by kernel_rfl) (by kernel_rfl) Zmh (by decide) rfl (nle rfl) rfl,trivial⟩,rfl⟩ (NLt.tup _ (nlc (nld Qac _) (nlc (NLt.agg _ (nlcc (nlc nll nl0))) nl0)))
     ·skip
      refine wxz<|Qal ?_
      refine wmr (Mor.trans (Qqx 4 89 4 15 (by kernel_rfl) (by kernel_rfl)) (mto (n:=172) (l':=[(1,(Qdw p1)),(2,.ref 0 4 0 0),(5,.ref 1 3 0 0),(9,(.own 2 1 (0) ((p1.length:Int).toNat))),(14,.ref 3 3 0 0),(15,(.acc 4 89 4 ((([]):List GStream).map Qaa))),(16,I 0)]) (own':=[(Qfi p0),Qe9,(Qoj y8),(.own 3 [[I p0.Heat,I p0.Silica,I p0.Gas]]),.tok]) [(1,(Qdw p1)),(2,.ref 0 4 0 0),(5,.ref 1 3 0 0),(9,(.own 2 1 (0) ((p1.length:Int).toNat))),(14,.ref 3 3 0 0),(15,(.acc 4 89 4 (([]:List GStream).map Qaa))),(16,I 0)] [0,1,2,3,4] [(Qfi p0),Qe9,(Qoj y8),(.own 3 [[I p0.Heat,I p0.Silica,I p0.Gas]]),.tok] hφ0 (pc (rnd Qae) (pc (.rn (rqr rfl)) (pc (.rn (rqr rfl)) (pc (.rn (Qa4 rfl)) (pc (.rn (rqr rfl)) (pc (.rn (Qa7 rfl (Qa2 Qac _))) (pc rwl pn))))))) (qc (spb (lcc (lcc ln))) (qc (spb (lcc (lc rwl ln))) (qc (spr Qae) (qc (spb (lcc (lc rwl ln))) (qc .tok qn))))))) ?_
      refine Qby (τ:=(List GStream)×Int×Int×Int×Int) (fun n t=>Qef N p0 p1 y8 k14 n t.1 t.2.1 t.2.2.1 t.2.2.2.1 t.2.2.2.2=some r) (fun ⟨y15,y16,y17,y18,y19⟩=>⟨mk 172 [(1,(Qdw p1)),(2,.ref 0 4 0 0),(5,.ref 1 3 0 0),(9,(.own 2 1 (0) ((p1.length:Int).toNat))),(14,.ref 3 3 0 0),(15,(Q1h y15)),(16,I y16)],[(Qfi p0),Qe9,(Qoj y8),(.own 3 [[I y17,I y18,I y19]]),.tok]⟩) (fun t h=>by rw [Qef] at h; cases h) (fun n25 ih t h=>?_) N ([],0,p0.Heat,p0.Silica,p0.Gas) h
      obtain ⟨y15,y16,y17,y18,y19⟩:=t
      rw [Qef] at h
      skip
      refine wsq<|wx tbk [(2,rp [(.tmp 121,(Qdw p1))] (I ((p1.length:Int))))] ⟨alm (c:=Qak) (l:=p1) (aln rfl Tryz.underlying27 rfl),trivial⟩ ?_
      refine bfe h (fun hc26 h=>?_) fun hc26 h=>?_
      ·refine wft hc26<|Qam<|thn<|wsq<|Qal ?_
       obtain ⟨hi27,h⟩:=cko h
       obtain ⟨hi27a,hi27b⟩:=Qdv hi27
       obtain ⟨x28,hg29,h⟩:=bno h
       refine wx tbk [(2,rb [(.tmp 126,(.own 2 1 (0) ((p1.length:Int).toNat))),(.tmp 127,I y16)] [(2,(Qoj y8))] (.ref 2 1 (y16.toNat) 0)),(3,rb [(.tmp 128,(.ref 2 1 (y16.toNat) 0))] [(2,(Qoj y8))] (I x28))] ⟨aio rfl Tryz.underlying27 ti3 (odt hi27a) (odt hi27b) (Nat.zero_add _),ald rfl ti3 (by decide) (mgt Qak hg29) (nle rfl) rfl,trivial⟩ ?_
       obtain ⟨x31,hf30,h⟩:=bno h
       obtain ⟨x33,hf32,h⟩:=bno h
       obtain ⟨x35,hf34,h⟩:=bno h
       refine wxd tbk [(6,rp [fu 99,(.tmp 132,I p0.Heat),(.tmp 133,I x28),(.tmp 135,I p0.Mass)] (I x31)),(12,rp [fu 99,(.tmp 138,I p0.Silica),(.tmp 139,I x28),(.tmp 141,I p0.Mass)] (I x33)),(18,rp [fu 99,(.tmp 144,I p0.Gas),(.tmp 145,I x28),(.tmp 147,I p0.Mass)] (I x35)),(19,rp [(.tmp 130,I x28),(.tmp 136,I x31),(.tmp 142,I x33),(.tmp 148,I x35)] (.agg [I x28,I x31,I x33,I x35]))] ⟨apc (first:=[]) (cap:=[]) (vs:=[I p0.Heat,I x28,I p0.Mass]) rfl Q2g (Qlf N p0.Heat x28 p0.Mass _ hf30) rfl rfl (nlcc (nlc nll nl0)) nll rfl,apc (first:=[]) (cap:=[]) (vs:=[I p0.Silica,I x28,I p0.Mass]) rfl Q2g (Qlf N p0.Silica x28 p0.Mass _ hf32) rfl rfl (nlcc (nlc nll nl0)) nll rfl,apc (first:=[]) (cap:=[]) (vs:=[I p0.Gas,I x28,I p0.Mass]) rfl Q2g (Qlf N p0.Gas x28 p0.Mass _ hf34) rfl rfl (nlcc (nlc nll nl0)) nll rfl,Qau (vs:=[I x28,I x31,I x33,I x35]) rfl ts89 tz89 rfl (by rfl) rfl,trivial⟩ ?_
       obtain ⟨ha36,h⟩:=cko h
       refine wx tbk [(2,rp [(.tmp 151,(.agg [I x28,I x31,I x33,I x35]))] (.dat 4 (([(⟨x28,x31,x33,x35⟩:GStream)]:List GStream).map Qaa))),(3,⟨[(.tmp 150,(Q1h y15)),(.tmp 152,(.dat 4 (([(⟨x28,x31,x33,x35⟩:GStream)]:List GStream).map Qaa)))],[(4,.tok),(6,.unused)],(.acc 6 89 4 ((y15++([(⟨x28,x31,x33,x35⟩:GStream)]):List GStream).map Qaa)),[(4,.dead),(6,.tok)],false⟩)] ⟨Qbo (vs:=[(.agg [I x28,I x31,I x33,I x35])]) rfl Tryz.underlying28 ti89 tz89 rfl (by decide) rfl (by decide) (by rfl) (by rfl) (by rfl) rfl,Qeq rfl Tryz.underlying28 te89 (Base.acc _ _) rfl rfl (by rfl) (Qg9 Qaa ha36) (Qg8 Qaa ha36 (by decide)) (Qg7 Qaa) rfl rfl,trivial⟩ ?_
       exact wx1 tbk [(15,rp [(.tmp 158,(I (w64 (y17 - x31)))),(.tmp 163,(I (w64 (y18 - x33)))),(.tmp 168,(I (w64 (y19 - x35))))] (.agg [(I (w64 (y17 - x31))),(I (w64 (y18 - x33))),(I (w64 (y19 - x35)))]))] ⟨Qau (vs:=[(I (w64 (y17 - x31))),(I (w64 (y18 - x33))),(I (w64 (y19 - x35)))]) rfl Zme Zja rfl (by rfl) rfl,trivial⟩<|bln<|thn<|wxz1<|thn<|arm (mto (n:=172) [(1,(Qdw p1)),(2,.ref 0 4 0 0),(5,.ref 1 3 0 0),(9,(.own 2 1 (0) ((p1.length:Int).toNat))),(14,.ref 3 3 0 0),(15,(.acc 6 89 4 ((y15++([(⟨x28,x31,x33,x35⟩:GStream)]):List GStream).map Qaa))),(16,(I (w64 (y16+1))))] [0,1,2,3,6] [(Qfi p0),Qe9,(Qoj y8),(.own 3 [[(I (w64 (y17 - x31))),(I (w64 (y18 - x33))),(I (w64 (y19 - x35)))]]),.tok] hφ0 (pc (rnd Qae) (pc (.rn (rqr rfl)) (pc (.rn (rqr rfl)) (pc (.rn (Qa4 rfl)) (pc (.rn (rqr rfl)) (pc (.rn (Qa7 rfl (Qa2 Qac _))) (pc rwl pn))))))) (qc (spb (lcc (lcc ln))) (qc (spb (lcc (lc rwl ln))) (qc (spr Qae) (qc (spb (lcc (lc rwl ln))) (qc .tok qn)))))) (ih (y15++([(⟨x28,x31,x33,x35⟩:GStream)]),w64 (y16+1),w64 (y17 - x31),w64 (y18 - x33),w64 (y19 - x35)) h)
      ·exact wfn hc26<|Qbj<|Qav<|Qav<|Qbi rfl<|thn<|⟨(y15,y17,y18,y19),h,(mto (n:=172) [(5,.ref 1 3 0 0),(14,.ref 3 3 0 0),(15,(Q1h y15))] [1,3,4] [Qe9,(.own 3 [[I y17,I y18,I y19]]),.tok] hφ0 (pc (.rn (rqr rfl)) (pc (.rn (rqr rfl)) (pc (.rn (Qa7 rfl (Qa2 Qac _))) pn))) (qc (spb (lcc (lc rwl ln))) (qc (spb (lcc (lc rwl ln))) (qc .tok qn))))⟩
    ·skip
     refine Qal<|wmr (mto (n:=172) (l':=[(1,(Qdw p1)),(2,.ref 0 4 0 0),(5,.ref 1 3 0 0),(6,I y1),(7,I y4),(9,(.own 2 1 (0) ((p1.length:Int).toNat))),(11,(.own 3 1 (0) ((p1.length:Int).toNat)))]) (own':=[(Qfi p0),Qe9,(.own 1 ((y5:List Int).map Qak)),(.own 1 (((List.replicate (p1.length:Int).toNat false):List Bool).map Qmp))]) [(1,(Qdw p1)),(2,.ref 0 4 0 0),(5,.ref 1 3 0 0),(6,I y1),(7,I y4),(9,(.own 2 1 (0) ((p1.length:Int).toNat))),(11,(.own 3 1 (0) ((p1.length:Int).toNat)))] [0,1,2,3] [(Qfi p0),Qe9,(.own 1 ((y5:List Int).map Qak)),(Q9e p1)] hφ0 (pc (rnd Qae) (pc (.rn (rqr rfl)) (pc (.rn (rqr rfl)) (pc rwl (pc rwl (pc (.rn (Qa4 rfl)) (pc (.rn (Qa4 rfl)) pn))))))) (qc (spb (lcc (lcc ln))) (qc (spb (lcc (lc rwl ln))) (qc (spr Qae) (qc (spr Qng) qn))))) ?_
     refine Qby (τ:=Int×(List Int)×(List Bool)) (fun n t=>Qee N p0 p1 y1 k9 n t.1 t.2.1 t.2.2=some r) (fun ⟨y37,y38,y39⟩=>⟨mk 172 [(1,(Qdw p1)),(2,.ref 0 4 0 0),(5,.ref 1 3 0 0),(6,I y1),(7,I y37),(9,(.own 2 1 (0) ((p1.length:Int).toNat))),(11,(.own 3 1 (0) ((p1.length:Int).toNat)))],[(Qfi p0),Qe9,(Qhy y38),(Qg4 y39)]⟩) (fun t h=>by rw [Qee] at h; cases h) (fun n43 ih t h=>?_) N (y4,y5,List.replicate (p1.length:Int).toNat false) h
     obtain ⟨y37,y38,y39⟩:=t
     rw [Qee] at h
     skip
     refine wsq<|wxz ?_
     refine bfe h (fun hc44 h=>?_) fun hc44 h=>?_
     ·refine wft hc44<|Qam<|thn<|Qal<|wxz ?_
      obtain ⟨k46,hk_k46,h⟩:=jko h
      refine wjn (τ:=Int) (fun t=>k46 t=some r) (fun y45=>⟨mk 172 [(1,(Qdw p1)),(2,.ref 0 4 0 0),(5,.ref 1 3 0 0),(6,I y1),(7,I y37),(9,(.own 2 1 (0) ((p1.length:Int).toNat))),(11,(.own 3 1 (0) ((p1.length:Int).toNat))),(12,I y45)],[(Qfi p0),Qe9,(Qhy y38),(Qg4 y39)]⟩) (fun y45 h=>?_) ?_
      ·subst hk_k46
       obtain ⟨hi47,h⟩:=cko h
       obtain ⟨hi47a,hi47b⟩:=Qdv hi47
       obtain ⟨x48,hg49,h⟩:=bno h
       refine wx tbk [(2,rb [(.tmp 102,(.own 3 1 (0) ((p1.length:Int).toNat))),(.tmp 103,I y45)] [(3,(Qg4 y39))] (.ref 3 1 (y45.toNat) 0)),(3,⟨[(.tmp 104,(.ref 3 1 (y45.toNat) 0)),cb true],[(3,(Qg4 y39))],.any,[(3,(.own 1 ((y39.set y45.toNat true:List Bool).map Qmp)))],false⟩)] ⟨aio rfl Tryz.underlying185 ti4 (odt hi47a) (odt hi47b) (Nat.zero_add _),ast rfl ti4 (by rfl) (mgt Qmp hg49) (nle rfl) (Qgm Qmp rfl),trivial⟩ ?_
       obtain ⟨hi50,h⟩:=cko h
       obtain ⟨hi50a,hi50b⟩:=Qdv hi50
       obtain ⟨x51,hg52,h⟩:=bno h
       obtain ⟨hi53,h⟩:=cko h
       obtain ⟨hi53a,hi53b⟩:=Qdv hi53
       obtain ⟨x54,hg55,h⟩:=bno h
       refine wx tbk [(2,rb [(.tmp 105,(.own 2 1 (0) ((p1.length:Int).toNat))),(.tmp 106,I y45)] [(2,(Qhy y38))] (.ref 2 1 (y45.toNat) 0)),(3,rb [(.tmp 107,(.ref 2 1 (y45.toNat) 0))] [(2,(Qhy y38))] (I x51)),(5,rb [(.tmp 105,(.own 2 1 (0) ((p1.length:Int).toNat))),(.tmp 106,I y45)] [(2,(Qhy y38))] (.ref 2 1 (y45.toNat) 0)),(6,⟨[(.tmp 110,(.ref 2 1 (y45.toNat) 0)),(.tmp 109,(I (w64 (x51+1))))],[(2,(Qhy y38))],.any,[(2,(.own 1 ((y38.set y45.toNat (w64 (x51+1)):List Int).map Qak)))],false⟩)] ⟨aio rfl Tryz.underlying27 ti3 (odt hi50a) (odt hi50b) (Nat.zero_add _),ald rfl ti3 (by decide) (mgt Qak hg52) (nle rfl) rfl,aio rfl Tryz.underlying27 ti3 (odt hi53a) (odt hi53b) (Nat.zero_add _),ast rfl ti3 (by rfl) (mgt Qak hg55) (nle rfl) (Qgm Qak rfl),trivial⟩<|wxz1<|bln<|thn ?_
       exact arm (mto (n:=172) [(1,(Qdw p1)),(2,.ref 0 4 0 0),(5,.ref 1 3 0 0),(6,I y1),(7,(I (w64 (y37 - 1)))),(9,(.own 2 1 (0) ((p1.length:Int).toNat))),(11,(.own 3 1 (0) ((p1.length:Int).toNat)))] [0,1,2,3] [(Qfi p0),Qe9,(.own 1 ((y38.set y45.toNat (w64 (x51+1)):List Int).map Qak)),(.own 1 ((y39.set y45.toNat true:List Bool).map Qmp))] hφ0 (pc (rnd Qae) (pc (.rn (rqr rfl)) (pc (.rn (rqr rfl)) (pc rwl (pc rwl (pc (.rn (Qa4 rfl)) (pc (.rn (Qa4 rfl)) pn))))))) (qc (spb (lcc (lcc ln))) (qc (spb (lcc (lc rwl ln))) (qc (spr Qae) (qc (spr Qng) qn))))) (ih (w64 (y37 - 1),y38.set y45.toNat (w64 (x51+1)),y39.set y45.toNat true) h)
      ·skip
       refine wxz<|Qal ?_
       refine wmr (mto (n:=172) (l':=[(1,(Qdw p1)),(2,.ref 0 4 0 0),(5,.ref 1 3 0 0),(6,I y1),(7,I y37),(9,(.own 2 1 (0) ((p1.length:Int).toNat))),(11,(.own 3 1 (0) ((p1.length:Int).toNat))),(12,(I ((-1)))),(13,I 0)]) (own':=[(Qfi p0),Qe9,(Qhy y38),(Qg4 y39)]) [(1,(Qdw p1)),(2,.ref 0 4 0 0),(5,.ref 1 3 0 0),(6,I y1),(7,I y37),(9,(.own 2 1 (0) ((p1.length:Int).toNat))),(11,(.own 3 1 (0) ((p1.length:Int).toNat))),(12,(I ((-1)))),(13,I 0)] [0,1,2,3] [(Qfi p0),Qe9,(Qhy y38),(Qg4 y39)] hφ0 (pc (rnd Qae) (pc (.rn (rqr rfl)) (pc (.rn (rqr rfl)) (pc rwl (pc rwl (pc (.rn (Qa4 rfl)) (pc (.rn (Qa4 rfl)) (pc rwl (pc rwl pn))))))))) (qc (spb (lcc (lcc ln))) (qc (spb (lcc (lc rwl ln))) (qc (spr Qae) (qc (spr Qng) qn))))) ?_
       refine Qby (τ:=Int×Int) (fun n t=>Qcv N p0 p1 y1 y39 k46 n t.1 t.2=some r) (fun ⟨y56,y57⟩=>⟨mk 172 [(1,(Qdw p1)),(2,.ref 0 4 0 0),(5,.ref 1 3 0 0),(6,I y1),(7,I y37),(9,(.own 2 1 (0) ((p1.length:Int).toNat))),(11,(.own 3 1 (0) ((p1.length:Int).toNat))),(12,I y56),(13,I y57)],[(Qfi p0),Qe9,(Qhy y38),(Qg4 y39)]⟩) (fun t h=>by rw [Qcv] at h; cases h) (fun n60 ih t h=>?_) N ((-1),0) h
       obtain ⟨y56,y57⟩:=t
       rw [Qcv] at h
       skip
       refine wsq<|wx tbk [(2,rp [(.tmp 66,(Qdw p1))] (I ((p1.length:Int))))] ⟨alm (c:=Qak) (l:=p1) (aln rfl Tryz.underlying27 rfl),trivial⟩ ?_
       refine bfe h (fun hc61 h=>?_) fun hc61 h=>?_
       ·refine wft hc61<|Qam<|thn<|wsq<|Qal ?_
        obtain ⟨hi62,h⟩:=cko h
        obtain ⟨hi62a,hi62b⟩:=Qdv hi62
        obtain ⟨x63,hg64,h⟩:=bno h
        refine bfe h (fun hb65 h=>?_) fun hb65 h=>?_
        ·refine bfe h (fun hb66 h=>?_) fun hb66 h=>?_
         ·refine wxd tbk [(2,rb [(.tmp 71,(.own 3 1 (0) ((p1.length:Int).toNat))),(.tmp 72,I y57)] [(3,(Qg4 y39))] (.ref 3 1 (y57.toNat) 0)),(3,rb [(.tmp 73,(.ref 3 1 (y57.toNat) 0))] [(3,(Qg4 y39))] (B x63)),(5,rp [(.tmp 75,(B ((!x63))))] (B true)),(8,rp [(.tmp 76,B true),(.tmp 78,(B ((decide (y56<0)))))] (B true))] ⟨aio rfl Tryz.underlying185 ti4 (odt hi62a) (odt hi62b) (Nat.zero_add _),ald rfl ti4 (by decide) (mgt Qmp hg64) (nle rfl) rfl,asb hb65 (amv rfl),asb hb66 (ag_ (amv rfl)),trivial⟩<|wtr<|wxz1<|bln<|thn<|wxz1<|thn ?_
          exact arm (mto (n:=172) [(1,(Qdw p1)),(2,.ref 0 4 0 0),(5,.ref 1 3 0 0),(6,I y1),(7,I y37),(9,(.own 2 1 (0) ((p1.length:Int).toNat))),(11,(.own 3 1 (0) ((p1.length:Int).toNat))),(12,I y57),(13,(I (w64 (y57+1))))] [0,1,2,3] [(Qfi p0),Qe9,(Qhy y38),(Qg4 y39)] hφ0 (pc (rnd Qae) (pc (.rn (rqr rfl)) (pc (.rn (rqr rfl)) (pc rwl (pc rwl (pc (.rn (Qa4 rfl)) (pc (.rn (Qa4 rfl)) (pc rwl (pc rwl pn))))))))) (qc (spb (lcc (lcc ln))) (qc (spb (lcc (lc rwl ln))) (qc (spr Qae) (qc (spr Qng) qn))))) (ih (y57,w64 (y57+1)) h)
         ·obtain ⟨x67,hg68,h⟩:=bno h
          obtain ⟨hi69,hj70⟩:=gsm hg68
          obtain ⟨hz71,h⟩:=cko h
          obtain ⟨x72,hg73,h⟩:=bno h
          obtain ⟨hi74,hj75⟩:=gsm hg73
          obtain ⟨hz76,h⟩:=cko h
          refine wxd tbk [(2,rb [(.tmp 71,(.own 3 1 (0) ((p1.length:Int).toNat))),(.tmp 72,I y57)] [(3,(Qg4 y39))] (.ref 3 1 (y57.toNat) 0)),(3,rb [(.tmp 73,(.ref 3 1 (y57.toNat) 0))] [(3,(Qg4 y39))] (B x63)),(5,rp [(.tmp 75,(B ((!x63))))] (B true)),(8,rp [(.tmp 76,B true),(.tmp 78,(B ((decide (y56<0)))))] (B false)),(13,rp [(.tmp 79,B false),(.tmp 82,(Qdw p1)),(.tmp 83,I y57)] (.dptr (Qak (x67)) 0)),(17,rp [(.tmp 79,B false),(.tmp 86,(I (w64 (p0.Mass * x67)))),(.tmp 87,I y1)] (I ((w64 (p0.Mass * x67)).tmod y1))),(22,rp [(.tmp 79,B false),(.tmp 91,(Qdw p1)),(.tmp 92,I y56)] (.dptr (Qak (x72)) 0)),(26,rp [(.tmp 79,B false),(.tmp 95,(I (w64 (p0.Mass * x72)))),(.tmp 96,I y1)] (I ((w64 (p0.Mass * x72)).tmod y1)))] ⟨aio rfl Tryz.underlying185 ti4 (odt hi62a) (odt hi62b) (Nat.zero_add _),ald rfl ti4 (by decide) (mgt Qmp hg64) (nle rfl) rfl,asb hb65 (amv rfl),asb hb66 (ag_ (amv rfl)),ag_ (aid rfl Tryz.underlying27 ti3 rfl rfl hi69 (mgt Qak hj70) rfl),ag_ (Que rfl (Qkx hz71)),ag_ (aid rfl Tryz.underlying27 ti3 rfl rfl hi74 (mgt Qak hj75) rfl),ag_ (Que rfl (Qkx hz76)),trivial⟩ ?_
          refine bfe h (fun hc77 h=>?_) fun hc77 h=>?_
          ·exact wft hc77<|wxz1<|bln<|thn<|wxz1<|thn<|arm (mto (n:=172) [(1,(Qdw p1)),(2,.ref 0 4 0 0),(5,.ref 1 3 0 0),(6,I y1),(7,I y37),(9,(.own 2 1 (0) ((p1.length:Int).toNat))),(11,(.own 3 1 (0) ((p1.length:Int).toNat))),(12,I y57),(13,(I (w64 (y57+1))))] [0,1,2,3] [(Qfi p0),Qe9,(Qhy y38),(Qg4 y39)] hφ0 (pc (rnd Qae) (pc (.rn (rqr rfl)) (pc (.rn (rqr rfl)) (pc rwl (pc rwl (pc (.rn (Qa4 rfl)) (pc (.rn (Qa4 rfl)) (pc rwl (pc rwl pn))))))))) (qc (spb (lcc (lcc ln))) (qc (spb (lcc (lc rwl ln))) (qc (spr Qae) (qc (spr Qng) qn))))) (ih (y57,w64 (y57+1)) h)
          ·exact wfn hc77<|Qam<|bln<|thn<|wxz1<|thn<|arm (mto (n:=172) [(1,(Qdw p1)),(2,.ref 0 4 0 0),(5,.ref 1 3 0 0),(6,I y1),(7,I y37),(9,(.own 2 1 (0) ((p1.length:Int).toNat))),(11,(.own 3 1 (0) ((p1.length:Int).toNat))),(12,I y56),(13,(I (w64 (y57+1))))] [0,1,2,3] [(Qfi p0),Qe9,(Qhy y38),(Qg4 y39)] hφ0 (pc (rnd Qae) (pc (.rn (rqr rfl)) (pc (.rn (rqr rfl)) (pc rwl (pc rwl (pc (.rn (Qa4 rfl)) (pc (.rn (Qa4 rfl)) (pc rwl (pc rwl pn))))))))) (qc (spb (lcc (lcc ln))) (qc (spb (lcc (lc rwl ln))) (qc (spr Qae) (qc (spr Qng) qn))))) (ih (y56,w64 (y57+1)) h)
        ·refine wxd tbk [(2,rb [(.tmp 71,(.own 3 1 (0) ((p1.length:Int).toNat))),(.tmp 72,I y57)] [(3,(Qg4 y39))] (.ref 3 1 (y57.toNat) 0)),(3,rb [(.tmp 73,(.ref 3 1 (y57.toNat) 0))] [(3,(Qg4 y39))] (B x63)),(5,rp [(.tmp 75,(B ((!x63))))] (B false))] ⟨aio rfl Tryz.underlying185 ti4 (odt hi62a) (odt hi62b) (Nat.zero_add _),ald rfl ti4 (by decide) (mgt Qmp hg64) (nle rfl) rfl,asb hb65 (amv rfl),trivial⟩<|wfa<|Qam<|bln<|thn<|wxz1<|thn ?_
         exact arm (mto (n:=172) [(1,(Qdw p1)),(2,.ref 0 4 0 0),(5,.ref 1 3 0 0),(6,I y1),(7,I y37),(9,(.own 2 1 (0) ((p1.length:Int).toNat))),(11,(.own 3 1 (0) ((p1.length:Int).toNat))),(12,I y56),(13,(I (w64 (y57+1))))] [0,1,2,3] [(Qfi p0),Qe9,(Qhy y38),(Qg4 y39)] hφ0 (pc (rnd Qae) (pc (.rn (rqr rfl)) (pc (.rn (rqr rfl)) (pc rwl (pc rwl (pc (.rn (Qa4 rfl)) (pc (.rn (Qa4 rfl)) (pc rwl (pc rwl pn))))))))) (qc (spb (lcc (lcc ln))) (qc (spb (lcc (lc rwl ln))) (qc (spr Qae) (qc (spr Qng) qn))))) (ih (y56,w64 (y57+1)) h)
       ·exact wfn hc61<|Qbj<|Qav<|Qav<|Qbi rfl<|thn<|⟨(y56),h,(mto (n:=172) [(1,(Qdw p1)),(2,.ref 0 4 0 0),(5,.ref 1 3 0 0),(6,I y1),(7,I y37),(9,(.own 2 1 (0) ((p1.length:Int).toNat))),(11,(.own 3 1 (0) ((p1.length:Int).toNat))),(12,I y56)] [0,1,2,3] [(Qfi p0),Qe9,(Qhy y38),(Qg4 y39)] hφ0 (pc (rnd Qae) (pc (.rn (rqr rfl)) (pc (.rn (rqr rfl)) (pc rwl (pc rwl (pc (.rn (Qa4 rfl)) (pc (.rn (Qa4 rfl)) (pc rwl pn)))))))) (qc (spb (lcc (lcc ln))) (qc (spb (lcc (lc rwl ln))) (qc (spr Qae) (qc (spr Qng) qn)))))⟩
     ·exact wfn hc44<|Qbj<|Qav<|Qav<|Qbi rfl<|thn<|⟨(y38),h,(mto (n:=172) [(1,(Qdw p1)),(2,.ref 0 4 0 0),(5,.ref 1 3 0 0),(9,(.own 2 1 (0) ((p1.length:Int).toNat)))] [0,1,2] [(Qfi p0),Qe9,(Qhy y38)] hφ0 (pc (rnd Qae) (pc (.rn (rqr rfl)) (pc (.rn (rqr rfl)) (pc (.rn (Qa4 rfl)) pn)))) (qc (spb (lcc (lcc ln))) (qc (spb (lcc (lc rwl ln))) (qc (spr Qae) qn))))⟩
   ·skip
    refine wxz<|Qal ?_
    refine wmr (mto (n:=172) (l':=[(1,(Qdw p1)),(2,.ref 0 4 0 0),(5,.ref 1 3 0 0),(6,I y1),(7,I p0.Mass),(9,(.own 2 1 (0) ((p1.length:Int).toNat))),(10,I 0)]) (own':=[(Qfi p0),Qe9,(.own 1 (((List.replicate (p1.length:Int).toNat 0):List Int).map Qak))]) [(1,(Qdw p1)),(2,.ref 0 4 0 0),(5,.ref 1 3 0 0),(6,I y1),(7,I p0.Mass),(9,(.own 2 1 (0) ((p1.length:Int).toNat))),(10,I 0)] [0,1,2] [(Qfi p0),Qe9,(Zgq p1)] hφ0 (pc (rnd Qae) (pc (.rn (rqr rfl)) (pc (.rn (rqr rfl)) (pc rwl (pc rwl (pc (.rn (Qa4 rfl)) (pc rwl pn))))))) (qc (spb (lcc (lcc ln))) (qc (spb (lcc (lc rwl ln))) (qc (spr Qae) qn)))) ?_
    refine Qby (τ:=Int×Int×(List Int)) (fun n t=>Qed N p0 p1 y1 k6 n t.1 t.2.1 t.2.2=some r) (fun ⟨y78,y79,y80⟩=>⟨mk 172 [(1,(Qdw p1)),(2,.ref 0 4 0 0),(5,.ref 1 3 0 0),(6,I y1),(7,I y78),(9,(.own 2 1 (0) ((p1.length:Int).toNat))),(10,I y79)],[(Qfi p0),Qe9,(Qwo y80)]⟩) (fun t h=>by rw [Qed] at h; cases h) (fun n84 ih t h=>?_) N (p0.Mass,0,List.replicate (p1.length:Int).toNat 0) h
    obtain ⟨y78,y79,y80⟩:=t
    rw [Qed] at h
    skip
    refine wsq<|wx tbk [(2,rp [(.tmp 37,(Qdw p1))] (I ((p1.length:Int))))] ⟨alm (c:=Qak) (l:=p1) (aln rfl Tryz.underlying27 rfl),trivial⟩ ?_
    refine bfe h (fun hc85 h=>?_) fun hc85 h=>?_
    ·refine wft hc85<|Qam<|thn<|wsq<|Qal ?_
     obtain ⟨x86,hg87,h⟩:=bno h
     obtain ⟨hi88,hj89⟩:=gsm hg87
     obtain ⟨hz90,h⟩:=cko h
     obtain ⟨hi91,h⟩:=cko h
     obtain ⟨hi91a,hi91b⟩:=Qdv hi91
     obtain ⟨x92,hg93,h⟩:=bno h
     refine wxd tbk [(6,rp [(.tmp 46,(Qdw p1)),(.tmp 47,I y79)] (.dptr (Qak (x86)) 0)),(10,rp [(.tmp 50,(I (w64 (p0.Mass * x86)))),(.tmp 51,I y1)] (I (w64 ((w64 (p0.Mass * x86)).tdiv y1)))),(11,rb [(.tmp 42,(.own 2 1 (0) ((p1.length:Int).toNat))),(.tmp 43,I y79)] [(2,(Qwo y80))] (.ref 2 1 (y79.toNat) 0)),(12,⟨[(.tmp 53,(.ref 2 1 (y79.toNat) 0)),(.tmp 52,(I (w64 ((w64 (p0.Mass * x86)).tdiv y1))))],[(2,(Qwo y80))],.any,[(2,(Qwn y80 y79 p0 x86 y1))],false⟩)] ⟨aid rfl Tryz.underlying27 ti3 rfl rfl hi88 (mgt Qak hj89) rfl,Qjv rfl (Qkx hz90),aio rfl Tryz.underlying27 ti3 (odt hi91a) (odt hi91b) (Nat.zero_add _),ast rfl ti3 (by rfl) (mgt Qak hg93) (nle rfl) (Qgm Qak rfl),trivial⟩ ?_
     obtain ⟨hi94,h⟩:=cko h
     obtain ⟨hi94a,hi94b⟩:=Qdv hi94
     obtain ⟨x95,hg96,h⟩:=bno h
     refine wx1 tbk [(3,rb [(.tmp 55,(.own 2 1 (0) ((p1.length:Int).toNat))),(.tmp 56,I y79)] [(2,(Qwn y80 y79 p0 x86 y1))] (.ref 2 1 (y79.toNat) 0)),(4,rb [(.tmp 57,(.ref 2 1 (y79.toNat) 0))] [(2,(Qwn y80 y79 p0 x86 y1))] (I x95))] ⟨aio rfl Tryz.underlying27 ti3 (odt hi94a) (odt hi94b) (Nat.zero_add _),ald rfl ti3 (by decide) (mgt Qak hg96) (nle rfl) rfl,trivial⟩<|bln<|thn<|wxz1<|thn ?_
     exact arm (mto (n:=172) [(1,(Qdw p1)),(2,.ref 0 4 0 0),(5,.ref 1 3 0 0),(6,I y1),(7,(I (w64 (y78 - x95)))),(9,(.own 2 1 (0) ((p1.length:Int).toNat))),(10,(I (w64 (y79+1))))] [0,1,2] [(Qfi p0),Qe9,(Qwn y80 y79 p0 x86 y1)] hφ0 (pc (rnd Qae) (pc (.rn (rqr rfl)) (pc (.rn (rqr rfl)) (pc rwl (pc rwl (pc (.rn (Qa4 rfl)) (pc rwl pn))))))) (qc (spb (lcc (lcc ln))) (qc (spb (lcc (lc rwl ln))) (qc (spr Qae) qn)))) (ih (w64 (y78 - x95),w64 (y79+1),y80.set y79.toNat (w64 ((w64 (p0.Mass * x86)).tdiv y1))) h)
    ·exact wfn hc85<|Qbj<|Qav<|Qav<|Qbi rfl<|thn<|⟨(y78,y80),h,(mto (n:=172) [(1,(Qdw p1)),(2,.ref 0 4 0 0),(5,.ref 1 3 0 0),(6,I y1),(7,I y78),(9,(.own 2 1 (0) ((p1.length:Int).toNat)))] [0,1,2] [(Qfi p0),Qe9,(Qwo y80)] hφ0 (pc (rnd Qae) (pc (.rn (rqr rfl)) (pc (.rn (rqr rfl)) (pc rwl (pc rwl (pc (.rn (Qa4 rfl)) pn)))))) (qc (spb (lcc (lcc ln))) (qc (spb (lcc (lc rwl ln))) (qc (spr Qae) qn))))⟩
  ·skip
   refine wxz<|Qal ?_
   refine wmr (mto (n:=172) (l':=[(1,(Qdw p1)),(2,.ref 0 4 0 0),(5,.ref 1 3 0 0),(6,I 0),(7,I p0.Mass),(8,I 0)]) (own':=[(Qfi p0),Qe9]) [(1,(Qdw p1)),(2,.ref 0 4 0 0),(5,.ref 1 3 0 0),(6,I 0),(7,I p0.Mass),(8,I 0)] [0,1] [(Qfi p0),Qe9] hφ0 (pc (rnd Qae) (pc (.rn (rqr rfl)) (pc (.rn (rqr rfl)) (pc rwl (pc rwl (pc rwl pn)))))) (qc (spb (lcc (lcc ln))) (qc (spb (lcc (lc rwl ln))) qn))) ?_
   refine Qby (τ:=Int×Int) (fun n t=>Qec N p1 k2 n t.1 t.2=some r) (fun ⟨y97,y98⟩=>⟨mk 172 [(1,(Qdw p1)),(2,.ref 0 4 0 0),(5,.ref 1 3 0 0),(6,I y97),(7,I p0.Mass),(8,I y98)],[(Qfi p0),Qe9]⟩) (fun t h=>by rw [Qec] at h; cases h) (fun n101 ih t h=>?_) N (0,0) h
   obtain ⟨y97,y98⟩:=t
   rw [Qec] at h
   skip
   refine wsq<|wx tbk [(2,rp [(.tmp 22,(Qdw p1))] (I ((p1.length:Int))))] ⟨alm (c:=Qak) (l:=p1) (aln rfl Tryz.underlying27 rfl),trivial⟩ ?_
   refine bfe h (fun hc102 h=>?_) fun hc102 h=>?_
   ·refine wft hc102<|Qam<|thn<|wsq<|Qal ?_
    obtain ⟨x103,hg104,h⟩:=bno h
    obtain ⟨hi105,hj106⟩:=gsm hg104
    exact wx1 tbk [(3,rp [(.tmp 28,(Qdw p1)),(.tmp 29,I y98)] (.dptr (Qak (x103)) 0))] ⟨aid rfl Tryz.underlying27 ti3 rfl rfl hi105 (mgt Qak hj106) rfl,trivial⟩<|bln<|thn<|wxz1<|thn<|arm (mto (n:=172) [(1,(Qdw p1)),(2,.ref 0 4 0 0),(5,.ref 1 3 0 0),(6,(I (w64 (y97+x103)))),(7,I p0.Mass),(8,(I (w64 (y98+1))))] [0,1] [(Qfi p0),Qe9] hφ0 (pc (rnd Qae) (pc (.rn (rqr rfl)) (pc (.rn (rqr rfl)) (pc rwl (pc rwl (pc rwl pn)))))) (qc (spb (lcc (lcc ln))) (qc (spb (lcc (lc rwl ln))) qn))) (ih (w64 (y97+x103),w64 (y98+1)) h)
   ·exact wfn hc102<|Qbj<|Qav<|Qav<|Qbi rfl<|thn<|⟨(y97),h,(mto (n:=172) [(1,(Qdw p1)),(2,.ref 0 4 0 0),(5,.ref 1 3 0 0),(6,I y97),(7,I p0.Mass)] [0,1] [(Qfi p0),Qe9] hφ0 (pc (rnd Qae) (pc (.rn (rqr rfl)) (pc (.rn (rqr rfl)) (pc rwl (pc rwl pn))))) (qc (spb (lcc (lcc ln))) (qc (spb (lcc (lc rwl ln))) qn)))⟩
def Qdg (N:Nat) (p0:(List GStream)) (k1:Unit→Option Bool):Nat→Int→Option Bool
  | 0,_=>none
  | n4+1,y2=>
    bif (decide (y2<(p0.length:Int))) then
     (getI p0 y2).bind fun x6=>
     (Qf7 N x6).bind fun x11=>
     bif (!x11) then
      some false
     else
      Qdg N p0 k1 n4 (w64 (y2+1))
    else
     k1 ()
def Qht (N:Nat) (p0:(List GStream)):Option Bool:=
  Qbh (fun _=>
    some true) fun k1:Unit→Option Bool=>
  Qdg N p0 k1 N 0
def Qu9 (p0:(List GStream)):AV:=.dat 4 ((p0:List GStream).map Qaa)
def Zgp (x6:GStream):AV:=.agg [(I (x6.Mass)),(I (x6.Heat)),(I (x6.Silica)),(I (x6.Gas))]
theorem Qqq (N:Nat) (p0:(List GStream)) (r:Bool) (h:Qht N p0=some r):Spec Tryz.prog 98 [(.dat 4 (p0.map Qaa))] [] (B r) []:=by
  refine Qai Tryz.func98 rfl 0 (nle rfl) (fun X φ0 w0 hφ0 hd0=>?_)
  unfold Qht at h
  refine wxz ?_
  obtain ⟨k1,hk_k1,h⟩:=jko h
  refine wjn (τ:=Unit) (fun t=>k1 t=some r) (fun _=>⟨mk 16 [],[]⟩) (fun t h=>?_) ?_
  ·subst hk_k1
   refine wxz<|Qaf ?_
   obtain rfl:=osi h
   exact fend ⟨[B true],⟨rot,trivial⟩,rfl⟩ nll
  ·skip
   refine wxz<|Qal ?_
   refine wmr (mto (n:=16) (l':=[(0,(Qu9 p0)),(3,I 0)]) (own':=[]) [(0,(Qu9 p0)),(3,I 0)] [] [] hφ0 (pc (rnd Qac) (pc rwl pn)) qn) ?_
   refine Qby (τ:=Int) (fun n t=>Qdg N p0 k1 n t=some r) (fun y2=>⟨mk 16 [(0,(Qu9 p0)),(3,I y2)],[]⟩) (fun t h=>by rw [Qdg] at h; cases h) (fun n4 ih y2 h=>?_) N (0) h
   rw [Qdg] at h
   skip
   refine wsq<|wx tbk [(2,rp [(.tmp 5,(Qu9 p0))] (I ((p0.length:Int))))] ⟨alm (c:=Qaa) (l:=p0) (aln rfl Tryz.underlying28 rfl),trivial⟩ ?_
   refine bfe h (fun hc5 h=>?_) fun hc5 h=>?_
   ·refine wft hc5<|Qam<|thn<|wsq<|Qal ?_
    obtain ⟨x6,hg7,h⟩:=bno h
    obtain ⟨hi8,hj9⟩:=gsm hg7
    obtain ⟨x11,hf10,h⟩:=bno h
    refine wx tbk [(2,rp [(.tmp 10,(Qu9 p0)),(.tmp 11,I y2)] (.dptr (Qaa (x6)) 0)),(4,rp [fu 121,(.tmp 13,(Zgp x6))] (B x11))] ⟨aid rfl Tryz.underlying28 ti89 rfl rfl hi8 (mgt Qaa hj9) rfl,apc (first:=[]) (cap:=[]) (vs:=[(Zgp x6)]) rfl Ze1 (Qnd N x6 _ hf10) rfl rfl (nlc (NLt.agg _ (nlcc (nlcc nl0))) nl0) nll rfl,trivial⟩ ?_
    refine bfe h (fun hc12 h=>?_) fun hc12 h=>?_
    ·refine wft hc12<|wxz<|Qaf<|Qap<|Qag<|Qag<|Qap<|Qag ?_
     obtain rfl:=osi h
     exact fend ⟨[B false],⟨rot,trivial⟩,rfl⟩ nll
    ·exact wfn hc12<|Qam<|bln<|thn<|wxz1<|thn<|arm (mto (n:=16) [(0,(Qu9 p0)),(3,(I (w64 (y2+1))))] [] [] hφ0 (pc (rnd Qac) (pc rwl pn)) qn) (ih (w64 (y2+1)) h)
   ·exact wfn hc5<|Qbj<|Qav<|Qav<|Qbi rfl<|thn<|⟨(),h,(mto (n:=16) [] [] [] hφ0 pn qn)⟩
def Qdk (N:Nat) (p0:GNet) (p1:Int) (k2:Int→Option Int):Nat→Int→Int→Option Int
  | 0,_,_=>none
  | n7+1,y3,y4=>
    bif (decide (y4<(p0.Elements.length:Int))) then
     (getI p0.Elements y4).bind fun x9=>
     bif (x9.Kind==p1) then
      Qdk N p0 p1 k2 n7 (w64 (y3+1)) (w64 (y4+1))
     else
      Qdk N p0 p1 k2 n7 y3 (w64 (y4+1))
    else
     k2 (y3)
def Qjn (N:Nat) (p0:GNet) (p1:Int):Option Int:=
  Qbh (fun y1=>
    some y1) fun k2:Int→Option Int=>
  Qdk N p0 p1 k2 N 0 0
def Q9d (p0:GNet):AV:=.dat 7 ((p0.Elements:List GElement).map Qad)
def Qyx (p0:GNet):Slot:=.own 2 [[(.dat 5 ((p0.Table:List GRow).map Qa0)),(Q9d p0)]]
theorem Qnb (N:Nat) (p0:GNet) (p1:Int) (r:Int) (h:Qjn N p0 p1=some r):Spec Tryz.prog 29 [(.agg (Qhv p0)),(K .u8 p1)] [] (I r) []:=by
  refine Qai Tryz.func29 rfl 0 (nle rfl) (fun X φ0 w0 hφ0 hd0=>?_)
  unfold Qjn at h
  refine wxz<|wxz ?_
  obtain ⟨k2,hk_k2,h⟩:=jko h
  refine wjn (τ:=Int) (fun t=>k2 t=some r) (fun y1=>⟨mk 25 [(5,I y1)],[]⟩) (fun y1 h=>?_) ?_
  ·subst hk_k2
   refine wxz<|Qaf ?_
   obtain rfl:=osi h
   exact fend ⟨[I y1],⟨rot,trivial⟩,rfl⟩ nll
  ·skip
   refine wxz<|Qal ?_
   refine wmr (mto (n:=25) (l':=[(1,(K .u8 (p1))),(2,.ref 0 2 0 0),(5,I 0),(6,I 0)]) (own':=[(Qyx p0)]) [(1,(K .u8 (p1))),(2,.ref 0 2 0 0),(5,I 0),(6,I 0)] [0] [(Qyx p0)] hφ0 (pc rwl (pc (.rn (rqr rfl)) (pc rwl (pc rwl pn)))) (qc (spb (lc (rnd Qaj) (lc (rnd Qab) ln))) qn)) ?_
   refine Qby (τ:=Int×Int) (fun n t=>Qdk N p0 p1 k2 n t.1 t.2=some r) (fun ⟨y3,y4⟩=>⟨mk 25 [(1,(K .u8 (p1))),(2,.ref 0 2 0 0),(5,I y3),(6,I y4)],[(Qyx p0)]⟩) (fun t h=>by rw [Qdk] at h; cases h) (fun n7 ih t h=>?_) N (0,0) h
   obtain ⟨y3,y4⟩:=t
   rw [Qdk] at h
   skip
   refine wsq<|wx tbk [(3,rp [(.tmp 9,(Q9d p0))] (I ((p0.Elements.length:Int))))] ⟨alm (c:=Qad) (l:=p0.Elements) (aln rfl Tryz.underlying24 rfl),trivial⟩ ?_
   refine bfe h (fun hc8 h=>?_) fun hc8 h=>?_
   ·refine wft hc8<|Qam<|thn<|wsq<|Qal ?_
    obtain ⟨x9,hg10,h⟩:=bno h
    obtain ⟨hi11,hj12⟩:=gsm hg10
    refine wx tbk [(3,rp [(.tmp 15,(Q9d p0)),(.tmp 16,I y4)] (.dptr (Qad (x9)) 0))] ⟨aid rfl Tryz.underlying24 ti59 rfl rfl hi11 (mgt Qad hj12) rfl,trivial⟩ ?_
    refine bfe h (fun hc13 h=>?_) fun hc13 h=>?_
    ·exact wft hc13<|wxz1<|bln<|thn<|wxz1<|thn<|arm (mto (n:=25) [(1,(K .u8 (p1))),(2,.ref 0 2 0 0),(5,(I (w64 (y3+1)))),(6,(I (w64 (y4+1))))] [0] [(Qyx p0)] hφ0 (pc rwl (pc (.rn (rqr rfl)) (pc rwl (pc rwl pn)))) (qc (spb (lc (rnd Qaj) (lc (rnd Qab) ln))) qn)) (ih (w64 (y3+1),w64 (y4+1)) h)
    ·exact wfn hc13<|Qam<|bln<|thn<|wxz1<|thn<|arm (mto (n:=25) [(1,(K .u8 (p1))),(2,.ref 0 2 0 0),(5,I y3),(6,(I (w64 (y4+1))))] [0] [(Qyx p0)] hφ0 (pc rwl (pc (.rn (rqr rfl)) (pc rwl (pc rwl pn)))) (qc (spb (lc (rnd Qaj) (lc (rnd Qab) ln))) qn)) (ih (y3,w64 (y4+1)) h)
   ·exact wfn hc8<|Qbj<|Qav<|Qav<|Qbi rfl<|thn<|⟨(y3),h,(mto (n:=25) [(5,I y3)] [] [] hφ0 (pc rwl pn) qn)⟩
def Qg1 (N:Nat) (p0:GNet) (p1:(List GStream)):Option Int:=
  Qbh (fun _=>
    (Qhj N p1).bind fun x3=>
    bif (decide (x3.Mass>1000000)) then
     some 3
    else
     bif (decide (x3.Gas>1000000000)) then
      some 3
     else
      some 0) fun k1:Unit→Option Int=>
  (Qjn N p0 1).bind fun x7=>
  bif ((p1.length:Int) != x7) then
   some 1
  else
   (Qht N p1).bind fun x10=>
   bif (!x10) then
    some 1
   else
    k1 ()
def Qre (p1:(List GStream)):AV:=.dat 4 ((p1:List GStream).map Qaa)
def Zl7 (p0:GNet):AV:=.dat 7 ((p0.Elements:List GElement).map Qad)
def Q4a (p0:GNet):AV:=.agg [(.dat 5 ((p0.Table:List GRow).map Qa0)),(Zl7 p0)]
theorem Qoq (N:Nat) (p0:GNet) (p1:(List GStream)) (r:Int) (h:Qg1 N p0 p1=some r):Spec Tryz.prog 61 [(.agg (Qhv p0)),(.dat 4 (p1.map Qaa))] [] (I r) []:=by
  refine Qai Tryz.func61 rfl 0 (nle rfl) (fun X φ0 w0 hφ0 hd0=>?_)
  unfold Qg1 at h
  refine wxz ?_
  obtain ⟨k1,hk_k1,h⟩:=jko h
  refine wjn (τ:=Unit) (fun t=>k1 t=some r) (fun _=>⟨mk 26 [(1,(Qre p1))],[]⟩) (fun t h=>?_) ?_
  ·subst hk_k1
   obtain ⟨x3,hf2,h⟩:=bno h
   refine wx tbk [(1,rp [fu 38,(.tmp 16,(Qre p1))] (.agg [I x3.Mass,I x3.Heat,I x3.Silica,I x3.Gas]))] ⟨apc (first:=[]) (cap:=[]) (vs:=[(Qre p1)]) rfl Q2k (Ql9 N p1 _ hf2) rfl rfl (nlc (nld Qac _) nl0) (NLt.agg _ (nlcc (nlcc nl0))) rfl,trivial⟩<|wsq ?_
   refine bfe h (fun hb4 h=>?_) fun hb4 h=>?_
   ·refine wx tbk [(3,rp [(.tmp 20,(B ((decide (x3.Mass>1000000)))))] (B true))] ⟨asb hb4 (amv rfl),trivial⟩<|wtr<|wxz<|Qaf<|Qag ?_
    obtain rfl:=osi h
    exact fend ⟨[I 3],⟨rot,trivial⟩,rfl⟩ nll
   ·refine wx tbk [(3,rp [(.tmp 20,(B ((decide (x3.Mass>1000000)))))] (B false))] ⟨asb hb4 (amv rfl),trivial⟩ ?_
    refine bfe h (fun hc5 h=>?_) fun hc5 h=>?_
    ·refine wft hc5<|wxz<|Qaf<|Qag ?_
     obtain rfl:=osi h
     exact fend ⟨[I 3],⟨rot,trivial⟩,rfl⟩ nll
    ·refine wfn hc5<|Qam<|thn<|wxz<|Qaf ?_
     obtain rfl:=osi h
     exact fend ⟨[I 0],⟨rot,trivial⟩,rfl⟩ nll
  ·skip
   obtain ⟨x7,hf6,h⟩:=bno h
   refine bfe h (fun hb8 h=>?_) fun hb8 h=>?_
   ·refine wx tbk [(1,rp [(.tmp 6,(Qre p1))] (I ((p1.length:Int)))),(3,rp [fu 29,(.tmp 8,(Q4a p0)),(.const (.int .u8 1),(K .u8 (1)))] (I x7)),(5,rp [(.tmp 10,(B (((p1.length:Int) != x7))))] (B true))] ⟨alm (c:=Qaa) (l:=p1) (aln rfl Tryz.underlying28 rfl),apc (first:=[]) (cap:=[]) (vs:=[(Q4a p0),(K .u8 (1))]) rfl Za9 (Qnb N p0 1 _ hf6) rfl rfl (nlc (NLt.agg _ (nlc (nld Qaj _) (nlc (nld Qab _) nl0))) (nlc nll nl0)) nll rfl,asb hb8 (amv rfl),trivial⟩<|wtr<|wxz<|Qaf<|Qag ?_
    obtain rfl:=osi h
    exact fend ⟨[I 1],⟨rot,trivial⟩,rfl⟩ nll
   ·obtain ⟨x10,hf9,h⟩:=bno h
    refine wx tbk [(1,rp [(.tmp 6,(Qre p1))] (I ((p1.length:Int)))),(3,rp [fu 29,(.tmp 8,(Q4a p0)),(.const (.int .u8 1),(K .u8 (1)))] (I x7)),(5,rp [(.tmp 10,(B (((p1.length:Int) != x7))))] (B false)),(7,rp [(.tmp 11,B false),fu 98,(.tmp 12,(Qre p1))] (B x10))] ⟨alm (c:=Qaa) (l:=p1) (aln rfl Tryz.underlying28 rfl),apc (first:=[]) (cap:=[]) (vs:=[(Q4a p0),(K .u8 (1))]) rfl Za9 (Qnb N p0 1 _ hf6) rfl rfl (nlc (NLt.agg _ (nlc (nld Qaj _) (nlc (nld Qab _) nl0))) (nlc nll nl0)) nll rfl,asb hb8 (amv rfl),ag_ (apc (first:=[]) (cap:=[]) (vs:=[(Qre p1)]) rfl Zkh (Qqq N p1 _ hf9) rfl rfl (nlc (nld Qac _) nl0) nll rfl),trivial⟩ ?_
    refine bfe h (fun hc11 h=>?_) fun hc11 h=>?_
    ·refine wft hc11<|wxz<|Qaf<|Qag ?_
     obtain rfl:=osi h
     exact fend ⟨[I 1],⟨rot,trivial⟩,rfl⟩ nll
    ·exact wfn hc11<|Qam<|thn<|⟨(),h,(mto (n:=26) [(1,(Qre p1))] [] [] hφ0 (pc (rnd Qac) pn) qn)⟩
def Qjs (N:Nat) (p0:GNet) (p1:(List Int)) (p2:(List GStream)):Option Int:=
  (Qjm N p0).bind fun x2=>
  bif (!x2) then
   some 1
  else
   (Qgn N p0 p1).bind fun x5=>
   bif (!x5) then
    some 1
   else
    (Qg1 N p0 p2).bind fun x8=>
    some x8
def Zl6 (p0:GNet):AV:=.dat 7 ((p0.Elements:List GElement).map Qad)
def Qrd (p0:GNet):AV:=.agg [(.dat 5 ((p0.Table:List GRow).map Qa0)),(Zl6 p0)]
theorem Qts (N:Nat) (p0:GNet) (p1:(List Int)) (p2:(List GStream)) (r:Int) (h:Qjs N p0 p1 p2=some r):Spec Tryz.prog 20 [(.agg (Qhv p0)),(.dat 1 (p1.map Qak)),(.dat 4 (p2.map Qaa))] [] (I r) []:=by
  refine Qai Tryz.func20 rfl 0 (nle rfl) (fun X φ0 w0 hφ0 hd0=>?_)
  unfold Qjs at h
  refine wxz<|wsq ?_
  obtain ⟨x2,hf1,h⟩:=bno h
  refine bfe h (fun hb3 h=>?_) fun hb3 h=>?_
  ·refine wx tbk [(1,rp [fu 28,(.tmp 7,(Qrd p0))] (B x2)),(3,rp [(.tmp 9,(B ((!x2))))] (B true))] ⟨apc (first:=[]) (cap:=[]) (vs:=[(Qrd p0)]) rfl Zba (Qm9 N p0 _ hf1) rfl rfl (nlc (NLt.agg _ (nlc (nld Qaj _) (nlc (nld Qab _) nl0))) nl0) nll rfl,asb hb3 (amv rfl),trivial⟩<|wtr<|wxz<|Qaf<|Qag ?_
   obtain rfl:=osi h
   exact fend ⟨[I 1],⟨rot,trivial⟩,rfl⟩ nll
  ·obtain ⟨x5,hf4,h⟩:=bno h
   refine wx tbk [(1,rp [fu 28,(.tmp 7,(Qrd p0))] (B x2)),(3,rp [(.tmp 9,(B ((!x2))))] (B false)),(6,rp [(.tmp 10,B false),fu 33,(.tmp 11,(Qrd p0)),(.tmp 12,(.dat 1 ((p1:List Int).map Qak)))] (B x5))] ⟨apc (first:=[]) (cap:=[]) (vs:=[(Qrd p0)]) rfl Zba (Qm9 N p0 _ hf1) rfl rfl (nlc (NLt.agg _ (nlc (nld Qaj _) (nlc (nld Qab _) nl0))) nl0) nll rfl,asb hb3 (amv rfl),ag_ (apc (first:=[]) (cap:=[]) (vs:=[(Qrd p0),(.dat 1 ((p1:List Int).map Qak))]) rfl Zkw (Qn2 N p0 p1 _ hf4) rfl rfl (nlc (NLt.agg _ (nlc (nld Qaj _) (nlc (nld Qab _) nl0))) (nlc (nld Qae _) nl0)) nll rfl),trivial⟩ ?_
   refine bfe h (fun hc6 h=>?_) fun hc6 h=>?_
   ·refine wft hc6<|wxz<|Qaf<|Qag ?_
    obtain rfl:=osi h
    exact fend ⟨[I 1],⟨rot,trivial⟩,rfl⟩ nll
   ·refine wfn hc6<|Qam<|thn ?_
    obtain ⟨x8,hf7,h⟩:=bno h
    refine wx tbk [(2,rp [fu 61,(.tmp 16,(Qrd p0)),(.tmp 17,(.dat 4 ((p2:List GStream).map Qaa)))] (I x8))] ⟨apc (first:=[]) (cap:=[]) (vs:=[(Qrd p0),(.dat 4 ((p2:List GStream).map Qaa))]) rfl Zkr (Qoq N p0 p2 _ hf7) rfl rfl (nlc (NLt.agg _ (nlc (nld Qaj _) (nlc (nld Qab _) nl0))) (nlc (nld Qac _) nl0)) nll rfl,trivial⟩<|Qaf ?_
    obtain rfl:=osi h
    exact fend ⟨[I x8],⟨rot,trivial⟩,rfl⟩ nll
def Qfn (N:Nat) (x26:GElement) (k40:(List GStream)×(List (List GStream))×(List GLost)×(List Int)→Option (GTick×Int×Int)):Nat→(List GStream)→Int→(List (List GStream))→(List GLost)→(List Int)→Option (GTick×Int×Int)
  | 0,_,_,_,_,_=>none
  | n129+1,y119,y120,y121,y122,y123=>
    bif (decide (y120<(x26.From.length:Int))) then
     chk (decide ((([]:List GStream).length+y119.length) * 32≤140737488355328))<|
     (getI x26.From y120).bind fun x132=>
     (getI y121 x132.Element).bind fun x136=>
     (getI x136 x132.Outlet).bind fun x140=>
     chk (decide (1≤([x140]).length))<|
     chk (decide (((([]:List GStream)++y119).length+(([x140]).take 1).length) * 32≤140737488355328))<|
     Qfn N x26 k40 n129 ((([]:List GStream)++y119)++(([x140]).take 1)) (w64 (y120+1)) y121 y122 y123
    else
     k40 (y119,y121,y122,y123)
def Qfo (N:Nat) (p0:GNet) (p1:(List Int)) (p2:(List GStream)) (k5:Int×(List (List GStream))×(List GLost)×(List Int)→Option (GTick×Int×Int)):Nat→Int→Int→Int→(List (List GStream))→(List GLost)→(List Int)→Option (GTick×Int×Int)
  | 0,_,_,_,_,_,_=>none
  | n18+1,y6,y7,y8,y9,y10,y11=>
    bif (decide (y8<(p0.Elements.length:Int))) then
     Qbh (fun ⟨y20,y21,y22,y23,y24⟩=>
       Qfo N p0 p1 p2 k5 n18 y20 y21 (w64 (y8+1)) y22 y23 y24) fun k25:Int×Int×(List (List GStream))×(List GLost)×(List Int)→Option (GTick×Int×Int)=>
     (getI p0.Elements y8).bind fun x26=>
     Qbh (fun ⟨y30,y31,y32,y33,y34⟩=>
       Qbh (fun ⟨y36,y37,y38,y39⟩=>
         (Qhj N y36).bind fun x42=>
         (getI p1 y8).bind fun x43=>
         (Qjl N x26 x43).bind fun x48=>
         bif (decide (x42.Mass>x48)) then
          some ((⟨[],[],[]⟩:GTick),0,y8)
         else
          Qbh (fun ⟨y50,y51,y52,y53,y54⟩=>
            Qbh (fun ⟨y56,y57,y58,y59,y60,y61,y62,y63,y64⟩=>
              Qbh (fun ⟨y66,y67,y68,y69,y70,y71,y72,y73⟩=>
                chk (decide ((y67.length+([y66]).length) * 24≤140737488355328))<|
                chk (decide (1≤([(⟨y70,y71,y72,y73⟩:GLost)]).length))<|
                chk (decide ((y68.length+(([(⟨y70,y71,y72,y73⟩:GLost)]).take 1).length) * 32≤140737488355328))<|
                chk (decide ((y69.length+([w64 (x43+y73)]).length) * 8≤140737488355328))<|
                k25 (y56,y30,y67++([y66]),y68++(([(⟨y70,y71,y72,y73⟩:GLost)]).take 1),y69++([w64 (x43+y73)]))) fun k74:(List GStream)×(List (List GStream))×(List GLost)×(List Int)×Int×Int×Int×Int→Option (GTick×Int×Int)=>
              bif (x26.Kind==5) then
               (Qhd N x42 x26.Weights).bind fun x81=>
               k74 (x81.1,y58,y59,y60,x81.2.Heat,x81.2.Silica,x81.2.Gas,0)
              else
               k74 (y57,y58,y59,y60,y61,y62,y63,y64)) fun k65:Int×(List GStream)×(List (List GStream))×(List GLost)×(List Int)×Int×Int×Int×Int→Option (GTick×Int×Int)=>
            bif (x26.Kind==4) then
             (getI p0.Table x26.Level).bind fun x83=>
             (Qh5 N x83 x42).bind fun x88=>
             Qbh (fun ⟨y89,y90,y91,y92,y93,y94,y95⟩=>
               (some (w64 (y6+x88.Steam.Mass))).bind fun x97=>
               k65 (x97,y89,y90,y91,y92,y93,y94,y95,x88.Scale)) fun k96:(List GStream)×(List (List GStream))×(List GLost)×(List Int)×Int×Int×Int→Option (GTick×Int×Int)=>
             bif (decide (x26.Amount>0)) then
              (Qhd N (⟨x88.Water.Mass,x88.Water.Heat,x88.Water.Silica,x88.Water.Gas⟩:GStream) ([w64 (1000 - x26.Amount),x26.Amount])).bind fun x101=>
              (getI x101.1 1).bind fun x102=>
              (Qhj N ([(⟨x88.Steam.Mass,x88.Steam.Heat,x88.Steam.Silica,x88.Steam.Gas⟩:GStream),x102])).bind fun x107=>
              (getI x101.1 0).bind fun x108=>
              k96 ([x107,x108],y50,y51,y52,x101.2.Heat,x101.2.Silica,x101.2.Gas)
             else
              k96 ([(⟨x88.Steam.Mass,x88.Steam.Heat,x88.Steam.Silica,x88.Steam.Gas⟩:GStream),(⟨x88.Water.Mass,x88.Water.Heat,x88.Water.Silica,x88.Water.Gas⟩:GStream)],y50,y51,y52,y54,0,0)
            else
             chk (decide (1≤y53.length))<|
             k65 (y6,y53.take 1,y50,y51,y52,y54,0,0,0)) fun k55:(List (List GStream))×(List GLost)×(List Int)×(List GStream)×Int→Option (GTick×Int×Int)=>
          bif (x26.Kind==3) then
           (some (w64 (x42.Heat - (if x42.Heat<x26.Amount then x42.Heat else x26.Amount)))).bind fun x114=>
           chk (decide (0≤0)&&decide ((0:Int).toNat<1))<|
           (([x42])[(0:Int).toNat]?).bind fun x117=>
           k55 (y37,y38,y39,([x42]).set ((0:Int).toNat) (⟨x117.Mass,x114,x117.Silica,x117.Gas⟩:GStream),(if x42.Heat<x26.Amount then x42.Heat else x26.Amount))
          else
           k55 (y37,y38,y39,[x42],0)) fun k40:(List GStream)×(List (List GStream))×(List GLost)×(List Int)→Option (GTick×Int×Int)=>
       Qfn N x26 k40 N y31 0 y32 y33 y34) fun k35:Int×(List GStream)×(List (List GStream))×(List GLost)×(List Int)→Option (GTick×Int×Int)=>
     bif (x26.Kind==1) then
      chk (decide (0≤y7)&&decide (y7≤w64 (y7+1))&&decide (w64 (y7+1)≤(p2.length:Int)))<|
      k35 (w64 (y7+1),(p2.drop y7.toNat).take ((w64 (y7+1)).toNat - y7.toNat),y9,y10,y11)
     else
      k35 (y7,[],y9,y10,y11)
    else
     k5 (y6,y9,y10,y11)
def Qna (N:Nat) (p0:GNet) (p1:(List Int)) (p2:(List GStream)):Option (GTick×Int×Int):=
  Qbh (fun ⟨y1,y2,y3,y4⟩=>
    some ((⟨y2,y3,y4⟩:GTick),y1,(-1))) fun k5:Int×(List (List GStream))×(List GLost)×(List Int)→Option (GTick×Int×Int)=>
  Qfo N p0 p1 p2 k5 N 0 0 0 ([]) ([]) ([])
def Qfv:Slot:=.own 3 [[nilS,nilS,nilS]]
def Qwh (y2:(List (List GStream))):AV:=.acc 2 28 1 ((y2:List (List GStream)).map Qah)
def Qwg (y3:(List GLost)):AV:=.acc 3 90 4 ((y3:List GLost).map Qay)
def Qwf (y4:(List Int)):AV:=.acc 4 3 1 ((y4:List Int).map Qak)
def Qwm:AV:=.acc 3 28 1 (([]:List (List GStream)).map Qah)
def Q38:AV:=.acc 4 90 4 (([]:List GLost).map Qay)
def Qdq (p1:(List Int)):AV:=.dat 1 ((p1:List Int).map Qak)
def Qd1 (p2:(List GStream)):AV:=.dat 4 ((p2:List GStream).map Qaa)
def Zgo (p0:GNet):AV:=.dat 5 ((p0.Table:List GRow).map Qa0)
def Q9c (p0:GNet):AV:=.dat 7 ((p0.Elements:List GElement).map Qad)
def Qgd (p0:GNet):Slot:=.own 2 [[(Zgo p0),(Q9c p0)]]
def Qpe (y9:(List (List GStream))) (y10:(List GLost)) (y11:(List Int)):Slot:=.own 3 [[(.acc 3 28 1 ((y9:List (List GStream)).map Qah)),(.acc 4 90 4 ((y10:List GLost).map Qay)),(.acc 5 3 1 ((y11:List Int).map Qak))]]
def Qwl (y31:(List GStream)):AV:=.dat 4 ((y31:List GStream).map Qaa)
def Qwk (y32:(List (List GStream))):AV:=.acc 4 28 1 ((y32:List (List GStream)).map Qah)
def Qwj (y33:(List GLost)):AV:=.acc 5 90 4 ((y33:List GLost).map Qay)
def Qwi (y34:(List Int)):AV:=.acc 6 3 1 ((y34:List Int).map Qak)
def Qmz (x26:GElement):AV:=.dat 2 ((x26.From:List GPort).map Qas)
def Qpc (x26:GElement):AV:=.dat 1 ((x26.Weights:List Int).map Qak)
def Qd2 (x26:GElement):Slot:=.own 7 [[(K .u8 (x26.Kind)),(Qmz x26),(I (x26.Level)),(I (x26.Amount)),(I (x26.Wide)),(I (x26.Narrow)),(Qpc x26)]]
def Qsy (y36:(List GStream)):AV:=.dat 4 ((y36:List GStream).map Qaa)
def Qsx (y37:(List (List GStream))):AV:=.acc 4 28 1 ((y37:List (List GStream)).map Qah)
def Qsw (y38:(List GLost)):AV:=.acc 5 90 4 ((y38:List GLost).map Qay)
def Qoi (x42:GStream):AV:=.agg [(I (x42.Mass)),(I (x42.Heat)),(I (x42.Silica)),(I (x42.Gas))]
def Qyv (x26:GElement):AV:=.agg [(K .u8 (x26.Kind)),(Qmz x26),(I (x26.Level)),(I (x26.Amount)),(I (x26.Wide)),(I (x26.Narrow)),(Qpc x26)]
def Qpd (x42:GStream):Slot:=.own 4 (([x42]:List GStream).map Qaa)
def Qmy (y50:(List (List GStream))) (y51:(List GLost)) (y52:(List Int)):Slot:=.own 3 [[(.acc 7 28 1 ((y50:List (List GStream)).map Qah)),(.acc 8 90 4 ((y51:List GLost).map Qay)),(.acc 9 3 1 ((y52:List Int).map Qak))]]
def Qhq (x42:GStream):Slot:=.own 4 [[(I (x42.Mass)),(I (x42.Heat)),(I (x42.Silica)),(I (x42.Gas))]]
def Qpb (y54:Int):Slot:=.own 4 [[(I (y54)),(I (0)),(I (0)),(I (0))]]
def Qsu (y58:(List (List GStream))):AV:=.acc 6 28 1 ((y58:List (List GStream)).map Qah)
def Qst (y59:(List GLost)):AV:=.acc 7 90 4 ((y59:List GLost).map Qay)
def Qss (y66:(List GStream)):AV:=.dat 4 ((y66:List GStream).map Qaa)
def Qsr (y68:(List GLost)):AV:=.acc 5 90 4 ((y68:List GLost).map Qay)
def Qyu (y69:(List Int)):AV:=.acc 6 3 1 ((y69:List Int).map Qak)
def Qyt (y67:(List (List GStream))) (y66:(List GStream)):AV:=.acc 7 28 1 ((y67++([y66]):List (List GStream)).map Qah)
def Qys (y68:(List GLost)) (y70:Int) (y71:Int) (y72:Int) (y73:Int):AV:=.acc 9 90 4 ((y68++(([(⟨y70,y71,y72,y73⟩:GLost)]).take 1):List GLost).map Qay)
def Qyr (x83:GRow):AV:=.agg [(I (x83.T)),(I (x83.P)),(I (x83.Liquid)),(I (x83.Vapour)),(I (x83.Silica))]
def Qpa (x88:GParts):AV:=.agg [(I (x88.Steam.Mass)),(I (x88.Steam.Heat)),(I (x88.Steam.Silica)),(I (x88.Steam.Gas))]
def Qo9 (x88:GParts):AV:=.agg [(I (x88.Water.Mass)),(I (x88.Water.Heat)),(I (x88.Water.Silica)),(I (x88.Water.Gas))]
def Qyq (x88:GParts):AV:=.dat 4 (([(⟨x88.Steam.Mass,x88.Steam.Heat,x88.Steam.Silica,x88.Steam.Gas⟩:GStream),(⟨x88.Water.Mass,x88.Water.Heat,x88.Water.Silica,x88.Water.Gas⟩:GStream)]:List GStream).map Qaa)
def Qsq (x88:GParts):Slot:=.own 10 [[(I (x88.Steam.Mass)),(I (x88.Steam.Heat)),(I (x88.Steam.Silica)),(I (x88.Steam.Gas)),(I (x88.Water.Mass)),(I (x88.Water.Heat)),(I (x88.Water.Silica)),(I (x88.Water.Gas)),(I (x88.Rest)),(I (x88.Scale))]]
def Qsv (x26:GElement):AV:=.dat 1 (([w64 (1000 - x26.Amount),x26.Amount]:List Int).map Qak)
def Q37 (x102:GStream):AV:=.agg [(I (x102.Mass)),(I (x102.Heat)),(I (x102.Silica)),(I (x102.Gas))]
def Qsp (x88:GParts) (x102:GStream):AV:=.dat 4 (([(⟨x88.Steam.Mass,x88.Steam.Heat,x88.Steam.Silica,x88.Steam.Gas⟩:GStream),x102]:List GStream).map Qaa)
def Qso (x107:GStream):AV:=.agg [(I (x107.Mass)),(I (x107.Heat)),(I (x107.Silica)),(I (x107.Gas))]
def Qyp (x108:GStream):AV:=.agg [(I (x108.Mass)),(I (x108.Heat)),(I (x108.Silica)),(I (x108.Gas))]
def Qyo (x42:GStream) (x117:GStream) (x114:Int):Slot:=.own 4 ((([x42]).set ((0:Int).toNat) (⟨x117.Mass,x114,x117.Silica,x117.Gas⟩:GStream):List GStream).map Qaa)
def Qo8 (y121:(List (List GStream))):AV:=.acc 4 28 1 ((y121:List (List GStream)).map Qah)
def Qsm (y122:(List GLost)):AV:=.acc 5 90 4 ((y122:List GLost).map Qay)
def Q39:AV:=.acc 7 89 4 ((([]:List GStream):List GStream).map Qaa)
def Qsn (y119:(List GStream)):AV:=.acc 8 89 4 ((([]:List GStream)++y119:List GStream).map Qaa)
def Qyn (x140:GStream):AV:=.agg [(I (x140.Mass)),(I (x140.Heat)),(I (x140.Silica)),(I (x140.Gas))]
def Qyw (p2:(List GStream)) (y7:Int):AV:=.dat 4 (((p2.drop y7.toNat).take ((w64 (y7+1)).toNat - y7.toNat):List GStream).map Qaa)
theorem Qze (N:Nat) (p0:GNet) (p1:(List Int)) (p2:(List GStream)) (r:(GTick×Int×Int)) (h:Qna N p0 p1 p2=some r):Spec Tryz.prog 22 [(.agg (Qhv p0)),(.dat 1 (p1.map Qak)),(.dat 4 (p2.map Qaa))] [] (.tup [(.agg (Zk9 r.1)),(I r.2.1),(I r.2.2)]) []:=by
  refine Qai Tryz.func22 rfl 0 (nle rfl) (fun X φ0 w0 hφ0 hd0=>?_)
  unfold Qna at h
  refine wxz<|wxz<|wxz ?_
  obtain ⟨k5,hk_k5,h⟩:=jko h
  refine wjn (τ:=Int×(List (List GStream))×(List GLost)×(List Int)) (fun t=>k5 t=some r) (fun ⟨y1,y2,y3,y4⟩=>⟨mk 209 [(6,.ref 0 3 0 0),(9,.ref 1 3 0 0),(10,I y1)],[Qfv,(.own 3 [[(Qwh y2),(Qwg y3),(Qwf y4)]]),.tok,.tok,.tok]⟩) (fun t h=>?_) ?_
  ·subst hk_k5
   obtain ⟨y1,y2,y3,y4⟩:=t
   refine wxz<|Qaf ?_
   obtain rfl:=osi h
   exact fend ⟨[(.agg [(.dat 1 ((y2:List (List GStream)).map Qah)),(.dat 4 ((y3:List GLost).map Qay)),(.dat 1 ((y4:List Int).map Qak))]),I y1,(I ((-1)))],⟨Qez (v:=(.agg [(Qwh y2),(Qwg y3),(Qwf y4)])) (Qbv (n:=0) (m:=3) (j:=0) (i:=0) (xs:=[[(Qwh y2),(Qwg y3),(Qwf y4)]]) (by kernel_rfl) (by kernel_rfl) ti52 (by decide) rfl (nle rfl) rfl) (Less.agg ⟨Less.acc,Less.acc,Less.acc,trivial⟩),rot,rot,trivial⟩,rfl⟩ (NLt.tup _ (nlc (NLt.agg _ (nlc (nld Qan _) (nlc (nld Qaw _) (nlc (nld Qae _) nl0)))) (nlcc nl0)))
  ·skip
   refine wxz<|Qal ?_
   refine wmr (Mor.trans (Qmg (n:=3) (ty:=28) (m:=1) (q:=2) (mq:=3) (c:=[nilS,nilS,nilS]) 0 (by kernel_rfl) (by kernel_rfl) (by kernel_rfl) (by decide)) (Mor.trans (Qmg (n:=4) (ty:=90) (m:=4) (q:=2) (mq:=3) (c:=[Qwm,nilS,nilS]) 1 (by kernel_rfl) (by kernel_rfl) (by kernel_rfl) (by decide)) (Mor.trans (Qmg (n:=5) (ty:=3) (m:=1) (q:=2) (mq:=3) (c:=[Qwm,Q38,nilS]) 2 (by kernel_rfl) (by kernel_rfl) (by kernel_rfl) (by decide)) (mto (n:=209) (l':=[(1,(Qdq p1)),(2,(Qd1 p2)),(3,.ref 0 2 0 0),(6,.ref 1 3 0 0),(9,.ref 2 3 0 0),(10,I 0),(11,I 0),(12,I 0)]) (own':=[(Qgd p0),Qfv,(.own 3 [[(.acc 3 28 1 ((([]):List (List GStream)).map Qah)),(.acc 4 90 4 ((([]):List GLost).map Qay)),(.acc 5 3 1 ((([]):List Int).map Qak))]]),.tok,.tok,.tok]) [(1,(Qdq p1)),(2,(Qd1 p2)),(3,.ref 0 2 0 0),(6,.ref 1 3 0 0),(9,.ref 2 3 0 0),(10,I 0),(11,I 0),(12,I 0)] [0,1,2,3,4,5] [(Qgd p0),Qfv,(.own 3 [[Qwm,Q38,(.acc 5 3 1 (([]:List Int).map Qak))]]),.tok,.tok,.tok] hφ0 (pc (rnd Qae) (pc (rnd Qac) (pc (.rn (rqr rfl)) (pc (.rn (rqr rfl)) (pc (.rn (rqr rfl)) (pc rwl (pc rwl (pc rwl pn)))))))) (qc (spb (lc (rnd Qaj) (lc (rnd Qab) ln))) (qc (spb (lcc (lc rwl ln))) (qc (spb (lc (.rn (Qa7 rfl (Qa2 Qan _))) (lc (.rn (Qa7 rfl (Qa2 Qaw _))) (lc (.rn (Qa7 rfl (Qa2 Qae _))) ln)))) (qc .tok (qc .tok (qc .tok qn)))))))))) ?_
   refine Qby (τ:=Int×Int×Int×(List (List GStream))×(List GLost)×(List Int)) (fun n t=>Qfo N p0 p1 p2 k5 n t.1 t.2.1 t.2.2.1 t.2.2.2.1 t.2.2.2.2.1 t.2.2.2.2.2=some r) (fun ⟨y6,y7,y8,y9,y10,y11⟩=>⟨mk 209 [(1,(Qdq p1)),(2,(Qd1 p2)),(3,.ref 0 2 0 0),(6,.ref 1 3 0 0),(9,.ref 2 3 0 0),(10,I y6),(11,I y7),(12,I y8)],[(Qgd p0),Qfv,(Qpe y9 y10 y11),.tok,.tok,.tok]⟩) (fun t h=>by rw [Qfo] at h; cases h) (fun n18 ih t h=>?_) N (0,0,0,[],[],[]) h
   obtain ⟨y6,y7,y8,y9,y10,y11⟩:=t
   rw [Qfo] at h
   skip
   refine wsq<|wx tbk [(3,rp [(.tmp 26,(Q9c p0))] (I ((p0.Elements.length:Int))))] ⟨alm (c:=Qad) (l:=p0.Elements) (aln rfl Tryz.underlying24 rfl),trivial⟩ ?_
   refine bfe h (fun hc19 h=>?_) fun hc19 h=>?_
   ·refine wft hc19<|Qam<|thn ?_
    obtain ⟨k25,hk_k25,h⟩:=jko h
    refine wjn (τ:=Int×Int×(List (List GStream))×(List GLost)×(List Int)) (fun t=>k25 t=some r) (fun ⟨y20,y21,y22,y23,y24⟩=>⟨mk 209 [(1,(Qdq p1)),(2,(Qd1 p2)),(3,.ref 0 2 0 0),(6,.ref 1 3 0 0),(9,.ref 2 3 0 0),(10,I y20),(11,I y21),(12,I y8)],[(Qgd p0),Qfv,(.own 3 [[(.acc 3 28 1 ((y22:List (List GStream)).map Qah)),(.acc 4 90 4 ((y23:List GLost).map Qay)),(.acc 5 3 1 ((y24:List Int).map Qak))]]),.tok,.tok,.tok]⟩) (fun t h=>?_) ?_
    ·subst hk_k25
     obtain ⟨y20,y21,y22,y23,y24⟩:=t
     exact wxz1<|thn<|arm (mto (n:=209) [(1,(Qdq p1)),(2,(Qd1 p2)),(3,.ref 0 2 0 0),(6,.ref 1 3 0 0),(9,.ref 2 3 0 0),(10,I y20),(11,I y21),(12,(I (w64 (y8+1))))] [0,1,2,3,4,5] [(Qgd p0),Qfv,(.own 3 [[(.acc 3 28 1 ((y22:List (List GStream)).map Qah)),(.acc 4 90 4 ((y23:List GLost).map Qay)),(.acc 5 3 1 ((y24:List Int).map Qak))]]),.tok,.tok,.tok] hφ0 (pc (rnd Qae) (pc (rnd Qac) (pc (.rn (rqr rfl)) (pc (.rn (rqr rfl)) (pc (.rn (rqr rfl)) (pc rwl (pc rwl (pc rwl pn)))))))) (qc (spb (lc (rnd Qaj) (lc (rnd Qab) ln))) (qc (spb (lcc (lc rwl ln))) (qc (spb (lc (.rn (Qa7 rfl (Qa2 Qan _))) (lc (.rn (Qa7 rfl (Qa2 Qaw _))) (lc (.rn (Qa7 rfl (Qa2 Qae _))) ln)))) (qc .tok (qc .tok (qc .tok qn))))))) (ih (y20,y21,w64 (y8+1),y22,y23,y24) h)
    ·skip
     refine Qal ?_
     obtain ⟨x26,hg27,h⟩:=bno h
     obtain ⟨hi28,hj29⟩:=gsm hg27
     refine wx tbk [(3,rp [(.tmp 32,(Q9c p0)),(.tmp 33,I y8)] (.dptr (Qad (x26)) 0))] ⟨aid rfl Tryz.underlying24 ti59 rfl rfl hi28 (mgt Qad hj29) rfl,trivial⟩<|wxz ?_
     obtain ⟨k35,hk_k35,h⟩:=jko h
     refine wjn (τ:=Int×(List GStream)×(List (List GStream))×(List GLost)×(List Int)) (fun t=>k35 t=some r) (fun ⟨y30,y31,y32,y33,y34⟩=>⟨mk 209 [(1,(Qdq p1)),(2,(Qd1 p2)),(3,.ref 0 2 0 0),(6,.ref 1 3 0 0),(9,.ref 2 3 0 0),(10,I y6),(11,I y30),(12,I y8),(13,.ref 3 7 0 0),(14,(Qwl y31))],[(Qgd p0),Qfv,(.own 3 [[(Qwk y32),(Qwj y33),(Qwi y34)]]),(Qd2 x26),.tok,.tok,.tok]⟩) (fun t h=>?_) ?_
     ·subst hk_k35
      obtain ⟨y30,y31,y32,y33,y34⟩:=t
      obtain ⟨k40,hk_k40,h⟩:=jko h
      refine wjn (τ:=(List GStream)×(List (List GStream))×(List GLost)×(List Int)) (fun t=>k40 t=some r) (fun ⟨y36,y37,y38,y39⟩=>⟨mk 209 [(1,(Qdq p1)),(2,(Qd1 p2)),(3,.ref 0 2 0 0),(6,.ref 1 3 0 0),(9,.ref 2 3 0 0),(10,I y6),(11,I y30),(12,I y8),(13,.ref 3 7 0 0),(14,(Qsy y36))],[(Qgd p0),Qfv,(.own 3 [[(Qsx y37),(Qsw y38),(.acc 6 3 1 ((y39:List Int).map Qak))]]),(Qd2 x26),.tok,.tok,.tok]⟩) (fun t h=>?_) ?_
      ·subst hk_k40
       obtain ⟨y36,y37,y38,y39⟩:=t
       obtain ⟨x42,hf41,h⟩:=bno h
       refine wx tbk [(1,rp [fu 38,(.tmp 76,(Qsy y36))] (Qoi x42))] ⟨apc (first:=[]) (cap:=[]) (vs:=[(Qsy y36)]) rfl Q2k (Ql9 N y36 _ hf41) rfl rfl (nlc (nld Qac _) nl0) (NLt.agg _ (nlcc (nlcc nl0))) rfl,trivial⟩<|wsq ?_
       obtain ⟨x43,hg44,h⟩:=bno h
       obtain ⟨hi45,hj46⟩:=gsm hg44
       obtain ⟨x48,hf47,h⟩:=bno h
       refine wxd tbk [(5,rp [(.tmp 81,(Qdq p1)),(.tmp 82,I y8)] (.dptr (Qak (x43)) 0)),(7,rp [fu 62,(.tmp 80,(Qyv x26)),(.tmp 84,I x43)] (I x48))] ⟨aid rfl Tryz.underlying27 ti3 rfl rfl hi45 (mgt Qak hj46) rfl,apc (first:=[]) (cap:=[]) (vs:=[(Qyv x26),I x43]) rfl Zkq (Qs9 N x26 x43 _ hf47) rfl rfl (nlc (NLt.agg _ (nlc nll (nlc (nld Qa3 _) (nlcc (nlcc (nlc (nld Qae _) nl0)))))) (nlc nll nl0)) nll rfl,trivial⟩ ?_
       refine bfe h (fun hc49 h=>?_) fun hc49 h=>?_
       ·refine wft hc49<|wx tbk [(0,rp [] (.agg [nilS,nilS,nilS]))] ⟨Qau (vs:=[]) rfl ts52 tz52 rfl (by rfl) rfl,trivial⟩<|Qaf<|Qag<|Qap<|Qag<|Qag<|Qap<|Qag ?_
        obtain rfl:=osi h
        exact fend ⟨[(.agg [(.dat 1 (([]:List (List GStream)).map Qah)),(.dat 4 (([]:List GLost).map Qay)),(.dat 1 (([]:List Int).map Qak))]),I 0,I y8],⟨Qez (v:=(.agg [nilS,nilS,nilS])) (Qbv (n:=1) (m:=3) (j:=0) (i:=0) (xs:=[[nilS,nilS,nilS]]) (by kernel_rfl) (by kernel_rfl) ti52 (by decide) rfl (nle rfl) rfl) (Less.agg ⟨Less.nil,Less.nil,Less.nil,trivial⟩),rot,rot,trivial⟩,rfl⟩ (NLt.tup _ (nlc (NLt.agg _ (nlc (nld Qan _) (nlc (nld Qaw _) (nlc (nld Qae _) nl0)))) (nlcc nl0)))
       ·refine wfn hc49<|Qam<|thn ?_
        refine wx tbk [(1,⟨[(.tmp 89,(Qoi x42))],[(8,.unused)],(.own 8 4 (0) (1)),[(8,(Qpd x42))],false⟩)] ⟨Qml (vs:=[(Qoi x42)]) rfl Tryz.underlying28 ti89 tz89 rfl (by decide) rfl (by decide) (by rfl) (by rfl) (by rfl) rfl,trivial⟩<|wxz ?_
        obtain ⟨k55,hk_k55,h⟩:=jko h
        refine wjn (τ:=(List (List GStream))×(List GLost)×(List Int)×(List GStream)×Int) (fun t=>k55 t=some r) (fun ⟨y50,y51,y52,y53,y54⟩=>⟨mk 209 [(1,(Qdq p1)),(2,(Qd1 p2)),(3,.ref 0 2 0 0),(6,.ref 1 3 0 0),(9,.ref 2 3 0 0),(10,I y6),(11,I y30),(12,I y8),(13,.ref 3 7 0 0),(16,.ref 4 4 0 0),(17,(.own 5 4 (0) (1))),(18,.ref 6 4 0 0)],[(Qgd p0),Qfv,(Qmy y50 y51 y52),(Qd2 x26),(Qhq x42),(.own 4 ((y53:List GStream).map Qaa)),(Qpb y54),.tok,.tok,.tok]⟩) (fun t h=>?_) ?_
        ·subst hk_k55
         obtain ⟨y50,y51,y52,y53,y54⟩:=t
         obtain ⟨k65,hk_k65,h⟩:=jko h
         refine wjn (τ:=Int×(List GStream)×(List (List GStream))×(List GLost)×(List Int)×Int×Int×Int×Int) (fun t=>k65 t=some r) (fun ⟨y56,y57,y58,y59,y60,y61,y62,y63,y64⟩=>⟨mk 209 [(1,(Qdq p1)),(2,(Qd1 p2)),(3,.ref 0 2 0 0),(6,.ref 1 3 0 0),(9,.ref 2 3 0 0),(10,I y56),(11,I y30),(12,I y8),(13,.ref 3 7 0 0),(16,.ref 4 4 0 0),(17,(.dat 4 ((y57:List GStream).map Qaa))),(18,.ref 5 4 0 0)],[(Qgd p0),Qfv,(.own 3 [[(Qsu y58),(Qst y59),(.acc 8 3 1 ((y60:List Int).map Qak))]]),(Qd2 x26),(Qhq x42),(.own 4 [[I y61,I y62,I y63,I y64]]),.tok,.tok,.tok]⟩) (fun t h=>?_) ?_
         ·subst hk_k65
          obtain ⟨y56,y57,y58,y59,y60,y61,y62,y63,y64⟩:=t
          obtain ⟨k74,hk_k74,h⟩:=jko h
          refine wjn (τ:=(List GStream)×(List (List GStream))×(List GLost)×(List Int)×Int×Int×Int×Int) (fun t=>k74 t=some r) (fun ⟨y66,y67,y68,y69,y70,y71,y72,y73⟩=>⟨mk 209 [(1,(Qdq p1)),(2,(Qd1 p2)),(3,.ref 0 2 0 0),(6,.ref 1 3 0 0),(9,.ref 2 3 0 0),(10,I y56),(11,I y30),(12,I y8),(17,(Qss y66)),(18,.ref 3 4 0 0)],[(Qgd p0),Qfv,(.own 3 [[(.acc 4 28 1 ((y67:List (List GStream)).map Qah)),(Qsr y68),(Qyu y69)]]),(.own 4 [[I y70,I y71,I y72,I y73]]),.tok,.tok,.tok]⟩) (fun t h=>?_) ?_
          ·subst hk_k74
           obtain ⟨y66,y67,y68,y69,y70,y71,y72,y73⟩:=t
           obtain ⟨ha75,h⟩:=cko h
           obtain ⟨hz76,h⟩:=cko h
           obtain ⟨ha77,h⟩:=cko h
           obtain ⟨ha78,h⟩:=cko h
           refine wy1 tbk [(3,rp [(.tmp 185,(Qss y66))] (.dat 1 (([y66]:List (List GStream)).map Qah))),(4,⟨[(.tmp 184,(.acc 4 28 1 ((y67:List (List GStream)).map Qah))),(.tmp 186,(.dat 1 (([y66]:List (List GStream)).map Qah)))],[(4,.tok),(7,.unused)],(Qyt y67 y66),[(4,.dead),(7,.tok)],false⟩),(8,⟨[(.tmp 190,(.agg [I y70,I y71,I y72,I y73]))],[(8,.unused)],(.own 8 4 (0) (1)),[(8,(.own 4 (([(⟨y70,y71,y72,y73⟩:GLost)]:List GLost).map Qay)))],false⟩),(9,⟨[(.tmp 189,(Qsr y68)),(.tmp 191,(.own 8 4 (0) (1)))],[(8,(.own 4 (([(⟨y70,y71,y72,y73⟩:GLost)]:List GLost).map Qay))),(5,.tok),(9,.unused)],(Qys y68 y70 y71 y72 y73),[(5,.dead),(9,.tok)],false⟩),(14,rp [(.tmp 195,(Qdq p1)),(.tmp 196,I y8)] (.dptr (Qak (x43)) 0)),(19,rp [(.tmp 201,(I (w64 (x43+y73))))] (.dat 1 (([w64 (x43+y73)]:List Int).map Qak))),(20,⟨[(.tmp 194,(Qyu y69)),(.tmp 202,(.dat 1 (([w64 (x43+y73)]:List Int).map Qak)))],[(6,.tok),(10,.unused)],(.acc 10 3 1 ((y69++([w64 (x43+y73)]):List Int).map Qak)),[(6,.dead),(10,.tok)],false⟩)] ⟨Qbo (vs:=[(Qss y66)]) rfl Tryz.underlying49 ti28 tz28 rfl (by decide) rfl (by decide) (by rfl) (by rfl) (by rfl) rfl,Qeq rfl Tryz.underlying49 te28 (Base.acc _ _) rfl rfl (by rfl) (Qg9 Qah ha75) (Qg8 Qah ha75 (by decide)) (Qg7 Qah) rfl rfl,Qml (vs:=[(.agg [I y70,I y71,I y72,I y73])]) rfl Tryz.underlying50 ti90 tz90 rfl (by decide) rfl (by decide) (by rfl) (by rfl) (by rfl) rfl,Qhl (rd':=[(.tmp 189,(Qsr y68)),(.tmp 191,(.dat 4 ((([(⟨y70,y71,y72,y73⟩:GLost)]).take 1:List GLost).map Qay)))]) [(8,4,([(⟨y70,y71,y72,y73⟩:GLost)]:List GLost).map Qay)] ⟨rfl,.same _,rfl,(Qt5 0 rfl hz76),trivial⟩ (by rfl) (.acc _ _ _ _ (nin rfl) (by simp) (Qw8 Zan _)) (Qpp .dead (Qpp .tok Qqp)) (Qeq rfl Tryz.underlying50 te90 (Base.acc _ _) rfl rfl (Qmd Qay Q99 _) (Qg9 Qay ha77) (Qg8 Qay ha77 (by decide)) (Qg7 Qay) rfl rfl),aid rfl Tryz.underlying27 ti3 rfl rfl hi45 (mgt Qak hj46) rfl,Qbo (vs:=[(I (w64 (x43+y73)))]) rfl Tryz.underlying27 ti3 tz3 rfl (by decide) rfl (by decide) (by rfl) (by rfl) (by rfl) rfl,Qeq rfl Tryz.underlying27 te3 (Base.acc _ _) rfl rfl (by rfl) (Qg9 Qak ha78) (Qg8 Qak ha78 (by decide)) (Qg7 Qak) rfl rfl,trivial⟩<|bln<|thn ?_
           exact ⟨(y56,y30,y67++([y66]),y68++(([(⟨y70,y71,y72,y73⟩:GLost)]).take 1),y69++([w64 (x43+y73)])),h,(mto (n:=209) [(1,(Qdq p1)),(2,(Qd1 p2)),(3,.ref 0 2 0 0),(6,.ref 1 3 0 0),(9,.ref 2 3 0 0),(10,I y56),(11,I y30),(12,I y8)] [0,1,2,7,9,10] [(Qgd p0),Qfv,(.own 3 [[(Qyt y67 y66),(Qys y68 y70 y71 y72 y73),(.acc 10 3 1 ((y69++([w64 (x43+y73)]):List Int).map Qak))]]),.tok,.tok,.tok] hφ0 (pc (rnd Qae) (pc (rnd Qac) (pc (.rn (rqr rfl)) (pc (.rn (rqr rfl)) (pc (.rn (rqr rfl)) (pc rwl (pc rwl (pc rwl pn)))))))) (qc (spb (lc (rnd Qaj) (lc (rnd Qab) ln))) (qc (spb (lcc (lc rwl ln))) (qc (spb (lc (.rn (Qa7 rfl (Qa2 Qan _))) (lc (.rn (Qa7 rfl (Qa2 Qaw _))) (lc (.rn (Qa7 rfl (Qa2 Qae _))) ln)))) (qc .tok (qc .tok (qc .tok qn)))))))⟩
          ·skip
           refine wxz ?_
           refine bfe h (fun hc79 h=>?_) fun hc79 h=>?_
           ·refine wft hc79 ?_
            obtain ⟨x81,hf80,h⟩:=bno h
            refine wx tbk [(3,rp [fu 64,(.tmp 169,(Qoi x42)),(.tmp 171,(Qpc x26))] (.tup [(.dat 4 ((x81.1:List GStream).map Qaa)),(.agg [I x81.2.Heat,I x81.2.Silica,I x81.2.Gas])]))] ⟨apc (first:=[]) (cap:=[]) (vs:=[(Qoi x42),(Qpc x26)]) rfl Za7 (Qnc N x42 x26.Weights _ hf80) rfl rfl (nlc (NLt.agg _ (nlcc (nlcc nl0))) (nlc (nld Qae _) nl0)) (NLt.tup _ (nlc (nld Qac _) (nlc (NLt.agg _ (nlcc (nlc nll nl0))) nl0))) rfl,trivial⟩ ?_
            exact wy1 tbk [(7,rp [(.tmp 177,I x81.2.Heat),(.tmp 179,I x81.2.Silica),(.tmp 181,I x81.2.Gas),ci 0] (.agg [I x81.2.Heat,I x81.2.Silica,I x81.2.Gas,I 0]))] ⟨Qau (vs:=[I x81.2.Heat,I x81.2.Silica,I x81.2.Gas,I 0]) rfl ts90 tz90 rfl (by rfl) rfl,trivial⟩<|thn<|⟨(x81.1,y58,y59,y60,x81.2.Heat,x81.2.Silica,x81.2.Gas,0),h,(mto (n:=209) [(1,(Qdq p1)),(2,(Qd1 p2)),(3,.ref 0 2 0 0),(6,.ref 1 3 0 0),(9,.ref 2 3 0 0),(10,I y56),(11,I y30),(12,I y8),(17,(.dat 4 ((x81.1:List GStream).map Qaa))),(18,.ref 5 4 0 0)] [0,1,2,5,6,7,8] [(Qgd p0),Qfv,(.own 3 [[(Qsu y58),(Qst y59),(.acc 8 3 1 ((y60:List Int).map Qak))]]),(.own 4 [[I x81.2.Heat,I x81.2.Silica,I x81.2.Gas,I 0]]),.tok,.tok,.tok] hφ0 (pc (rnd Qae) (pc (rnd Qac) (pc (.rn (rqr rfl)) (pc (.rn (rqr rfl)) (pc (.rn (rqr rfl)) (pc rwl (pc rwl (pc rwl (pc (rnd Qac) (pc (.rn (rqr rfl)) pn)))))))))) (qc (spb (lc (rnd Qaj) (lc (rnd Qab) ln))) (qc (spb (lcc (lc rwl ln))) (qc (spb (lc (.rn (Qa7 rfl (Qa2 Qan _))) (lc (.rn (Qa7 rfl (Qa2 Qaw _))) (lc (.rn (Qa7 rfl (Qa2 Qae _))) ln)))) (qc (spb (lcc (lcc ln))) (qc .tok (qc .tok (qc .tok qn))))))))⟩
           ·exact wfn hc79<|Qam<|thn<|⟨(y57,y58,y59,y60,y61,y62,y63,y64),h,(mto (n:=209) [(1,(Qdq p1)),(2,(Qd1 p2)),(3,.ref 0 2 0 0),(6,.ref 1 3 0 0),(9,.ref 2 3 0 0),(10,I y56),(11,I y30),(12,I y8),(17,(.dat 4 ((y57:List GStream).map Qaa))),(18,.ref 5 4 0 0)] [0,1,2,5,6,7,8] [(Qgd p0),Qfv,(.own 3 [[(Qsu y58),(Qst y59),(.acc 8 3 1 ((y60:List Int).map Qak))]]),(.own 4 [[I y61,I y62,I y63,I y64]]),.tok,.tok,.tok] hφ0 (pc (rnd Qae) (pc (rnd Qac) (pc (.rn (rqr rfl)) (pc (.rn (rqr rfl)) (pc (.rn (rqr rfl)) (pc rwl (pc rwl (pc rwl (pc (rnd Qac) (pc (.rn (rqr rfl)) pn)))))))))) (qc (spb (lc (rnd Qaj) (lc (rnd Qab) ln))) (qc (spb (lcc (lc rwl ln))) (qc (spb (lc (.rn (Qa7 rfl (Qa2 Qan _))) (lc (.rn (Qa7 rfl (Qa2 Qaw _))) (lc (.rn (Qa7 rfl (Qa2 Qae _))) ln)))) (qc (spb (lcc (lcc ln))) (qc .tok (qc .tok (qc .tok qn))))))))⟩
         ·skip
          refine wxz ?_
          refine bfe h (fun hc82 h=>?_) fun hc82 h=>?_
          ·refine wft hc82 ?_
           obtain ⟨x83,hg84,h⟩:=bno h
           obtain ⟨hi85,hj86⟩:=gsm hg84
           obtain ⟨x88,hf87,h⟩:=bno h
           refine wxd tbk [(4,rp [(.tmp 112,(Zgo p0)),(.tmp 114,I x26.Level)] (.dptr (Qa0 (x83)) 0)),(7,rp [fu 63,(.tmp 116,(Qyr x83)),(.tmp 117,(Qoi x42))] (.agg [I x88.Steam.Mass,I x88.Steam.Heat,I x88.Steam.Silica,I x88.Steam.Gas,I x88.Water.Mass,I x88.Water.Heat,I x88.Water.Silica,I x88.Water.Gas,I x88.Rest,I x88.Scale]))] ⟨aid rfl Tryz.underlying23 Qmr rfl rfl hi85 (mgt Qa0 hj86) rfl,apc (first:=[]) (cap:=[]) (vs:=[(Qyr x83),(Qoi x42)]) rfl Zkp (Qta N x83 x42 _ hf87) rfl rfl (nlc (NLt.agg _ (nlcc (nlcc (nlc nll nl0)))) (nlc (NLt.agg _ (nlcc (nlcc nl0))) nl0)) (NLt.agg _ (nlcc (nlcc (nlcc (nlcc (nlcc nl0)))))) rfl,trivial⟩ ?_
           refine wx tbk [(4,rp [(.tmp 120,(Qpa x88)),(.tmp 122,(Qo9 x88))] (Qyq x88))] ⟨Qbo (vs:=[(Qpa x88),(Qo9 x88)]) rfl Tryz.underlying28 ti89 tz89 rfl (by decide) rfl (by decide) (by rfl) (by rfl) (by rfl) rfl,trivial⟩ ?_
           obtain ⟨k96,hk_k96,h⟩:=jko h
           refine wjn (τ:=(List GStream)×(List (List GStream))×(List GLost)×(List Int)×Int×Int×Int) (fun t=>k96 t=some r) (fun ⟨y89,y90,y91,y92,y93,y94,y95⟩=>⟨mk 209 [(1,(Qdq p1)),(2,(Qd1 p2)),(3,.ref 0 2 0 0),(6,.ref 1 3 0 0),(9,.ref 2 3 0 0),(10,I y6),(11,I y30),(12,I y8),(13,.ref 3 7 0 0),(16,.ref 4 4 0 0),(17,(.dat 4 ((y89:List GStream).map Qaa))),(18,.ref 5 4 0 0),(19,.ref 6 10 0 0)],[(Qgd p0),Qfv,(.own 3 [[(.acc 7 28 1 ((y90:List (List GStream)).map Qah)),(.acc 8 90 4 ((y91:List GLost).map Qay)),(.acc 9 3 1 ((y92:List Int).map Qak))]]),(Qd2 x26),(Qhq x42),(.own 4 [[I y93,I y94,I y95,I 0]]),(Qsq x88),.tok,.tok,.tok]⟩) (fun t h=>?_) ?_
           ·subst hk_k96
            obtain ⟨y89,y90,y91,y92,y93,y94,y95⟩:=t
            refine wxz ?_
            obtain ⟨x97,hl98,h⟩:=bno h
            exact wx1 tbk [(5,rp [(.tmp 164,(I (w64 (y6+x88.Steam.Mass))))] (I x97))] ⟨Qg6 hl98 (aas rfl),trivial⟩<|thn<|⟨(x97,y89,y90,y91,y92,y93,y94,y95,x88.Scale),h,(mto (n:=209) [(1,(Qdq p1)),(2,(Qd1 p2)),(3,.ref 0 2 0 0),(6,.ref 1 3 0 0),(9,.ref 2 3 0 0),(10,I x97),(11,I y30),(12,I y8),(13,.ref 3 7 0 0),(16,.ref 4 4 0 0),(17,(.dat 4 ((y89:List GStream).map Qaa))),(18,.ref 5 4 0 0)] [0,1,2,3,4,5,7,8,9] [(Qgd p0),Qfv,(.own 3 [[(.acc 7 28 1 ((y90:List (List GStream)).map Qah)),(.acc 8 90 4 ((y91:List GLost).map Qay)),(.acc 9 3 1 ((y92:List Int).map Qak))]]),(Qd2 x26),(Qhq x42),(.own 4 [[I y93,I y94,I y95,I x88.Scale]]),.tok,.tok,.tok] hφ0 (pc (rnd Qae) (pc (rnd Qac) (pc (.rn (rqr rfl)) (pc (.rn (rqr rfl)) (pc (.rn (rqr rfl)) (pc rwl (pc rwl (pc rwl (pc (.rn (rqr rfl)) (pc (.rn (rqr rfl)) (pc (rnd Qac) (pc (.rn (rqr rfl)) pn)))))))))))) (qc (spb (lc (rnd Qaj) (lc (rnd Qab) ln))) (qc (spb (lcc (lc rwl ln))) (qc (spb (lc (.rn (Qa7 rfl (Qa2 Qan _))) (lc (.rn (Qa7 rfl (Qa2 Qaw _))) (lc (.rn (Qa7 rfl (Qa2 Qae _))) ln)))) (qc (spb (lc rwl (lc (rnd Qa3) (lcc (lcc (lc (rnd Qae) ln)))))) (qc (spb (lcc (lcc ln))) (qc (spb (lcc (lcc ln))) (qc .tok (qc .tok (qc .tok qn))))))))))⟩
           ·skip
            refine wxz ?_
            refine bfe h (fun hc99 h=>?_) fun hc99 h=>?_
            ·refine wft hc99 ?_
             obtain ⟨x101,hf100,h⟩:=bno h
             refine wx tbk [(7,rp [(.tmp 132,(I (w64 (1000 - x26.Amount)))),(.tmp 134,I x26.Amount)] (Qsv x26)),(8,rp [fu 64,(.tmp 129,(Qo9 x88)),(.tmp 135,(Qsv x26))] (.tup [(.dat 4 ((x101.1:List GStream).map Qaa)),(.agg [I x101.2.Heat,I x101.2.Silica,I x101.2.Gas])]))] ⟨Qbo (vs:=[(I (w64 (1000 - x26.Amount))),I x26.Amount]) rfl Tryz.underlying27 ti3 tz3 rfl (by decide) rfl (by decide) (by rfl) (by rfl) (by rfl) rfl,apc (first:=[]) (cap:=[]) (vs:=[(Qo9 x88),(Qsv x26)]) rfl Za7 (Qnc N (⟨x88.Water.Mass,x88.Water.Heat,x88.Water.Silica,x88.Water.Gas⟩:GStream) ([w64 (1000 - x26.Amount),x26.Amount]) _ hf100) rfl rfl (nlc (NLt.agg _ (nlcc (nlcc nl0))) (nlc (nld Qae _) nl0)) (NLt.tup _ (nlc (nld Qac _) (nlc (NLt.agg _ (nlcc (nlc nll nl0))) nl0))) rfl,trivial⟩ ?_
             obtain ⟨x102,hg103,h⟩:=bno h
             obtain ⟨hi104,hj105⟩:=gsm hg103
             obtain ⟨x107,hf106,h⟩:=bno h
             obtain ⟨x108,hg109,h⟩:=bno h
             obtain ⟨hi110,hj111⟩:=gsm hg109
             refine wxd tbk [(3,rp [(.tmp 141,(.dat 4 ((x101.1:List GStream).map Qaa))),ci 1] (.dptr (Qaa (x102)) 0)),(5,rp [(.tmp 140,(Qpa x88)),(.tmp 143,(Q37 x102))] (Qsp x88 x102)),(6,rp [fu 38,(.tmp 144,(Qsp x88 x102))] (Qso x107)),(8,rp [(.tmp 146,(.dat 4 ((x101.1:List GStream).map Qaa))),ci 0] (.dptr (Qaa (x108)) 0)),(10,rp [(.tmp 145,(Qso x107)),(.tmp 148,(Qyp x108))] (.dat 4 (([x107,x108]:List GStream).map Qaa)))] ⟨aid rfl Tryz.underlying28 ti89 rfl rfl hi104 (mgt Qaa hj105) rfl,Qbo (vs:=[(Qpa x88),(Q37 x102)]) rfl Tryz.underlying28 ti89 tz89 rfl (by decide) rfl (by decide) (by rfl) (by rfl) (by rfl) rfl,apc (first:=[]) (cap:=[]) (vs:=[(Qsp x88 x102)]) rfl Q2k (Ql9 N ([(⟨x88.Steam.Mass,x88.Steam.Heat,x88.Steam.Silica,x88.Steam.Gas⟩:GStream),x102]) _ hf106) rfl rfl (nlc (nld Qac _) nl0) (NLt.agg _ (nlcc (nlcc nl0))) rfl,aid rfl Tryz.underlying28 ti89 rfl rfl hi110 (mgt Qaa hj111) rfl,Qbo (vs:=[(Qso x107),(Qyp x108)]) rfl Tryz.underlying28 ti89 tz89 rfl (by decide) rfl (by decide) (by rfl) (by rfl) (by rfl) rfl,trivial⟩ ?_
             exact wx1 tbk [(6,rp [(.tmp 151,I x101.2.Heat),(.tmp 153,I x101.2.Silica),(.tmp 155,I x101.2.Gas),ci 0] (.agg [I x101.2.Heat,I x101.2.Silica,I x101.2.Gas,I 0]))] ⟨Qau (vs:=[I x101.2.Heat,I x101.2.Silica,I x101.2.Gas,I 0]) rfl ts90 tz90 rfl (by rfl) rfl,trivial⟩<|thn<|⟨([x107,x108],y50,y51,y52,x101.2.Heat,x101.2.Silica,x101.2.Gas),h,(mto (n:=209) [(1,(Qdq p1)),(2,(Qd1 p2)),(3,.ref 0 2 0 0),(6,.ref 1 3 0 0),(9,.ref 2 3 0 0),(10,I y6),(11,I y30),(12,I y8),(13,.ref 3 7 0 0),(16,.ref 4 4 0 0),(17,(.dat 4 (([x107,x108]:List GStream).map Qaa))),(18,.ref 6 4 0 0),(19,.ref 10 10 0 0)] [0,1,2,3,4,6,10,7,8,9] [(Qgd p0),Qfv,(Qmy y50 y51 y52),(Qd2 x26),(Qhq x42),(.own 4 [[I x101.2.Heat,I x101.2.Silica,I x101.2.Gas,I 0]]),(Qsq x88),.tok,.tok,.tok] hφ0 (pc (rnd Qae) (pc (rnd Qac) (pc (.rn (rqr rfl)) (pc (.rn (rqr rfl)) (pc (.rn (rqr rfl)) (pc rwl (pc rwl (pc rwl (pc (.rn (rqr rfl)) (pc (.rn (rqr rfl)) (pc (rnd Qac) (pc (.rn (rqr rfl)) (pc (.rn (rqr rfl)) pn))))))))))))) (qc (spb (lc (rnd Qaj) (lc (rnd Qab) ln))) (qc (spb (lcc (lc rwl ln))) (qc (spb (lc (.rn (Qa7 rfl (Qa2 Qan _))) (lc (.rn (Qa7 rfl (Qa2 Qaw _))) (lc (.rn (Qa7 rfl (Qa2 Qae _))) ln)))) (qc (spb (lc rwl (lc (rnd Qa3) (lcc (lcc (lc (rnd Qae) ln)))))) (qc (spb (lcc (lcc ln))) (qc (spb (lcc (lcc ln))) (qc (spb (lcc (lcc (lcc (lcc (lcc ln)))))) (qc .tok (qc .tok (qc .tok qn)))))))))))⟩
            ·exact wfn hc99<|Qam<|thn<|⟨([(⟨x88.Steam.Mass,x88.Steam.Heat,x88.Steam.Silica,x88.Steam.Gas⟩:GStream),(⟨x88.Water.Mass,x88.Water.Heat,x88.Water.Silica,x88.Water.Gas⟩:GStream)],y50,y51,y52,y54,0,0),h,(mto (n:=209) [(1,(Qdq p1)),(2,(Qd1 p2)),(3,.ref 0 2 0 0),(6,.ref 1 3 0 0),(9,.ref 2 3 0 0),(10,I y6),(11,I y30),(12,I y8),(13,.ref 3 7 0 0),(16,.ref 4 4 0 0),(17,(Qyq x88)),(18,.ref 6 4 0 0),(19,.ref 10 10 0 0)] [0,1,2,3,4,6,10,7,8,9] [(Qgd p0),Qfv,(Qmy y50 y51 y52),(Qd2 x26),(Qhq x42),(Qpb y54),(Qsq x88),.tok,.tok,.tok] hφ0 (pc (rnd Qae) (pc (rnd Qac) (pc (.rn (rqr rfl)) (pc (.rn (rqr rfl)) (pc (.rn (rqr rfl)) (pc rwl (pc rwl (pc rwl (pc (.rn (rqr rfl)) (pc (.rn (rqr rfl)) (pc (rnd Qac) (pc (.rn (rqr rfl)) (pc (.rn (rqr rfl)) pn))))))))))))) (qc (spb (lc (rnd Qaj) (lc (rnd Qab) ln))) (qc (spb (lcc (lc rwl ln))) (qc (spb (lc (.rn (Qa7 rfl (Qa2 Qan _))) (lc (.rn (Qa7 rfl (Qa2 Qaw _))) (lc (.rn (Qa7 rfl (Qa2 Qae _))) ln)))) (qc (spb (lc rwl (lc (rnd Qa3) (lcc (lcc (lc (rnd Qae) ln)))))) (qc (spb (lcc (lcc ln))) (qc (spb (lcc (lcc ln))) (qc (spb (lcc (lcc (lcc (lcc (lcc ln)))))) (qc .tok (qc .tok (qc .tok qn)))))))))))⟩
          ·refine wfn hc82<|Qam<|thn ?_
           obtain ⟨hz112,h⟩:=cko h
           exact ⟨(y6,y53.take 1,y50,y51,y52,y54,0,0,0),h,(Mor.trans (Q4v (n:=209) (m:=4) (xs:=(y53:List GStream).map Qaa) (l':=[(1,(Qdq p1)),(2,(Qd1 p2)),(3,.ref 0 2 0 0),(6,.ref 1 3 0 0),(9,.ref 2 3 0 0),(10,I y6),(11,I y30),(12,I y8),(13,.ref 3 7 0 0),(16,.ref 4 4 0 0),(17,(.dat 4 ((y53.take 1:List GStream).map Qaa))),(18,.ref 6 4 0 0)]) (own':=[(Qgd p0),Qfv,(Qmy y50 y51 y52),(Qd2 x26),(Qhq x42),.dead,(Qpb y54),.tok,.tok,.tok]) 5 [(1,(Qdq p1)),(2,(Qd1 p2)),(3,.ref 0 2 0 0),(6,.ref 1 3 0 0),(9,.ref 2 3 0 0),(10,I y6),(11,I y30),(12,I y8),(13,.ref 3 7 0 0),(16,.ref 4 4 0 0),(17,(.own 5 4 (0) (1))),(18,.ref 6 4 0 0)] (by kernel_rfl) (by kernel_rfl) (by kernel_rfl) ⟨rfl,.same _,rfl,.same _,rfl,.same _,rfl,.same _,rfl,.same _,rfl,.same _,rfl,.same _,rfl,.same _,rfl,.same _,rfl,.same _,rfl,(Qow hz112),rfl,.same _,trivial⟩ (by kernel_rfl)) (mto (n:=209) [(1,(Qdq p1)),(2,(Qd1 p2)),(3,.ref 0 2 0 0),(6,.ref 1 3 0 0),(9,.ref 2 3 0 0),(10,I y6),(11,I y30),(12,I y8),(13,.ref 3 7 0 0),(16,.ref 4 4 0 0),(17,(.dat 4 ((y53.take 1:List GStream).map Qaa))),(18,.ref 6 4 0 0)] [0,1,2,3,4,6,7,8,9] [(Qgd p0),Qfv,(Qmy y50 y51 y52),(Qd2 x26),(Qhq x42),(Qpb y54),.tok,.tok,.tok] hφ0 (pc (rnd Qae) (pc (rnd Qac) (pc (.rn (rqr rfl)) (pc (.rn (rqr rfl)) (pc (.rn (rqr rfl)) (pc rwl (pc rwl (pc rwl (pc (.rn (rqr rfl)) (pc (.rn (rqr rfl)) (pc (rnd Qac) (pc (.rn (rqr rfl)) pn)))))))))))) (qc (spb (lc (rnd Qaj) (lc (rnd Qab) ln))) (qc (spb (lcc (lc rwl ln))) (qc (spb (lc (.rn (Qa7 rfl (Qa2 Qan _))) (lc (.rn (Qa7 rfl (Qa2 Qaw _))) (lc (.rn (Qa7 rfl (Qa2 Qae _))) ln)))) (qc (spb (lc rwl (lc (rnd Qa3) (lcc (lcc (lc (rnd Qae) ln)))))) (qc (spb (lcc (lcc ln))) (qc (spb (lcc (lcc ln))) (qc .tok (qc .tok (qc .tok qn)))))))))))⟩
        ·skip
         refine wxz ?_
         refine bfe h (fun hc113 h=>?_) fun hc113 h=>?_
         ·refine wft hc113<|wx tbk [(4,rp [(.tmp 95,I x26.Amount),(.tmp 97,I x42.Heat)] (I ((if x42.Heat<x26.Amount then x42.Heat else x26.Amount))))] ⟨Qp8 rfl,trivial⟩ ?_
          obtain ⟨x114,hl115,h⟩:=bno h
          obtain ⟨hi116,h⟩:=cko h
          obtain ⟨hi116a,hi116b⟩:=Qdv hi116
          obtain ⟨x117,hg118,h⟩:=bno h
          refine wx1 tbk [(5,rp [(.tmp 102,I x42.Heat),(.tmp 104,(I ((if x42.Heat<x26.Amount then x42.Heat else x26.Amount))))] (I x114)),(6,rb [(.tmp 100,(.own 8 4 (0) (1))),ci 0] [(8,(Qpd x42))] (.ref 8 4 ((0:Int).toNat) 0)),(8,⟨[(.tmp 107,(.ref 8 4 ((0:Int).toNat) 1)),(.tmp 105,I x114)],[(8,(Qpd x42))],.any,[(8,(Qyo x42 x117 x114))],false⟩)] ⟨Qg6 hl115 (abn rfl rfl),aio rfl Tryz.underlying28 ti89 (odt hi116a) (odt hi116b) (Nat.zero_add _),ast rfl ti3 (by rfl) (mgt Qaa hg118) (nle rfl) (Qgm Qaa rfl),trivial⟩<|thn ?_
          exact ⟨(y37,y38,y39,([x42]).set ((0:Int).toNat) (⟨x117.Mass,x114,x117.Silica,x117.Gas⟩:GStream),(if x42.Heat<x26.Amount then x42.Heat else x26.Amount)),h,(mto (n:=209) [(1,(Qdq p1)),(2,(Qd1 p2)),(3,.ref 0 2 0 0),(6,.ref 1 3 0 0),(9,.ref 2 3 0 0),(10,I y6),(11,I y30),(12,I y8),(13,.ref 3 7 0 0),(16,.ref 7 4 0 0),(17,(.own 8 4 (0) (1))),(18,.ref 9 4 0 0)] [0,1,2,3,7,8,9,4,5,6] [(Qgd p0),Qfv,(.own 3 [[(Qsx y37),(Qsw y38),(.acc 6 3 1 ((y39:List Int).map Qak))]]),(Qd2 x26),(Qhq x42),(Qyo x42 x117 x114),(.own 4 [[(I ((if x42.Heat<x26.Amount then x42.Heat else x26.Amount))),I 0,I 0,I 0]]),.tok,.tok,.tok] hφ0 (pc (rnd Qae) (pc (rnd Qac) (pc (.rn (rqr rfl)) (pc (.rn (rqr rfl)) (pc (.rn (rqr rfl)) (pc rwl (pc rwl (pc rwl (pc (.rn (rqr rfl)) (pc (.rn (rqr rfl)) (pc (.rn (Qa4 rfl)) (pc (.rn (rqr rfl)) pn)))))))))))) (qc (spb (lc (rnd Qaj) (lc (rnd Qab) ln))) (qc (spb (lcc (lc rwl ln))) (qc (spb (lc (.rn (Qa7 rfl (Qa2 Qan _))) (lc (.rn (Qa7 rfl (Qa2 Qaw _))) (lc (.rn (Qa7 rfl (Qa2 Qae _))) ln)))) (qc (spb (lc rwl (lc (rnd Qa3) (lcc (lcc (lc (rnd Qae) ln)))))) (qc (spb (lcc (lcc ln))) (qc (spr Qac) (qc (spb (lcc (lcc ln))) (qc .tok (qc .tok (qc .tok qn)))))))))))⟩
         ·exact wfn hc113<|Qam<|thn<|⟨(y37,y38,y39,[x42],0),h,(mto (n:=209) [(1,(Qdq p1)),(2,(Qd1 p2)),(3,.ref 0 2 0 0),(6,.ref 1 3 0 0),(9,.ref 2 3 0 0),(10,I y6),(11,I y30),(12,I y8),(13,.ref 3 7 0 0),(16,.ref 7 4 0 0),(17,(.own 8 4 (0) (1))),(18,.ref 9 4 0 0)] [0,1,2,3,7,8,9,4,5,6] [(Qgd p0),Qfv,(.own 3 [[(Qsx y37),(Qsw y38),(.acc 6 3 1 ((y39:List Int).map Qak))]]),(Qd2 x26),(Qhq x42),(Qpd x42),(.own 4 [[I 0,I 0,I 0,I 0]]),.tok,.tok,.tok] hφ0 (pc (rnd Qae) (pc (rnd Qac) (pc (.rn (rqr rfl)) (pc (.rn (rqr rfl)) (pc (.rn (rqr rfl)) (pc rwl (pc rwl (pc rwl (pc (.rn (rqr rfl)) (pc (.rn (rqr rfl)) (pc (.rn (Qa4 rfl)) (pc (.rn (rqr rfl)) pn)))))))))))) (qc (spb (lc (rnd Qaj) (lc (rnd Qab) ln))) (qc (spb (lcc (lc rwl ln))) (qc (spb (lc (.rn (Qa7 rfl (Qa2 Qan _))) (lc (.rn (Qa7 rfl (Qa2 Qaw _))) (lc (.rn (Qa7 rfl (Qa2 Qae _))) ln)))) (qc (spb (lc rwl (lc (rnd Qa3) (lcc (lcc (lc (rnd Qae) ln)))))) (qc (spb (lcc (lcc ln))) (qc (spr Qac) (qc (spb (lcc (lcc ln))) (qc .tok (qc .tok (qc .tok qn)))))))))))⟩
      ·skip
       refine wxz<|Qal ?_
       refine wmr (mto (n:=209) (l':=[(1,(Qdq p1)),(2,(Qd1 p2)),(3,.ref 0 2 0 0),(6,.ref 1 3 0 0),(9,.ref 2 3 0 0),(10,I y6),(11,I y30),(12,I y8),(13,.ref 3 7 0 0),(14,(Qwl y31)),(15,I 0)]) (own':=[(Qgd p0),Qfv,(.own 3 [[(Qwk y32),(Qwj y33),(Qwi y34)]]),(Qd2 x26),.tok,.tok,.tok]) [(1,(Qdq p1)),(2,(Qd1 p2)),(3,.ref 0 2 0 0),(6,.ref 1 3 0 0),(9,.ref 2 3 0 0),(10,I y6),(11,I y30),(12,I y8),(13,.ref 3 7 0 0),(14,(Qwl y31)),(15,I 0)] [0,1,2,3,4,5,6] [(Qgd p0),Qfv,(.own 3 [[(Qwk y32),(Qwj y33),(Qwi y34)]]),(Qd2 x26),.tok,.tok,.tok] hφ0 (pc (rnd Qae) (pc (rnd Qac) (pc (.rn (rqr rfl)) (pc (.rn (rqr rfl)) (pc (.rn (rqr rfl)) (pc rwl (pc rwl (pc rwl (pc (.rn (rqr rfl)) (pc (rnd Qac) (pc rwl pn))))))))))) (qc (spb (lc (rnd Qaj) (lc (rnd Qab) ln))) (qc (spb (lcc (lc rwl ln))) (qc (spb (lc (.rn (Qa7 rfl (Qa2 Qan _))) (lc (.rn (Qa7 rfl (Qa2 Qaw _))) (lc (.rn (Qa7 rfl (Qa2 Qae _))) ln)))) (qc (spb (lc rwl (lc (rnd Qa3) (lcc (lcc (lc (rnd Qae) ln)))))) (qc .tok (qc .tok (qc .tok qn)))))))) ?_
       refine Qby (τ:=(List GStream)×Int×(List (List GStream))×(List GLost)×(List Int)) (fun n t=>Qfn N x26 k40 n t.1 t.2.1 t.2.2.1 t.2.2.2.1 t.2.2.2.2=some r) (fun ⟨y119,y120,y121,y122,y123⟩=>⟨mk 209 [(1,(Qdq p1)),(2,(Qd1 p2)),(3,.ref 0 2 0 0),(6,.ref 1 3 0 0),(9,.ref 2 3 0 0),(10,I y6),(11,I y30),(12,I y8),(13,.ref 3 7 0 0),(14,(.dat 4 ((y119:List GStream).map Qaa))),(15,I y120)],[(Qgd p0),Qfv,(.own 3 [[(Qo8 y121),(Qsm y122),(.acc 6 3 1 ((y123:List Int).map Qak))]]),(Qd2 x26),.tok,.tok,.tok]⟩) (fun t h=>by rw [Qfn] at h; cases h) (fun n129 ih t h=>?_) N (y31,0,y32,y33,y34) h
       obtain ⟨y119,y120,y121,y122,y123⟩:=t
       rw [Qfn] at h
       skip
       refine wsq<|wx tbk [(3,rp [(.tmp 48,(Qmz x26))] (I ((x26.From.length:Int))))] ⟨alm (c:=Qas) (l:=x26.From) (aln rfl Tryz.underlying57 rfl),trivial⟩ ?_
       refine bfe h (fun hc130 h=>?_) fun hc130 h=>?_
       ·refine wft hc130<|Qam<|thn<|wsq<|Qal ?_
        obtain ⟨ha131,h⟩:=cko h
        obtain ⟨x132,hg133,h⟩:=bno h
        obtain ⟨hi134,hj135⟩:=gsm hg133
        obtain ⟨x136,hg137,h⟩:=bno h
        obtain ⟨hi138,hj139⟩:=gsm hg137
        obtain ⟨x140,hg141,h⟩:=bno h
        obtain ⟨hi142,hj143⟩:=gsm hg141
        obtain ⟨hz144,h⟩:=cko h
        obtain ⟨ha145,h⟩:=cko h
        refine wy1 tbk [(0,⟨[],[(7,.unused)],Q39,[(7,.tok)],false⟩),(2,⟨[(.tmp 53,Q39),(.tmp 54,(.dat 4 ((y119:List GStream).map Qaa)))],[(7,.tok),(8,.unused)],(Qsn y119),[(7,.dead),(8,.tok)],false⟩),(8,rp [(.tmp 59,(Qmz x26)),(.tmp 60,I y120)] (.dptr (Qas (x132)) 0)),(11,rp [(.tmp 57,(Qo8 y121)),(.tmp 63,I x132.Element)] (.dptr (Qah (x136)) 0)),(16,rp [(.tmp 67,(Qmz x26)),(.tmp 68,I y120)] (.dptr (Qas (x132)) 0)),(19,rp [(.tmp 65,(.dat 4 ((x136:List GStream).map Qaa))),(.tmp 71,I x132.Outlet)] (.dptr (Qaa (x140)) 0)),(21,⟨[(.tmp 73,(Qyn x140))],[(9,.unused)],(.own 9 4 (0) (1)),[(9,(.own 4 (([x140]:List GStream).map Qaa)))],false⟩),(22,⟨[(.tmp 55,(Qsn y119)),(.tmp 74,(.own 9 4 (0) (1)))],[(9,(.own 4 (([x140]:List GStream).map Qaa))),(8,.tok),(10,.unused)],(.acc 10 89 4 (((([]:List GStream)++y119)++(([x140]).take 1):List GStream).map Qaa)),[(8,.dead),(10,.tok)],false⟩)] ⟨Qit rfl Tryz.underlying28 ti89 tz89,Qeq rfl Tryz.underlying28 te89 (Base.acc _ _) rfl rfl (Qmd Qaa Qtl _) (Qg9 Qaa ha131) (Qg8 Qaa ha131 (by decide)) (Qg7 Qaa) rfl rfl,aid rfl Tryz.underlying57 ti61 rfl rfl hi134 (mgt Qas hj135) rfl,aid rfl Tryz.underlying49 ti28 rfl rfl hi138 (mgt Qah hj139) rfl,aid rfl Tryz.underlying57 ti61 rfl rfl hi134 (mgt Qas hj135) rfl,aid rfl Tryz.underlying28 ti89 rfl rfl hi142 (mgt Qaa hj143) rfl,Qml (vs:=[(Qyn x140)]) rfl Tryz.underlying28 ti89 tz89 rfl (by decide) rfl (by decide) (by rfl) (by rfl) (by rfl) rfl,Qhl (rd':=[(.tmp 55,(Qsn y119)),(.tmp 74,(.dat 4 ((([x140]).take 1:List GStream).map Qaa)))]) [(9,4,([x140]:List GStream).map Qaa)] ⟨rfl,.same _,rfl,(Qt5 0 rfl hz144),trivial⟩ (by rfl) (.acc _ _ _ _ (nin rfl) (by simp) (Qw8 Qtr _)) (Qpp .dead (Qpp .tok Qqp)) (Qeq rfl Tryz.underlying28 te89 (Base.acc _ _) rfl rfl (Qmd Qaa Qtl _) (Qg9 Qaa ha145) (Qg8 Qaa ha145 (by decide)) (Qg7 Qaa) rfl rfl),trivial⟩<|bln<|thn<|wxz1<|thn ?_
        exact arm (mto (n:=209) [(1,(Qdq p1)),(2,(Qd1 p2)),(3,.ref 0 2 0 0),(6,.ref 1 3 0 0),(9,.ref 2 3 0 0),(10,I y6),(11,I y30),(12,I y8),(13,.ref 3 7 0 0),(14,(.acc 10 89 4 (((([]:List GStream)++y119)++(([x140]).take 1):List GStream).map Qaa))),(15,(I (w64 (y120+1))))] [0,1,2,3,4,5,6] [(Qgd p0),Qfv,(.own 3 [[(Qo8 y121),(Qsm y122),(.acc 6 3 1 ((y123:List Int).map Qak))]]),(Qd2 x26),.tok,.tok,.tok] hφ0 (pc (rnd Qae) (pc (rnd Qac) (pc (.rn (rqr rfl)) (pc (.rn (rqr rfl)) (pc (.rn (rqr rfl)) (pc rwl (pc rwl (pc rwl (pc (.rn (rqr rfl)) (pc (.dat _ _ _ _ (Qa2 Qac _)) (pc rwl pn))))))))))) (qc (spb (lc (rnd Qaj) (lc (rnd Qab) ln))) (qc (spb (lcc (lc rwl ln))) (qc (spb (lc (.rn (Qa7 rfl (Qa2 Qan _))) (lc (.rn (Qa7 rfl (Qa2 Qaw _))) (lc (.rn (Qa7 rfl (Qa2 Qae _))) ln)))) (qc (spb (lc rwl (lc (rnd Qa3) (lcc (lcc (lc (rnd Qae) ln)))))) (qc .tok (qc .tok (qc .tok qn)))))))) (ih ((([]:List GStream)++y119)++(([x140]).take 1),w64 (y120+1),y121,y122,y123) h)
       ·exact wfn hc130<|Qbj<|Qav<|Qav<|Qbi rfl<|thn<|⟨(y119,y121,y122,y123),h,(mto (n:=209) [(1,(Qdq p1)),(2,(Qd1 p2)),(3,.ref 0 2 0 0),(6,.ref 1 3 0 0),(9,.ref 2 3 0 0),(10,I y6),(11,I y30),(12,I y8),(13,.ref 3 7 0 0),(14,(.dat 4 ((y119:List GStream).map Qaa)))] [0,1,2,3,4,5,6] [(Qgd p0),Qfv,(.own 3 [[(Qo8 y121),(Qsm y122),(.acc 6 3 1 ((y123:List Int).map Qak))]]),(Qd2 x26),.tok,.tok,.tok] hφ0 (pc (rnd Qae) (pc (rnd Qac) (pc (.rn (rqr rfl)) (pc (.rn (rqr rfl)) (pc (.rn (rqr rfl)) (pc rwl (pc rwl (pc rwl (pc (.rn (rqr rfl)) (pc (rnd Qac) pn)))))))))) (qc (spb (lc (rnd Qaj) (lc (rnd Qab) ln))) (qc (spb (lcc (lc rwl ln))) (qc (spb (lc (.rn (Qa7 rfl (Qa2 Qan _))) (lc (.rn (Qa7 rfl (Qa2 Qaw _))) (lc (.rn (Qa7 rfl (Qa2 Qae _))) ln)))) (qc (spb (lc rwl (lc (rnd Qa3) (lcc (lcc (lc (rnd Qae) ln)))))) (qc .tok (qc .tok (qc .tok qn))))))))⟩
     ·skip
      refine wxz ?_
      refine bfe h (fun hc146 h=>?_) fun hc146 h=>?_
      ·refine wft hc146 ?_
       obtain ⟨hs147,h⟩:=cko h
       refine wx tbk [(4,rp [(.tmp 39,(Qd1 p2)),(.tmp 40,I y7),(.tmp 42,(I (w64 (y7+1))))] (Qyw p2 y7))] ⟨Qnm (k:=.i64) (k':=.i64) (lo:=some (.tmp 40)) (hi:=some (.tmp 42)) (l:=y7) (hh:=w64 (y7+1)) rfl Tryz.underlying28 ti89 rfl (fun e=>nomatch e) (fun e=>nomatch e) (Q0s hs147) (Q0r hs147) (Zlh (Qaa) hs147) (Znr Qaa),trivial⟩<|wxz1<|thn ?_
       exact ⟨(w64 (y7+1),(p2.drop y7.toNat).take ((w64 (y7+1)).toNat - y7.toNat),y9,y10,y11),h,(mto (n:=209) [(1,(Qdq p1)),(2,(Qd1 p2)),(3,.ref 0 2 0 0),(6,.ref 1 3 0 0),(9,.ref 2 3 0 0),(10,I y6),(11,(I (w64 (y7+1)))),(12,I y8),(13,.ref 6 7 0 0),(14,(Qyw p2 y7))] [0,1,2,6,3,4,5] [(Qgd p0),Qfv,(Qpe y9 y10 y11),(Qd2 x26),.tok,.tok,.tok] hφ0 (pc (rnd Qae) (pc (rnd Qac) (pc (.rn (rqr rfl)) (pc (.rn (rqr rfl)) (pc (.rn (rqr rfl)) (pc rwl (pc rwl (pc rwl (pc (.rn (rqr rfl)) (pc (rnd Qac) pn)))))))))) (qc (spb (lc (rnd Qaj) (lc (rnd Qab) ln))) (qc (spb (lcc (lc rwl ln))) (qc (spb (lc (.rn (Qa7 rfl (Qa2 Qan _))) (lc (.rn (Qa7 rfl (Qa2 Qaw _))) (lc (.rn (Qa7 rfl (Qa2 Qae _))) ln)))) (qc (spb (lc rwl (lc (rnd Qa3) (lcc (lcc (lc (rnd Qae) ln)))))) (qc .tok (qc .tok (qc .tok qn))))))))⟩
      ·exact wfn hc146<|Qam<|thn<|⟨(y7,[],y9,y10,y11),h,(mto (n:=209) [(1,(Qdq p1)),(2,(Qd1 p2)),(3,.ref 0 2 0 0),(6,.ref 1 3 0 0),(9,.ref 2 3 0 0),(10,I y6),(11,I y7),(12,I y8),(13,.ref 6 7 0 0),(14,nilS)] [0,1,2,6,3,4,5] [(Qgd p0),Qfv,(Qpe y9 y10 y11),(Qd2 x26),.tok,.tok,.tok] hφ0 (pc (rnd Qae) (pc (rnd Qac) (pc (.rn (rqr rfl)) (pc (.rn (rqr rfl)) (pc (.rn (rqr rfl)) (pc rwl (pc rwl (pc rwl (pc (.rn (rqr rfl)) (pc (.nil _) pn)))))))))) (qc (spb (lc (rnd Qaj) (lc (rnd Qab) ln))) (qc (spb (lcc (lc rwl ln))) (qc (spb (lc (.rn (Qa7 rfl (Qa2 Qan _))) (lc (.rn (Qa7 rfl (Qa2 Qaw _))) (lc (.rn (Qa7 rfl (Qa2 Qae _))) ln)))) (qc (spb (lc rwl (lc (rnd Qa3) (lcc (lcc (lc (rnd Qae) ln)))))) (qc .tok (qc .tok (qc .tok qn))))))))⟩
   ·exact wfn hc19<|Qbj<|Qav<|Qav<|Qbi rfl<|thn<|⟨(y6,y9,y10,y11),h,(mto (n:=209) [(6,.ref 1 3 0 0),(9,.ref 2 3 0 0),(10,I y6)] [1,2,3,4,5] [Qfv,(Qpe y9 y10 y11),.tok,.tok,.tok] hφ0 (pc (.rn (rqr rfl)) (pc (.rn (rqr rfl)) (pc rwl pn))) (qc (spb (lcc (lc rwl ln))) (qc (spb (lc (.rn (Qa7 rfl (Qa2 Qan _))) (lc (.rn (Qa7 rfl (Qa2 Qaw _))) (lc (.rn (Qa7 rfl (Qa2 Qae _))) ln)))) (qc .tok (qc .tok (qc .tok qn))))))⟩
def Qej (N:Nat) (p0:GNet) (p2:(List GStream)) (p3:Int) (k8:Int→Option (Int×Int×Int)):Nat→(List Int)→Int→Option (Int×Int×Int)
  | 0,_,_=>none
  | n13+1,y9,y10=>
    bif (decide (y10<p3)) then
     (Qfe N p0 y9 p2).bind (
      Sum.elim (fun x17=>
        bif (decide (x17≥0)) then
         some (y10,x17,0)
        else
         none)
      (fun x19=>
        bif (decide (x19.1≥0)) then
         some (y10,x19.1,0)
        else
         chk (decide (y9.length≤x19.2.2.2.2.length))<|
         Qej N p0 p2 p3 k8 n13 (x19.2.2.2.2.take y9.length) (w64 (y10+1))))
    else
     k8 (y10)
def Qlu (N:Nat) (p0:GNet) (p1:(List Int)) (p2:(List GStream)) (p3:Int):Option (Int×Int×Int):=
  (Qiy N p0 p1 p2).bind fun x2=>
  bif (x2 != 0) then
   some (0,0,x2)
  else
   (Qcp N p3 1 1000).bind fun x5=>
   bif (!x5) then
    some (0,0,2)
   else
    Qbh (fun y7=>
      some (y7,(-1),0)) fun k8:Int→Option (Int×Int×Int)=>
    Qej N p0 p2 p3 k8 N p1 0
def Q9b (p0:GNet):AV:=.dat 5 ((p0.Table:List GRow).map Qa0)
def Q9a (p0:GNet):AV:=.dat 7 ((p0.Elements:List GElement).map Qad)
def Qu8 (p0:GNet):AV:=.agg [(Q9b p0),(Q9a p0)]
def Q36 (p1:(List Int)):AV:=.dat 1 ((p1:List Int).map Qak)
def Qlj (p2:(List GStream)):AV:=.dat 4 ((p2:List GStream).map Qaa)
def Qym (p0:GNet):Slot:=.own 2 [[(Q9b p0),(Q9a p0)]]
def Qsl (y9:(List Int)):AV:=.dat 1 ((y9:List Int).map Qak)
def Zgn:Slot:=.own 1 [[(.lit (.pointer none))]]
def Q89:Slot:=.own 1 [[(.ref 3 7 (0) 0)]]
def Qwe (p0:GNet) (y9:(List Int)) (p2:(List GStream)) (x19:(Int×Int×(List (List GStream))×(List GLost)×(List Int))):Slot:=.own 7 [[(Q9b p0),(Q9a p0),(.own 4 1 (0) ((p0.Elements.length:Int).toNat)),(.own 5 4 (0) ((p0.Elements.length:Int).toNat)),(.own 6 1 (0) (y9.length)),(Qlj p2),(I (x19.2.1))]]
theorem Qw2 (N:Nat) (p0:GNet) (p1:(List Int)) (p2:(List GStream)) (p3:Int) (r:(Int×Int×Int)) (h:Qlu N p0 p1 p2 p3=some r):Spec Tryz.prog 24 [(.agg (Qhv p0)),(.dat 1 (p1.map Qak)),(.dat 4 (p2.map Qaa)),(I p3)] [] (.tup [(I r.1),(I r.2.1),(I r.2.2)]) []:=by
  refine Qai Tryz.func24 rfl 0 (nle rfl) (fun X φ0 w0 hφ0 hd0=>?_)
  unfold Qlu at h
  refine wxz<|wsq ?_
  obtain ⟨x2,hf1,h⟩:=bno h
  refine wx tbk [(3,rp [fu 57,(.tmp 14,(Qu8 p0)),(.tmp 15,(Q36 p1)),(.tmp 16,(Qlj p2))] (I x2))] ⟨apc (first:=[]) (cap:=[]) (vs:=[(Qu8 p0),(Q36 p1),(Qlj p2)]) rfl Za8 (Qob N p0 p1 p2 _ hf1) rfl rfl (nlc (NLt.agg _ (nlc (nld Qaj _) (nlc (nld Qab _) nl0))) (nlc (nld Qae _) (nlc (nld Qac _) nl0))) nll rfl,trivial⟩<|wxz ?_
  refine bfe h (fun hc3 h=>?_) fun hc3 h=>?_
  ·refine wft hc3<|wxz<|Qaf<|Qag ?_
   obtain rfl:=osi h
   exact fend ⟨[I 0,I 0,I x2],⟨rot,rot,rot,trivial⟩,rfl⟩ (NLt.tup _ (nlcc (nlc nll nl0)))
  ·refine wfn hc3<|Qam<|thn<|wsq ?_
   obtain ⟨x5,hf4,h⟩:=bno h
   refine wx tbk [(1,rp [fu 65,(.tmp 21,I p3),ci 1,ci 1000] (B x5))] ⟨apc (first:=[]) (cap:=[]) (vs:=[I p3,I 1,I 1000]) rfl Qfy (Qbl N p3 1 1000 _ hf4) rfl rfl (nlcc (nlc nll nl0)) nll rfl,trivial⟩ ?_
   refine bfe h (fun hc6 h=>?_) fun hc6 h=>?_
   ·refine wft hc6<|wxz<|Qaf<|Qag ?_
    obtain rfl:=osi h
    exact fend ⟨[I 0,I 0,I 2],⟨rot,rot,rot,trivial⟩,rfl⟩ (NLt.tup _ (nlcc (nlc nll nl0)))
   ·refine wfn hc6<|Qam<|thn ?_
    obtain ⟨k8,hk_k8,h⟩:=jko h
    refine wjn (τ:=Int) (fun t=>k8 t=some r) (fun y7=>⟨mk 46 [(8,I y7)],[]⟩) (fun y7 h=>?_) ?_
    ·subst hk_k8
     refine wxz<|Qaf ?_
     obtain rfl:=osi h
     exact fend ⟨[I y7,(I ((-1))),I 0],⟨rot,rot,rot,trivial⟩,rfl⟩ (NLt.tup _ (nlcc (nlc nll nl0)))
    ·skip
     refine wxz<|Qal ?_
     refine wmr (mto (n:=46) (l':=[(1,(Q36 p1)),(2,(Qlj p2)),(3,I p3),(4,.ref 0 2 0 0),(8,I 0)]) (own':=[(Qym p0)]) [(1,(Q36 p1)),(2,(Qlj p2)),(3,I p3),(4,.ref 0 2 0 0),(8,I 0)] [0] [(Qym p0)] hφ0 (pc (rnd Qae) (pc (rnd Qac) (pc rwl (pc (.rn (rqr rfl)) (pc rwl pn))))) (qc (spb (lc (rnd Qaj) (lc (rnd Qab) ln))) qn)) ?_
     refine Qby (τ:=(List Int)×Int) (fun n t=>Qej N p0 p2 p3 k8 n t.1 t.2=some r) (fun ⟨y9,y10⟩=>⟨mk 46 [(1,(Qsl y9)),(2,(Qlj p2)),(3,I p3),(4,.ref 0 2 0 0),(8,I y10)],[(Qym p0)]⟩) (fun t h=>by rw [Qej] at h; cases h) (fun n13 ih t h=>?_) N (p1,0) h
     obtain ⟨y9,y10⟩:=t
     rw [Qej] at h
     skip
     refine wsq<|wxz ?_
     refine bfe h (fun hc14 h=>?_) fun hc14 h=>?_
     ·refine wft hc14<|Qam<|thn<|wsq<|Qal ?_
      obtain ⟨x16,hf15,h⟩:=bno h
      rcases x16 with x17 | x19
      ·replace h:=Zji h
       refine wx tbk [(3,⟨[fu 58,(.tmp 30,(Qu8 p0)),(.tmp 31,(Qsl y9)),(.tmp 32,(Qlj p2))],[(1,.unused),(2,.unused)],(.tup [(.lit (.pointer none)),I x17]),[(1,Zgn),(2,.own 1 [[I x17]])],false⟩)] ⟨Qat (first:=[]) (cap:=[]) (vs:=[(Qu8 p0),(Qsl y9),(Qlj p2)]) (σr:=[]) (σr':=[Zgn,(.own 1 [[I x17]])]) (res':=(.tup [(.lit (.pointer none)),I x17])) [1,2] rfl Qxm (Qk8 N p0 y9 p2 _ hf15) rfl (Qbu (rnc (.plain _ (NLt.agg _ (nlc (nld Qaj _) (nlc (nld Qab _) nl0)))) (rnc (pld Qae) (rnc (pld Qac) rn0)))) Qar (slc (Qaq (rnc (.plain _ nll) rn0)) (slc (Qaq (rnc (.plain _ nll) rn0)) Qar)) (.plain _ (NLt.tup _ (nlcc nl0))) rfl rfl rfl,trivial⟩<|wsq<|wxz ?_
       refine bfe h (fun hc18 h=>?_) fun hc18 h=>?_
       ·refine wft hc18<|wxz<|Qaf<|Qag<|Qap<|Qag<|Qag<|Qap<|Qag ?_
        obtain rfl:=osi h
        exact fend ⟨[I y10,I x17,I 0],⟨rot,rot,rot,trivial⟩,rfl⟩ (NLt.tup _ (nlcc (nlc nll nl0)))
       ·refine wfn hc18<|Qam<|thn ?_
        cases h
      ·replace h:=Zjh h
       refine wx tbk [(3,⟨[fu 58,(.tmp 30,(Qu8 p0)),(.tmp 31,(Qsl y9)),(.tmp 32,(Qlj p2))],[(1,.unused),(2,.unused),(3,.unused),(4,.unused),(5,.unused),(6,.unused)],(.tup [.ref 3 7 0 0,I x19.1]),[(1,Q89),(2,.own 1 [[I x19.1]]),(3,(Qwe p0 y9 p2 x19)),(4,(.own 1 ((x19.2.2.1:List (List GStream)).map Qah))),(5,(.own 4 ((x19.2.2.2.1:List GLost).map Qay))),(6,(.own 1 ((x19.2.2.2.2:List Int).map Qak)))],false⟩)] ⟨Qat (first:=[]) (cap:=[]) (vs:=[(Qu8 p0),(Qsl y9),(Qlj p2)]) (σr:=[]) (σr':=[Q89,(.own 1 [[I x19.1]]),(Qwe p0 y9 p2 x19),(.own 1 ((x19.2.2.1:List (List GStream)).map Qah)),(.own 4 ((x19.2.2.2.1:List GLost).map Qay)),(.own 1 ((x19.2.2.2.2:List Int).map Qak))]) (res':=(.tup [.ref 3 7 0 0,I x19.1])) [1,2,3,4,5,6] rfl Qxm (Qk7 N p0 y9 p2 _ hf15) rfl (Qbu (rnc (.plain _ (NLt.agg _ (nlc (nld Qaj _) (nlc (nld Qab _) nl0)))) (rnc (pld Qae) (rnc (pld Qac) rn0)))) Qar (slc (Qaq (rnc (Qbs rfl) rn0)) (slc (Qaq (rnc (.plain _ nll) rn0)) (slc (Qaq (rnc (pld Qaj) (rnc (pld Qab) (rnc (Qc6 rfl) (rnc (Qc6 rfl) (rnc (Qc6 rfl) (rnc (pld Qac) (rnc (.plain _ nll) rn0)))))))) (slc (Qbd Qan) (slc (Qbd Qaw) (slc (Qbd Qae) Qar)))))) (Zgz (rnc (Qbs rfl) (rnc (.plain _ nll) rn0))) rfl rfl rfl,trivial⟩<|wsq<|wxz ?_
       refine bfe h (fun hc20 h=>?_) fun hc20 h=>?_
       ·refine wft hc20<|wxz<|Qaf<|Qag<|Qap<|Qag<|Qag<|Qap<|Qag ?_
        obtain rfl:=osi h
        exact fend ⟨[I y10,I x19.1,I 0],⟨rot,rot,rot,trivial⟩,rfl⟩ (NLt.tup _ (nlcc (nlc nll nl0)))
       ·refine wfn hc20<|Qam<|thn ?_
        refine wx1 tbk [(1,rb [(.tmp 40,.ref 3 7 0 0)] [(3,(Qwe p0 y9 p2 x19))] (.ref 3 7 0 0))] ⟨Qbe rfl,trivial⟩<|bln<|thn<|wxz1<|thn ?_
        obtain ⟨hz21,h⟩:=cko h
        exact arm (Mor.trans (Q4v (n:=46) (m:=1) (xs:=(x19.2.2.2.2:List Int).map Qak) (l':=[(1,(.dat 1 ((x19.2.2.2.2.take y9.length:List Int).map Qak))),(2,(Qlj p2)),(3,I p3),(4,.ref 0 2 0 0),(8,(I (w64 (y10+1))))]) (own':=[(Qym p0),Q89,(.own 1 [[I x19.1]]),(Qwe p0 y9 p2 x19),(.own 1 ((x19.2.2.1:List (List GStream)).map Qah)),(.own 4 ((x19.2.2.2.1:List GLost).map Qay)),.dead]) 6 [(1,(.own 6 1 (0) (y9.length))),(2,(Qlj p2)),(3,I p3),(4,.ref 0 2 0 0),(8,(I (w64 (y10+1))))] (by kernel_rfl) (by kernel_rfl) (by kernel_rfl) ⟨rfl,(Qow hz21),rfl,.same _,rfl,.same _,rfl,.same _,rfl,.same _,trivial⟩ (by kernel_rfl)) (mto (n:=46) [(1,(.dat 1 ((x19.2.2.2.2.take y9.length:List Int).map Qak))),(2,(Qlj p2)),(3,I p3),(4,.ref 0 2 0 0),(8,(I (w64 (y10+1))))] [0] [(Qym p0)] hφ0 (pc (rnd Qae) (pc (rnd Qac) (pc rwl (pc (.rn (rqr rfl)) (pc rwl pn))))) (qc (spb (lc (rnd Qaj) (lc (rnd Qab) ln))) qn))) (ih (x19.2.2.2.2.take y9.length,w64 (y10+1)) h)
     ·exact wfn hc14<|Qbj<|Qav<|Qav<|Qbi rfl<|thn<|⟨(y10),h,(mto (n:=46) [(8,I y10)] [] [] hφ0 (pc rwl pn) qn)⟩
def Qdx (N:Nat) (p0:GNet) (k2:Unit→Option (Int×Int)) (p2:(List GStream)) (p3:Int):Nat→(List Int)→Int→Option (Int×Int)
  | 0,_,_=>none
  | n7+1,y3,y4=>
    bif (decide (y4<p3)) then
     (Qna N p0 y3 p2).bind fun x10=>
     bif (decide (x10.2.2≥0)) then
      some (y4,x10.2.2)
     else
      Qdx N p0 k2 p2 p3 n7 x10.1.State (w64 (y4+1))
    else
     k2 ()
def Qkp (N:Nat) (p0:GNet) (p1:(List Int)) (p2:(List GStream)) (p3:Int):Option (Int×Int):=
  chk (decide ((([]:List Int).length+p1.length) * 8≤140737488355328))<|
  Qbh (fun _=>
    some (p3,(-1))) fun k2:Unit→Option (Int×Int)=>
  Qdx N p0 k2 p2 p3 N (([]:List Int)++p1) 0
def Zgm:AV:=.acc 1 3 1 ((([]:List Int):List Int).map Qak)
def Zgl (p1:(List Int)):AV:=.acc 2 3 1 ((([]:List Int)++p1:List Int).map Qak)
def Qu7 (p2:(List GStream)):AV:=.dat 4 ((p2:List GStream).map Qaa)
def Q88 (p0:GNet):AV:=.dat 5 ((p0.Table:List GRow).map Qa0)
def Q87 (p0:GNet):AV:=.dat 7 ((p0.Elements:List GElement).map Qad)
def Q35 (p0:GNet):Slot:=.own 2 [[(Q88 p0),(Q87 p0)]]
def Q86 (x10:(GTick×Int×Int)):AV:=.dat 1 ((x10.1.State:List Int).map Qak)
theorem Qut (N:Nat) (p0:GNet) (p1:(List Int)) (p2:(List GStream)) (p3:Int) (r:(Int×Int)) (h:Qkp N p0 p1 p2 p3=some r):Spec Tryz.prog 26 [(.agg (Qhv p0)),(.dat 1 (p1.map Qak)),(.dat 4 (p2.map Qaa)),(I p3)] [] (.tup [(I r.1),(I r.2)]) []:=by
  refine Qai Tryz.func26 rfl 0 (nle rfl) (fun X φ0 w0 hφ0 hd0=>?_)
  unfold Qkp at h
  refine wxz ?_
  obtain ⟨ha1,h⟩:=cko h
  refine wx tbk [(0,⟨[],[(1,.unused)],Zgm,[(1,.tok)],false⟩),(2,⟨[(.tmp 15,Zgm),(.tmp 16,(.dat 1 ((p1:List Int).map Qak)))],[(1,.tok),(2,.unused)],(Zgl p1),[(1,.dead),(2,.tok)],false⟩)] ⟨Qit rfl Tryz.underlying27 ti3 tz3,Qeq rfl Tryz.underlying27 te3 (Base.acc _ _) rfl rfl (Qmd Qak Qj4 _) (Qg9 Qak ha1) (Qg8 Qak ha1 (by decide)) (Qg7 Qak) rfl rfl,trivial⟩ ?_
  obtain ⟨k2,hk_k2,h⟩:=jko h
  refine wjn (τ:=Unit) (fun t=>k2 t=some r) (fun _=>⟨mk 38 [(3,I p3)],[]⟩) (fun t h=>?_) ?_
  ·subst hk_k2
   refine wxz<|Qaf ?_
   obtain rfl:=osi h
   exact fend ⟨[I p3,(I ((-1)))],⟨rot,rot,trivial⟩,rfl⟩ (NLt.tup _ (nlcc nl0))
  ·skip
   refine wxz<|Qal ?_
   refine wmr (mto (n:=38) (l':=[(2,(Qu7 p2)),(3,I p3),(4,.ref 0 2 0 0),(10,(.dat 1 (((([]:List Int)++p1):List Int).map Qak))),(11,I 0)]) (own':=[(Q35 p0)]) [(2,(Qu7 p2)),(3,I p3),(4,.ref 0 2 0 0),(10,(Zgl p1)),(11,I 0)] [0] [(Q35 p0)] hφ0 (pc (rnd Qac) (pc rwl (pc (.rn (rqr rfl)) (pc (.dat _ _ _ _ (Qa2 Qae _)) (pc rwl pn))))) (qc (spb (lc (rnd Qaj) (lc (rnd Qab) ln))) qn)) ?_
   refine Qby (τ:=(List Int)×Int) (fun n t=>Qdx N p0 k2 p2 p3 n t.1 t.2=some r) (fun ⟨y3,y4⟩=>⟨mk 38 [(2,(Qu7 p2)),(3,I p3),(4,.ref 0 2 0 0),(10,(.dat 1 ((y3:List Int).map Qak))),(11,I y4)],[(Q35 p0)]⟩) (fun t h=>by rw [Qdx] at h; cases h) (fun n7 ih t h=>?_) N (([]:List Int)++p1,0) h
   obtain ⟨y3,y4⟩:=t
   rw [Qdx] at h
   skip
   refine wsq<|wxz ?_
   refine bfe h (fun hc8 h=>?_) fun hc8 h=>?_
   ·refine wft hc8<|Qam<|thn<|wsq<|Qal ?_
    obtain ⟨x10,hf9,h⟩:=bno h
    refine wx tbk [(3,rp [fu 22,(.tmp 24,(.agg [(Q88 p0),(Q87 p0)])),(.tmp 25,(.dat 1 ((y3:List Int).map Qak))),(.tmp 26,(Qu7 p2))] (.tup [(.agg [(.dat 1 ((x10.1.Out:List (List GStream)).map Qah)),(.dat 4 ((x10.1.Lost:List GLost).map Qay)),(Q86 x10)]),I x10.2.1,I x10.2.2]))] ⟨apc (first:=[]) (cap:=[]) (vs:=[(.agg [(Q88 p0),(Q87 p0)]),(.dat 1 ((y3:List Int).map Qak)),(Qu7 p2)]) rfl Zkz (Qze N p0 y3 p2 _ hf9) rfl rfl (nlc (NLt.agg _ (nlc (nld Qaj _) (nlc (nld Qab _) nl0))) (nlc (nld Qae _) (nlc (nld Qac _) nl0))) (NLt.tup _ (nlc (NLt.agg _ (nlc (nld Qan _) (nlc (nld Qaw _) (nlc (nld Qae _) nl0)))) (nlcc nl0))) rfl,trivial⟩<|wsq<|wxz ?_
    refine bfe h (fun hc11 h=>?_) fun hc11 h=>?_
    ·refine wft hc11<|wxz<|Qaf<|Qag<|Qap<|Qag<|Qag<|Qap<|Qag ?_
     obtain rfl:=osi h
     exact fend ⟨[I y4,I x10.2.2],⟨rot,rot,trivial⟩,rfl⟩ (NLt.tup _ (nlcc nl0))
    ·exact wfn hc11<|Qam<|thn<|wxz1<|bln<|thn<|wxz1<|thn<|arm (mto (n:=38) [(2,(Qu7 p2)),(3,I p3),(4,.ref 0 2 0 0),(10,(Q86 x10)),(11,(I (w64 (y4+1))))] [0] [(Q35 p0)] hφ0 (pc (rnd Qac) (pc rwl (pc (.rn (rqr rfl)) (pc (rnd Qae) (pc rwl pn))))) (qc (spb (lc (rnd Qaj) (lc (rnd Qab) ln))) qn)) (ih (x10.1.State,w64 (y4+1)) h)
   ·exact wfn hc8<|Qbj<|Qav<|Qav<|Qbi rfl<|thn<|⟨(),h,(mto (n:=38) [(3,I p3)] [] [] hφ0 (pc rwl pn) qn)⟩
end Go.Proofs.YtmbhnllcfmiajaaGreat
