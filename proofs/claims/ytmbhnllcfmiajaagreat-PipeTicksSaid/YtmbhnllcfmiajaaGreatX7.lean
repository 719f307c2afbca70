/-
  Functions of the program: what they compute, as plain functions, and that they do. No conditions.
-/
import Derived.Test.YtmbhnllcfmiajaaGreatX6
import Derived.Test.YtmbhnllcfmiajaaGreatEngOb
namespace Go.Proofs.YtmbhnllcfmiajaaGreat
set_option maxRecDepth 100000
set_option maxHeartbeats 4000000
open Go.RowKit
def Qh3 (_N:Nat) (p0:GRow) (p1:GStream):Option GParts:=
  (some (w64 (p1.Heat - (w64 (p1.Mass * p0.Liquid))))).bind fun x1=>
  Qbf (fun y3=>
    Qbf (fun _=>
      Qbf (fun ⟨y6,y7,y8,y9,y10,y11⟩=>
        Qbf (fun y13=>
          (some (if (w64 (p1.Silica - (w64 (y9 * p0.Silica))))>0 then w64 (p1.Silica - (w64 (y9 * p0.Silica))) else 0)).bind fun x15=>
          some (⟨(⟨y6,y7,0,y8⟩:GStream),(⟨y9,y10,w64 (p1.Silica - x15),y11⟩:GStream),y13,x15⟩:GParts)) fun k14:Int→Option GParts=>
        bif (decide (x1>0)) then
         k14 (w64 (y10 - (w64 (y9 * p0.Liquid))))
        else
         k14 (0)) fun k12:Int×Int×Int×Int×Int×Int→Option GParts=>
      bif (decide (y3>0)) then
       k12 (y3,w64 (y3 * p0.Vapour),p1.Gas,w64 (p1.Mass - y3),w64 (p1.Heat - (w64 (y3 * p0.Vapour))),0)
      else
       k12 (0,0,0,p1.Mass,p1.Heat,p1.Gas)) fun k5:Unit→Option GParts=>
    bif (y3==p1.Mass) then
     bif (decide (y3>0)) then
      some (⟨(⟨y3,p1.Heat,0,p1.Gas⟩:GStream),(⟨0,0,0,0⟩:GStream),0,p1.Silica⟩:GParts)
     else
      k5 ()
    else
     k5 ()) fun k4:Int→Option GParts=>
  bif (decide (x1>0)) then
   bif (decide (p1.Heat≥(w64 (p1.Mass * p0.Vapour)))) then
    k4 (p1.Mass)
   else
    chk ((w64 (p0.Vapour - p0.Liquid)) != 0)<|
    (some (w64 (x1.tdiv (w64 (p0.Vapour - p0.Liquid))))).bind fun x24=>
    k4 (x24)
  else
   k4 (0)
def Qlj (p0:GRow):Slot:=.own 5 [[(I (p0.T)),(I (p0.P)),(I (p0.Liquid)),(I (p0.Vapour)),(I (p0.Silica))]]
def Qli (p1:GStream):Slot:=.own 4 [[(I (p1.Mass)),(I (p1.Heat)),(I (p1.Silica)),(I (p1.Gas))]]
def Qj7:Slot:=.own 10 [[(I (0)),(I (0)),(I (0)),(I (0)),(I (0)),(I (0)),(I (0)),(I (0)),(I (0)),(I (0))]]
theorem Qtk (N:Nat) (p0:GRow) (p1:GStream) (r:GParts) (h:Qh3 N p0 p1=some r):Spec Tryz.prog 63 [(.agg (Qa0 p0)),(.agg (Qaa p1))] [] (.agg (Qx0 r)) []:=by
  refine Qai Tryz.func63 rfl 0 (nle rfl) (fun X φ0 w0 hφ0 hd0=>?_)
  unfold Qh3 at h
  refine wxz ?_
  obtain ⟨x1,hl2,h⟩:=bno h
  refine wx tbk [(8,rp [(.tmp 15,(I (w64 (p1.Heat - (w64 (p1.Mass * p0.Liquid))))))] (I x1))] ⟨Qgy hl2 (aas rfl),trivial⟩ ?_
  refine wxz ?_
  obtain ⟨k4,hk_k4,h⟩:=jko h
  refine wjn (τ:=Int) (fun t=>k4 t=some r) (fun y3=>⟨mk 118 [(2,.ref 0 5 0 0),(3,.ref 1 4 0 0),(4,.ref 2 10 0 0),(5,I x1),(6,I y3)],[(Qlj p0),(Qli p1),Qj7]⟩) (fun y3 h=>?_) ?_
  ·subst hk_k4
   refine wxz ?_
   obtain ⟨k5,hk_k5,h⟩:=jko h
   refine wjn (τ:=Unit) (fun t=>k5 t=some r) (fun _=>⟨mk 118 [(2,.ref 0 5 0 0),(3,.ref 1 4 0 0),(4,.ref 2 10 0 0),(5,I x1),(6,I y3),(7,.ref 3 10 0 0)],[(Qlj p0),(Qli p1),Qj7,Qj7]⟩) (fun t h=>?_) ?_
   ·subst hk_k5
    refine wxz ?_
    obtain ⟨k12,hk_k12,h⟩:=jko h
    refine wjn (τ:=Int×Int×Int×Int×Int×Int) (fun t=>k12 t=some r) (fun ⟨y6,y7,y8,y9,y10,y11⟩=>⟨mk 118 [(2,.ref 0 5 0 0),(3,.ref 1 4 0 0),(4,.ref 2 10 0 0),(5,I x1),(7,.ref 3 10 0 0)],[(Qlj p0),(Qli p1),Qj7,(.own 10 [[I y6,I y7,I 0,I y8,I y9,I y10,I p1.Silica,I y11,I 0,I 0]])]⟩) (fun t h=>?_) ?_
    ·subst hk_k12
     obtain ⟨y6,y7,y8,y9,y10,y11⟩:=t
     obtain ⟨k14,hk_k14,h⟩:=jko h
     refine wjn (τ:=Int) (fun t=>k14 t=some r) (fun y13=>⟨mk 118 [(2,.ref 0 5 0 0),(3,.ref 1 4 0 0),(4,.ref 2 10 0 0),(7,.ref 3 10 0 0)],[(Qlj p0),(Qli p1),Qj7,(.own 10 [[I y6,I y7,I 0,I y8,I y9,I y10,I p1.Silica,I y11,I y13,I 0]])]⟩) (fun y13 h=>?_) ?_
     ·subst hk_k14
      obtain ⟨x15,hl16,h⟩:=bno h
      refine wx tbk [(9,rp [ci 0,(.tmp 107,(I (w64 (p1.Silica - (w64 (y9 * p0.Silica))))))] (I x15))] ⟨Qgy hl16 (Qlz rfl),trivial⟩ ?_
      refine wxz ?_
      refine wxz ?_
      refine Qag ?_
      obtain rfl:=osi h
      exact fend ⟨[(.agg [I y6,I y7,I 0,I y8,I y9,I y10,(I (w64 (p1.Silica - x15))),I y11,I y13,I x15])],⟨Qbv (n:=2) (m:=10) (j:=0) (i:=0) (xs:=[[I y6,I y7,I 0,I y8,I y9,I y10,(I (w64 (p1.Silica - x15))),I y11,I y13,I x15]]) (by kernel_rfl) (by kernel_rfl) Zi9 (by decide) rfl (nle rfl) rfl,trivial⟩,rfl⟩ (NLt.agg _ (nlcc (nlcc (nlcc (nlcc (nlcc nl0))))))
     ·skip
      refine wxz ?_
      refine bfe h (fun hc17 h=>?_) fun hc17 h=>?_
      ·refine wft hc17 ?_
       refine wxz1 ?_
       refine thn ?_
       exact ⟨(w64 (y10 - (w64 (y9 * p0.Liquid)))),h,(mto (n:=118) [(2,.ref 0 5 0 0),(3,.ref 1 4 0 0),(4,.ref 2 10 0 0),(7,.ref 3 10 0 0)] [0,1,2,3] [(Qlj p0),(Qli p1),Qj7,(.own 10 [[I y6,I y7,I 0,I y8,I y9,I y10,I p1.Silica,I y11,(I (w64 (y10 - (w64 (y9 * p0.Liquid))))),I 0]])] hφ0 (pc (.rn (rqr rfl)) (pc (.rn (rqr rfl)) (pc (.rn (rqr rfl)) (pc (.rn (rqr rfl)) pn)))) (qc (spb (lcc (lcc (lc rwl ln)))) (qc (spb (lcc (lcc ln))) (qc (spb (lcc (lcc (lcc (lcc (lcc ln)))))) (qc (spb (lcc (lcc (lcc (lcc (lcc ln)))))) qn)))))⟩
      ·refine wfn hc17 ?_
       refine Qan ?_
       refine thn ?_
       exact ⟨(0),h,(mto (n:=118) [(2,.ref 0 5 0 0),(3,.ref 1 4 0 0),(4,.ref 2 10 0 0),(7,.ref 3 10 0 0)] [0,1,2,3] [(Qlj p0),(Qli p1),Qj7,(.own 10 [[I y6,I y7,I 0,I y8,I y9,I y10,I p1.Silica,I y11,I 0,I 0]])] hφ0 (pc (.rn (rqr rfl)) (pc (.rn (rqr rfl)) (pc (.rn (rqr rfl)) (pc (.rn (rqr rfl)) pn)))) (qc (spb (lcc (lcc (lc rwl ln)))) (qc (spb (lcc (lcc ln))) (qc (spb (lcc (lcc (lcc (lcc (lcc ln)))))) (qc (spb (lcc (lcc (lcc (lcc (lcc ln)))))) qn)))))⟩
    ·skip
     refine wxz ?_
     refine bfe h (fun hc18 h=>?_) fun hc18 h=>?_
     ·refine wft hc18 ?_
      refine wx tbk [(7,rp [(.tmp 62,I y3),(.tmp 66,(I (w64 (y3 * p0.Vapour)))),(.tmp 68,I p1.Gas)] (.agg [I y3,(I (w64 (y3 * p0.Vapour))),I 0,I p1.Gas]))] ⟨Qav (vs:=[I y3,(I (w64 (y3 * p0.Vapour))),I p1.Gas]) rfl ts89 tz89 rfl (by rfl) rfl,trivial⟩ ?_
      refine wx1 tbk [(13,rp [(.tmp 74,(I (w64 (p1.Mass - y3)))),(.tmp 81,(I (w64 (p1.Heat - (w64 (y3 * p0.Vapour)))))),(.tmp 83,I p1.Silica)] (.agg [(I (w64 (p1.Mass - y3))),(I (w64 (p1.Heat - (w64 (y3 * p0.Vapour))))),I p1.Silica,I 0]))] ⟨Qav (vs:=[(I (w64 (p1.Mass - y3))),(I (w64 (p1.Heat - (w64 (y3 * p0.Vapour))))),I p1.Silica]) rfl ts89 tz89 rfl (by rfl) rfl,trivial⟩ ?_
      refine thn ?_
      exact ⟨(y3,w64 (y3 * p0.Vapour),p1.Gas,w64 (p1.Mass - y3),w64 (p1.Heat - (w64 (y3 * p0.Vapour))),0),h,(mto (n:=118) [(2,.ref 0 5 0 0),(3,.ref 1 4 0 0),(4,.ref 2 10 0 0),(5,I x1),(7,.ref 3 10 0 0)] [0,1,2,3] [(Qlj p0),(Qli p1),Qj7,(.own 10 [[I y3,(I (w64 (y3 * p0.Vapour))),I 0,I p1.Gas,(I (w64 (p1.Mass - y3))),(I (w64 (p1.Heat - (w64 (y3 * p0.Vapour))))),I p1.Silica,I 0,I 0,I 0]])] hφ0 (pc (.rn (rqr rfl)) (pc (.rn (rqr rfl)) (pc (.rn (rqr rfl)) (pc rwl (pc (.rn (rqr rfl)) pn))))) (qc (spb (lcc (lcc (lc rwl ln)))) (qc (spb (lcc (lcc ln))) (qc (spb (lcc (lcc (lcc (lcc (lcc ln)))))) (qc (spb (lcc (lcc (lcc (lcc (lcc ln)))))) qn)))))⟩
     ·refine wfn hc18 ?_
      refine Qan ?_
      refine thn ?_
      exact ⟨(0,0,0,p1.Mass,p1.Heat,p1.Gas),h,(mto (n:=118) [(2,.ref 0 5 0 0),(3,.ref 1 4 0 0),(4,.ref 2 10 0 0),(5,I x1),(7,.ref 3 10 0 0)] [0,1,2,3] [(Qlj p0),(Qli p1),Qj7,(.own 10 [[I 0,I 0,I 0,I 0,I p1.Mass,I p1.Heat,I p1.Silica,I p1.Gas,I 0,I 0]])] hφ0 (pc (.rn (rqr rfl)) (pc (.rn (rqr rfl)) (pc (.rn (rqr rfl)) (pc rwl (pc (.rn (rqr rfl)) pn))))) (qc (spb (lcc (lcc (lc rwl ln)))) (qc (spb (lcc (lcc ln))) (qc (spb (lcc (lcc (lcc (lcc (lcc ln)))))) (qc (spb (lcc (lcc (lcc (lcc (lcc ln)))))) qn)))))⟩
   ·skip
    refine bfe h (fun hb19 h=>?_) fun hb19 h=>?_
    ·refine wx tbk [(4,rp [(.tmp 42,(B ((y3==p1.Mass))))] (B true))] ⟨asb hb19 (amv rfl),trivial⟩ ?_
     refine bfe h (fun hc20 h=>?_) fun hc20 h=>?_
     ·refine wft hc20 ?_
      refine wx tbk [(5,rp [(.tmp 47,I y3),(.tmp 49,I p1.Heat),(.tmp 51,I p1.Gas)] (.agg [I y3,I p1.Heat,I 0,I p1.Gas]))] ⟨Qav (vs:=[I y3,I p1.Heat,I p1.Gas]) rfl ts89 tz89 rfl (by rfl) rfl,trivial⟩ ?_
      refine wxz ?_
      refine wxz ?_
      refine Qag ?_
      refine Qah ?_
      obtain rfl:=osi h
      exact fend ⟨[(.agg [I y3,I p1.Heat,I 0,I p1.Gas,I 0,I 0,I 0,I 0,I 0,I p1.Silica])],⟨Qbv (n:=2) (m:=10) (j:=0) (i:=0) (xs:=[[I y3,I p1.Heat,I 0,I p1.Gas,I 0,I 0,I 0,I 0,I 0,I p1.Silica]]) (by kernel_rfl) (by kernel_rfl) Zi9 (by decide) rfl (nle rfl) rfl,trivial⟩,rfl⟩ (NLt.agg _ (nlcc (nlcc (nlcc (nlcc (nlcc nl0))))))
     ·refine wfn hc20 ?_
      refine Qan ?_
      refine thn ?_
      exact ⟨(),h,(mto (n:=118) [(2,.ref 0 5 0 0),(3,.ref 1 4 0 0),(4,.ref 2 10 0 0),(5,I x1),(6,I y3),(7,.ref 3 10 0 0)] [0,1,2,3] [(Qlj p0),(Qli p1),Qj7,Qj7] hφ0 (pc (.rn (rqr rfl)) (pc (.rn (rqr rfl)) (pc (.rn (rqr rfl)) (pc rwl (pc rwl (pc (.rn (rqr rfl)) pn)))))) (qc (spb (lcc (lcc (lc rwl ln)))) (qc (spb (lcc (lcc ln))) (qc (spb (lcc (lcc (lcc (lcc (lcc ln)))))) (qc (spb (lcc (lcc (lcc (lcc (lcc ln)))))) qn)))))⟩
    ·refine wx tbk [(4,rp [(.tmp 42,(B ((y3==p1.Mass))))] (B false))] ⟨asb hb19 (amv rfl),trivial⟩ ?_
     refine wfa ?_
     refine Qan ?_
     refine thn ?_
     exact ⟨(),h,(mto (n:=118) [(2,.ref 0 5 0 0),(3,.ref 1 4 0 0),(4,.ref 2 10 0 0),(5,I x1),(6,I y3),(7,.ref 3 10 0 0)] [0,1,2,3] [(Qlj p0),(Qli p1),Qj7,Qj7] hφ0 (pc (.rn (rqr rfl)) (pc (.rn (rqr rfl)) (pc (.rn (rqr rfl)) (pc rwl (pc rwl (pc (.rn (rqr rfl)) pn)))))) (qc (spb (lcc (lcc (lc rwl ln)))) (qc (spb (lcc (lcc ln))) (qc (spb (lcc (lcc (lcc (lcc (lcc ln)))))) (qc (spb (lcc (lcc (lcc (lcc (lcc ln)))))) qn)))))⟩
  ·skip
   refine bfe h (fun hb21 h=>?_) fun hb21 h=>?_
   ·refine wx tbk [(2,rp [(.tmp 17,(B ((decide (x1>0)))))] (B true))] ⟨asb hb21 (amv rfl),trivial⟩ ?_
    refine bfe h (fun hc22 h=>?_) fun hc22 h=>?_
    ·refine wft hc22 ?_
     refine wxz1 ?_
     refine thn ?_
     exact ⟨(p1.Mass),h,(mto (n:=118) [(2,.ref 0 5 0 0),(3,.ref 1 4 0 0),(4,.ref 2 10 0 0),(5,I x1),(6,I p1.Mass)] [0,1,2] [(Qlj p0),(Qli p1),Qj7] hφ0 (pc (.rn (rqr rfl)) (pc (.rn (rqr rfl)) (pc (.rn (rqr rfl)) (pc rwl (pc rwl pn))))) (qc (spb (lcc (lcc (lc rwl ln)))) (qc (spb (lcc (lcc ln))) (qc (spb (lcc (lcc (lcc (lcc (lcc ln)))))) qn))))⟩
    ·refine wfn hc22 ?_
     refine wxz ?_
     refine wft hb21 ?_
     obtain ⟨hz23,h⟩:=cko h
     obtain ⟨x24,hl25,h⟩:=bno h
     refine wx1 tbk [(6,rp [(.tmp 32,I x1),(.tmp 37,(I (w64 (p0.Vapour - p0.Liquid))))] (I (w64 (x1.tdiv (w64 (p0.Vapour - p0.Liquid)))))),(7,rp [(.tmp 38,(I (w64 (x1.tdiv (w64 (p0.Vapour - p0.Liquid))))))] (I x24))] ⟨Qjx rfl (Qk0 hz23),Qgy hl25 (aas rfl),trivial⟩ ?_
     refine thn ?_
     exact ⟨(x24),h,(mto (n:=118) [(2,.ref 0 5 0 0),(3,.ref 1 4 0 0),(4,.ref 2 10 0 0),(5,I x1),(6,I x24)] [0,1,2] [(Qlj p0),(Qli p1),Qj7] hφ0 (pc (.rn (rqr rfl)) (pc (.rn (rqr rfl)) (pc (.rn (rqr rfl)) (pc rwl (pc rwl pn))))) (qc (spb (lcc (lcc (lc rwl ln)))) (qc (spb (lcc (lcc ln))) (qc (spb (lcc (lcc (lcc (lcc (lcc ln)))))) qn))))⟩
   ·refine wx tbk [(2,rp [(.tmp 17,(B ((decide (x1>0)))))] (B false))] ⟨asb hb21 (amv rfl),trivial⟩ ?_
    refine wfa ?_
    refine wxz ?_
    refine wfn hb21 ?_
    refine Qan ?_
    refine thn ?_
    exact ⟨(0),h,(mto (n:=118) [(2,.ref 0 5 0 0),(3,.ref 1 4 0 0),(4,.ref 2 10 0 0),(5,I x1),(6,I 0)] [0,1,2] [(Qlj p0),(Qli p1),Qj7] hφ0 (pc (.rn (rqr rfl)) (pc (.rn (rqr rfl)) (pc (.rn (rqr rfl)) (pc rwl (pc rwl pn))))) (qc (spb (lcc (lcc (lc rwl ln)))) (qc (spb (lcc (lcc ln))) (qc (spb (lcc (lcc (lcc (lcc (lcc ln)))))) qn))))⟩
def Qe6 (N:Nat) (p0:(List GStream)) (k5:Int×Int×Int×Int→Option GStream):Nat→Int→Int→Int→Int→Int→Option GStream
  | 0,_,_,_,_,_=>none
  | n16+1,y6,y7,y8,y9,y10=>
    bif (decide (y6<(p0.length:Int))) then
     (getI p0 y6).bind fun x18=>
     Qe6 N p0 k5 n16 (w64 (y6+1)) (w64 (y7+x18.Mass)) (w64 (y8+x18.Heat)) (w64 (y9+x18.Silica)) (w64 (y10+x18.Gas))
    else
     k5 (y7,y8,y9,y10)
def Qhj (N:Nat) (p0:(List GStream)):Option GStream:=
  Qbf (fun ⟨y1,y2,y3,y4⟩=>
    some (⟨y1,y2,y3,y4⟩:GStream)) fun k5:Int×Int×Int×Int→Option GStream=>
  Qe6 N p0 k5 N 0 0 0 0 0
def Qro:Slot:=.own 4 [[(I (0)),(I (0)),(I (0)),(I (0))]]
def Qpi (p0:(List GStream)):AV:=.dat 4 ((p0:List GStream).map Qaa)
theorem Ql6 (N:Nat) (p0:(List GStream)) (r:GStream) (h:Qhj N p0=some r):Spec Tryz.prog 38 [(.dat 4 (p0.map Qaa))] [] (.agg (Qaa r)) []:=by
  refine Qai Tryz.func38 rfl 0 (nle rfl) (fun X φ0 w0 hφ0 hd0=>?_)
  unfold Qhj at h
  refine wxz ?_
  refine wxz ?_
  obtain ⟨k5,hk_k5,h⟩:=jko h
  refine wjn (τ:=Int×Int×Int×Int) (fun t=>k5 t=some r) (fun ⟨y1,y2,y3,y4⟩=>⟨mk 45 [(2,.ref 0 4 0 0),(3,.ref 1 4 0 0)],[Qro,(.own 4 [[I y1,I y2,I y3,I y4]])]⟩) (fun t h=>?_) ?_
  ·subst hk_k5
   obtain ⟨y1,y2,y3,y4⟩:=t
   refine wxz ?_
   refine Qag ?_
   obtain rfl:=osi h
   exact fend ⟨[(.agg [I y1,I y2,I y3,I y4])],⟨Qbv (n:=0) (m:=4) (j:=0) (i:=0) (xs:=[[I y1,I y2,I y3,I y4]]) (by kernel_rfl) (by kernel_rfl) ti89 (by decide) rfl (nle rfl) rfl,trivial⟩,rfl⟩ (NLt.agg _ (nlcc (nlcc nl0)))
  ·skip
   refine wxz ?_
   refine Qam ?_
   refine wmr (mto (n:=45) (l':=[(0,(Qpi p0)),(2,.ref 0 4 0 0),(3,.ref 1 4 0 0),(4,I 0)]) (own':=[Qro,Qro]) [(0,(Qpi p0)),(2,.ref 0 4 0 0),(3,.ref 1 4 0 0),(4,I 0)] [0,1] [Qro,Qro] hφ0 (pc (rnd Qac) (pc (.rn (rqr rfl)) (pc (.rn (rqr rfl)) (pc rwl pn)))) (qc (spb (lcc (lcc ln))) (qc (spb (lcc (lcc ln))) qn))) ?_
   refine Qbw (τ:=Int×Int×Int×Int×Int) (fun n t=>Qe6 N p0 k5 n t.1 t.2.1 t.2.2.1 t.2.2.2.1 t.2.2.2.2=some r) (fun ⟨y6,y7,y8,y9,y10⟩=>⟨mk 45 [(0,(Qpi p0)),(2,.ref 0 4 0 0),(3,.ref 1 4 0 0),(4,I y6)],[Qro,(.own 4 [[I y7,I y8,I y9,I y10]])]⟩) (fun t h=>by rw [Qe6] at h; cases h) (fun n16 ih t h=>?_) N (0,0,0,0,0) h
   obtain ⟨y6,y7,y8,y9,y10⟩:=t
   rw [Qe6] at h
   skip
   refine wsq ?_
   refine wx tbk [(2,rp [(.tmp 6,(Qpi p0))] (I ((p0.length:Int))))] ⟨alm (c:=Qaa) (l:=p0) (aln rfl Tryz.underlying28 rfl),trivial⟩ ?_
   refine bfe h (fun hc17 h=>?_) fun hc17 h=>?_
   ·refine wft hc17 ?_
    refine Qan ?_
    refine thn ?_
    refine wsq ?_
    refine Qam ?_
    obtain ⟨x18,hg19,h⟩:=bno h
    obtain ⟨hi20,hj21⟩:=gsm hg19
    refine wy1 tbk [(4,rp [(.tmp 13,(Qpi p0)),(.tmp 14,I y6)] (.dptr (Qaa (x18)) 0)),(12,rp [(.tmp 21,(Qpi p0)),(.tmp 22,I y6)] (.dptr (Qaa (x18)) 0)),(20,rp [(.tmp 29,(Qpi p0)),(.tmp 30,I y6)] (.dptr (Qaa (x18)) 0)),(28,rp [(.tmp 37,(Qpi p0)),(.tmp 38,I y6)] (.dptr (Qaa (x18)) 0)),(32,rp [(.tmp 18,(I (w64 (y7+x18.Mass)))),(.tmp 26,(I (w64 (y8+x18.Heat)))),(.tmp 34,(I (w64 (y9+x18.Silica)))),(.tmp 42,(I (w64 (y10+x18.Gas))))] (.agg [(I (w64 (y7+x18.Mass))),(I (w64 (y8+x18.Heat))),(I (w64 (y9+x18.Silica))),(I (w64 (y10+x18.Gas)))]))] ⟨aid rfl Tryz.underlying28 ti89 rfl rfl hi20 (mgt Qaa hj21) rfl,aid rfl Tryz.underlying28 ti89 rfl rfl hi20 (mgt Qaa hj21) rfl,aid rfl Tryz.underlying28 ti89 rfl rfl hi20 (mgt Qaa hj21) rfl,aid rfl Tryz.underlying28 ti89 rfl rfl hi20 (mgt Qaa hj21) rfl,Qav (vs:=[(I (w64 (y7+x18.Mass))),(I (w64 (y8+x18.Heat))),(I (w64 (y9+x18.Silica))),(I (w64 (y10+x18.Gas)))]) rfl ts89 tz89 rfl (by rfl) rfl,trivial⟩ ?_
    refine bln ?_
    refine thn ?_
    refine wxz1 ?_
    refine thn ?_
    exact arm (mto (n:=45) [(0,(Qpi p0)),(2,.ref 0 4 0 0),(3,.ref 1 4 0 0),(4,(I (w64 (y6+1))))] [0,1] [Qro,(.own 4 [[(I (w64 (y7+x18.Mass))),(I (w64 (y8+x18.Heat))),(I (w64 (y9+x18.Silica))),(I (w64 (y10+x18.Gas)))]])] hφ0 (pc (rnd Qac) (pc (.rn (rqr rfl)) (pc (.rn (rqr rfl)) (pc rwl pn)))) (qc (spb (lcc (lcc ln))) (qc (spb (lcc (lcc ln))) qn))) (ih (w64 (y6+1),w64 (y7+x18.Mass),w64 (y8+x18.Heat),w64 (y9+x18.Silica),w64 (y10+x18.Gas)) h)
   ·refine wfn hc17 ?_
    refine Qbh ?_
    refine Qax ?_
    refine Qax ?_
    refine Qbg rfl ?_
    refine thn ?_
    exact ⟨(y7,y8,y9,y10),h,(mto (n:=45) [(2,.ref 0 4 0 0),(3,.ref 1 4 0 0)] [0,1] [Qro,(.own 4 [[I y7,I y8,I y9,I y10]])] hφ0 (pc (.rn (rqr rfl)) (pc (.rn (rqr rfl)) pn)) (qc (spb (lcc (lcc ln))) (qc (spb (lcc (lcc ln))) qn)))⟩
def Qhy (_N:Nat) (p0:Int) (p1:Int) (p2:Int):Option Int:=
  bif (p2==0) then
   some 0
  else
   chk (p2 != 0)<|
   (some (w64 ((w64 (p0 * p1)).tdiv p2))).bind fun x3=>
   some x3
theorem Qle (N:Nat) (p0:Int) (p1:Int) (p2:Int) (r:Int) (h:Qhy N p0 p1 p2=some r):Spec Tryz.prog 99 [(I p0),(I p1),(I p2)] [] (I r) []:=by
  refine Qai Tryz.func99 rfl 0 (nle rfl) (fun X φ0 w0 hφ0 hd0=>?_)
  unfold Qhy at h
  refine wxz ?_
  refine wsq ?_
  refine wxz ?_
  refine bfe h (fun hc1 h=>?_) fun hc1 h=>?_
  ·refine wft hc1 ?_
   refine wxz ?_
   refine Qag ?_
   refine Qah ?_
   obtain rfl:=osi h
   exact fend ⟨[I 0],⟨rot,trivial⟩,rfl⟩ nll
  ·refine wfn hc1 ?_
   refine Qan ?_
   refine thn ?_
   obtain ⟨hz2,h⟩:=cko h
   obtain ⟨x3,hl4,h⟩:=bno h
   refine wx tbk [(4,rp [(.tmp 11,(I (w64 (p0 * p1)))),(.tmp 12,I p2)] (I (w64 ((w64 (p0 * p1)).tdiv p2)))),(5,rp [(.tmp 13,(I (w64 ((w64 (p0 * p1)).tdiv p2))))] (I x3))] ⟨Qjx rfl (Qk0 hz2),Qgy hl4 (aas rfl),trivial⟩ ?_
   refine Qag ?_
   obtain rfl:=osi h
   exact fend ⟨[I x3],⟨rot,trivial⟩,rfl⟩ nll
def Qee (N:Nat) (p0:GStream) (p1:(List Int)) (y8:(List Int)) (k14:(List GStream)×Int×Int×Int→Option ((List GStream)×GLoss)):Nat→(List GStream)→Int→Int→Int→Int→Option ((List GStream)×GLoss)
  | 0,_,_,_,_,_=>none
  | n25+1,y15,y16,y17,y18,y19=>
    bif (decide (y16<(p1.length:Int))) then
     chk (decide (0≤y16)&&decide (y16.toNat<(p1.length:Int).toNat))<|
     (y8[y16.toNat]?).bind fun x28=>
     (Qhy N p0.Heat x28 p0.Mass).bind fun x31=>
     (Qhy N p0.Silica x28 p0.Mass).bind fun x33=>
     (Qhy N p0.Gas x28 p0.Mass).bind fun x35=>
     chk (decide ((y15.length+([(⟨x28,x31,x33,x35⟩:GStream)]).length) * 32≤140737488355328))<|
     Qee N p0 p1 y8 k14 n25 (y15++([(⟨x28,x31,x33,x35⟩:GStream)])) (w64 (y16+1)) (w64 (y17 - x31)) (w64 (y18 - x33)) (w64 (y19 - x35))
    else
     k14 (y15,y17,y18,y19)
def Qcv (N:Nat) (p0:GStream) (p1:(List Int)) (y1:Int) (y39:(List Bool)) (k46:Int→Option ((List GStream)×GLoss)):Nat→Int→Int→Option ((List GStream)×GLoss)
  | 0,_,_=>none
  | n60+1,y56,y57=>
    bif (decide (y57<(p1.length:Int))) then
     chk (decide (0≤y57)&&decide (y57.toNat<(p1.length:Int).toNat))<|
     (y39[y57.toNat]?).bind fun x63=>
     bif (!x63) then
      bif (decide (y56<0)) then
       Qcv N p0 p1 y1 y39 k46 n60 y57 (w64 (y57+1))
      else
       (getI p1 y57).bind fun x67=>
       chk (y1 != 0)<|
       (getI p1 y56).bind fun x72=>
       chk (y1 != 0)<|
       bif (decide (((w64 (p0.Mass * x67)).tmod y1)>((w64 (p0.Mass * x72)).tmod y1))) then
        Qcv N p0 p1 y1 y39 k46 n60 y57 (w64 (y57+1))
       else
        Qcv N p0 p1 y1 y39 k46 n60 y56 (w64 (y57+1))
     else
      Qcv N p0 p1 y1 y39 k46 n60 y56 (w64 (y57+1))
    else
     k46 (y56)
def Qed (N:Nat) (p0:GStream) (p1:(List Int)) (y1:Int) (k9:(List Int)→Option ((List GStream)×GLoss)):Nat→Int→(List Int)→(List Bool)→Option ((List GStream)×GLoss)
  | 0,_,_,_=>none
  | n43+1,y37,y38,y39=>
    bif (decide (y37>0)) then
     Qbf (fun y45=>
       chk (decide (0≤y45)&&decide (y45.toNat<(p1.length:Int).toNat))<|
       (y39[y45.toNat]?).bind fun _=>
       chk (decide (0≤y45)&&decide (y45.toNat<(p1.length:Int).toNat))<|
       (y38[y45.toNat]?).bind fun x51=>
       chk (decide (0≤y45)&&decide (y45.toNat<(p1.length:Int).toNat))<|
       (y38[y45.toNat]?).bind fun _=>
       Qed N p0 p1 y1 k9 n43 (w64 (y37 - 1)) (y38.set y45.toNat (w64 (x51+1))) (y39.set y45.toNat true)) fun k46:Int→Option ((List GStream)×GLoss)=>
     Qcv N p0 p1 y1 y39 k46 N (-1) 0
    else
     k9 (y38)
def Qec (N:Nat) (p0:GStream) (p1:(List Int)) (y1:Int) (k6:Int×(List Int)→Option ((List GStream)×GLoss)):Nat→Int→Int→(List Int)→Option ((List GStream)×GLoss)
  | 0,_,_,_=>none
  | n84+1,y78,y79,y80=>
    bif (decide (y79<(p1.length:Int))) then
     (getI p1 y79).bind fun x86=>
     chk (y1 != 0)<|
     chk (decide (0≤y79)&&decide (y79.toNat<(p1.length:Int).toNat))<|
     (y80[y79.toNat]?).bind fun _=>
     chk (decide (0≤y79)&&decide (y79.toNat<(p1.length:Int).toNat))<|
     ((y80.set y79.toNat (w64 ((w64 (p0.Mass * x86)).tdiv y1)))[y79.toNat]?).bind fun x95=>
     Qec N p0 p1 y1 k6 n84 (w64 (y78 - x95)) (w64 (y79+1)) (y80.set y79.toNat (w64 ((w64 (p0.Mass * x86)).tdiv y1)))
    else
     k6 (y78,y80)
def Qeb (N:Nat) (p1:(List Int)) (k2:Int→Option ((List GStream)×GLoss)):Nat→Int→Int→Option ((List GStream)×GLoss)
  | 0,_,_=>none
  | n101+1,y97,y98=>
    bif (decide (y98<(p1.length:Int))) then
     (getI p1 y98).bind fun x103=>
     Qeb N p1 k2 n101 (w64 (y97+x103)) (w64 (y98+1))
    else
     k2 (y97)
def Qha (N:Nat) (p0:GStream) (p1:(List Int)):Option ((List GStream)×GLoss):=
  Qbf (fun y1=>
    chk (decide (0≤(p1.length:Int))&&decide (8 * (p1.length:Int)≤281474976710656)&&decide ((p1.length:Int)≤9223372036854775807))<|
    Qbf (fun ⟨y4,y5⟩=>
      chk (decide (0≤(p1.length:Int))&&decide (1 * (p1.length:Int)≤281474976710656)&&decide ((p1.length:Int)≤9223372036854775807))<|
      Qbf (fun y8=>
        Qbf (fun ⟨y10,y11,y12,y13⟩=>
          some (y10,(⟨y11,y12,y13⟩:GLoss))) fun k14:(List GStream)×Int×Int×Int→Option ((List GStream)×GLoss)=>
        Qee N p0 p1 y8 k14 N ([]) 0 p0.Heat p0.Silica p0.Gas) fun k9:(List Int)→Option ((List GStream)×GLoss)=>
      Qed N p0 p1 y1 k9 N y4 y5 (List.replicate (p1.length:Int).toNat false)) fun k6:Int×(List Int)→Option ((List GStream)×GLoss)=>
    Qec N p0 p1 y1 k6 N p0.Mass 0 (List.replicate (p1.length:Int).toNat 0)) fun k2:Int→Option ((List GStream)×GLoss)=>
  Qeb N p1 k2 N 0 0
def Qdw (p1:(List Int)):AV:=.dat 1 ((p1:List Int).map Qak)
def Qfi (p0:GStream):Slot:=.own 4 [[(I (p0.Mass)),(I (p0.Heat)),(I (p0.Silica)),(I (p0.Gas))]]
def Qfa:Slot:=.own 3 [[(I (0)),(I (0)),(I (0))]]
def Zgo (p1:(List Int)):Slot:=.own 1 ((List.replicate (p1.length:Int).toNat 0:List Int).map Qak)
def Q9c (p1:(List Int)):Slot:=.own 1 ((List.replicate (p1.length:Int).toNat false:List Bool).map Qmo)
def Qon (y8:(List Int)):Slot:=.own 1 ((y8:List Int).map Qak)
def Q1k (y15:(List GStream)):AV:=.acc 4 89 4 ((y15:List GStream).map Qaa)
def Qhv (y38:(List Int)):Slot:=.own 1 ((y38:List Int).map Qak)
def Qg6 (y39:(List Bool)):Slot:=.own 1 ((y39:List Bool).map Qmo)
def Qwx (y80:(List Int)):Slot:=.own 1 ((y80:List Int).map Qak)
def Qww (y80:(List Int)) (y79:Int) (p0:GStream) (x86:Int) (y1:Int):Slot:=.own 1 ((y80.set y79.toNat (w64 ((w64 (p0.Mass * x86)).tdiv y1)):List Int).map Qak)
theorem Qnc (N:Nat) (p0:GStream) (p1:(List Int)) (r:((List GStream)×GLoss)) (h:Qha N p0 p1=some r):Spec Tryz.prog 64 [(.agg (Qaa p0)),(.dat 1 (p1.map Qak))] [] (.tup [(.dat 4 (r.1.map Qaa)),(.agg (Zbm r.2))]) []:=by
  refine Qai Tryz.func64 rfl 0 (nle rfl) (fun X φ0 w0 hφ0 hd0=>?_)
  unfold Qha at h
  refine wxz ?_
  refine wxe ?_
  obtain ⟨k2,hk_k2,h⟩:=jko h
  refine wjn (τ:=Int) (fun t=>k2 t=some r) (fun y1=>⟨mk 172 [(1,(Qdw p1)),(2,.ref 0 4 0 0),(5,.ref 1 3 0 0),(6,I y1),(7,I p0.Mass)],[(Qfi p0),Qfa]⟩) (fun y1 h=>?_) ?_
  ·subst hk_k2
   obtain ⟨hm3,h⟩:=cko h
   refine wx tbk [(1,rp [(.tmp 33,(Qdw p1))] (I ((p1.length:Int)))),(2,⟨[(.tmp 34,(I ((p1.length:Int)))),(.tmp 34,(I ((p1.length:Int))))],[(2,.unused)],(.own 2 1 (0) ((p1.length:Int).toNat)),[(2,(Zgo p1))],false⟩)] ⟨alm (c:=Qak) (l:=p1) (aln rfl Tryz.underlying27 rfl),Ql0 rfl Tryz.underlying27 te3 tz3 rfl (Q0u hm3) rfl (Q0t hm3) (Q0s hm3) (Qw7 Qak rfl),trivial⟩ ?_
   obtain ⟨k6,hk_k6,h⟩:=jko h
   refine wjn (τ:=Int×(List Int)) (fun t=>k6 t=some r) (fun ⟨y4,y5⟩=>⟨mk 172 [(1,(Qdw p1)),(2,.ref 0 4 0 0),(5,.ref 1 3 0 0),(6,I y1),(7,I y4),(9,(.own 2 1 (0) ((p1.length:Int).toNat)))],[(Qfi p0),Qfa,(.own 1 ((y5:List Int).map Qak))]⟩) (fun t h=>?_) ?_
   ·subst hk_k6
    obtain ⟨y4,y5⟩:=t
    obtain ⟨hm7,h⟩:=cko h
    refine wx tbk [(1,rp [(.tmp 60,(Qdw p1))] (I ((p1.length:Int)))),(2,⟨[(.tmp 61,(I ((p1.length:Int)))),(.tmp 61,(I ((p1.length:Int))))],[(3,.unused)],(.own 3 1 (0) ((p1.length:Int).toNat)),[(3,(Q9c p1))],false⟩)] ⟨alm (c:=Qak) (l:=p1) (aln rfl Tryz.underlying27 rfl),Ql0 rfl Tryz.underlying185 te4 tz4 rfl (Q0u hm7) rfl (Q0t hm7) (Q0s hm7) (Qw7 Qmo rfl),trivial⟩ ?_
    obtain ⟨k9,hk_k9,h⟩:=jko h
    refine wjn (τ:=(List Int)) (fun t=>k9 t=some r) (fun y8=>⟨mk 172 [(1,(Qdw p1)),(2,.ref 0 4 0 0),(5,.ref 1 3 0 0),(9,(.own 2 1 (0) ((p1.length:Int).toNat)))],[(Qfi p0),Qfa,(Qon y8)]⟩) (fun y8 h=>?_) ?_
    ·subst hk_k9
     refine wx tbk [(6,rp [(.tmp 114,I p0.Heat),(.tmp 116,I p0.Silica),(.tmp 118,I p0.Gas)] (.agg [I p0.Heat,I p0.Silica,I p0.Gas]))] ⟨Qav (vs:=[I p0.Heat,I p0.Silica,I p0.Gas]) rfl Zl8 Zi6 rfl (by rfl) rfl,trivial⟩ ?_
     refine wxz ?_
     obtain ⟨k14,hk_k14,h⟩:=jko h
     refine wjn (τ:=(List GStream)×Int×Int×Int) (fun t=>k14 t=some r) (fun ⟨y10,y11,y12,y13⟩=>⟨mk 172 [(5,.ref 0 3 0 0),(14,.ref 1 3 0 0),(15,(.acc 2 89 4 ((y10:List GStream).map Qaa)))],[Qfa,(.own 3 [[I y11,I y12,I y13]]),.tok]⟩) (fun t h=>?_) ?_
     ·subst hk_k14
      obtain ⟨y10,y11,y12,y13⟩:=t
      refine wxe ?_
      refine Qag ?_
      obtain rfl:=osi h
      exact fend ⟨[(.dat 4 ((y10:List GStream).map Qaa)),(.agg [I y11,I y12,I y13])],⟨Qe0 (v:=(.acc 2 89 4 ((y10:List GStream).map Qaa))) (rot) Less.acc,Qbv (n:=0) (m:=3) (j:=0) (i:=0) (xs:=[[I y11,I y12,I y13]]) (by kernel_rfl) (by kernel_rfl) Zmb (by decide) rfl (nle rfl) rfl,trivial⟩,rfl⟩ (NLt.tup _ (nlc (nld Qac _) (nlc (NLt.agg _ (nlcc (nlc nll nl0))) nl0)))
     ·skip
      refine wxz ?_
      refine Qam ?_
      refine wmr (Mor.trans (Qq4 4 89 4 15 (by kernel_rfl) (by kernel_rfl)) (mto (n:=172) (l':=[(1,(Qdw p1)),(2,.ref 0 4 0 0),(5,.ref 1 3 0 0),(9,(.own 2 1 (0) ((p1.length:Int).toNat))),(14,.ref 3 3 0 0),(15,(.acc 4 89 4 ((([]):List GStream).map Qaa))),(16,I 0)]) (own':=[(Qfi p0),Qfa,(Qon y8),(.own 3 [[I p0.Heat,I p0.Silica,I p0.Gas]]),.tok]) [(1,(Qdw p1)),(2,.ref 0 4 0 0),(5,.ref 1 3 0 0),(9,(.own 2 1 (0) ((p1.length:Int).toNat))),(14,.ref 3 3 0 0),(15,(.acc 4 89 4 (([]:List GStream).map Qaa))),(16,I 0)] [0,1,2,3,4] [(Qfi p0),Qfa,(Qon y8),(.own 3 [[I p0.Heat,I p0.Silica,I p0.Gas]]),.tok] hφ0 (pc (rnd Qae) (pc (.rn (rqr rfl)) (pc (.rn (rqr rfl)) (pc (.rn (Qa4 rfl)) (pc (.rn (rqr rfl)) (pc (.rn (Qa7 rfl (Qa1 Qac _))) (pc rwl pn))))))) (qc (spb (lcc (lcc ln))) (qc (spb (lcc (lc rwl ln))) (qc (spr Qae) (qc (spb (lcc (lc rwl ln))) (qc .tok qn))))))) ?_
      refine Qbw (τ:=(List GStream)×Int×Int×Int×Int) (fun n t=>Qee N p0 p1 y8 k14 n t.1 t.2.1 t.2.2.1 t.2.2.2.1 t.2.2.2.2=some r) (fun ⟨y15,y16,y17,y18,y19⟩=>⟨mk 172 [(1,(Qdw p1)),(2,.ref 0 4 0 0),(5,.ref 1 3 0 0),(9,(.own 2 1 (0) ((p1.length:Int).toNat))),(14,.ref 3 3 0 0),(15,(Q1k y15)),(16,I y16)],[(Qfi p0),Qfa,(Qon y8),(.own 3 [[I y17,I y18,I y19]]),.tok]⟩) (fun t h=>by rw [Qee] at h; cases h) (fun n25 ih t h=>?_) N ([],0,p0.Heat,p0.Silica,p0.Gas) h
      obtain ⟨y15,y16,y17,y18,y19⟩:=t
      rw [Qee] at h
      skip
      refine wsq ?_
      refine wx tbk [(2,rp [(.tmp 121,(Qdw p1))] (I ((p1.length:Int))))] ⟨alm (c:=Qak) (l:=p1) (aln rfl Tryz.underlying27 rfl),trivial⟩ ?_
      refine bfe h (fun hc26 h=>?_) fun hc26 h=>?_
      ·refine wft hc26 ?_
       refine Qan ?_
       refine thn ?_
       refine wsq ?_
       refine Qam ?_
       obtain ⟨hi27,h⟩:=cko h
       obtain ⟨hi27a,hi27b⟩:=Qdv hi27
       obtain ⟨x28,hg29,h⟩:=bno h
       refine wx tbk [(2,rb [(.tmp 126,(.own 2 1 (0) ((p1.length:Int).toNat))),(.tmp 127,I y16)] [(2,(Qon y8))] (.ref 2 1 (y16.toNat) 0)),(3,rb [(.tmp 128,(.ref 2 1 (y16.toNat) 0))] [(2,(Qon y8))] (I x28))] ⟨aio rfl Tryz.underlying27 ti3 (odt hi27a) (odt hi27b) (Nat.zero_add _),ald rfl ti3 (by decide) (mgt Qak hg29) (nle rfl) rfl,trivial⟩ ?_
       obtain ⟨x31,hf30,h⟩:=bno h
       obtain ⟨x33,hf32,h⟩:=bno h
       obtain ⟨x35,hf34,h⟩:=bno h
       refine wxd tbk [(6,rp [fu 99,(.tmp 132,I p0.Heat),(.tmp 133,I x28),(.tmp 135,I p0.Mass)] (I x31)),(12,rp [fu 99,(.tmp 138,I p0.Silica),(.tmp 139,I x28),(.tmp 141,I p0.Mass)] (I x33)),(18,rp [fu 99,(.tmp 144,I p0.Gas),(.tmp 145,I x28),(.tmp 147,I p0.Mass)] (I x35)),(19,rp [(.tmp 130,I x28),(.tmp 136,I x31),(.tmp 142,I x33),(.tmp 148,I x35)] (.agg [I x28,I x31,I x33,I x35]))] ⟨apc (first:=[]) (cap:=[]) (vs:=[I p0.Heat,I x28,I p0.Mass]) rfl Q2i (Qle N p0.Heat x28 p0.Mass _ hf30) rfl rfl (nlcc (nlc nll nl0)) nll rfl,apc (first:=[]) (cap:=[]) (vs:=[I p0.Silica,I x28,I p0.Mass]) rfl Q2i (Qle N p0.Silica x28 p0.Mass _ hf32) rfl rfl (nlcc (nlc nll nl0)) nll rfl,apc (first:=[]) (cap:=[]) (vs:=[I p0.Gas,I x28,I p0.Mass]) rfl Q2i (Qle N p0.Gas x28 p0.Mass _ hf34) rfl rfl (nlcc (nlc nll nl0)) nll rfl,Qav (vs:=[I x28,I x31,I x33,I x35]) rfl ts89 tz89 rfl (by rfl) rfl,trivial⟩ ?_
       obtain ⟨ha36,h⟩:=cko h
       refine wx tbk [(2,rp [(.tmp 151,(.agg [I x28,I x31,I x33,I x35]))] (.dat 4 (([(⟨x28,x31,x33,x35⟩:GStream)]:List GStream).map Qaa))),(3,⟨[(.tmp 150,(Q1k y15)),(.tmp 152,(.dat 4 (([(⟨x28,x31,x33,x35⟩:GStream)]:List GStream).map Qaa)))],[(4,.tok),(6,.unused)],(.acc 6 89 4 ((y15++([(⟨x28,x31,x33,x35⟩:GStream)]):List GStream).map Qaa)),[(4,.dead),(6,.tok)],false⟩)] ⟨Qbn (vs:=[(.agg [I x28,I x31,I x33,I x35])]) rfl Tryz.underlying28 ti89 tz89 rfl (by decide) rfl (by decide) (by rfl) (by rfl) (by rfl) rfl,Qex rfl Tryz.underlying28 te89 (Base.acc _ _) rfl rfl (by rfl) (Qhf Qaa ha36) (Qhe Qaa ha36 (by decide)) (Qhd Qaa) rfl rfl,trivial⟩ ?_
       refine wx1 tbk [(15,rp [(.tmp 158,(I (w64 (y17 - x31)))),(.tmp 163,(I (w64 (y18 - x33)))),(.tmp 168,(I (w64 (y19 - x35))))] (.agg [(I (w64 (y17 - x31))),(I (w64 (y18 - x33))),(I (w64 (y19 - x35)))]))] ⟨Qav (vs:=[(I (w64 (y17 - x31))),(I (w64 (y18 - x33))),(I (w64 (y19 - x35)))]) rfl Zl8 Zi6 rfl (by rfl) rfl,trivial⟩ ?_
       refine bln ?_
       refine thn ?_
       refine wxz1 ?_
       refine thn ?_
       exact arm (mto (n:=172) [(1,(Qdw p1)),(2,.ref 0 4 0 0),(5,.ref 1 3 0 0),(9,(.own 2 1 (0) ((p1.length:Int).toNat))),(14,.ref 3 3 0 0),(15,(.acc 6 89 4 ((y15++([(⟨x28,x31,x33,x35⟩:GStream)]):List GStream).map Qaa))),(16,(I (w64 (y16+1))))] [0,1,2,3,6] [(Qfi p0),Qfa,(Qon y8),(.own 3 [[(I (w64 (y17 - x31))),(I (w64 (y18 - x33))),(I (w64 (y19 - x35)))]]),.tok] hφ0 (pc (rnd Qae) (pc (.rn (rqr rfl)) (pc (.rn (rqr rfl)) (pc (.rn (Qa4 rfl)) (pc (.rn (rqr rfl)) (pc (.rn (Qa7 rfl (Qa1 Qac _))) (pc rwl pn))))))) (qc (spb (lcc (lcc ln))) (qc (spb (lcc (lc rwl ln))) (qc (spr Qae) (qc (spb (lcc (lc rwl ln))) (qc .tok qn)))))) (ih (y15++([(⟨x28,x31,x33,x35⟩:GStream)]),w64 (y16+1),w64 (y17 - x31),w64 (y18 - x33),w64 (y19 - x35)) h)
      ·refine wfn hc26 ?_
       refine Qbh ?_
       refine Qax ?_
       refine Qax ?_
       refine Qbg rfl ?_
       refine thn ?_
       exact ⟨(y15,y17,y18,y19),h,(mto (n:=172) [(5,.ref 1 3 0 0),(14,.ref 3 3 0 0),(15,(Q1k y15))] [1,3,4] [Qfa,(.own 3 [[I y17,I y18,I y19]]),.tok] hφ0 (pc (.rn (rqr rfl)) (pc (.rn (rqr rfl)) (pc (.rn (Qa7 rfl (Qa1 Qac _))) pn))) (qc (spb (lcc (lc rwl ln))) (qc (spb (lcc (lc rwl ln))) (qc .tok qn))))⟩
    ·skip
     refine Qam ?_
     refine wmr (mto (n:=172) (l':=[(1,(Qdw p1)),(2,.ref 0 4 0 0),(5,.ref 1 3 0 0),(6,I y1),(7,I y4),(9,(.own 2 1 (0) ((p1.length:Int).toNat))),(11,(.own 3 1 (0) ((p1.length:Int).toNat)))]) (own':=[(Qfi p0),Qfa,(.own 1 ((y5:List Int).map Qak)),(.own 1 (((List.replicate (p1.length:Int).toNat false):List Bool).map Qmo))]) [(1,(Qdw p1)),(2,.ref 0 4 0 0),(5,.ref 1 3 0 0),(6,I y1),(7,I y4),(9,(.own 2 1 (0) ((p1.length:Int).toNat))),(11,(.own 3 1 (0) ((p1.length:Int).toNat)))] [0,1,2,3] [(Qfi p0),Qfa,(.own 1 ((y5:List Int).map Qak)),(Q9c p1)] hφ0 (pc (rnd Qae) (pc (.rn (rqr rfl)) (pc (.rn (rqr rfl)) (pc rwl (pc rwl (pc (.rn (Qa4 rfl)) (pc (.rn (Qa4 rfl)) pn))))))) (qc (spb (lcc (lcc ln))) (qc (spb (lcc (lc rwl ln))) (qc (spr Qae) (qc (spr Qng) qn))))) ?_
     refine Qbw (τ:=Int×(List Int)×(List Bool)) (fun n t=>Qed N p0 p1 y1 k9 n t.1 t.2.1 t.2.2=some r) (fun ⟨y37,y38,y39⟩=>⟨mk 172 [(1,(Qdw p1)),(2,.ref 0 4 0 0),(5,.ref 1 3 0 0),(6,I y1),(7,I y37),(9,(.own 2 1 (0) ((p1.length:Int).toNat))),(11,(.own 3 1 (0) ((p1.length:Int).toNat)))],[(Qfi p0),Qfa,(Qhv y38),(Qg6 y39)]⟩) (fun t h=>by rw [Qed] at h; cases h) (fun n43 ih t h=>?_) N (y4,y5,List.replicate (p1.length:Int).toNat false) h
     obtain ⟨y37,y38,y39⟩:=t
     rw [Qed] at h
     skip
     refine wsq ?_
     refine wxz ?_
     refine bfe h (fun hc44 h=>?_) fun hc44 h=>?_
     ·refine wft hc44 ?_
      refine Qan ?_
      refine thn ?_
      refine Qam ?_
      refine wxz ?_
      obtain ⟨k46,hk_k46,h⟩:=jko h
      refine wjn (τ:=Int) (fun t=>k46 t=some r) (fun y45=>⟨mk 172 [(1,(Qdw p1)),(2,.ref 0 4 0 0),(5,.ref 1 3 0 0),(6,I y1),(7,I y37),(9,(.own 2 1 (0) ((p1.length:Int).toNat))),(11,(.own 3 1 (0) ((p1.length:Int).toNat))),(12,I y45)],[(Qfi p0),Qfa,(Qhv y38),(Qg6 y39)]⟩) (fun y45 h=>?_) ?_
      ·subst hk_k46
       obtain ⟨hi47,h⟩:=cko h
       obtain ⟨hi47a,hi47b⟩:=Qdv hi47
       obtain ⟨x48,hg49,h⟩:=bno h
       refine wx tbk [(2,rb [(.tmp 102,(.own 3 1 (0) ((p1.length:Int).toNat))),(.tmp 103,I y45)] [(3,(Qg6 y39))] (.ref 3 1 (y45.toNat) 0)),(3,⟨[(.tmp 104,(.ref 3 1 (y45.toNat) 0)),cb true],[(3,(Qg6 y39))],.any,[(3,(.own 1 ((y39.set y45.toNat true:List Bool).map Qmo)))],false⟩)] ⟨aio rfl Tryz.underlying185 ti4 (odt hi47a) (odt hi47b) (Nat.zero_add _),ast rfl ti4 (by rfl) (mgt Qmo hg49) (nle rfl) (Qgn Qmo rfl),trivial⟩ ?_
       obtain ⟨hi50,h⟩:=cko h
       obtain ⟨hi50a,hi50b⟩:=Qdv hi50
       obtain ⟨x51,hg52,h⟩:=bno h
       obtain ⟨hi53,h⟩:=cko h
       obtain ⟨hi53a,hi53b⟩:=Qdv hi53
       obtain ⟨x54,hg55,h⟩:=bno h
       refine wx tbk [(2,rb [(.tmp 105,(.own 2 1 (0) ((p1.length:Int).toNat))),(.tmp 106,I y45)] [(2,(Qhv y38))] (.ref 2 1 (y45.toNat) 0)),(3,rb [(.tmp 107,(.ref 2 1 (y45.toNat) 0))] [(2,(Qhv y38))] (I x51)),(5,rb [(.tmp 105,(.own 2 1 (0) ((p1.length:Int).toNat))),(.tmp 106,I y45)] [(2,(Qhv y38))] (.ref 2 1 (y45.toNat) 0)),(6,⟨[(.tmp 110,(.ref 2 1 (y45.toNat) 0)),(.tmp 109,(I (w64 (x51+1))))],[(2,(Qhv y38))],.any,[(2,(.own 1 ((y38.set y45.toNat (w64 (x51+1)):List Int).map Qak)))],false⟩)] ⟨aio rfl Tryz.underlying27 ti3 (odt hi50a) (odt hi50b) (Nat.zero_add _),ald rfl ti3 (by decide) (mgt Qak hg52) (nle rfl) rfl,aio rfl Tryz.underlying27 ti3 (odt hi53a) (odt hi53b) (Nat.zero_add _),ast rfl ti3 (by rfl) (mgt Qak hg55) (nle rfl) (Qgn Qak rfl),trivial⟩ ?_
       refine wxz1 ?_
       refine bln ?_
       refine thn ?_
       exact arm (mto (n:=172) [(1,(Qdw p1)),(2,.ref 0 4 0 0),(5,.ref 1 3 0 0),(6,I y1),(7,(I (w64 (y37 - 1)))),(9,(.own 2 1 (0) ((p1.length:Int).toNat))),(11,(.own 3 1 (0) ((p1.length:Int).toNat)))] [0,1,2,3] [(Qfi p0),Qfa,(.own 1 ((y38.set y45.toNat (w64 (x51+1)):List Int).map Qak)),(.own 1 ((y39.set y45.toNat true:List Bool).map Qmo))] hφ0 (pc (rnd Qae) (pc (.rn (rqr rfl)) (pc (.rn (rqr rfl)) (pc rwl (pc rwl (pc (.rn (Qa4 rfl)) (pc (.rn (Qa4 rfl)) pn))))))) (qc (spb (lcc (lcc ln))) (qc (spb (lcc (lc rwl ln))) (qc (spr Qae) (qc (spr Qng) qn))))) (ih (w64 (y37 - 1),y38.set y45.toNat (w64 (x51+1)),y39.set y45.toNat true) h)
      ·skip
       refine wxz ?_
       refine Qam ?_
       refine wmr (mto (n:=172) (l':=[(1,(Qdw p1)),(2,.ref 0 4 0 0),(5,.ref 1 3 0 0),(6,I y1),(7,I y37),(9,(.own 2 1 (0) ((p1.length:Int).toNat))),(11,(.own 3 1 (0) ((p1.length:Int).toNat))),(12,(I ((-1)))),(13,I 0)]) (own':=[(Qfi p0),Qfa,(Qhv y38),(Qg6 y39)]) [(1,(Qdw p1)),(2,.ref 0 4 0 0),(5,.ref 1 3 0 0),(6,I y1),(7,I y37),(9,(.own 2 1 (0) ((p1.length:Int).toNat))),(11,(.own 3 1 (0) ((p1.length:Int).toNat))),(12,(I ((-1)))),(13,I 0)] [0,1,2,3] [(Qfi p0),Qfa,(Qhv y38),(Qg6 y39)] hφ0 (pc (rnd Qae) (pc (.rn (rqr rfl)) (pc (.rn (rqr rfl)) (pc rwl (pc rwl (pc (.rn (Qa4 rfl)) (pc (.rn (Qa4 rfl)) (pc rwl (pc rwl pn))))))))) (qc (spb (lcc (lcc ln))) (qc (spb (lcc (lc rwl ln))) (qc (spr Qae) (qc (spr Qng) qn))))) ?_
       refine Qbw (τ:=Int×Int) (fun n t=>Qcv N p0 p1 y1 y39 k46 n t.1 t.2=some r) (fun ⟨y56,y57⟩=>⟨mk 172 [(1,(Qdw p1)),(2,.ref 0 4 0 0),(5,.ref 1 3 0 0),(6,I y1),(7,I y37),(9,(.own 2 1 (0) ((p1.length:Int).toNat))),(11,(.own 3 1 (0) ((p1.length:Int).toNat))),(12,I y56),(13,I y57)],[(Qfi p0),Qfa,(Qhv y38),(Qg6 y39)]⟩) (fun t h=>by rw [Qcv] at h; cases h) (fun n60 ih t h=>?_) N ((-1),0) h
       obtain ⟨y56,y57⟩:=t
       rw [Qcv] at h
       skip
       refine wsq ?_
       refine wx tbk [(2,rp [(.tmp 66,(Qdw p1))] (I ((p1.length:Int))))] ⟨alm (c:=Qak) (l:=p1) (aln rfl Tryz.underlying27 rfl),trivial⟩ ?_
       refine bfe h (fun hc61 h=>?_) fun hc61 h=>?_
       ·refine wft hc61 ?_
        refine Qan ?_
        refine thn ?_
        refine wsq ?_
        refine Qam ?_
        obtain ⟨hi62,h⟩:=cko h
        obtain ⟨hi62a,hi62b⟩:=Qdv hi62
        obtain ⟨x63,hg64,h⟩:=bno h
        refine bfe h (fun hb65 h=>?_) fun hb65 h=>?_
        ·refine bfe h (fun hb66 h=>?_) fun hb66 h=>?_
         ·refine wxd tbk [(2,rb [(.tmp 71,(.own 3 1 (0) ((p1.length:Int).toNat))),(.tmp 72,I y57)] [(3,(Qg6 y39))] (.ref 3 1 (y57.toNat) 0)),(3,rb [(.tmp 73,(.ref 3 1 (y57.toNat) 0))] [(3,(Qg6 y39))] (B x63)),(5,rp [(.tmp 75,(B ((!x63))))] (B true)),(8,rp [(.tmp 76,B true),(.tmp 78,(B ((decide (y56<0)))))] (B true))] ⟨aio rfl Tryz.underlying185 ti4 (odt hi62a) (odt hi62b) (Nat.zero_add _),ald rfl ti4 (by decide) (mgt Qmo hg64) (nle rfl) rfl,asb hb65 (amv rfl),asb hb66 (ag_ (amv rfl)),trivial⟩ ?_
          refine wtr ?_
          refine wxz1 ?_
          refine bln ?_
          refine thn ?_
          refine wxz1 ?_
          refine thn ?_
          exact arm (mto (n:=172) [(1,(Qdw p1)),(2,.ref 0 4 0 0),(5,.ref 1 3 0 0),(6,I y1),(7,I y37),(9,(.own 2 1 (0) ((p1.length:Int).toNat))),(11,(.own 3 1 (0) ((p1.length:Int).toNat))),(12,I y57),(13,(I (w64 (y57+1))))] [0,1,2,3] [(Qfi p0),Qfa,(Qhv y38),(Qg6 y39)] hφ0 (pc (rnd Qae) (pc (.rn (rqr rfl)) (pc (.rn (rqr rfl)) (pc rwl (pc rwl (pc (.rn (Qa4 rfl)) (pc (.rn (Qa4 rfl)) (pc rwl (pc rwl pn))))))))) (qc (spb (lcc (lcc ln))) (qc (spb (lcc (lc rwl ln))) (qc (spr Qae) (qc (spr Qng) qn))))) (ih (y57,w64 (y57+1)) h)
         ·obtain ⟨x67,hg68,h⟩:=bno h
          obtain ⟨hi69,hj70⟩:=gsm hg68
          obtain ⟨hz71,h⟩:=cko h
          obtain ⟨x72,hg73,h⟩:=bno h
          obtain ⟨hi74,hj75⟩:=gsm hg73
          obtain ⟨hz76,h⟩:=cko h
          refine wxd tbk [(2,rb [(.tmp 71,(.own 3 1 (0) ((p1.length:Int).toNat))),(.tmp 72,I y57)] [(3,(Qg6 y39))] (.ref 3 1 (y57.toNat) 0)),(3,rb [(.tmp 73,(.ref 3 1 (y57.toNat) 0))] [(3,(Qg6 y39))] (B x63)),(5,rp [(.tmp 75,(B ((!x63))))] (B true)),(8,rp [(.tmp 76,B true),(.tmp 78,(B ((decide (y56<0)))))] (B false)),(13,rp [(.tmp 79,B false),(.tmp 82,(Qdw p1)),(.tmp 83,I y57)] (.dptr (Qak (x67)) 0)),(17,rp [(.tmp 79,B false),(.tmp 86,(I (w64 (p0.Mass * x67)))),(.tmp 87,I y1)] (I ((w64 (p0.Mass * x67)).tmod y1))),(22,rp [(.tmp 79,B false),(.tmp 91,(Qdw p1)),(.tmp 92,I y56)] (.dptr (Qak (x72)) 0)),(26,rp [(.tmp 79,B false),(.tmp 95,(I (w64 (p0.Mass * x72)))),(.tmp 96,I y1)] (I ((w64 (p0.Mass * x72)).tmod y1)))] ⟨aio rfl Tryz.underlying185 ti4 (odt hi62a) (odt hi62b) (Nat.zero_add _),ald rfl ti4 (by decide) (mgt Qmo hg64) (nle rfl) rfl,asb hb65 (amv rfl),asb hb66 (ag_ (amv rfl)),ag_ (aid rfl Tryz.underlying27 ti3 rfl rfl hi69 (mgt Qak hj70) rfl),ag_ (Qup rfl (Qk0 hz71)),ag_ (aid rfl Tryz.underlying27 ti3 rfl rfl hi74 (mgt Qak hj75) rfl),ag_ (Qup rfl (Qk0 hz76)),trivial⟩ ?_
          refine bfe h (fun hc77 h=>?_) fun hc77 h=>?_
          ·refine wft hc77 ?_
           refine wxz1 ?_
           refine bln ?_
           refine thn ?_
           refine wxz1 ?_
           refine thn ?_
           exact arm (mto (n:=172) [(1,(Qdw p1)),(2,.ref 0 4 0 0),(5,.ref 1 3 0 0),(6,I y1),(7,I y37),(9,(.own 2 1 (0) ((p1.length:Int).toNat))),(11,(.own 3 1 (0) ((p1.length:Int).toNat))),(12,I y57),(13,(I (w64 (y57+1))))] [0,1,2,3] [(Qfi p0),Qfa,(Qhv y38),(Qg6 y39)] hφ0 (pc (rnd Qae) (pc (.rn (rqr rfl)) (pc (.rn (rqr rfl)) (pc rwl (pc rwl (pc (.rn (Qa4 rfl)) (pc (.rn (Qa4 rfl)) (pc rwl (pc rwl pn))))))))) (qc (spb (lcc (lcc ln))) (qc (spb (lcc (lc rwl ln))) (qc (spr Qae) (qc (spr Qng) qn))))) (ih (y57,w64 (y57+1)) h)
          ·refine wfn hc77 ?_
           refine Qan ?_
           refine bln ?_
           refine thn ?_
           refine wxz1 ?_
           refine thn ?_
           exact arm (mto (n:=172) [(1,(Qdw p1)),(2,.ref 0 4 0 0),(5,.ref 1 3 0 0),(6,I y1),(7,I y37),(9,(.own 2 1 (0) ((p1.length:Int).toNat))),(11,(.own 3 1 (0) ((p1.length:Int).toNat))),(12,I y56),(13,(I (w64 (y57+1))))] [0,1,2,3] [(Qfi p0),Qfa,(Qhv y38),(Qg6 y39)] hφ0 (pc (rnd Qae) (pc (.rn (rqr rfl)) (pc (.rn (rqr rfl)) (pc rwl (pc rwl (pc (.rn (Qa4 rfl)) (pc (.rn (Qa4 rfl)) (pc rwl (pc rwl pn))))))))) (qc (spb (lcc (lcc ln))) (qc (spb (lcc (lc rwl ln))) (qc (spr Qae) (qc (spr Qng) qn))))) (ih (y56,w64 (y57+1)) h)
        ·refine wxd tbk [(2,rb [(.tmp 71,(.own 3 1 (0) ((p1.length:Int).toNat))),(.tmp 72,I y57)] [(3,(Qg6 y39))] (.ref 3 1 (y57.toNat) 0)),(3,rb [(.tmp 73,(.ref 3 1 (y57.toNat) 0))] [(3,(Qg6 y39))] (B x63)),(5,rp [(.tmp 75,(B ((!x63))))] (B false))] ⟨aio rfl Tryz.underlying185 ti4 (odt hi62a) (odt hi62b) (Nat.zero_add _),ald rfl ti4 (by decide) (mgt Qmo hg64) (nle rfl) rfl,asb hb65 (amv rfl),trivial⟩ ?_
         refine wfa ?_
         refine Qan ?_
         refine bln ?_
         refine thn ?_
         refine wxz1 ?_
         refine thn ?_
         exact arm (mto (n:=172) [(1,(Qdw p1)),(2,.ref 0 4 0 0),(5,.ref 1 3 0 0),(6,I y1),(7,I y37),(9,(.own 2 1 (0) ((p1.length:Int).toNat))),(11,(.own 3 1 (0) ((p1.length:Int).toNat))),(12,I y56),(13,(I (w64 (y57+1))))] [0,1,2,3] [(Qfi p0),Qfa,(Qhv y38),(Qg6 y39)] hφ0 (pc (rnd Qae) (pc (.rn (rqr rfl)) (pc (.rn (rqr rfl)) (pc rwl (pc rwl (pc (.rn (Qa4 rfl)) (pc (.rn (Qa4 rfl)) (pc rwl (pc rwl pn))))))))) (qc (spb (lcc (lcc ln))) (qc (spb (lcc (lc rwl ln))) (qc (spr Qae) (qc (spr Qng) qn))))) (ih (y56,w64 (y57+1)) h)
       ·refine wfn hc61 ?_
        refine Qbh ?_
        refine Qax ?_
        refine Qax ?_
        refine Qbg rfl ?_
        refine thn ?_
        exact ⟨(y56),h,(mto (n:=172) [(1,(Qdw p1)),(2,.ref 0 4 0 0),(5,.ref 1 3 0 0),(6,I y1),(7,I y37),(9,(.own 2 1 (0) ((p1.length:Int).toNat))),(11,(.own 3 1 (0) ((p1.length:Int).toNat))),(12,I y56)] [0,1,2,3] [(Qfi p0),Qfa,(Qhv y38),(Qg6 y39)] hφ0 (pc (rnd Qae) (pc (.rn (rqr rfl)) (pc (.rn (rqr rfl)) (pc rwl (pc rwl (pc (.rn (Qa4 rfl)) (pc (.rn (Qa4 rfl)) (pc rwl pn)))))))) (qc (spb (lcc (lcc ln))) (qc (spb (lcc (lc rwl ln))) (qc (spr Qae) (qc (spr Qng) qn)))))⟩
     ·refine wfn hc44 ?_
      refine Qbh ?_
      refine Qax ?_
      refine Qax ?_
      refine Qbg rfl ?_
      refine thn ?_
      exact ⟨(y38),h,(mto (n:=172) [(1,(Qdw p1)),(2,.ref 0 4 0 0),(5,.ref 1 3 0 0),(9,(.own 2 1 (0) ((p1.length:Int).toNat)))] [0,1,2] [(Qfi p0),Qfa,(Qhv y38)] hφ0 (pc (rnd Qae) (pc (.rn (rqr rfl)) (pc (.rn (rqr rfl)) (pc (.rn (Qa4 rfl)) pn)))) (qc (spb (lcc (lcc ln))) (qc (spb (lcc (lc rwl ln))) (qc (spr Qae) qn))))⟩
   ·skip
    refine wxz ?_
    refine Qam ?_
    refine wmr (mto (n:=172) (l':=[(1,(Qdw p1)),(2,.ref 0 4 0 0),(5,.ref 1 3 0 0),(6,I y1),(7,I p0.Mass),(9,(.own 2 1 (0) ((p1.length:Int).toNat))),(10,I 0)]) (own':=[(Qfi p0),Qfa,(.own 1 (((List.replicate (p1.length:Int).toNat 0):List Int).map Qak))]) [(1,(Qdw p1)),(2,.ref 0 4 0 0),(5,.ref 1 3 0 0),(6,I y1),(7,I p0.Mass),(9,(.own 2 1 (0) ((p1.length:Int).toNat))),(10,I 0)] [0,1,2] [(Qfi p0),Qfa,(Zgo p1)] hφ0 (pc (rnd Qae) (pc (.rn (rqr rfl)) (pc (.rn (rqr rfl)) (pc rwl (pc rwl (pc (.rn (Qa4 rfl)) (pc rwl pn))))))) (qc (spb (lcc (lcc ln))) (qc (spb (lcc (lc rwl ln))) (qc (spr Qae) qn)))) ?_
    refine Qbw (τ:=Int×Int×(List Int)) (fun n t=>Qec N p0 p1 y1 k6 n t.1 t.2.1 t.2.2=some r) (fun ⟨y78,y79,y80⟩=>⟨mk 172 [(1,(Qdw p1)),(2,.ref 0 4 0 0),(5,.ref 1 3 0 0),(6,I y1),(7,I y78),(9,(.own 2 1 (0) ((p1.length:Int).toNat))),(10,I y79)],[(Qfi p0),Qfa,(Qwx y80)]⟩) (fun t h=>by rw [Qec] at h; cases h) (fun n84 ih t h=>?_) N (p0.Mass,0,List.replicate (p1.length:Int).toNat 0) h
    obtain ⟨y78,y79,y80⟩:=t
    rw [Qec] at h
    skip
    refine wsq ?_
    refine wx tbk [(2,rp [(.tmp 37,(Qdw p1))] (I ((p1.length:Int))))] ⟨alm (c:=Qak) (l:=p1) (aln rfl Tryz.underlying27 rfl),trivial⟩ ?_
    refine bfe h (fun hc85 h=>?_) fun hc85 h=>?_
    ·refine wft hc85 ?_
     refine Qan ?_
     refine thn ?_
     refine wsq ?_
     refine Qam ?_
     obtain ⟨x86,hg87,h⟩:=bno h
     obtain ⟨hi88,hj89⟩:=gsm hg87
     obtain ⟨hz90,h⟩:=cko h
     obtain ⟨hi91,h⟩:=cko h
     obtain ⟨hi91a,hi91b⟩:=Qdv hi91
     obtain ⟨x92,hg93,h⟩:=bno h
     refine wxd tbk [(6,rp [(.tmp 46,(Qdw p1)),(.tmp 47,I y79)] (.dptr (Qak (x86)) 0)),(10,rp [(.tmp 50,(I (w64 (p0.Mass * x86)))),(.tmp 51,I y1)] (I (w64 ((w64 (p0.Mass * x86)).tdiv y1)))),(11,rb [(.tmp 42,(.own 2 1 (0) ((p1.length:Int).toNat))),(.tmp 43,I y79)] [(2,(Qwx y80))] (.ref 2 1 (y79.toNat) 0)),(12,⟨[(.tmp 53,(.ref 2 1 (y79.toNat) 0)),(.tmp 52,(I (w64 ((w64 (p0.Mass * x86)).tdiv y1))))],[(2,(Qwx y80))],.any,[(2,(Qww y80 y79 p0 x86 y1))],false⟩)] ⟨aid rfl Tryz.underlying27 ti3 rfl rfl hi88 (mgt Qak hj89) rfl,Qjx rfl (Qk0 hz90),aio rfl Tryz.underlying27 ti3 (odt hi91a) (odt hi91b) (Nat.zero_add _),ast rfl ti3 (by rfl) (mgt Qak hg93) (nle rfl) (Qgn Qak rfl),trivial⟩ ?_
     obtain ⟨hi94,h⟩:=cko h
     obtain ⟨hi94a,hi94b⟩:=Qdv hi94
     obtain ⟨x95,hg96,h⟩:=bno h
     refine wx1 tbk [(3,rb [(.tmp 55,(.own 2 1 (0) ((p1.length:Int).toNat))),(.tmp 56,I y79)] [(2,(Qww y80 y79 p0 x86 y1))] (.ref 2 1 (y79.toNat) 0)),(4,rb [(.tmp 57,(.ref 2 1 (y79.toNat) 0))] [(2,(Qww y80 y79 p0 x86 y1))] (I x95))] ⟨aio rfl Tryz.underlying27 ti3 (odt hi94a) (odt hi94b) (Nat.zero_add _),ald rfl ti3 (by decide) (mgt Qak hg96) (nle rfl) rfl,trivial⟩ ?_
     refine bln ?_
     refine thn ?_
     refine wxz1 ?_
     refine thn ?_
     exact arm (mto (n:=172) [(1,(Qdw p1)),(2,.ref 0 4 0 0),(5,.ref 1 3 0 0),(6,I y1),(7,(I (w64 (y78 - x95)))),(9,(.own 2 1 (0) ((p1.length:Int).toNat))),(10,(I (w64 (y79+1))))] [0,1,2] [(Qfi p0),Qfa,(Qww y80 y79 p0 x86 y1)] hφ0 (pc (rnd Qae) (pc (.rn (rqr rfl)) (pc (.rn (rqr rfl)) (pc rwl (pc rwl (pc (.rn (Qa4 rfl)) (pc rwl pn))))))) (qc (spb (lcc (lcc ln))) (qc (spb (lcc (lc rwl ln))) (qc (spr Qae) qn)))) (ih (w64 (y78 - x95),w64 (y79+1),y80.set y79.toNat (w64 ((w64 (p0.Mass * x86)).tdiv y1))) h)
    ·refine wfn hc85 ?_
     refine Qbh ?_
     refine Qax ?_
     refine Qax ?_
     refine Qbg rfl ?_
     refine thn ?_
     exact ⟨(y78,y80),h,(mto (n:=172) [(1,(Qdw p1)),(2,.ref 0 4 0 0),(5,.ref 1 3 0 0),(6,I y1),(7,I y78),(9,(.own 2 1 (0) ((p1.length:Int).toNat)))] [0,1,2] [(Qfi p0),Qfa,(Qwx y80)] hφ0 (pc (rnd Qae) (pc (.rn (rqr rfl)) (pc (.rn (rqr rfl)) (pc rwl (pc rwl (pc (.rn (Qa4 rfl)) pn)))))) (qc (spb (lcc (lcc ln))) (qc (spb (lcc (lc rwl ln))) (qc (spr Qae) qn))))⟩
  ·skip
   refine wxz ?_
   refine Qam ?_
   refine wmr (mto (n:=172) (l':=[(1,(Qdw p1)),(2,.ref 0 4 0 0),(5,.ref 1 3 0 0),(6,I 0),(7,I p0.Mass),(8,I 0)]) (own':=[(Qfi p0),Qfa]) [(1,(Qdw p1)),(2,.ref 0 4 0 0),(5,.ref 1 3 0 0),(6,I 0),(7,I p0.Mass),(8,I 0)] [0,1] [(Qfi p0),Qfa] hφ0 (pc (rnd Qae) (pc (.rn (rqr rfl)) (pc (.rn (rqr rfl)) (pc rwl (pc rwl (pc rwl pn)))))) (qc (spb (lcc (lcc ln))) (qc (spb (lcc (lc rwl ln))) qn))) ?_
   refine Qbw (τ:=Int×Int) (fun n t=>Qeb N p1 k2 n t.1 t.2=some r) (fun ⟨y97,y98⟩=>⟨mk 172 [(1,(Qdw p1)),(2,.ref 0 4 0 0),(5,.ref 1 3 0 0),(6,I y97),(7,I p0.Mass),(8,I y98)],[(Qfi p0),Qfa]⟩) (fun t h=>by rw [Qeb] at h; cases h) (fun n101 ih t h=>?_) N (0,0) h
   obtain ⟨y97,y98⟩:=t
   rw [Qeb] at h
   skip
   refine wsq ?_
   refine wx tbk [(2,rp [(.tmp 22,(Qdw p1))] (I ((p1.length:Int))))] ⟨alm (c:=Qak) (l:=p1) (aln rfl Tryz.underlying27 rfl),trivial⟩ ?_
   refine bfe h (fun hc102 h=>?_) fun hc102 h=>?_
   ·refine wft hc102 ?_
    refine Qan ?_
    refine thn ?_
    refine wsq ?_
    refine Qam ?_
    obtain ⟨x103,hg104,h⟩:=bno h
    obtain ⟨hi105,hj106⟩:=gsm hg104
    refine wx1 tbk [(3,rp [(.tmp 28,(Qdw p1)),(.tmp 29,I y98)] (.dptr (Qak (x103)) 0))] ⟨aid rfl Tryz.underlying27 ti3 rfl rfl hi105 (mgt Qak hj106) rfl,trivial⟩ ?_
    refine bln ?_
    refine thn ?_
    refine wxz1 ?_
    refine thn ?_
    exact arm (mto (n:=172) [(1,(Qdw p1)),(2,.ref 0 4 0 0),(5,.ref 1 3 0 0),(6,(I (w64 (y97+x103)))),(7,I p0.Mass),(8,(I (w64 (y98+1))))] [0,1] [(Qfi p0),Qfa] hφ0 (pc (rnd Qae) (pc (.rn (rqr rfl)) (pc (.rn (rqr rfl)) (pc rwl (pc rwl (pc rwl pn)))))) (qc (spb (lcc (lcc ln))) (qc (spb (lcc (lc rwl ln))) qn))) (ih (w64 (y97+x103),w64 (y98+1)) h)
   ·refine wfn hc102 ?_
    refine Qbh ?_
    refine Qax ?_
    refine Qax ?_
    refine Qbg rfl ?_
    refine thn ?_
    exact ⟨(y97),h,(mto (n:=172) [(1,(Qdw p1)),(2,.ref 0 4 0 0),(5,.ref 1 3 0 0),(6,I y97),(7,I p0.Mass)] [0,1] [(Qfi p0),Qfa] hφ0 (pc (rnd Qae) (pc (.rn (rqr rfl)) (pc (.rn (rqr rfl)) (pc rwl (pc rwl pn))))) (qc (spb (lcc (lcc ln))) (qc (spb (lcc (lc rwl ln))) qn)))⟩
def Qdf (N:Nat) (p0:(List GStream)) (k1:Unit→Option Bool):Nat→Int→Option Bool
  | 0,_=>none
  | n4+1,y2=>
    bif (decide (y2<(p0.length:Int))) then
     (getI p0 y2).bind fun x6=>
     (Qf7 N x6).bind fun x11=>
     bif (!x11) then
      some false
     else
      Qdf N p0 k1 n4 (w64 (y2+1))
    else
     k1 ()
def Qhr (N:Nat) (p0:(List GStream)):Option Bool:=
  Qbf (fun _=>
    some true) fun k1:Unit→Option Bool=>
  Qdf N p0 k1 N 0
def Qvk (p0:(List GStream)):AV:=.dat 4 ((p0:List GStream).map Qaa)
def Zgn (x6:GStream):AV:=.agg [(I (x6.Mass)),(I (x6.Heat)),(I (x6.Silica)),(I (x6.Gas))]
theorem Qqx (N:Nat) (p0:(List GStream)) (r:Bool) (h:Qhr N p0=some r):Spec Tryz.prog 98 [(.dat 4 (p0.map Qaa))] [] (B r) []:=by
  refine Qai Tryz.func98 rfl 0 (nle rfl) (fun X φ0 w0 hφ0 hd0=>?_)
  unfold Qhr at h
  refine wxz ?_
  obtain ⟨k1,hk_k1,h⟩:=jko h
  refine wjn (τ:=Unit) (fun t=>k1 t=some r) (fun _=>⟨mk 16 [],[]⟩) (fun t h=>?_) ?_
  ·subst hk_k1
   refine wxz ?_
   refine Qag ?_
   obtain rfl:=osi h
   exact fend ⟨[B true],⟨rot,trivial⟩,rfl⟩ nll
  ·skip
   refine wxz ?_
   refine Qam ?_
   refine wmr (mto (n:=16) (l':=[(0,(Qvk p0)),(3,I 0)]) (own':=[]) [(0,(Qvk p0)),(3,I 0)] [] [] hφ0 (pc (rnd Qac) (pc rwl pn)) qn) ?_
   refine Qbw (τ:=Int) (fun n t=>Qdf N p0 k1 n t=some r) (fun y2=>⟨mk 16 [(0,(Qvk p0)),(3,I y2)],[]⟩) (fun t h=>by rw [Qdf] at h; cases h) (fun n4 ih y2 h=>?_) N (0) h
   rw [Qdf] at h
   skip
   refine wsq ?_
   refine wx tbk [(2,rp [(.tmp 5,(Qvk p0))] (I ((p0.length:Int))))] ⟨alm (c:=Qaa) (l:=p0) (aln rfl Tryz.underlying28 rfl),trivial⟩ ?_
   refine bfe h (fun hc5 h=>?_) fun hc5 h=>?_
   ·refine wft hc5 ?_
    refine Qan ?_
    refine thn ?_
    refine wsq ?_
    refine Qam ?_
    obtain ⟨x6,hg7,h⟩:=bno h
    obtain ⟨hi8,hj9⟩:=gsm hg7
    obtain ⟨x11,hf10,h⟩:=bno h
    refine wx tbk [(2,rp [(.tmp 10,(Qvk p0)),(.tmp 11,I y2)] (.dptr (Qaa (x6)) 0)),(4,rp [fu 121,(.tmp 13,(Zgn x6))] (B x11))] ⟨aid rfl Tryz.underlying28 ti89 rfl rfl hi8 (mgt Qaa hj9) rfl,apc (first:=[]) (cap:=[]) (vs:=[(Zgn x6)]) rfl Ze2 (Qnd N x6 _ hf10) rfl rfl (nlc (NLt.agg _ (nlcc (nlcc nl0))) nl0) nll rfl,trivial⟩ ?_
    refine bfe h (fun hc12 h=>?_) fun hc12 h=>?_
    ·refine wft hc12 ?_
     refine wxz ?_
     refine Qag ?_
     refine Qao ?_
     refine Qah ?_
     refine Qah ?_
     refine Qao ?_
     refine Qah ?_
     obtain rfl:=osi h
     exact fend ⟨[B false],⟨rot,trivial⟩,rfl⟩ nll
    ·refine wfn hc12 ?_
     refine Qan ?_
     refine bln ?_
     refine thn ?_
     refine wxz1 ?_
     refine thn ?_
     exact arm (mto (n:=16) [(0,(Qvk p0)),(3,(I (w64 (y2+1))))] [] [] hφ0 (pc (rnd Qac) (pc rwl pn)) qn) (ih (w64 (y2+1)) h)
   ·refine wfn hc5 ?_
    refine Qbh ?_
    refine Qax ?_
    refine Qax ?_
    refine Qbg rfl ?_
    refine thn ?_
    exact ⟨(),h,(mto (n:=16) [] [] [] hφ0 pn qn)⟩
def Qdj (N:Nat) (p0:GNet) (p1:Int) (k2:Int→Option Int):Nat→Int→Int→Option Int
  | 0,_,_=>none
  | n7+1,y3,y4=>
    bif (decide (y4<(p0.Elements.length:Int))) then
     (getI p0.Elements y4).bind fun x9=>
     bif (x9.Kind==p1) then
      Qdj N p0 p1 k2 n7 (w64 (y3+1)) (w64 (y4+1))
     else
      Qdj N p0 p1 k2 n7 y3 (w64 (y4+1))
    else
     k2 (y3)
def Qjp (N:Nat) (p0:GNet) (p1:Int):Option Int:=
  Qbf (fun y1=>
    some y1) fun k2:Int→Option Int=>
  Qdj N p0 p1 k2 N 0 0
def Q9b (p0:GNet):AV:=.dat 7 ((p0.Elements:List GElement).map Qad)
def Qy3 (p0:GNet):Slot:=.own 2 [[(.dat 5 ((p0.Table:List GRow).map Qa0)),(Q9b p0)]]
theorem Qnb (N:Nat) (p0:GNet) (p1:Int) (r:Int) (h:Qjp N p0 p1=some r):Spec Tryz.prog 29 [(.agg (Qis p0)),(K .u8 p1)] [] (I r) []:=by
  refine Qai Tryz.func29 rfl 0 (nle rfl) (fun X φ0 w0 hφ0 hd0=>?_)
  unfold Qjp at h
  refine wxz ?_
  refine wxz ?_
  obtain ⟨k2,hk_k2,h⟩:=jko h
  refine wjn (τ:=Int) (fun t=>k2 t=some r) (fun y1=>⟨mk 25 [(5,I y1)],[]⟩) (fun y1 h=>?_) ?_
  ·subst hk_k2
   refine wxz ?_
   refine Qag ?_
   obtain rfl:=osi h
   exact fend ⟨[I y1],⟨rot,trivial⟩,rfl⟩ nll
  ·skip
   refine wxz ?_
   refine Qam ?_
   refine wmr (mto (n:=25) (l':=[(1,(K .u8 (p1))),(2,.ref 0 2 0 0),(5,I 0),(6,I 0)]) (own':=[(Qy3 p0)]) [(1,(K .u8 (p1))),(2,.ref 0 2 0 0),(5,I 0),(6,I 0)] [0] [(Qy3 p0)] hφ0 (pc rwl (pc (.rn (rqr rfl)) (pc rwl (pc rwl pn)))) (qc (spb (lc (rnd Qal) (lc (rnd Qab) ln))) qn)) ?_
   refine Qbw (τ:=Int×Int) (fun n t=>Qdj N p0 p1 k2 n t.1 t.2=some r) (fun ⟨y3,y4⟩=>⟨mk 25 [(1,(K .u8 (p1))),(2,.ref 0 2 0 0),(5,I y3),(6,I y4)],[(Qy3 p0)]⟩) (fun t h=>by rw [Qdj] at h; cases h) (fun n7 ih t h=>?_) N (0,0) h
   obtain ⟨y3,y4⟩:=t
   rw [Qdj] at h
   skip
   refine wsq ?_
   refine wx tbk [(3,rp [(.tmp 9,(Q9b p0))] (I ((p0.Elements.length:Int))))] ⟨alm (c:=Qad) (l:=p0.Elements) (aln rfl Tryz.underlying24 rfl),trivial⟩ ?_
   refine bfe h (fun hc8 h=>?_) fun hc8 h=>?_
   ·refine wft hc8 ?_
    refine Qan ?_
    refine thn ?_
    refine wsq ?_
    refine Qam ?_
    obtain ⟨x9,hg10,h⟩:=bno h
    obtain ⟨hi11,hj12⟩:=gsm hg10
    refine wx tbk [(3,rp [(.tmp 15,(Q9b p0)),(.tmp 16,I y4)] (.dptr (Qad (x9)) 0))] ⟨aid rfl Tryz.underlying24 ti59 rfl rfl hi11 (mgt Qad hj12) rfl,trivial⟩ ?_
    refine bfe h (fun hc13 h=>?_) fun hc13 h=>?_
    ·refine wft hc13 ?_
     refine wxz1 ?_
     refine bln ?_
     refine thn ?_
     refine wxz1 ?_
     refine thn ?_
     exact arm (mto (n:=25) [(1,(K .u8 (p1))),(2,.ref 0 2 0 0),(5,(I (w64 (y3+1)))),(6,(I (w64 (y4+1))))] [0] [(Qy3 p0)] hφ0 (pc rwl (pc (.rn (rqr rfl)) (pc rwl (pc rwl pn)))) (qc (spb (lc (rnd Qal) (lc (rnd Qab) ln))) qn)) (ih (w64 (y3+1),w64 (y4+1)) h)
    ·refine wfn hc13 ?_
     refine Qan ?_
     refine bln ?_
     refine thn ?_
     refine wxz1 ?_
     refine thn ?_
     exact arm (mto (n:=25) [(1,(K .u8 (p1))),(2,.ref 0 2 0 0),(5,I y3),(6,(I (w64 (y4+1))))] [0] [(Qy3 p0)] hφ0 (pc rwl (pc (.rn (rqr rfl)) (pc rwl (pc rwl pn)))) (qc (spb (lc (rnd Qal) (lc (rnd Qab) ln))) qn)) (ih (y3,w64 (y4+1)) h)
   ·refine wfn hc8 ?_
    refine Qbh ?_
    refine Qax ?_
    refine Qax ?_
    refine Qbg rfl ?_
    refine thn ?_
    exact ⟨(y3),h,(mto (n:=25) [(5,I y3)] [] [] hφ0 (pc rwl pn) qn)⟩
def Qg3 (N:Nat) (p0:GNet) (p1:(List GStream)):Option Int:=
  Qbf (fun _=>
    (Qhj N p1).bind fun x3=>
    bif (decide (x3.Mass>1000000)) then
     some 3
    else
     bif (decide (x3.Gas>1000000000)) then
      some 3
     else
      some 0) fun k1:Unit→Option Int=>
  (Qjp N p0 1).bind fun x7=>
  bif ((p1.length:Int) != x7) then
   some 1
  else
   (Qhr N p1).bind fun x10=>
   bif (!x10) then
    some 1
   else
    k1 ()
def Qrn (p1:(List GStream)):AV:=.dat 4 ((p1:List GStream).map Qaa)
def Zl1 (p0:GNet):AV:=.dat 7 ((p0.Elements:List GElement).map Qad)
def Q4b (p0:GNet):AV:=.agg [(.dat 5 ((p0.Table:List GRow).map Qa0)),(Zl1 p0)]
theorem Qou (N:Nat) (p0:GNet) (p1:(List GStream)) (r:Int) (h:Qg3 N p0 p1=some r):Spec Tryz.prog 61 [(.agg (Qis p0)),(.dat 4 (p1.map Qaa))] [] (I r) []:=by
  refine Qai Tryz.func61 rfl 0 (nle rfl) (fun X φ0 w0 hφ0 hd0=>?_)
  unfold Qg3 at h
  refine wxz ?_
  obtain ⟨k1,hk_k1,h⟩:=jko h
  refine wjn (τ:=Unit) (fun t=>k1 t=some r) (fun _=>⟨mk 26 [(1,(Qrn p1))],[]⟩) (fun t h=>?_) ?_
  ·subst hk_k1
   obtain ⟨x3,hf2,h⟩:=bno h
   refine wx tbk [(1,rp [fu 38,(.tmp 16,(Qrn p1))] (.agg [I x3.Mass,I x3.Heat,I x3.Silica,I x3.Gas]))] ⟨apc (first:=[]) (cap:=[]) (vs:=[(Qrn p1)]) rfl Q2m (Ql6 N p1 _ hf2) rfl rfl (nlc (nld Qac _) nl0) (NLt.agg _ (nlcc (nlcc nl0))) rfl,trivial⟩ ?_
   refine wsq ?_
   refine bfe h (fun hb4 h=>?_) fun hb4 h=>?_
   ·refine wx tbk [(3,rp [(.tmp 20,(B ((decide (x3.Mass>1000000)))))] (B true))] ⟨asb hb4 (amv rfl),trivial⟩ ?_
    refine wtr ?_
    refine wxz ?_
    refine Qag ?_
    refine Qah ?_
    obtain rfl:=osi h
    exact fend ⟨[I 3],⟨rot,trivial⟩,rfl⟩ nll
   ·refine wx tbk [(3,rp [(.tmp 20,(B ((decide (x3.Mass>1000000)))))] (B false))] ⟨asb hb4 (amv rfl),trivial⟩ ?_
    refine bfe h (fun hc5 h=>?_) fun hc5 h=>?_
    ·refine wft hc5 ?_
     refine wxz ?_
     refine Qag ?_
     refine Qah ?_
     obtain rfl:=osi h
     exact fend ⟨[I 3],⟨rot,trivial⟩,rfl⟩ nll
    ·refine wfn hc5 ?_
     refine Qan ?_
     refine thn ?_
     refine wxz ?_
     refine Qag ?_
     obtain rfl:=osi h
     exact fend ⟨[I 0],⟨rot,trivial⟩,rfl⟩ nll
  ·skip
   obtain ⟨x7,hf6,h⟩:=bno h
   refine bfe h (fun hb8 h=>?_) fun hb8 h=>?_
   ·refine wx tbk [(1,rp [(.tmp 6,(Qrn p1))] (I ((p1.length:Int)))),(3,rp [fu 29,(.tmp 8,(Q4b p0)),(.const (.int .u8 1),(K .u8 (1)))] (I x7)),(5,rp [(.tmp 10,(B (((p1.length:Int) != x7))))] (B true))] ⟨alm (c:=Qaa) (l:=p1) (aln rfl Tryz.underlying28 rfl),apc (first:=[]) (cap:=[]) (vs:=[(Q4b p0),(K .u8 (1))]) rfl Za8 (Qnb N p0 1 _ hf6) rfl rfl (nlc (NLt.agg _ (nlc (nld Qal _) (nlc (nld Qab _) nl0))) (nlc nll nl0)) nll rfl,asb hb8 (amv rfl),trivial⟩ ?_
    refine wtr ?_
    refine wxz ?_
    refine Qag ?_
    refine Qah ?_
    obtain rfl:=osi h
    exact fend ⟨[I 1],⟨rot,trivial⟩,rfl⟩ nll
   ·obtain ⟨x10,hf9,h⟩:=bno h
    refine wx tbk [(1,rp [(.tmp 6,(Qrn p1))] (I ((p1.length:Int)))),(3,rp [fu 29,(.tmp 8,(Q4b p0)),(.const (.int .u8 1),(K .u8 (1)))] (I x7)),(5,rp [(.tmp 10,(B (((p1.length:Int) != x7))))] (B false)),(7,rp [(.tmp 11,B false),fu 98,(.tmp 12,(Qrn p1))] (B x10))] ⟨alm (c:=Qaa) (l:=p1) (aln rfl Tryz.underlying28 rfl),apc (first:=[]) (cap:=[]) (vs:=[(Q4b p0),(K .u8 (1))]) rfl Za8 (Qnb N p0 1 _ hf6) rfl rfl (nlc (NLt.agg _ (nlc (nld Qal _) (nlc (nld Qab _) nl0))) (nlc nll nl0)) nll rfl,asb hb8 (amv rfl),ag_ (apc (first:=[]) (cap:=[]) (vs:=[(Qrn p1)]) rfl Zka (Qqx N p1 _ hf9) rfl rfl (nlc (nld Qac _) nl0) nll rfl),trivial⟩ ?_
    refine bfe h (fun hc11 h=>?_) fun hc11 h=>?_
    ·refine wft hc11 ?_
     refine wxz ?_
     refine Qag ?_
     refine Qah ?_
     obtain rfl:=osi h
     exact fend ⟨[I 1],⟨rot,trivial⟩,rfl⟩ nll
    ·refine wfn hc11 ?_
     refine Qan ?_
     refine thn ?_
     exact ⟨(),h,(mto (n:=26) [(1,(Qrn p1))] [] [] hφ0 (pc (rnd Qac) pn) qn)⟩
def Qju (N:Nat) (p0:GNet) (p1:(List Int)) (p2:(List GStream)):Option Int:=
  (Qjo N p0).bind fun x2=>
  bif (!x2) then
   some 1
  else
   (Qgo N p0 p1).bind fun x5=>
   bif (!x5) then
    some 1
   else
    (Qg3 N p0 p2).bind fun x8=>
    some x8
def Zl0 (p0:GNet):AV:=.dat 7 ((p0.Elements:List GElement).map Qad)
def Qrm (p0:GNet):AV:=.agg [(.dat 5 ((p0.Table:List GRow).map Qa0)),(Zl0 p0)]
theorem Qt3 (N:Nat) (p0:GNet) (p1:(List Int)) (p2:(List GStream)) (r:Int) (h:Qju N p0 p1 p2=some r):Spec Tryz.prog 20 [(.agg (Qis p0)),(.dat 1 (p1.map Qak)),(.dat 4 (p2.map Qaa))] [] (I r) []:=by
  refine Qai Tryz.func20 rfl 0 (nle rfl) (fun X φ0 w0 hφ0 hd0=>?_)
  unfold Qju at h
  refine wxz ?_
  refine wsq ?_
  obtain ⟨x2,hf1,h⟩:=bno h
  refine bfe h (fun hb3 h=>?_) fun hb3 h=>?_
  ·refine wx tbk [(1,rp [fu 28,(.tmp 7,(Qrm p0))] (B x2)),(3,rp [(.tmp 9,(B ((!x2))))] (B true))] ⟨apc (first:=[]) (cap:=[]) (vs:=[(Qrm p0)]) rfl Za9 (Qm9 N p0 _ hf1) rfl rfl (nlc (NLt.agg _ (nlc (nld Qal _) (nlc (nld Qab _) nl0))) nl0) nll rfl,asb hb3 (amv rfl),trivial⟩ ?_
   refine wtr ?_
   refine wxz ?_
   refine Qag ?_
   refine Qah ?_
   obtain rfl:=osi h
   exact fend ⟨[I 1],⟨rot,trivial⟩,rfl⟩ nll
  ·obtain ⟨x5,hf4,h⟩:=bno h
   refine wx tbk [(1,rp [fu 28,(.tmp 7,(Qrm p0))] (B x2)),(3,rp [(.tmp 9,(B ((!x2))))] (B false)),(6,rp [(.tmp 10,B false),fu 33,(.tmp 11,(Qrm p0)),(.tmp 12,(.dat 1 ((p1:List Int).map Qak)))] (B x5))] ⟨apc (first:=[]) (cap:=[]) (vs:=[(Qrm p0)]) rfl Za9 (Qm9 N p0 _ hf1) rfl rfl (nlc (NLt.agg _ (nlc (nld Qal _) (nlc (nld Qab _) nl0))) nl0) nll rfl,asb hb3 (amv rfl),ag_ (apc (first:=[]) (cap:=[]) (vs:=[(Qrm p0),(.dat 1 ((p1:List Int).map Qak))]) rfl Zks (Qn4 N p0 p1 _ hf4) rfl rfl (nlc (NLt.agg _ (nlc (nld Qal _) (nlc (nld Qab _) nl0))) (nlc (nld Qae _) nl0)) nll rfl),trivial⟩ ?_
   refine bfe h (fun hc6 h=>?_) fun hc6 h=>?_
   ·refine wft hc6 ?_
    refine wxz ?_
    refine Qag ?_
    refine Qah ?_
    obtain rfl:=osi h
    exact fend ⟨[I 1],⟨rot,trivial⟩,rfl⟩ nll
   ·refine wfn hc6 ?_
    refine Qan ?_
    refine thn ?_
    obtain ⟨x8,hf7,h⟩:=bno h
    refine wx tbk [(2,rp [fu 61,(.tmp 16,(Qrm p0)),(.tmp 17,(.dat 4 ((p2:List GStream).map Qaa)))] (I x8))] ⟨apc (first:=[]) (cap:=[]) (vs:=[(Qrm p0),(.dat 4 ((p2:List GStream).map Qaa))]) rfl Zkk (Qou N p0 p2 _ hf7) rfl rfl (nlc (NLt.agg _ (nlc (nld Qal _) (nlc (nld Qab _) nl0))) (nlc (nld Qac _) nl0)) nll rfl,trivial⟩ ?_
    refine Qag ?_
    obtain rfl:=osi h
    exact fend ⟨[I x8],⟨rot,trivial⟩,rfl⟩ nll
def Qfn (N:Nat) (x26:GElement) (k40:(List GStream)×(List (List GStream))×(List GLost)×(List Int)→Option (GTick×Int×Int)):Nat→(List GStream)→Int→(List (List GStream))→(List GLost)→(List Int)→Option (GTick×Int×Int)
  | 0,_,_,_,_,_=>none
  | n129+1,y119,y120,y121,y122,y123=>
    bif (decide (y120<(x26.From.length:Int))) then
     chk (decide ((([]:List GStream).length+y119.length) * 32≤140737488355328))<|
     (getI x26.From y120).bind fun x132=>
     (getI y121 x132.Element).bind fun x136=>
     (getI x136 x132.Outlet).bind fun x140=>
     chk (decide (1≤([x140]).length))<|
     chk (decide (((([]:List GStream)++y119).length+(([x140]).take 1).length) * 32≤140737488355328))<|
     Qfn N x26 k40 n129 ((([]:List GStream)++y119)++(([x140]).take 1)) (w64 (y120+1)) y121 y122 y123
    else
     k40 (y119,y121,y122,y123)
def Qfo (N:Nat) (p0:GNet) (p1:(List Int)) (p2:(List GStream)) (k5:Int×(List (List GStream))×(List GLost)×(List Int)→Option (GTick×Int×Int)):Nat→Int→Int→Int→(List (List GStream))→(List GLost)→(List Int)→Option (GTick×Int×Int)
  | 0,_,_,_,_,_,_=>none
  | n18+1,y6,y7,y8,y9,y10,y11=>
    bif (decide (y8<(p0.Elements.length:Int))) then
     Qbf (fun ⟨y20,y21,y22,y23,y24⟩=>
       Qfo N p0 p1 p2 k5 n18 y20 y21 (w64 (y8+1)) y22 y23 y24) fun k25:Int×Int×(List (List GStream))×(List GLost)×(List Int)→Option (GTick×Int×Int)=>
     (getI p0.Elements y8).bind fun x26=>
     Qbf (fun ⟨y30,y31,y32,y33,y34⟩=>
       Qbf (fun ⟨y36,y37,y38,y39⟩=>
         (Qhj N y36).bind fun x42=>
         (getI p1 y8).bind fun x43=>
         (Qjn N x26 x43).bind fun x48=>
         bif (decide (x42.Mass>x48)) then
          some ((⟨[],[],[]⟩:GTick),0,y8)
         else
          Qbf (fun ⟨y50,y51,y52,y53,y54⟩=>
            Qbf (fun ⟨y56,y57,y58,y59,y60,y61,y62,y63,y64⟩=>
              Qbf (fun ⟨y66,y67,y68,y69,y70,y71,y72,y73⟩=>
                chk (decide ((y67.length+([y66]).length) * 24≤140737488355328))<|
                chk (decide (1≤([(⟨y70,y71,y72,y73⟩:GLost)]).length))<|
                chk (decide ((y68.length+(([(⟨y70,y71,y72,y73⟩:GLost)]).take 1).length) * 32≤140737488355328))<|
                chk (decide ((y69.length+([w64 (x43+y73)]).length) * 8≤140737488355328))<|
                k25 (y56,y30,y67++([y66]),y68++(([(⟨y70,y71,y72,y73⟩:GLost)]).take 1),y69++([w64 (x43+y73)]))) fun k74:(List GStream)×(List (List GStream))×(List GLost)×(List Int)×Int×Int×Int×Int→Option (GTick×Int×Int)=>
              bif (x26.Kind==5) then
               (Qha N x42 x26.Weights).bind fun x81=>
               k74 (x81.1,y58,y59,y60,x81.2.Heat,x81.2.Silica,x81.2.Gas,0)
              else
               k74 (y57,y58,y59,y60,y61,y62,y63,y64)) fun k65:Int×(List GStream)×(List (List GStream))×(List GLost)×(List Int)×Int×Int×Int×Int→Option (GTick×Int×Int)=>
            bif (x26.Kind==4) then
             (getI p0.Table x26.Level).bind fun x83=>
             (Qh3 N x83 x42).bind fun x88=>
             Qbf (fun ⟨y89,y90,y91,y92,y93,y94,y95⟩=>
               (some (w64 (y6+x88.Steam.Mass))).bind fun x97=>
               k65 (x97,y89,y90,y91,y92,y93,y94,y95,x88.Scale)) fun k96:(List GStream)×(List (List GStream))×(List GLost)×(List Int)×Int×Int×Int→Option (GTick×Int×Int)=>
             bif (decide (x26.Amount>0)) then
              (Qha N (⟨x88.Water.Mass,x88.Water.Heat,x88.Water.Silica,x88.Water.Gas⟩:GStream) ([w64 (1000 - x26.Amount),x26.Amount])).bind fun x101=>
              (getI x101.1 1).bind fun x102=>
              (Qhj N ([(⟨x88.Steam.Mass,x88.Steam.Heat,x88.Steam.Silica,x88.Steam.Gas⟩:GStream),x102])).bind fun x107=>
              (getI x101.1 0).bind fun x108=>
              k96 ([x107,x108],y50,y51,y52,x101.2.Heat,x101.2.Silica,x101.2.Gas)
             else
              k96 ([(⟨x88.Steam.Mass,x88.Steam.Heat,x88.Steam.Silica,x88.Steam.Gas⟩:GStream),(⟨x88.Water.Mass,x88.Water.Heat,x88.Water.Silica,x88.Water.Gas⟩:GStream)],y50,y51,y52,y54,0,0)
            else
             chk (decide (1≤y53.length))<|
             k65 (y6,y53.take 1,y50,y51,y52,y54,0,0,0)) fun k55:(List (List GStream))×(List GLost)×(List Int)×(List GStream)×Int→Option (GTick×Int×Int)=>
          bif (x26.Kind==3) then
           (some (w64 (x42.Heat - (if x42.Heat<x26.Amount then x42.Heat else x26.Amount)))).bind fun x114=>
           chk (decide (0≤0)&&decide ((0:Int).toNat<1))<|
           (([x42])[(0:Int).toNat]?).bind fun x117=>
           k55 (y37,y38,y39,([x42]).set ((0:Int).toNat) (⟨x117.Mass,x114,x117.Silica,x117.Gas⟩:GStream),(if x42.Heat<x26.Amount then x42.Heat else x26.Amount))
          else
           k55 (y37,y38,y39,[x42],0)) fun k40:(List GStream)×(List (List GStream))×(List GLost)×(List Int)→Option (GTick×Int×Int)=>
       Qfn N x26 k40 N y31 0 y32 y33 y34) fun k35:Int×(List GStream)×(List (List GStream))×(List GLost)×(List Int)→Option (GTick×Int×Int)=>
     bif (x26.Kind==1) then
      chk (decide (0≤y7)&&decide (y7≤w64 (y7+1))&&decide (w64 (y7+1)≤(p2.length:Int)))<|
      k35 (w64 (y7+1),(p2.drop y7.toNat).take ((w64 (y7+1)).toNat - y7.toNat),y9,y10,y11)
     else
      k35 (y7,[],y9,y10,y11)
    else
     k5 (y6,y9,y10,y11)
def Qna (N:Nat) (p0:GNet) (p1:(List Int)) (p2:(List GStream)):Option (GTick×Int×Int):=
  Qbf (fun ⟨y1,y2,y3,y4⟩=>
    some ((⟨y2,y3,y4⟩:GTick),y1,(-1))) fun k5:Int×(List (List GStream))×(List GLost)×(List Int)→Option (GTick×Int×Int)=>
  Qfo N p0 p1 p2 k5 N 0 0 0 ([]) ([]) ([])
def Qfw:Slot:=.own 3 [[nilS,nilS,nilS]]
def Qwq (y2:(List (List GStream))):AV:=.acc 2 28 1 ((y2:List (List GStream)).map Qaf)
def Qwp (y3:(List GLost)):AV:=.acc 3 90 4 ((y3:List GLost).map Qaw)
def Qwo (y4:(List Int)):AV:=.acc 4 3 1 ((y4:List Int).map Qak)
def Qwv:AV:=.acc 3 28 1 (([]:List (List GStream)).map Qaf)
def Q39:AV:=.acc 4 90 4 (([]:List GLost).map Qaw)
def Qdq (p1:(List Int)):AV:=.dat 1 ((p1:List Int).map Qak)
def Qd0 (p2:(List GStream)):AV:=.dat 4 ((p2:List GStream).map Qaa)
def Zgm (p0:GNet):AV:=.dat 5 ((p0.Table:List GRow).map Qa0)
def Q9a (p0:GNet):AV:=.dat 7 ((p0.Elements:List GElement).map Qad)
def Qge (p0:GNet):Slot:=.own 2 [[(Zgm p0),(Q9a p0)]]
def Qph (y9:(List (List GStream))) (y10:(List GLost)) (y11:(List Int)):Slot:=.own 3 [[(.acc 3 28 1 ((y9:List (List GStream)).map Qaf)),(.acc 4 90 4 ((y10:List GLost).map Qaw)),(.acc 5 3 1 ((y11:List Int).map Qak))]]
def Qwu (y31:(List GStream)):AV:=.dat 4 ((y31:List GStream).map Qaa)
def Qwt (y32:(List (List GStream))):AV:=.acc 4 28 1 ((y32:List (List GStream)).map Qaf)
def Qws (y33:(List GLost)):AV:=.acc 5 90 4 ((y33:List GLost).map Qaw)
def Qwr (y34:(List Int)):AV:=.acc 6 3 1 ((y34:List Int).map Qak)
def Qmy (x26:GElement):AV:=.dat 2 ((x26.From:List GPort).map Qas)
def Qpf (x26:GElement):AV:=.dat 1 ((x26.Weights:List Int).map Qak)
def Qd1 (x26:GElement):Slot:=.own 7 [[(K .u8 (x26.Kind)),(Qmy x26),(I (x26.Level)),(I (x26.Amount)),(I (x26.Wide)),(I (x26.Narrow)),(Qpf x26)]]
def Qs8 (y36:(List GStream)):AV:=.dat 4 ((y36:List GStream).map Qaa)
def Qs7 (y37:(List (List GStream))):AV:=.acc 4 28 1 ((y37:List (List GStream)).map Qaf)
def Qs6 (y38:(List GLost)):AV:=.acc 5 90 4 ((y38:List GLost).map Qaw)
def Qom (x42:GStream):AV:=.agg [(I (x42.Mass)),(I (x42.Heat)),(I (x42.Silica)),(I (x42.Gas))]
def Qy1 (x26:GElement):AV:=.agg [(K .u8 (x26.Kind)),(Qmy x26),(I (x26.Level)),(I (x26.Amount)),(I (x26.Wide)),(I (x26.Narrow)),(Qpf x26)]
def Qpg (x42:GStream):Slot:=.own 4 (([x42]:List GStream).map Qaa)
def Qmx (y50:(List (List GStream))) (y51:(List GLost)) (y52:(List Int)):Slot:=.own 3 [[(.acc 7 28 1 ((y50:List (List GStream)).map Qaf)),(.acc 8 90 4 ((y51:List GLost).map Qaw)),(.acc 9 3 1 ((y52:List Int).map Qak))]]
def Qhp (x42:GStream):Slot:=.own 4 [[(I (x42.Mass)),(I (x42.Heat)),(I (x42.Silica)),(I (x42.Gas))]]
def Qpe (y54:Int):Slot:=.own 4 [[(I (y54)),(I (0)),(I (0)),(I (0))]]
def Qs4 (y58:(List (List GStream))):AV:=.acc 6 28 1 ((y58:List (List GStream)).map Qaf)
def Qs3 (y59:(List GLost)):AV:=.acc 7 90 4 ((y59:List GLost).map Qaw)
def Qs2 (y66:(List GStream)):AV:=.dat 4 ((y66:List GStream).map Qaa)
def Qs1 (y68:(List GLost)):AV:=.acc 5 90 4 ((y68:List GLost).map Qaw)
def Qy0 (y69:(List Int)):AV:=.acc 6 3 1 ((y69:List Int).map Qak)
def Qyz (y67:(List (List GStream))) (y66:(List GStream)):AV:=.acc 7 28 1 ((y67++([y66]):List (List GStream)).map Qaf)
def Qyy (y68:(List GLost)) (y70:Int) (y71:Int) (y72:Int) (y73:Int):AV:=.acc 9 90 4 ((y68++(([(⟨y70,y71,y72,y73⟩:GLost)]).take 1):List GLost).map Qaw)
def Qyx (x83:GRow):AV:=.agg [(I (x83.T)),(I (x83.P)),(I (x83.Liquid)),(I (x83.Vapour)),(I (x83.Silica))]
def Qpd (x88:GParts):AV:=.agg [(I (x88.Steam.Mass)),(I (x88.Steam.Heat)),(I (x88.Steam.Silica)),(I (x88.Steam.Gas))]
def Qpc (x88:GParts):AV:=.agg [(I (x88.Water.Mass)),(I (x88.Water.Heat)),(I (x88.Water.Silica)),(I (x88.Water.Gas))]
def Qyw (x88:GParts):AV:=.dat 4 (([(⟨x88.Steam.Mass,x88.Steam.Heat,x88.Steam.Silica,x88.Steam.Gas⟩:GStream),(⟨x88.Water.Mass,x88.Water.Heat,x88.Water.Silica,x88.Water.Gas⟩:GStream)]:List GStream).map Qaa)
def Qs0 (x88:GParts):Slot:=.own 10 [[(I (x88.Steam.Mass)),(I (x88.Steam.Heat)),(I (x88.Steam.Silica)),(I (x88.Steam.Gas)),(I (x88.Water.Mass)),(I (x88.Water.Heat)),(I (x88.Water.Silica)),(I (x88.Water.Gas)),(I (x88.Rest)),(I (x88.Scale))]]
def Qs5 (x26:GElement):AV:=.dat 1 (([w64 (1000 - x26.Amount),x26.Amount]:List Int).map Qak)
def Q38 (x102:GStream):AV:=.agg [(I (x102.Mass)),(I (x102.Heat)),(I (x102.Silica)),(I (x102.Gas))]
def Qsz (x88:GParts) (x102:GStream):AV:=.dat 4 (([(⟨x88.Steam.Mass,x88.Steam.Heat,x88.Steam.Silica,x88.Steam.Gas⟩:GStream),x102]:List GStream).map Qaa)
def Qsy (x107:GStream):AV:=.agg [(I (x107.Mass)),(I (x107.Heat)),(I (x107.Silica)),(I (x107.Gas))]
def Qyv (x108:GStream):AV:=.agg [(I (x108.Mass)),(I (x108.Heat)),(I (x108.Silica)),(I (x108.Gas))]
def Qyu (x42:GStream) (x117:GStream) (x114:Int):Slot:=.own 4 ((([x42]).set ((0:Int).toNat) (⟨x117.Mass,x114,x117.Silica,x117.Gas⟩:GStream):List GStream).map Qaa)
def Qpb (y121:(List (List GStream))):AV:=.acc 4 28 1 ((y121:List (List GStream)).map Qaf)
def Qsw (y122:(List GLost)):AV:=.acc 5 90 4 ((y122:List GLost).map Qaw)
def Q4a:AV:=.acc 7 89 4 ((([]:List GStream):List GStream).map Qaa)
def Qsx (y119:(List GStream)):AV:=.acc 8 89 4 ((([]:List GStream)++y119:List GStream).map Qaa)
def Qyt (x140:GStream):AV:=.agg [(I (x140.Mass)),(I (x140.Heat)),(I (x140.Silica)),(I (x140.Gas))]
def Qy2 (p2:(List GStream)) (y7:Int):AV:=.dat 4 (((p2.drop y7.toNat).take ((w64 (y7+1)).toNat - y7.toNat):List GStream).map Qaa)
theorem Qzj (N:Nat) (p0:GNet) (p1:(List Int)) (p2:(List GStream)) (r:(GTick×Int×Int)) (h:Qna N p0 p1 p2=some r):Spec Tryz.prog 22 [(.agg (Qis p0)),(.dat 1 (p1.map Qak)),(.dat 4 (p2.map Qaa))] [] (.tup [(.agg (Qxz r.1)),(I r.2.1),(I r.2.2)]) []:=by
  refine Qai Tryz.func22 rfl 0 (nle rfl) (fun X φ0 w0 hφ0 hd0=>?_)
  unfold Qna at h
  refine wxz ?_
  refine wxz ?_
  refine wxz ?_
  obtain ⟨k5,hk_k5,h⟩:=jko h
  refine wjn (τ:=Int×(List (List GStream))×(List GLost)×(List Int)) (fun t=>k5 t=some r) (fun ⟨y1,y2,y3,y4⟩=>⟨mk 209 [(6,.ref 0 3 0 0),(9,.ref 1 3 0 0),(10,I y1)],[Qfw,(.own 3 [[(Qwq y2),(Qwp y3),(Qwo y4)]]),.tok,.tok,.tok]⟩) (fun t h=>?_) ?_
  ·subst hk_k5
   obtain ⟨y1,y2,y3,y4⟩:=t
   refine wxz ?_
   refine Qag ?_
   obtain rfl:=osi h
   exact fend ⟨[(.agg [(.dat 1 ((y2:List (List GStream)).map Qaf)),(.dat 4 ((y3:List GLost).map Qaw)),(.dat 1 ((y4:List Int).map Qak))]),I y1,(I ((-1)))],⟨Qe0 (v:=(.agg [(Qwq y2),(Qwp y3),(Qwo y4)])) (Qbv (n:=0) (m:=3) (j:=0) (i:=0) (xs:=[[(Qwq y2),(Qwp y3),(Qwo y4)]]) (by kernel_rfl) (by kernel_rfl) ti52 (by decide) rfl (nle rfl) rfl) (Less.agg ⟨Less.acc,Less.acc,Less.acc,trivial⟩),rot,rot,trivial⟩,rfl⟩ (NLt.tup _ (nlc (NLt.agg _ (nlc (nld Qaj _) (nlc (nld Qaq _) (nlc (nld Qae _) nl0)))) (nlcc nl0)))
  ·skip
   refine wxz ?_
   refine Qam ?_
   refine wmr (Mor.trans (Qmc (n:=3) (ty:=28) (m:=1) (q:=2) (mq:=3) (c:=[nilS,nilS,nilS]) 0 (by kernel_rfl) (by kernel_rfl) (by kernel_rfl) (by decide)) (Mor.trans (Qmc (n:=4) (ty:=90) (m:=4) (q:=2) (mq:=3) (c:=[Qwv,nilS,nilS]) 1 (by kernel_rfl) (by kernel_rfl) (by kernel_rfl) (by decide)) (Mor.trans (Qmc (n:=5) (ty:=3) (m:=1) (q:=2) (mq:=3) (c:=[Qwv,Q39,nilS]) 2 (by kernel_rfl) (by kernel_rfl) (by kernel_rfl) (by decide)) (mto (n:=209) (l':=[(1,(Qdq p1)),(2,(Qd0 p2)),(3,.ref 0 2 0 0),(6,.ref 1 3 0 0),(9,.ref 2 3 0 0),(10,I 0),(11,I 0),(12,I 0)]) (own':=[(Qge p0),Qfw,(.own 3 [[(.acc 3 28 1 ((([]):List (List GStream)).map Qaf)),(.acc 4 90 4 ((([]):List GLost).map Qaw)),(.acc 5 3 1 ((([]):List Int).map Qak))]]),.tok,.tok,.tok]) [(1,(Qdq p1)),(2,(Qd0 p2)),(3,.ref 0 2 0 0),(6,.ref 1 3 0 0),(9,.ref 2 3 0 0),(10,I 0),(11,I 0),(12,I 0)] [0,1,2,3,4,5] [(Qge p0),Qfw,(.own 3 [[Qwv,Q39,(.acc 5 3 1 (([]:List Int).map Qak))]]),.tok,.tok,.tok] hφ0 (pc (rnd Qae) (pc (rnd Qac) (pc (.rn (rqr rfl)) (pc (.rn (rqr rfl)) (pc (.rn (rqr rfl)) (pc rwl (pc rwl (pc rwl pn)))))))) (qc (spb (lc (rnd Qal) (lc (rnd Qab) ln))) (qc (spb (lcc (lc rwl ln))) (qc (spb (lc (.rn (Qa7 rfl (Qa1 Qaj _))) (lc (.rn (Qa7 rfl (Qa1 Qaq _))) (lc (.rn (Qa7 rfl (Qa1 Qae _))) ln)))) (qc .tok (qc .tok (qc .tok qn)))))))))) ?_
   refine Qbw (τ:=Int×Int×Int×(List (List GStream))×(List GLost)×(List Int)) (fun n t=>Qfo N p0 p1 p2 k5 n t.1 t.2.1 t.2.2.1 t.2.2.2.1 t.2.2.2.2.1 t.2.2.2.2.2=some r) (fun ⟨y6,y7,y8,y9,y10,y11⟩=>⟨mk 209 [(1,(Qdq p1)),(2,(Qd0 p2)),(3,.ref 0 2 0 0),(6,.ref 1 3 0 0),(9,.ref 2 3 0 0),(10,I y6),(11,I y7),(12,I y8)],[(Qge p0),Qfw,(Qph y9 y10 y11),.tok,.tok,.tok]⟩) (fun t h=>by rw [Qfo] at h; cases h) (fun n18 ih t h=>?_) N (0,0,0,[],[],[]) h
   obtain ⟨y6,y7,y8,y9,y10,y11⟩:=t
   rw [Qfo] at h
   skip
   refine wsq ?_
   refine wx tbk [(3,rp [(.tmp 26,(Q9a p0))] (I ((p0.Elements.length:Int))))] ⟨alm (c:=Qad) (l:=p0.Elements) (aln rfl Tryz.underlying24 rfl),trivial⟩ ?_
   refine bfe h (fun hc19 h=>?_) fun hc19 h=>?_
   ·refine wft hc19 ?_
    refine Qan ?_
    refine thn ?_
    obtain ⟨k25,hk_k25,h⟩:=jko h
    refine wjn (τ:=Int×Int×(List (List GStream))×(List GLost)×(List Int)) (fun t=>k25 t=some r) (fun ⟨y20,y21,y22,y23,y24⟩=>⟨mk 209 [(1,(Qdq p1)),(2,(Qd0 p2)),(3,.ref 0 2 0 0),(6,.ref 1 3 0 0),(9,.ref 2 3 0 0),(10,I y20),(11,I y21),(12,I y8)],[(Qge p0),Qfw,(.own 3 [[(.acc 3 28 1 ((y22:List (List GStream)).map Qaf)),(.acc 4 90 4 ((y23:List GLost).map Qaw)),(.acc 5 3 1 ((y24:List Int).map Qak))]]),.tok,.tok,.tok]⟩) (fun t h=>?_) ?_
    ·subst hk_k25
     obtain ⟨y20,y21,y22,y23,y24⟩:=t
     refine wxz1 ?_
     refine thn ?_
     exact arm (mto (n:=209) [(1,(Qdq p1)),(2,(Qd0 p2)),(3,.ref 0 2 0 0),(6,.ref 1 3 0 0),(9,.ref 2 3 0 0),(10,I y20),(11,I y21),(12,(I (w64 (y8+1))))] [0,1,2,3,4,5] [(Qge p0),Qfw,(.own 3 [[(.acc 3 28 1 ((y22:List (List GStream)).map Qaf)),(.acc 4 90 4 ((y23:List GLost).map Qaw)),(.acc 5 3 1 ((y24:List Int).map Qak))]]),.tok,.tok,.tok] hφ0 (pc (rnd Qae) (pc (rnd Qac) (pc (.rn (rqr rfl)) (pc (.rn (rqr rfl)) (pc (.rn (rqr rfl)) (pc rwl (pc rwl (pc rwl pn)))))))) (qc (spb (lc (rnd Qal) (lc (rnd Qab) ln))) (qc (spb (lcc (lc rwl ln))) (qc (spb (lc (.rn (Qa7 rfl (Qa1 Qaj _))) (lc (.rn (Qa7 rfl (Qa1 Qaq _))) (lc (.rn (Qa7 rfl (Qa1 Qae _))) ln)))) (qc .tok (qc .tok (qc .tok qn))))))) (ih (y20,y21,w64 (y8+1),y22,y23,y24) h)
    ·skip
     refine Qam ?_
     obtain ⟨x26,hg27,h⟩:=bno h
     obtain ⟨hi28,hj29⟩:=gsm hg27
     refine wx tbk [(3,rp [(.tmp 32,(Q9a p0)),(.tmp 33,I y8)] (.dptr (Qad (x26)) 0))] ⟨aid rfl Tryz.underlying24 ti59 rfl rfl hi28 (mgt Qad hj29) rfl,trivial⟩ ?_
     refine wxz ?_
     obtain ⟨k35,hk_k35,h⟩:=jko h
     refine wjn (τ:=Int×(List GStream)×(List (List GStream))×(List GLost)×(List Int)) (fun t=>k35 t=some r) (fun ⟨y30,y31,y32,y33,y34⟩=>⟨mk 209 [(1,(Qdq p1)),(2,(Qd0 p2)),(3,.ref 0 2 0 0),(6,.ref 1 3 0 0),(9,.ref 2 3 0 0),(10,I y6),(11,I y30),(12,I y8),(13,.ref 3 7 0 0),(14,(Qwu y31))],[(Qge p0),Qfw,(.own 3 [[(Qwt y32),(Qws y33),(Qwr y34)]]),(Qd1 x26),.tok,.tok,.tok]⟩) (fun t h=>?_) ?_
     ·subst hk_k35
      obtain ⟨y30,y31,y32,y33,y34⟩:=t
      obtain ⟨k40,hk_k40,h⟩:=jko h
      refine wjn (τ:=(List GStream)×(List (List GStream))×(List GLost)×(List Int)) (fun t=>k40 t=some r) (fun ⟨y36,y37,y38,y39⟩=>⟨mk 209 [(1,(Qdq p1)),(2,(Qd0 p2)),(3,.ref 0 2 0 0),(6,.ref 1 3 0 0),(9,.ref 2 3 0 0),(10,I y6),(11,I y30),(12,I y8),(13,.ref 3 7 0 0),(14,(Qs8 y36))],[(Qge p0),Qfw,(.own 3 [[(Qs7 y37),(Qs6 y38),(.acc 6 3 1 ((y39:List Int).map Qak))]]),(Qd1 x26),.tok,.tok,.tok]⟩) (fun t h=>?_) ?_
      ·subst hk_k40
       obtain ⟨y36,y37,y38,y39⟩:=t
       obtain ⟨x42,hf41,h⟩:=bno h
       refine wx tbk [(1,rp [fu 38,(.tmp 76,(Qs8 y36))] (Qom x42))] ⟨apc (first:=[]) (cap:=[]) (vs:=[(Qs8 y36)]) rfl Q2m (Ql6 N y36 _ hf41) rfl rfl (nlc (nld Qac _) nl0) (NLt.agg _ (nlcc (nlcc nl0))) rfl,trivial⟩ ?_
       refine wsq ?_
       obtain ⟨x43,hg44,h⟩:=bno h
       obtain ⟨hi45,hj46⟩:=gsm hg44
       obtain ⟨x48,hf47,h⟩:=bno h
       refine wxd tbk [(5,rp [(.tmp 81,(Qdq p1)),(.tmp 82,I y8)] (.dptr (Qak (x43)) 0)),(7,rp [fu 62,(.tmp 80,(Qy1 x26)),(.tmp 84,I x43)] (I x48))] ⟨aid rfl Tryz.underlying27 ti3 rfl rfl hi45 (mgt Qak hj46) rfl,apc (first:=[]) (cap:=[]) (vs:=[(Qy1 x26),I x43]) rfl Zkj (Qtj N x26 x43 _ hf47) rfl rfl (nlc (NLt.agg _ (nlc nll (nlc (nld Qa3 _) (nlcc (nlcc (nlc (nld Qae _) nl0)))))) (nlc nll nl0)) nll rfl,trivial⟩ ?_
       refine bfe h (fun hc49 h=>?_) fun hc49 h=>?_
       ·refine wft hc49 ?_
        refine wx tbk [(0,rp [] (.agg [nilS,nilS,nilS]))] ⟨Qav (vs:=[]) rfl ts52 tz52 rfl (by rfl) rfl,trivial⟩ ?_
        refine Qag ?_
        refine Qah ?_
        refine Qao ?_
        refine Qah ?_
        refine Qah ?_
        refine Qao ?_
        refine Qah ?_
        obtain rfl:=osi h
        exact fend ⟨[(.agg [(.dat 1 (([]:List (List GStream)).map Qaf)),(.dat 4 (([]:List GLost).map Qaw)),(.dat 1 (([]:List Int).map Qak))]),I 0,I y8],⟨Qe0 (v:=(.agg [nilS,nilS,nilS])) (Qbv (n:=1) (m:=3) (j:=0) (i:=0) (xs:=[[nilS,nilS,nilS]]) (by kernel_rfl) (by kernel_rfl) ti52 (by decide) rfl (nle rfl) rfl) (Less.agg ⟨Less.nil,Less.nil,Less.nil,trivial⟩),rot,rot,trivial⟩,rfl⟩ (NLt.tup _ (nlc (NLt.agg _ (nlc (nld Qaj _) (nlc (nld Qaq _) (nlc (nld Qae _) nl0)))) (nlcc nl0)))
       ·refine wfn hc49 ?_
        refine Qan ?_
        refine thn ?_
        refine wx tbk [(1,⟨[(.tmp 89,(Qom x42))],[(8,.unused)],(.own 8 4 (0) (1)),[(8,(Qpg x42))],false⟩)] ⟨Qmi (vs:=[(Qom x42)]) rfl Tryz.underlying28 ti89 tz89 rfl (by decide) rfl (by decide) (by rfl) (by rfl) (by rfl) rfl,trivial⟩ ?_
        refine wxz ?_
        obtain ⟨k55,hk_k55,h⟩:=jko h
        refine wjn (τ:=(List (List GStream))×(List GLost)×(List Int)×(List GStream)×Int) (fun t=>k55 t=some r) (fun ⟨y50,y51,y52,y53,y54⟩=>⟨mk 209 [(1,(Qdq p1)),(2,(Qd0 p2)),(3,.ref 0 2 0 0),(6,.ref 1 3 0 0),(9,.ref 2 3 0 0),(10,I y6),(11,I y30),(12,I y8),(13,.ref 3 7 0 0),(16,.ref 4 4 0 0),(17,(.own 5 4 (0) (1))),(18,.ref 6 4 0 0)],[(Qge p0),Qfw,(Qmx y50 y51 y52),(Qd1 x26),(Qhp x42),(.own 4 ((y53:List GStream).map Qaa)),(Qpe y54),.tok,.tok,.tok]⟩) (fun t h=>?_) ?_
        ·subst hk_k55
         obtain ⟨y50,y51,y52,y53,y54⟩:=t
         obtain ⟨k65,hk_k65,h⟩:=jko h
         refine wjn (τ:=Int×(List GStream)×(List (List GStream))×(List GLost)×(List Int)×Int×Int×Int×Int) (fun t=>k65 t=some r) (fun ⟨y56,y57,y58,y59,y60,y61,y62,y63,y64⟩=>⟨mk 209 [(1,(Qdq p1)),(2,(Qd0 p2)),(3,.ref 0 2 0 0),(6,.ref 1 3 0 0),(9,.ref 2 3 0 0),(10,I y56),(11,I y30),(12,I y8),(13,.ref 3 7 0 0),(16,.ref 4 4 0 0),(17,(.dat 4 ((y57:List GStream).map Qaa))),(18,.ref 5 4 0 0)],[(Qge p0),Qfw,(.own 3 [[(Qs4 y58),(Qs3 y59),(.acc 8 3 1 ((y60:List Int).map Qak))]]),(Qd1 x26),(Qhp x42),(.own 4 [[I y61,I y62,I y63,I y64]]),.tok,.tok,.tok]⟩) (fun t h=>?_) ?_
         ·subst hk_k65
          obtain ⟨y56,y57,y58,y59,y60,y61,y62,y63,y64⟩:=t
          obtain ⟨k74,hk_k74,h⟩:=jko h
          refine wjn (τ:=(List GStream)×(List (List GStream))×(List GLost)×(List Int)×Int×Int×Int×Int) (fun t=>k74 t=some r) (fun ⟨y66,y67,y68,y69,y70,y71,y72,y73⟩=>⟨mk 209 [(1,(Qdq p1)),(2,(Qd0 p2)),(3,.ref 0 2 0 0),(6,.ref 1 3 0 0),(9,.ref 2 3 0 0),(10,I y56),(11,I y30),(12,I y8),(17,(Qs2 y66)),(18,.ref 3 4 0 0)],[(Qge p0),Qfw,(.own 3 [[(.acc 4 28 1 ((y67:List (List GStream)).map Qaf)),(Qs1 y68),(Qy0 y69)]]),(.own 4 [[I y70,I y71,I y72,I y73]]),.tok,.tok,.tok]⟩) (fun t h=>?_) ?_
          ·subst hk_k74
           obtain ⟨y66,y67,y68,y69,y70,y71,y72,y73⟩:=t
           obtain ⟨ha75,h⟩:=cko h
           obtain ⟨hz76,h⟩:=cko h
           obtain ⟨ha77,h⟩:=cko h
           obtain ⟨ha78,h⟩:=cko h
           refine wy1 tbk [(3,rp [(.tmp 185,(Qs2 y66))] (.dat 1 (([y66]:List (List GStream)).map Qaf))),(4,⟨[(.tmp 184,(.acc 4 28 1 ((y67:List (List GStream)).map Qaf))),(.tmp 186,(.dat 1 (([y66]:List (List GStream)).map Qaf)))],[(4,.tok),(7,.unused)],(Qyz y67 y66),[(4,.dead),(7,.tok)],false⟩),(8,⟨[(.tmp 190,(.agg [I y70,I y71,I y72,I y73]))],[(8,.unused)],(.own 8 4 (0) (1)),[(8,(.own 4 (([(⟨y70,y71,y72,y73⟩:GLost)]:List GLost).map Qaw)))],false⟩),(9,⟨[(.tmp 189,(Qs1 y68)),(.tmp 191,(.own 8 4 (0) (1)))],[(8,(.own 4 (([(⟨y70,y71,y72,y73⟩:GLost)]:List GLost).map Qaw))),(5,.tok),(9,.unused)],(Qyy y68 y70 y71 y72 y73),[(5,.dead),(9,.tok)],false⟩),(14,rp [(.tmp 195,(Qdq p1)),(.tmp 196,I y8)] (.dptr (Qak (x43)) 0)),(19,rp [(.tmp 201,(I (w64 (x43+y73))))] (.dat 1 (([w64 (x43+y73)]:List Int).map Qak))),(20,⟨[(.tmp 194,(Qy0 y69)),(.tmp 202,(.dat 1 (([w64 (x43+y73)]:List Int).map Qak)))],[(6,.tok),(10,.unused)],(.acc 10 3 1 ((y69++([w64 (x43+y73)]):List Int).map Qak)),[(6,.dead),(10,.tok)],false⟩)] ⟨Qbn (vs:=[(Qs2 y66)]) rfl Tryz.underlying49 ti28 tz28 rfl (by decide) rfl (by decide) (by rfl) (by rfl) (by rfl) rfl,Qex rfl Tryz.underlying49 te28 (Base.acc _ _) rfl rfl (by rfl) (Qhf Qaf ha75) (Qhe Qaf ha75 (by decide)) (Qhd Qaf) rfl rfl,Qmi (vs:=[(.agg [I y70,I y71,I y72,I y73])]) rfl Tryz.underlying50 ti90 tz90 rfl (by decide) rfl (by decide) (by rfl) (by rfl) (by rfl) rfl,Qhl (rd':=[(.tmp 189,(Qs1 y68)),(.tmp 191,(.dat 4 ((([(⟨y70,y71,y72,y73⟩:GLost)]).take 1:List GLost).map Qaw)))]) [(8,4,([(⟨y70,y71,y72,y73⟩:GLost)]:List GLost).map Qaw)] ⟨rfl,.same _,rfl,(Qug 0 rfl hz76),trivial⟩ (by rfl) (.acc _ _ _ _ (nin rfl) (by simp) (Qxf Zam _)) (Qps .dead (Qps .tok Qqw)) (Qex rfl Tryz.underlying50 te90 (Base.acc _ _) rfl rfl (Qns Qaw Q98 _) (Qhf Qaw ha77) (Qhe Qaw ha77 (by decide)) (Qhd Qaw) rfl rfl),aid rfl Tryz.underlying27 ti3 rfl rfl hi45 (mgt Qak hj46) rfl,Qbn (vs:=[(I (w64 (x43+y73)))]) rfl Tryz.underlying27 ti3 tz3 rfl (by decide) rfl (by decide) (by rfl) (by rfl) (by rfl) rfl,Qex rfl Tryz.underlying27 te3 (Base.acc _ _) rfl rfl (by rfl) (Qhf Qak ha78) (Qhe Qak ha78 (by decide)) (Qhd Qak) rfl rfl,trivial⟩ ?_
           refine bln ?_
           refine thn ?_
           exact ⟨(y56,y30,y67++([y66]),y68++(([(⟨y70,y71,y72,y73⟩:GLost)]).take 1),y69++([w64 (x43+y73)])),h,(mto (n:=209) [(1,(Qdq p1)),(2,(Qd0 p2)),(3,.ref 0 2 0 0),(6,.ref 1 3 0 0),(9,.ref 2 3 0 0),(10,I y56),(11,I y30),(12,I y8)] [0,1,2,7,9,10] [(Qge p0),Qfw,(.own 3 [[(Qyz y67 y66),(Qyy y68 y70 y71 y72 y73),(.acc 10 3 1 ((y69++([w64 (x43+y73)]):List Int).map Qak))]]),.tok,.tok,.tok] hφ0 (pc (rnd Qae) (pc (rnd Qac) (pc (.rn (rqr rfl)) (pc (.rn (rqr rfl)) (pc (.rn (rqr rfl)) (pc rwl (pc rwl (pc rwl pn)))))))) (qc (spb (lc (rnd Qal) (lc (rnd Qab) ln))) (qc (spb (lcc (lc rwl ln))) (qc (spb (lc (.rn (Qa7 rfl (Qa1 Qaj _))) (lc (.rn (Qa7 rfl (Qa1 Qaq _))) (lc (.rn (Qa7 rfl (Qa1 Qae _))) ln)))) (qc .tok (qc .tok (qc .tok qn)))))))⟩
          ·skip
           refine wxz ?_
           refine bfe h (fun hc79 h=>?_) fun hc79 h=>?_
           ·refine wft hc79 ?_
            obtain ⟨x81,hf80,h⟩:=bno h
            refine wx tbk [(3,rp [fu 64,(.tmp 169,(Qom x42)),(.tmp 171,(Qpf x26))] (.tup [(.dat 4 ((x81.1:List GStream).map Qaa)),(.agg [I x81.2.Heat,I x81.2.Silica,I x81.2.Gas])]))] ⟨apc (first:=[]) (cap:=[]) (vs:=[(Qom x42),(Qpf x26)]) rfl Za6 (Qnc N x42 x26.Weights _ hf80) rfl rfl (nlc (NLt.agg _ (nlcc (nlcc nl0))) (nlc (nld Qae _) nl0)) (NLt.tup _ (nlc (nld Qac _) (nlc (NLt.agg _ (nlcc (nlc nll nl0))) nl0))) rfl,trivial⟩ ?_
            refine wy1 tbk [(7,rp [(.tmp 177,I x81.2.Heat),(.tmp 179,I x81.2.Silica),(.tmp 181,I x81.2.Gas),ci 0] (.agg [I x81.2.Heat,I x81.2.Silica,I x81.2.Gas,I 0]))] ⟨Qav (vs:=[I x81.2.Heat,I x81.2.Silica,I x81.2.Gas,I 0]) rfl ts90 tz90 rfl (by rfl) rfl,trivial⟩ ?_
            refine thn ?_
            exact ⟨(x81.1,y58,y59,y60,x81.2.Heat,x81.2.Silica,x81.2.Gas,0),h,(mto (n:=209) [(1,(Qdq p1)),(2,(Qd0 p2)),(3,.ref 0 2 0 0),(6,.ref 1 3 0 0),(9,.ref 2 3 0 0),(10,I y56),(11,I y30),(12,I y8),(17,(.dat 4 ((x81.1:List GStream).map Qaa))),(18,.ref 5 4 0 0)] [0,1,2,5,6,7,8] [(Qge p0),Qfw,(.own 3 [[(Qs4 y58),(Qs3 y59),(.acc 8 3 1 ((y60:List Int).map Qak))]]),(.own 4 [[I x81.2.Heat,I x81.2.Silica,I x81.2.Gas,I 0]]),.tok,.tok,.tok] hφ0 (pc (rnd Qae) (pc (rnd Qac) (pc (.rn (rqr rfl)) (pc (.rn (rqr rfl)) (pc (.rn (rqr rfl)) (pc rwl (pc rwl (pc rwl (pc (rnd Qac) (pc (.rn (rqr rfl)) pn)))))))))) (qc (spb (lc (rnd Qal) (lc (rnd Qab) ln))) (qc (spb (lcc (lc rwl ln))) (qc (spb (lc (.rn (Qa7 rfl (Qa1 Qaj _))) (lc (.rn (Qa7 rfl (Qa1 Qaq _))) (lc (.rn (Qa7 rfl (Qa1 Qae _))) ln)))) (qc (spb (lcc (lcc ln))) (qc .tok (qc .tok (qc .tok qn))))))))⟩
           ·refine wfn hc79 ?_
            refine Qan ?_
            refine thn ?_
            exact ⟨(y57,y58,y59,y60,y61,y62,y63,y64),h,(mto (n:=209) [(1,(Qdq p1)),(2,(Qd0 p2)),(3,.ref 0 2 0 0),(6,.ref 1 3 0 0),(9,.ref 2 3 0 0),(10,I y56),(11,I y30),(12,I y8),(17,(.dat 4 ((y57:List GStream).map Qaa))),(18,.ref 5 4 0 0)] [0,1,2,5,6,7,8] [(Qge p0),Qfw,(.own 3 [[(Qs4 y58),(Qs3 y59),(.acc 8 3 1 ((y60:List Int).map Qak))]]),(.own 4 [[I y61,I y62,I y63,I y64]]),.tok,.tok,.tok] hφ0 (pc (rnd Qae) (pc (rnd Qac) (pc (.rn (rqr rfl)) (pc (.rn (rqr rfl)) (pc (.rn (rqr rfl)) (pc rwl (pc rwl (pc rwl (pc (rnd Qac) (pc (.rn (rqr rfl)) pn)))))))))) (qc (spb (lc (rnd Qal) (lc (rnd Qab) ln))) (qc (spb (lcc (lc rwl ln))) (qc (spb (lc (.rn (Qa7 rfl (Qa1 Qaj _))) (lc (.rn (Qa7 rfl (Qa1 Qaq _))) (lc (.rn (Qa7 rfl (Qa1 Qae _))) ln)))) (qc (spb (lcc (lcc ln))) (qc .tok (qc .tok (qc .tok qn))))))))⟩
         ·skip
          refine wxz ?_
          refine bfe h (fun hc82 h=>?_) fun hc82 h=>?_
          ·refine wft hc82 ?_
           obtain ⟨x83,hg84,h⟩:=bno h
           obtain ⟨hi85,hj86⟩:=gsm hg84
           obtain ⟨x88,hf87,h⟩:=bno h
           refine wxd tbk [(4,rp [(.tmp 112,(Zgm p0)),(.tmp 114,I x26.Level)] (.dptr (Qa0 (x83)) 0)),(7,rp [fu 63,(.tmp 116,(Qyx x83)),(.tmp 117,(Qom x42))] (.agg [I x88.Steam.Mass,I x88.Steam.Heat,I x88.Steam.Silica,I x88.Steam.Gas,I x88.Water.Mass,I x88.Water.Heat,I x88.Water.Silica,I x88.Water.Gas,I x88.Rest,I x88.Scale]))] ⟨aid rfl Tryz.underlying23 Qmq rfl rfl hi85 (mgt Qa0 hj86) rfl,apc (first:=[]) (cap:=[]) (vs:=[(Qyx x83),(Qom x42)]) rfl Zki (Qtk N x83 x42 _ hf87) rfl rfl (nlc (NLt.agg _ (nlcc (nlcc (nlc nll nl0)))) (nlc (NLt.agg _ (nlcc (nlcc nl0))) nl0)) (NLt.agg _ (nlcc (nlcc (nlcc (nlcc (nlcc nl0)))))) rfl,trivial⟩ ?_
           refine wx tbk [(4,rp [(.tmp 120,(Qpd x88)),(.tmp 122,(Qpc x88))] (Qyw x88))] ⟨Qbn (vs:=[(Qpd x88),(Qpc x88)]) rfl Tryz.underlying28 ti89 tz89 rfl (by decide) rfl (by decide) (by rfl) (by rfl) (by rfl) rfl,trivial⟩ ?_
           obtain ⟨k96,hk_k96,h⟩:=jko h
           refine wjn (τ:=(List GStream)×(List (List GStream))×(List GLost)×(List Int)×Int×Int×Int) (fun t=>k96 t=some r) (fun ⟨y89,y90,y91,y92,y93,y94,y95⟩=>⟨mk 209 [(1,(Qdq p1)),(2,(Qd0 p2)),(3,.ref 0 2 0 0),(6,.ref 1 3 0 0),(9,.ref 2 3 0 0),(10,I y6),(11,I y30),(12,I y8),(13,.ref 3 7 0 0),(16,.ref 4 4 0 0),(17,(.dat 4 ((y89:List GStream).map Qaa))),(18,.ref 5 4 0 0),(19,.ref 6 10 0 0)],[(Qge p0),Qfw,(.own 3 [[(.acc 7 28 1 ((y90:List (List GStream)).map Qaf)),(.acc 8 90 4 ((y91:List GLost).map Qaw)),(.acc 9 3 1 ((y92:List Int).map Qak))]]),(Qd1 x26),(Qhp x42),(.own 4 [[I y93,I y94,I y95,I 0]]),(Qs0 x88),.tok,.tok,.tok]⟩) (fun t h=>?_) ?_
           ·subst hk_k96
            obtain ⟨y89,y90,y91,y92,y93,y94,y95⟩:=t
            refine wxz ?_
            obtain ⟨x97,hl98,h⟩:=bno h
            refine wx1 tbk [(5,rp [(.tmp 164,(I (w64 (y6+x88.Steam.Mass))))] (I x97))] ⟨Qgy hl98 (aas rfl),trivial⟩ ?_
            refine thn ?_
            exact ⟨(x97,y89,y90,y91,y92,y93,y94,y95,x88.Scale),h,(mto (n:=209) [(1,(Qdq p1)),(2,(Qd0 p2)),(3,.ref 0 2 0 0),(6,.ref 1 3 0 0),(9,.ref 2 3 0 0),(10,I x97),(11,I y30),(12,I y8),(13,.ref 3 7 0 0),(16,.ref 4 4 0 0),(17,(.dat 4 ((y89:List GStream).map Qaa))),(18,.ref 5 4 0 0)] [0,1,2,3,4,5,7,8,9] [(Qge p0),Qfw,(.own 3 [[(.acc 7 28 1 ((y90:List (List GStream)).map Qaf)),(.acc 8 90 4 ((y91:List GLost).map Qaw)),(.acc 9 3 1 ((y92:List Int).map Qak))]]),(Qd1 x26),(Qhp x42),(.own 4 [[I y93,I y94,I y95,I x88.Scale]]),.tok,.tok,.tok] hφ0 (pc (rnd Qae) (pc (rnd Qac) (pc (.rn (rqr rfl)) (pc (.rn (rqr rfl)) (pc (.rn (rqr rfl)) (pc rwl (pc rwl (pc rwl (pc (.rn (rqr rfl)) (pc (.rn (rqr rfl)) (pc (rnd Qac) (pc (.rn (rqr rfl)) pn)))))))))))) (qc (spb (lc (rnd Qal) (lc (rnd Qab) ln))) (qc (spb (lcc (lc rwl ln))) (qc (spb (lc (.rn (Qa7 rfl (Qa1 Qaj _))) (lc (.rn (Qa7 rfl (Qa1 Qaq _))) (lc (.rn (Qa7 rfl (Qa1 Qae _))) ln)))) (qc (spb (lc rwl (lc (rnd Qa3) (lcc (lcc (lc (rnd Qae) ln)))))) (qc (spb (lcc (lcc ln))) (qc (spb (lcc (lcc ln))) (qc .tok (qc .tok (qc .tok qn))))))))))⟩
           ·skip
            refine wxz ?_
            refine bfe h (fun hc99 h=>?_) fun hc99 h=>?_
            ·refine wft hc99 ?_
             obtain ⟨x101,hf100,h⟩:=bno h
             refine wx tbk [(7,rp [(.tmp 132,(I (w64 (1000 - x26.Amount)))),(.tmp 134,I x26.Amount)] (Qs5 x26)),(8,rp [fu 64,(.tmp 129,(Qpc x88)),(.tmp 135,(Qs5 x26))] (.tup [(.dat 4 ((x101.1:List GStream).map Qaa)),(.agg [I x101.2.Heat,I x101.2.Silica,I x101.2.Gas])]))] ⟨Qbn (vs:=[(I (w64 (1000 - x26.Amount))),I x26.Amount]) rfl Tryz.underlying27 ti3 tz3 rfl (by decide) rfl (by decide) (by rfl) (by rfl) (by rfl) rfl,apc (first:=[]) (cap:=[]) (vs:=[(Qpc x88),(Qs5 x26)]) rfl Za6 (Qnc N (⟨x88.Water.Mass,x88.Water.Heat,x88.Water.Silica,x88.Water.Gas⟩:GStream) ([w64 (1000 - x26.Amount),x26.Amount]) _ hf100) rfl rfl (nlc (NLt.agg _ (nlcc (nlcc nl0))) (nlc (nld Qae _) nl0)) (NLt.tup _ (nlc (nld Qac _) (nlc (NLt.agg _ (nlcc (nlc nll nl0))) nl0))) rfl,trivial⟩ ?_
             obtain ⟨x102,hg103,h⟩:=bno h
             obtain ⟨hi104,hj105⟩:=gsm hg103
             obtain ⟨x107,hf106,h⟩:=bno h
             obtain ⟨x108,hg109,h⟩:=bno h
             obtain ⟨hi110,hj111⟩:=gsm hg109
             refine wxd tbk [(3,rp [(.tmp 141,(.dat 4 ((x101.1:List GStream).map Qaa))),ci 1] (.dptr (Qaa (x102)) 0)),(5,rp [(.tmp 140,(Qpd x88)),(.tmp 143,(Q38 x102))] (Qsz x88 x102)),(6,rp [fu 38,(.tmp 144,(Qsz x88 x102))] (Qsy x107)),(8,rp [(.tmp 146,(.dat 4 ((x101.1:List GStream).map Qaa))),ci 0] (.dptr (Qaa (x108)) 0)),(10,rp [(.tmp 145,(Qsy x107)),(.tmp 148,(Qyv x108))] (.dat 4 (([x107,x108]:List GStream).map Qaa)))] ⟨aid rfl Tryz.underlying28 ti89 rfl rfl hi104 (mgt Qaa hj105) rfl,Qbn (vs:=[(Qpd x88),(Q38 x102)]) rfl Tryz.underlying28 ti89 tz89 rfl (by decide) rfl (by decide) (by rfl) (by rfl) (by rfl) rfl,apc (first:=[]) (cap:=[]) (vs:=[(Qsz x88 x102)]) rfl Q2m (Ql6 N ([(⟨x88.Steam.Mass,x88.Steam.Heat,x88.Steam.Silica,x88.Steam.Gas⟩:GStream),x102]) _ hf106) rfl rfl (nlc (nld Qac _) nl0) (NLt.agg _ (nlcc (nlcc nl0))) rfl,aid rfl Tryz.underlying28 ti89 rfl rfl hi110 (mgt Qaa hj111) rfl,Qbn (vs:=[(Qsy x107),(Qyv x108)]) rfl Tryz.underlying28 ti89 tz89 rfl (by decide) rfl (by decide) (by rfl) (by rfl) (by rfl) rfl,trivial⟩ ?_
             refine wx1 tbk [(6,rp [(.tmp 151,I x101.2.Heat),(.tmp 153,I x101.2.Silica),(.tmp 155,I x101.2.Gas),ci 0] (.agg [I x101.2.Heat,I x101.2.Silica,I x101.2.Gas,I 0]))] ⟨Qav (vs:=[I x101.2.Heat,I x101.2.Silica,I x101.2.Gas,I 0]) rfl ts90 tz90 rfl (by rfl) rfl,trivial⟩ ?_
             refine thn ?_
             exact ⟨([x107,x108],y50,y51,y52,x101.2.Heat,x101.2.Silica,x101.2.Gas),h,(mto (n:=209) [(1,(Qdq p1)),(2,(Qd0 p2)),(3,.ref 0 2 0 0),(6,.ref 1 3 0 0),(9,.ref 2 3 0 0),(10,I y6),(11,I y30),(12,I y8),(13,.ref 3 7 0 0),(16,.ref 4 4 0 0),(17,(.dat 4 (([x107,x108]:List GStream).map Qaa))),(18,.ref 6 4 0 0),(19,.ref 10 10 0 0)] [0,1,2,3,4,6,10,7,8,9] [(Qge p0),Qfw,(Qmx y50 y51 y52),(Qd1 x26),(Qhp x42),(.own 4 [[I x101.2.Heat,I x101.2.Silica,I x101.2.Gas,I 0]]),(Qs0 x88),.tok,.tok,.tok] hφ0 (pc (rnd Qae) (pc (rnd Qac) (pc (.rn (rqr rfl)) (pc (.rn (rqr rfl)) (pc (.rn (rqr rfl)) (pc rwl (pc rwl (pc rwl (pc (.rn (rqr rfl)) (pc (.rn (rqr rfl)) (pc (rnd Qac) (pc (.rn (rqr rfl)) (pc (.rn (rqr rfl)) pn))))))))))))) (qc (spb (lc (rnd Qal) (lc (rnd Qab) ln))) (qc (spb (lcc (lc rwl ln))) (qc (spb (lc (.rn (Qa7 rfl (Qa1 Qaj _))) (lc (.rn (Qa7 rfl (Qa1 Qaq _))) (lc (.rn (Qa7 rfl (Qa1 Qae _))) ln)))) (qc (spb (lc rwl (lc (rnd Qa3) (lcc (lcc (lc (rnd Qae) ln)))))) (qc (spb (lcc (lcc ln))) (qc (spb (lcc (lcc ln))) (qc (spb (lcc (lcc (lcc (lcc (lcc ln)))))) (qc .tok (qc .tok (qc .tok qn)))))))))))⟩
            ·refine wfn hc99 ?_
             refine Qan ?_
             refine thn ?_
             exact ⟨([(⟨x88.Steam.Mass,x88.Steam.Heat,x88.Steam.Silica,x88.Steam.Gas⟩:GStream),(⟨x88.Water.Mass,x88.Water.Heat,x88.Water.Silica,x88.Water.Gas⟩:GStream)],y50,y51,y52,y54,0,0),h,(mto (n:=209) [(1,(Qdq p1)),(2,(Qd0 p2)),(3,.ref 0 2 0 0),(6,.ref 1 3 0 0),(9,.ref 2 3 0 0),(10,I y6),(11,I y30),(12,I y8),(13,.ref 3 7 0 0),(16,.ref 4 4 0 0),(17,(Qyw x88)),(18,.ref 6 4 0 0),(19,.ref 10 10 0 0)] [0,1,2,3,4,6,10,7,8,9] [(Qge p0),Qfw,(Qmx y50 y51 y52),(Qd1 x26),(Qhp x42),(Qpe y54),(Qs0 x88),.tok,.tok,.tok] hφ0 (pc (rnd Qae) (pc (rnd Qac) (pc (.rn (rqr rfl)) (pc (.rn (rqr rfl)) (pc (.rn (rqr rfl)) (pc rwl (pc rwl (pc rwl (pc (.rn (rqr rfl)) (pc (.rn (rqr rfl)) (pc (rnd Qac) (pc (.rn (rqr rfl)) (pc (.rn (rqr rfl)) pn))))))))))))) (qc (spb (lc (rnd Qal) (lc (rnd Qab) ln))) (qc (spb (lcc (lc rwl ln))) (qc (spb (lc (.rn (Qa7 rfl (Qa1 Qaj _))) (lc (.rn (Qa7 rfl (Qa1 Qaq _))) (lc (.rn (Qa7 rfl (Qa1 Qae _))) ln)))) (qc (spb (lc rwl (lc (rnd Qa3) (lcc (lcc (lc (rnd Qae) ln)))))) (qc (spb (lcc (lcc ln))) (qc (spb (lcc (lcc ln))) (qc (spb (lcc (lcc (lcc (lcc (lcc ln)))))) (qc .tok (qc .tok (qc .tok qn)))))))))))⟩
          ·refine wfn hc82 ?_
           refine Qan ?_
           refine thn ?_
           obtain ⟨hz112,h⟩:=cko h
           exact ⟨(y6,y53.take 1,y50,y51,y52,y54,0,0,0),h,(Mor.trans (Zaf (n:=209) (m:=4) (xs:=(y53:List GStream).map Qaa) (l':=[(1,(Qdq p1)),(2,(Qd0 p2)),(3,.ref 0 2 0 0),(6,.ref 1 3 0 0),(9,.ref 2 3 0 0),(10,I y6),(11,I y30),(12,I y8),(13,.ref 3 7 0 0),(16,.ref 4 4 0 0),(17,(.dat 4 ((y53.take 1:List GStream).map Qaa))),(18,.ref 6 4 0 0)]) (own':=[(Qge p0),Qfw,(Qmx y50 y51 y52),(Qd1 x26),(Qhp x42),.dead,(Qpe y54),.tok,.tok,.tok]) 5 [(1,(Qdq p1)),(2,(Qd0 p2)),(3,.ref 0 2 0 0),(6,.ref 1 3 0 0),(9,.ref 2 3 0 0),(10,I y6),(11,I y30),(12,I y8),(13,.ref 3 7 0 0),(16,.ref 4 4 0 0),(17,(.own 5 4 (0) (1))),(18,.ref 6 4 0 0)] (by kernel_rfl) (by kernel_rfl) (by kernel_rfl) ⟨rfl,.same _,rfl,.same _,rfl,.same _,rfl,.same _,rfl,.same _,rfl,.same _,rfl,.same _,rfl,.same _,rfl,.same _,rfl,.same _,rfl,(Qra hz112),rfl,.same _,trivial⟩ (by kernel_rfl)) (mto (n:=209) [(1,(Qdq p1)),(2,(Qd0 p2)),(3,.ref 0 2 0 0),(6,.ref 1 3 0 0),(9,.ref 2 3 0 0),(10,I y6),(11,I y30),(12,I y8),(13,.ref 3 7 0 0),(16,.ref 4 4 0 0),(17,(.dat 4 ((y53.take 1:List GStream).map Qaa))),(18,.ref 6 4 0 0)] [0,1,2,3,4,6,7,8,9] [(Qge p0),Qfw,(Qmx y50 y51 y52),(Qd1 x26),(Qhp x42),(Qpe y54),.tok,.tok,.tok] hφ0 (pc (rnd Qae) (pc (rnd Qac) (pc (.rn (rqr rfl)) (pc (.rn (rqr rfl)) (pc (.rn (rqr rfl)) (pc rwl (pc rwl (pc rwl (pc (.rn (rqr rfl)) (pc (.rn (rqr rfl)) (pc (rnd Qac) (pc (.rn (rqr rfl)) pn)))))))))))) (qc (spb (lc (rnd Qal) (lc (rnd Qab) ln))) (qc (spb (lcc (lc rwl ln))) (qc (spb (lc (.rn (Qa7 rfl (Qa1 Qaj _))) (lc (.rn (Qa7 rfl (Qa1 Qaq _))) (lc (.rn (Qa7 rfl (Qa1 Qae _))) ln)))) (qc (spb (lc rwl (lc (rnd Qa3) (lcc (lcc (lc (rnd Qae) ln)))))) (qc (spb (lcc (lcc ln))) (qc (spb (lcc (lcc ln))) (qc .tok (qc .tok (qc .tok qn)))))))))))⟩
        ·skip
         refine wxz ?_
         refine bfe h (fun hc113 h=>?_) fun hc113 h=>?_
         ·refine wft hc113 ?_
          refine wx tbk [(4,rp [(.tmp 95,I x26.Amount),(.tmp 97,I x42.Heat)] (I ((if x42.Heat<x26.Amount then x42.Heat else x26.Amount))))] ⟨Qqf rfl,trivial⟩ ?_
          obtain ⟨x114,hl115,h⟩:=bno h
          obtain ⟨hi116,h⟩:=cko h
          obtain ⟨hi116a,hi116b⟩:=Qdv hi116
          obtain ⟨x117,hg118,h⟩:=bno h
          refine wx1 tbk [(5,rp [(.tmp 102,I x42.Heat),(.tmp 104,(I ((if x42.Heat<x26.Amount then x42.Heat else x26.Amount))))] (I x114)),(6,rb [(.tmp 100,(.own 8 4 (0) (1))),ci 0] [(8,(Qpg x42))] (.ref 8 4 ((0:Int).toNat) 0)),(8,⟨[(.tmp 107,(.ref 8 4 ((0:Int).toNat) 1)),(.tmp 105,I x114)],[(8,(Qpg x42))],.any,[(8,(Qyu x42 x117 x114))],false⟩)] ⟨Qgy hl115 (abn rfl rfl),aio rfl Tryz.underlying28 ti89 (odt hi116a) (odt hi116b) (Nat.zero_add _),ast rfl ti3 (by rfl) (mgt Qaa hg118) (nle rfl) (Qgn Qaa rfl),trivial⟩ ?_
          refine thn ?_
          exact ⟨(y37,y38,y39,([x42]).set ((0:Int).toNat) (⟨x117.Mass,x114,x117.Silica,x117.Gas⟩:GStream),(if x42.Heat<x26.Amount then x42.Heat else x26.Amount)),h,(mto (n:=209) [(1,(Qdq p1)),(2,(Qd0 p2)),(3,.ref 0 2 0 0),(6,.ref 1 3 0 0),(9,.ref 2 3 0 0),(10,I y6),(11,I y30),(12,I y8),(13,.ref 3 7 0 0),(16,.ref 7 4 0 0),(17,(.own 8 4 (0) (1))),(18,.ref 9 4 0 0)] [0,1,2,3,7,8,9,4,5,6] [(Qge p0),Qfw,(.own 3 [[(Qs7 y37),(Qs6 y38),(.acc 6 3 1 ((y39:List Int).map Qak))]]),(Qd1 x26),(Qhp x42),(Qyu x42 x117 x114),(.own 4 [[(I ((if x42.Heat<x26.Amount then x42.Heat else x26.Amount))),I 0,I 0,I 0]]),.tok,.tok,.tok] hφ0 (pc (rnd Qae) (pc (rnd Qac) (pc (.rn (rqr rfl)) (pc (.rn (rqr rfl)) (pc (.rn (rqr rfl)) (pc rwl (pc rwl (pc rwl (pc (.rn (rqr rfl)) (pc (.rn (rqr rfl)) (pc (.rn (Qa4 rfl)) (pc (.rn (rqr rfl)) pn)))))))))))) (qc (spb (lc (rnd Qal) (lc (rnd Qab) ln))) (qc (spb (lcc (lc rwl ln))) (qc (spb (lc (.rn (Qa7 rfl (Qa1 Qaj _))) (lc (.rn (Qa7 rfl (Qa1 Qaq _))) (lc (.rn (Qa7 rfl (Qa1 Qae _))) ln)))) (qc (spb (lc rwl (lc (rnd Qa3) (lcc (lcc (lc (rnd Qae) ln)))))) (qc (spb (lcc (lcc ln))) (qc (spr Qac) (qc (spb (lcc (lcc ln))) (qc .tok (qc .tok (qc .tok qn)))))))))))⟩
         ·refine wfn hc113 ?_
          refine Qan ?_
          refine thn ?_
          exact ⟨(y37,y38,y39,[x42],0),h,(mto (n:=209) [(1,(Qdq p1)),(2,(Qd0 p2)),(3,.ref 0 2 0 0),(6,.ref 1 3 0 0),(9,.ref 2 3 0 0),(10,I y6),(11,I y30),(12,I y8),(13,.ref 3 7 0 0),(16,.ref 7 4 0 0),(17,(.own 8 4 (0) (1))),(18,.ref 9 4 0 0)] [0,1,2,3,7,8,9,4,5,6] [(Qge p0),Qfw,(.own 3 [[(Qs7 y37),(Qs6 y38),(.acc 6 3 1 ((y39:List Int).map Qak))]]),(Qd1 x26),(Qhp x42),(Qpg x42),(.own 4 [[I 0,I 0,I 0,I 0]]),.tok,.tok,.tok] hφ0 (pc (rnd Qae) (pc (rnd Qac) (pc (.rn (rqr rfl)) (pc (.rn (rqr rfl)) (pc (.rn (rqr rfl)) (pc rwl (pc rwl (pc rwl (pc (.rn (rqr rfl)) (pc (.rn (rqr rfl)) (pc (.rn (Qa4 rfl)) (pc (.rn (rqr rfl)) pn)))))))))))) (qc (spb (lc (rnd Qal) (lc (rnd Qab) ln))) (qc (spb (lcc (lc rwl ln))) (qc (spb (lc (.rn (Qa7 rfl (Qa1 Qaj _))) (lc (.rn (Qa7 rfl (Qa1 Qaq _))) (lc (.rn (Qa7 rfl (Qa1 Qae _))) ln)))) (qc (spb (lc rwl (lc (rnd Qa3) (lcc (lcc (lc (rnd Qae) ln)))))) (qc (spb (lcc (lcc ln))) (qc (spr Qac) (qc (spb (lcc (lcc ln))) (qc .tok (qc .tok (qc .tok qn)))))))))))⟩
      ·skip
       refine wxz ?_
       refine Qam ?_
       refine wmr (mto (n:=209) (l':=[(1,(Qdq p1)),(2,(Qd0 p2)),(3,.ref 0 2 0 0),(6,.ref 1 3 0 0),(9,.ref 2 3 0 0),(10,I y6),(11,I y30),(12,I y8),(13,.ref 3 7 0 0),(14,(Qwu y31)),(15,I 0)]) (own':=[(Qge p0),Qfw,(.own 3 [[(Qwt y32),(Qws y33),(Qwr y34)]]),(Qd1 x26),.tok,.tok,.tok]) [(1,(Qdq p1)),(2,(Qd0 p2)),(3,.ref 0 2 0 0),(6,.ref 1 3 0 0),(9,.ref 2 3 0 0),(10,I y6),(11,I y30),(12,I y8),(13,.ref 3 7 0 0),(14,(Qwu y31)),(15,I 0)] [0,1,2,3,4,5,6] [(Qge p0),Qfw,(.own 3 [[(Qwt y32),(Qws y33),(Qwr y34)]]),(Qd1 x26),.tok,.tok,.tok] hφ0 (pc (rnd Qae) (pc (rnd Qac) (pc (.rn (rqr rfl)) (pc (.rn (rqr rfl)) (pc (.rn (rqr rfl)) (pc rwl (pc rwl (pc rwl (pc (.rn (rqr rfl)) (pc (rnd Qac) (pc rwl pn))))))))))) (qc (spb (lc (rnd Qal) (lc (rnd Qab) ln))) (qc (spb (lcc (lc rwl ln))) (qc (spb (lc (.rn (Qa7 rfl (Qa1 Qaj _))) (lc (.rn (Qa7 rfl (Qa1 Qaq _))) (lc (.rn (Qa7 rfl (Qa1 Qae _))) ln)))) (qc (spb (lc rwl (lc (rnd Qa3) (lcc (lcc (lc (rnd Qae) ln)))))) (qc .tok (qc .tok (qc .tok qn)))))))) ?_
       refine Qbw (τ:=(List GStream)×Int×(List (List GStream))×(List GLost)×(List Int)) (fun n t=>Qfn N x26 k40 n t.1 t.2.1 t.2.2.1 t.2.2.2.1 t.2.2.2.2=some r) (fun ⟨y119,y120,y121,y122,y123⟩=>⟨mk 209 [(1,(Qdq p1)),(2,(Qd0 p2)),(3,.ref 0 2 0 0),(6,.ref 1 3 0 0),(9,.ref 2 3 0 0),(10,I y6),(11,I y30),(12,I y8),(13,.ref 3 7 0 0),(14,(.dat 4 ((y119:List GStream).map Qaa))),(15,I y120)],[(Qge p0),Qfw,(.own 3 [[(Qpb y121),(Qsw y122),(.acc 6 3 1 ((y123:List Int).map Qak))]]),(Qd1 x26),.tok,.tok,.tok]⟩) (fun t h=>by rw [Qfn] at h; cases h) (fun n129 ih t h=>?_) N (y31,0,y32,y33,y34) h
       obtain ⟨y119,y120,y121,y122,y123⟩:=t
       rw [Qfn] at h
       skip
       refine wsq ?_
       refine wx tbk [(3,rp [(.tmp 48,(Qmy x26))] (I ((x26.From.length:Int))))] ⟨alm (c:=Qas) (l:=x26.From) (aln rfl Tryz.underlying57 rfl),trivial⟩ ?_
       refine bfe h (fun hc130 h=>?_) fun hc130 h=>?_
       ·refine wft hc130 ?_
        refine Qan ?_
        refine thn ?_
        refine wsq ?_
        refine Qam ?_
        obtain ⟨ha131,h⟩:=cko h
        obtain ⟨x132,hg133,h⟩:=bno h
        obtain ⟨hi134,hj135⟩:=gsm hg133
        obtain ⟨x136,hg137,h⟩:=bno h
        obtain ⟨hi138,hj139⟩:=gsm hg137
        obtain ⟨x140,hg141,h⟩:=bno h
        obtain ⟨hi142,hj143⟩:=gsm hg141
        obtain ⟨hz144,h⟩:=cko h
        obtain ⟨ha145,h⟩:=cko h
        refine wy1 tbk [(0,⟨[],[(7,.unused)],Q4a,[(7,.tok)],false⟩),(2,⟨[(.tmp 53,Q4a),(.tmp 54,(.dat 4 ((y119:List GStream).map Qaa)))],[(7,.tok),(8,.unused)],(Qsx y119),[(7,.dead),(8,.tok)],false⟩),(8,rp [(.tmp 59,(Qmy x26)),(.tmp 60,I y120)] (.dptr (Qas (x132)) 0)),(11,rp [(.tmp 57,(Qpb y121)),(.tmp 63,I x132.Element)] (.dptr (Qaf (x136)) 0)),(16,rp [(.tmp 67,(Qmy x26)),(.tmp 68,I y120)] (.dptr (Qas (x132)) 0)),(19,rp [(.tmp 65,(.dat 4 ((x136:List GStream).map Qaa))),(.tmp 71,I x132.Outlet)] (.dptr (Qaa (x140)) 0)),(21,⟨[(.tmp 73,(Qyt x140))],[(9,.unused)],(.own 9 4 (0) (1)),[(9,(.own 4 (([x140]:List GStream).map Qaa)))],false⟩),(22,⟨[(.tmp 55,(Qsx y119)),(.tmp 74,(.own 9 4 (0) (1)))],[(9,(.own 4 (([x140]:List GStream).map Qaa))),(8,.tok),(10,.unused)],(.acc 10 89 4 (((([]:List GStream)++y119)++(([x140]).take 1):List GStream).map Qaa)),[(8,.dead),(10,.tok)],false⟩)] ⟨Qkd rfl Tryz.underlying28 ti89 tz89,Qex rfl Tryz.underlying28 te89 (Base.acc _ _) rfl rfl (Qns Qaa Qtw _) (Qhf Qaa ha131) (Qhe Qaa ha131 (by decide)) (Qhd Qaa) rfl rfl,aid rfl Tryz.underlying57 ti61 rfl rfl hi134 (mgt Qas hj135) rfl,aid rfl Tryz.underlying49 ti28 rfl rfl hi138 (mgt Qaf hj139) rfl,aid rfl Tryz.underlying57 ti61 rfl rfl hi134 (mgt Qas hj135) rfl,aid rfl Tryz.underlying28 ti89 rfl rfl hi142 (mgt Qaa hj143) rfl,Qmi (vs:=[(Qyt x140)]) rfl Tryz.underlying28 ti89 tz89 rfl (by decide) rfl (by decide) (by rfl) (by rfl) (by rfl) rfl,Qhl (rd':=[(.tmp 55,(Qsx y119)),(.tmp 74,(.dat 4 ((([x140]).take 1:List GStream).map Qaa)))]) [(9,4,([x140]:List GStream).map Qaa)] ⟨rfl,.same _,rfl,(Qug 0 rfl hz144),trivial⟩ (by rfl) (.acc _ _ _ _ (nin rfl) (by simp) (Qxf Qt2 _)) (Qps .dead (Qps .tok Qqw)) (Qex rfl Tryz.underlying28 te89 (Base.acc _ _) rfl rfl (Qns Qaa Qtw _) (Qhf Qaa ha145) (Qhe Qaa ha145 (by decide)) (Qhd Qaa) rfl rfl),trivial⟩ ?_
        refine bln ?_
        refine thn ?_
        refine wxz1 ?_
        refine thn ?_
        exact arm (mto (n:=209) [(1,(Qdq p1)),(2,(Qd0 p2)),(3,.ref 0 2 0 0),(6,.ref 1 3 0 0),(9,.ref 2 3 0 0),(10,I y6),(11,I y30),(12,I y8),(13,.ref 3 7 0 0),(14,(.acc 10 89 4 (((([]:List GStream)++y119)++(([x140]).take 1):List GStream).map Qaa))),(15,(I (w64 (y120+1))))] [0,1,2,3,4,5,6] [(Qge p0),Qfw,(.own 3 [[(Qpb y121),(Qsw y122),(.acc 6 3 1 ((y123:List Int).map Qak))]]),(Qd1 x26),.tok,.tok,.tok] hφ0 (pc (rnd Qae) (pc (rnd Qac) (pc (.rn (rqr rfl)) (pc (.rn (rqr rfl)) (pc (.rn (rqr rfl)) (pc rwl (pc rwl (pc rwl (pc (.rn (rqr rfl)) (pc (.dat _ _ _ _ (Qa1 Qac _)) (pc rwl pn))))))))))) (qc (spb (lc (rnd Qal) (lc (rnd Qab) ln))) (qc (spb (lcc (lc rwl ln))) (qc (spb (lc (.rn (Qa7 rfl (Qa1 Qaj _))) (lc (.rn (Qa7 rfl (Qa1 Qaq _))) (lc (.rn (Qa7 rfl (Qa1 Qae _))) ln)))) (qc (spb (lc rwl (lc (rnd Qa3) (lcc (lcc (lc (rnd Qae) ln)))))) (qc .tok (qc .tok (qc .tok qn)))))))) (ih ((([]:List GStream)++y119)++(([x140]).take 1),w64 (y120+1),y121,y122,y123) h)
       ·refine wfn hc130 ?_
        refine Qbh ?_
        refine Qax ?_
        refine Qax ?_
        refine Qbg rfl ?_
        refine thn ?_
        exact ⟨(y119,y121,y122,y123),h,(mto (n:=209) [(1,(Qdq p1)),(2,(Qd0 p2)),(3,.ref 0 2 0 0),(6,.ref 1 3 0 0),(9,.ref 2 3 0 0),(10,I y6),(11,I y30),(12,I y8),(13,.ref 3 7 0 0),(14,(.dat 4 ((y119:List GStream).map Qaa)))] [0,1,2,3,4,5,6] [(Qge p0),Qfw,(.own 3 [[(Qpb y121),(Qsw y122),(.acc 6 3 1 ((y123:List Int).map Qak))]]),(Qd1 x26),.tok,.tok,.tok] hφ0 (pc (rnd Qae) (pc (rnd Qac) (pc (.rn (rqr rfl)) (pc (.rn (rqr rfl)) (pc (.rn (rqr rfl)) (pc rwl (pc rwl (pc rwl (pc (.rn (rqr rfl)) (pc (rnd Qac) pn)))))))))) (qc (spb (lc (rnd Qal) (lc (rnd Qab) ln))) (qc (spb (lcc (lc rwl ln))) (qc (spb (lc (.rn (Qa7 rfl (Qa1 Qaj _))) (lc (.rn (Qa7 rfl (Qa1 Qaq _))) (lc (.rn (Qa7 rfl (Qa1 Qae _))) ln)))) (qc (spb (lc rwl (lc (rnd Qa3) (lcc (lcc (lc (rnd Qae) ln)))))) (qc .tok (qc .tok (qc .tok qn))))))))⟩
     ·skip
      refine wxz ?_
      refine bfe h (fun hc146 h=>?_) fun hc146 h=>?_
      ·refine wft hc146 ?_
       obtain ⟨hs147,h⟩:=cko h
       refine wx tbk [(4,rp [(.tmp 39,(Qd0 p2)),(.tmp 40,I y7),(.tmp 42,(I (w64 (y7+1))))] (Qy2 p2 y7))] ⟨Qnl (k:=.i64) (k':=.i64) (lo:=some (.tmp 40)) (hi:=some (.tmp 42)) (l:=y7) (hh:=w64 (y7+1)) rfl Tryz.underlying28 ti89 rfl (fun e=>nomatch e) (fun e=>nomatch e) (Q0u hs147) (Q0t hs147) (Zk8 (Qaa) hs147) (Znn Qaa),trivial⟩ ?_
       refine wxz1 ?_
       refine thn ?_
       exact ⟨(w64 (y7+1),(p2.drop y7.toNat).take ((w64 (y7+1)).toNat - y7.toNat),y9,y10,y11),h,(mto (n:=209) [(1,(Qdq p1)),(2,(Qd0 p2)),(3,.ref 0 2 0 0),(6,.ref 1 3 0 0),(9,.ref 2 3 0 0),(10,I y6),(11,(I (w64 (y7+1)))),(12,I y8),(13,.ref 6 7 0 0),(14,(Qy2 p2 y7))] [0,1,2,6,3,4,5] [(Qge p0),Qfw,(Qph y9 y10 y11),(Qd1 x26),.tok,.tok,.tok] hφ0 (pc (rnd Qae) (pc (rnd Qac) (pc (.rn (rqr rfl)) (pc (.rn (rqr rfl)) (pc (.rn (rqr rfl)) (pc rwl (pc rwl (pc rwl (pc (.rn (rqr rfl)) (pc (rnd Qac) pn)))))))))) (qc (spb (lc (rnd Qal) (lc (rnd Qab) ln))) (qc (spb (lcc (lc rwl ln))) (qc (spb (lc (.rn (Qa7 rfl (Qa1 Qaj _))) (lc (.rn (Qa7 rfl (Qa1 Qaq _))) (lc (.rn (Qa7 rfl (Qa1 Qae _))) ln)))) (qc (spb (lc rwl (lc (rnd Qa3) (lcc (lcc (lc (rnd Qae) ln)))))) (qc .tok (qc .tok (qc .tok qn))))))))⟩
      ·refine wfn hc146 ?_
       refine Qan ?_
       refine thn ?_
       exact ⟨(y7,[],y9,y10,y11),h,(mto (n:=209) [(1,(Qdq p1)),(2,(Qd0 p2)),(3,.ref 0 2 0 0),(6,.ref 1 3 0 0),(9,.ref 2 3 0 0),(10,I y6),(11,I y7),(12,I y8),(13,.ref 6 7 0 0),(14,nilS)] [0,1,2,6,3,4,5] [(Qge p0),Qfw,(Qph y9 y10 y11),(Qd1 x26),.tok,.tok,.tok] hφ0 (pc (rnd Qae) (pc (rnd Qac) (pc (.rn (rqr rfl)) (pc (.rn (rqr rfl)) (pc (.rn (rqr rfl)) (pc rwl (pc rwl (pc rwl (pc (.rn (rqr rfl)) (pc (.nil _) pn)))))))))) (qc (spb (lc (rnd Qal) (lc (rnd Qab) ln))) (qc (spb (lcc (lc rwl ln))) (qc (spb (lc (.rn (Qa7 rfl (Qa1 Qaj _))) (lc (.rn (Qa7 rfl (Qa1 Qaq _))) (lc (.rn (Qa7 rfl (Qa1 Qae _))) ln)))) (qc (spb (lc rwl (lc (rnd Qa3) (lcc (lcc (lc (rnd Qae) ln)))))) (qc .tok (qc .tok (qc .tok qn))))))))⟩
   ·refine wfn hc19 ?_
    refine Qbh ?_
    refine Qax ?_
    refine Qax ?_
    refine Qbg rfl ?_
    refine thn ?_
    exact ⟨(y6,y9,y10,y11),h,(mto (n:=209) [(6,.ref 1 3 0 0),(9,.ref 2 3 0 0),(10,I y6)] [1,2,3,4,5] [Qfw,(Qph y9 y10 y11),.tok,.tok,.tok] hφ0 (pc (.rn (rqr rfl)) (pc (.rn (rqr rfl)) (pc rwl pn))) (qc (spb (lcc (lc rwl ln))) (qc (spb (lc (.rn (Qa7 rfl (Qa1 Qaj _))) (lc (.rn (Qa7 rfl (Qa1 Qaq _))) (lc (.rn (Qa7 rfl (Qa1 Qae _))) ln)))) (qc .tok (qc .tok (qc .tok qn))))))⟩
def Qes (N:Nat) (p0:(List Int)) (p1:(List Int)) (k2:Unit→Option Bool):Nat→Int→Option Bool
  | 0,_=>none
  | n5+1,y3=>
    bif (decide (y3<(p0.length:Int))) then
     (getI p0 y3).bind fun x7=>
     (getI p1 y3).bind fun x11=>
     bif (x7 != x11) then
      some false
     else
      Qes N p0 p1 k2 n5 (w64 (y3+1))
    else
     k2 ()
def Qkx (N:Nat) (p0:(List Int)) (p1:(List Int)):Option Bool:=
  bif ((p0.length:Int) != (p1.length:Int)) then
   some false
  else
   Qbf (fun _=>
     some true) fun k2:Unit→Option Bool=>
   Qes N p0 p1 k2 N 0
def Qsv (p0:(List Int)):AV:=.dat 1 ((p0:List Int).map Qak)
def Qvi (p1:(List Int)):AV:=.dat 1 ((p1:List Int).map Qak)
theorem Qu7 (N:Nat) (p0:(List Int)) (p1:(List Int)) (r:Bool) (h:Qkx N p0 p1=some r):Spec Tryz.prog 49 [(.dat 1 (p0.map Qak)),(.dat 1 (p1.map Qak))] [] (B r) []:=by
  refine Qai Tryz.func49 rfl 0 (nle rfl) (fun X φ0 w0 hφ0 hd0=>?_)
  unfold Qkx at h
  refine wxz ?_
  refine wsq ?_
  refine wx tbk [(1,rp [(.tmp 6,(Qsv p0))] (I ((p0.length:Int)))),(3,rp [(.tmp 8,(Qvi p1))] (I ((p1.length:Int))))] ⟨alm (c:=Qak) (l:=p0) (aln rfl Tryz.underlying27 rfl),alm (c:=Qak) (l:=p1) (aln rfl Tryz.underlying27 rfl),trivial⟩ ?_
  refine bfe h (fun hc1 h=>?_) fun hc1 h=>?_
  ·refine wft hc1 ?_
   refine wxz ?_
   refine Qag ?_
   refine Qah ?_
   obtain rfl:=osi h
   exact fend ⟨[B false],⟨rot,trivial⟩,rfl⟩ nll
  ·refine wfn hc1 ?_
   refine Qan ?_
   refine thn ?_
   obtain ⟨k2,hk_k2,h⟩:=jko h
   refine wjn (τ:=Unit) (fun t=>k2 t=some r) (fun _=>⟨mk 26 [],[]⟩) (fun t h=>?_) ?_
   ·subst hk_k2
    refine wxz ?_
    refine Qag ?_
    obtain rfl:=osi h
    exact fend ⟨[B true],⟨rot,trivial⟩,rfl⟩ nll
   ·skip
    refine wxz ?_
    refine Qam ?_
    refine wmr (mto (n:=26) (l':=[(0,(Qsv p0)),(1,(Qvi p1)),(5,I 0)]) (own':=[]) [(0,(Qsv p0)),(1,(Qvi p1)),(5,I 0)] [] [] hφ0 (pc (rnd Qae) (pc (rnd Qae) (pc rwl pn))) qn) ?_
    refine Qbw (τ:=Int) (fun n t=>Qes N p0 p1 k2 n t=some r) (fun y3=>⟨mk 26 [(0,(Qsv p0)),(1,(Qvi p1)),(5,I y3)],[]⟩) (fun t h=>by rw [Qes] at h; cases h) (fun n5 ih y3 h=>?_) N (0) h
    rw [Qes] at h
    skip
    refine wsq ?_
    refine wx tbk [(2,rp [(.tmp 12,(Qsv p0))] (I ((p0.length:Int))))] ⟨alm (c:=Qak) (l:=p0) (aln rfl Tryz.underlying27 rfl),trivial⟩ ?_
    refine bfe h (fun hc6 h=>?_) fun hc6 h=>?_
    ·refine wft hc6 ?_
     refine Qan ?_
     refine thn ?_
     refine wsq ?_
     refine Qam ?_
     obtain ⟨x7,hg8,h⟩:=bno h
     obtain ⟨hi9,hj10⟩:=gsm hg8
     obtain ⟨x11,hg12,h⟩:=bno h
     obtain ⟨hi13,hj14⟩:=gsm hg12
     refine wxd tbk [(2,rp [(.tmp 17,(Qsv p0)),(.tmp 18,I y3)] (.dptr (Qak (x7)) 0)),(6,rp [(.tmp 21,(Qvi p1)),(.tmp 22,I y3)] (.dptr (Qak (x11)) 0))] ⟨aid rfl Tryz.underlying27 ti3 rfl rfl hi9 (mgt Qak hj10) rfl,aid rfl Tryz.underlying27 ti3 rfl rfl hi13 (mgt Qak hj14) rfl,trivial⟩ ?_
     refine bfe h (fun hc15 h=>?_) fun hc15 h=>?_
     ·refine wft hc15 ?_
      refine wxz ?_
      refine Qag ?_
      refine Qao ?_
      refine Qah ?_
      refine Qah ?_
      refine Qao ?_
      refine Qah ?_
      obtain rfl:=osi h
      exact fend ⟨[B false],⟨rot,trivial⟩,rfl⟩ nll
     ·refine wfn hc15 ?_
      refine Qan ?_
      refine bln ?_
      refine thn ?_
      refine wxz1 ?_
      refine thn ?_
      exact arm (mto (n:=26) [(0,(Qsv p0)),(1,(Qvi p1)),(5,(I (w64 (y3+1))))] [] [] hφ0 (pc (rnd Qae) (pc (rnd Qae) (pc rwl pn))) qn) (ih (w64 (y3+1)) h)
    ·refine wfn hc6 ?_
     refine Qbh ?_
     refine Qax ?_
     refine Qax ?_
     refine Qbg rfl ?_
     refine thn ?_
     exact ⟨(),h,(mto (n:=26) [] [] [] hφ0 pn qn)⟩
def Qmf (_N:Nat) (p0:GStream):Option GStream:=
  some p0
def Zgl (p0:GStream):AV:=.agg [(I (p0.Mass)),(I (p0.Heat)),(I (p0.Silica)),(I (p0.Gas))]
theorem Qu8 (N:Nat) (p0:GStream) (r:GStream) (h:Qmf N p0=some r):Spec Tryz.prog 37 [(.agg (Qaa p0))] [] (.agg (Qaa r)) []:=by
  refine Qai Tryz.func37 rfl 0 (nle rfl) (fun X φ0 w0 hφ0 hd0=>?_)
  unfold Qmf at h
  refine wxz ?_
  refine wx tbk [(8,rp [(.tmp 4,I p0.Mass),(.tmp 6,I p0.Heat),(.tmp 8,I p0.Silica),(.tmp 10,I p0.Gas)] (Zgl p0))] ⟨Qav (vs:=[I p0.Mass,I p0.Heat,I p0.Silica,I p0.Gas]) rfl ts89 tz89 rfl (by rfl) rfl,trivial⟩ ?_
  refine Qag ?_
  obtain rfl:=osi h
  exact fend ⟨[(Zgl p0)],⟨Qbv (n:=1) (m:=4) (j:=0) (i:=0) (xs:=[[I p0.Mass,I p0.Heat,I p0.Silica,I p0.Gas]]) (by kernel_rfl) (by kernel_rfl) ti89 (by decide) rfl (nle rfl) rfl,trivial⟩,rfl⟩ (NLt.agg _ (nlcc (nlcc nl0)))
def Qer (N:Nat) (p0:GTick) (p1:GTick) (k3:Unit→Option Bool):Nat→Int→Option Bool
  | 0,_=>none
  | n6+1,y4=>
    bif (decide (y4<(p1.Lost.length:Int))) then
     (getI p0.Lost y4).bind fun x8=>
     (getI p1.Lost y4).bind fun x12=>
     bif (x8.Heat != x12.Heat) then
      some false
     else
      bif (x8.Silica != x12.Silica) then
       some false
      else
       bif (x8.Gas != x12.Gas) then
        some false
       else
        bif (x8.Scale != x12.Scale) then
         some false
        else
         Qer N p0 p1 k3 n6 (w64 (y4+1))
    else
     k3 ()
def Qep (N:Nat) (k24:Unit→Option Bool) (x25:(List GStream)) (x29:(List GStream)):Nat→Int→Option Bool
  | 0,_=>none
  | n36+1,y34=>
    bif (decide (y34<(x29.length:Int))) then
     (getI x25 y34).bind fun x38=>
     (Qmf N x38).bind fun x43=>
     (getI x29 y34).bind fun x44=>
     bif (!(([x43.Mass,x43.Heat,x43.Silica,x43.Gas]:List Int)==[x44.Mass,x44.Heat,x44.Silica,x44.Gas])) then
      some false
     else
      Qep N k24 x25 x29 n36 (w64 (y34+1))
    else
     k24 ()
def Qeq (N:Nat) (p0:GTick) (p1:GTick) (k2:Unit→Option Bool):Nat→Int→Option Bool
  | 0,_=>none
  | n22+1,y20=>
    bif (decide (y20<(p1.Out.length:Int))) then
     Qbf (fun _=>
       Qeq N p0 p1 k2 n22 (w64 (y20+1))) fun k24:Unit→Option Bool=>
     (getI p0.Out y20).bind fun x25=>
     (getI p1.Out y20).bind fun x29=>
     bif ((x25.length:Int) != (x29.length:Int)) then
      some false
     else
      Qep N k24 x25 x29 N 0
    else
     k2 ()
def Qkv (N:Nat) (p0:GTick) (p1:GTick):Option Bool:=
  Qbf (fun _=>
    Qbf (fun _=>
      Qbf (fun _=>
        some true) fun k3:Unit→Option Bool=>
      Qer N p0 p1 k3 N 0) fun k2:Unit→Option Bool=>
    Qeq N p0 p1 k2 N 0) fun k1:Unit→Option Bool=>
  bif ((p0.Out.length:Int) != (p1.Out.length:Int)) then
   some false
  else
   bif ((p0.Lost.length:Int) != (p1.Lost.length:Int)) then
    some false
   else
    (Qkx N p0.State p1.State).bind fun x52=>
    bif (!x52) then
     some false
    else
     k1 ()
def Qvj (p0:GTick):AV:=.dat 1 ((p0.Out:List (List GStream)).map Qaf)
def Q37 (p0:GTick):AV:=.dat 4 ((p0.Lost:List GLost).map Qaw)
def Q89 (p0:GTick):AV:=.dat 1 ((p0.State:List Int).map Qak)
def Qiv (p0:GTick):Slot:=.own 3 [[(Qvj p0),(Q37 p0),(Q89 p0)]]
def Qrl (p1:GTick):AV:=.dat 1 ((p1.Out:List (List GStream)).map Qaf)
def Qys (p1:GTick):AV:=.dat 4 ((p1.Lost:List GLost).map Qaw)
def Q87 (p1:GTick):AV:=.dat 1 ((p1.State:List Int).map Qak)
def Qiu (p1:GTick):Slot:=.own 3 [[(Qrl p1),(Qys p1),(Q87 p1)]]
def Q1j (x29:(List GStream)):AV:=.dat 4 ((x29:List GStream).map Qaa)
def Q88 (x38:GStream):AV:=.agg [(I (x38.Mass)),(I (x38.Heat)),(I (x38.Silica)),(I (x38.Gas))]
def Q86 (x43:GStream):AV:=.agg [(I (x43.Mass)),(I (x43.Heat)),(I (x43.Silica)),(I (x43.Gas))]
theorem Qof (N:Nat) (p0:GTick) (p1:GTick) (r:Bool) (h:Qkv N p0 p1=some r):Spec Tryz.prog 23 [(.agg (Qxz p0)),(.agg (Qxz p1))] [] (B r) []:=by
  refine Qai Tryz.func23 rfl 0 (nle rfl) (fun X φ0 w0 hφ0 hd0=>?_)
  unfold Qkv at h
  refine wxz ?_
  obtain ⟨k1,hk_k1,h⟩:=jko h
  refine wjn (τ:=Unit) (fun t=>k1 t=some r) (fun _=>⟨mk 125 [(2,.ref 0 3 0 0),(3,.ref 1 3 0 0)],[(Qiv p0),(Qiu p1)]⟩) (fun t h=>?_) ?_
  ·subst hk_k1
   obtain ⟨k2,hk_k2,h⟩:=jko h
   refine wjn (τ:=Unit) (fun t=>k2 t=some r) (fun _=>⟨mk 125 [(2,.ref 0 3 0 0),(3,.ref 1 3 0 0)],[(Qiv p0),(Qiu p1)]⟩) (fun t h=>?_) ?_
   ·subst hk_k2
    obtain ⟨k3,hk_k3,h⟩:=jko h
    refine wjn (τ:=Unit) (fun t=>k3 t=some r) (fun _=>⟨mk 125 [],[]⟩) (fun t h=>?_) ?_
    ·subst hk_k3
     refine wxz ?_
     refine Qag ?_
     obtain rfl:=osi h
     exact fend ⟨[B true],⟨rot,trivial⟩,rfl⟩ nll
    ·skip
     refine wxz ?_
     refine Qam ?_
     refine wmr (mto (n:=125) (l':=[(2,.ref 0 3 0 0),(3,.ref 1 3 0 0),(7,I 0)]) (own':=[(Qiv p0),(Qiu p1)]) [(2,.ref 0 3 0 0),(3,.ref 1 3 0 0),(7,I 0)] [0,1] [(Qiv p0),(Qiu p1)] hφ0 (pc (.rn (rqr rfl)) (pc (.rn (rqr rfl)) (pc rwl pn))) (qc (spb (lc (rnd Qaj) (lc (rnd Qaq) (lc (rnd Qae) ln)))) (qc (spb (lc (rnd Qaj) (lc (rnd Qaq) (lc (rnd Qae) ln)))) qn))) ?_
     refine Qbw (τ:=Int) (fun n t=>Qer N p0 p1 k3 n t=some r) (fun y4=>⟨mk 125 [(2,.ref 0 3 0 0),(3,.ref 1 3 0 0),(7,I y4)],[(Qiv p0),(Qiu p1)]⟩) (fun t h=>by rw [Qer] at h; cases h) (fun n6 ih y4 h=>?_) N (0) h
     rw [Qer] at h
     skip
     refine wsq ?_
     refine wx tbk [(3,rp [(.tmp 84,(Qys p1))] (I ((p1.Lost.length:Int))))] ⟨alm (c:=Qaw) (l:=p1.Lost) (aln rfl Tryz.underlying50 rfl),trivial⟩ ?_
     refine bfe h (fun hc7 h=>?_) fun hc7 h=>?_
     ·refine wft hc7 ?_
      refine Qan ?_
      refine thn ?_
      refine wsq ?_
      refine Qam ?_
      obtain ⟨x8,hg9,h⟩:=bno h
      obtain ⟨hi10,hj11⟩:=gsm hg9
      obtain ⟨x12,hg13,h⟩:=bno h
      obtain ⟨hi14,hj15⟩:=gsm hg13
      refine wxd tbk [(3,rp [(.tmp 90,(Q37 p0)),(.tmp 91,I y4)] (.dptr (Qaw (x8)) 0)),(8,rp [(.tmp 95,(Qys p1)),(.tmp 96,I y4)] (.dptr (Qaw (x12)) 0))] ⟨aid rfl Tryz.underlying32 ti82 rfl rfl hi10 (mgt Qaw hj11) rfl,aid rfl Tryz.underlying50 ti90 rfl rfl hi14 (mgt Qaw hj15) rfl,trivial⟩ ?_
      refine bfe h (fun hb16 h=>?_) fun hb16 h=>?_
      ·refine wx tbk [(5,rp [(.tmp 103,(B ((x8.Heat != x12.Heat))))] (B true))] ⟨asb hb16 (amv rfl),trivial⟩ ?_
       refine wtr ?_
       refine wxz ?_
       refine Qag ?_
       refine Qao ?_
       refine Qah ?_
       refine Qah ?_
       refine Qao ?_
       refine Qah ?_
       obtain rfl:=osi h
       exact fend ⟨[B false],⟨rot,trivial⟩,rfl⟩ nll
      ·refine bfe h (fun hb17 h=>?_) fun hb17 h=>?_
       ·refine wx tbk [(5,rp [(.tmp 103,(B ((x8.Heat != x12.Heat))))] (B false)),(12,rp [(.tmp 110,(B ((x8.Silica != x12.Silica))))] (B true))] ⟨asb hb16 (amv rfl),asb hb17 (amv rfl),trivial⟩ ?_
        refine wtr ?_
        refine wxz ?_
        refine Qag ?_
        refine Qao ?_
        refine Qah ?_
        refine Qah ?_
        refine Qao ?_
        refine Qah ?_
        obtain rfl:=osi h
        exact fend ⟨[B false],⟨rot,trivial⟩,rfl⟩ nll
       ·refine bfe h (fun hb18 h=>?_) fun hb18 h=>?_
        ·refine wx tbk [(5,rp [(.tmp 103,(B ((x8.Heat != x12.Heat))))] (B false)),(12,rp [(.tmp 110,(B ((x8.Silica != x12.Silica))))] (B false)),(19,rp [(.tmp 117,(B ((x8.Gas != x12.Gas))))] (B true))] ⟨asb hb16 (amv rfl),asb hb17 (amv rfl),asb hb18 (amv rfl),trivial⟩ ?_
         refine wtr ?_
         refine wxz ?_
         refine Qag ?_
         refine Qao ?_
         refine Qah ?_
         refine Qah ?_
         refine Qao ?_
         refine Qah ?_
         obtain rfl:=osi h
         exact fend ⟨[B false],⟨rot,trivial⟩,rfl⟩ nll
        ·refine wx tbk [(5,rp [(.tmp 103,(B ((x8.Heat != x12.Heat))))] (B false)),(12,rp [(.tmp 110,(B ((x8.Silica != x12.Silica))))] (B false)),(19,rp [(.tmp 117,(B ((x8.Gas != x12.Gas))))] (B false))] ⟨asb hb16 (amv rfl),asb hb17 (amv rfl),asb hb18 (amv rfl),trivial⟩ ?_
         refine bfe h (fun hc19 h=>?_) fun hc19 h=>?_
         ·refine wft hc19 ?_
          refine wxz ?_
          refine Qag ?_
          refine Qao ?_
          refine Qah ?_
          refine Qah ?_
          refine Qao ?_
          refine Qah ?_
          obtain rfl:=osi h
          exact fend ⟨[B false],⟨rot,trivial⟩,rfl⟩ nll
         ·refine wfn hc19 ?_
          refine Qan ?_
          refine bln ?_
          refine thn ?_
          refine wxz1 ?_
          refine thn ?_
          exact arm (mto (n:=125) [(2,.ref 0 3 0 0),(3,.ref 1 3 0 0),(7,(I (w64 (y4+1))))] [0,1] [(Qiv p0),(Qiu p1)] hφ0 (pc (.rn (rqr rfl)) (pc (.rn (rqr rfl)) (pc rwl pn))) (qc (spb (lc (rnd Qaj) (lc (rnd Qaq) (lc (rnd Qae) ln)))) (qc (spb (lc (rnd Qaj) (lc (rnd Qaq) (lc (rnd Qae) ln)))) qn))) (ih (w64 (y4+1)) h)
     ·refine wfn hc7 ?_
      refine Qbh ?_
      refine Qax ?_
      refine Qax ?_
      refine Qbg rfl ?_
      refine thn ?_
      exact ⟨(),h,(mto (n:=125) [] [] [] hφ0 pn qn)⟩
   ·skip
    refine wxz ?_
    refine Qam ?_
    refine wmr (mto (n:=125) (l':=[(2,.ref 0 3 0 0),(3,.ref 1 3 0 0),(5,I 0)]) (own':=[(Qiv p0),(Qiu p1)]) [(2,.ref 0 3 0 0),(3,.ref 1 3 0 0),(5,I 0)] [0,1] [(Qiv p0),(Qiu p1)] hφ0 (pc (.rn (rqr rfl)) (pc (.rn (rqr rfl)) (pc rwl pn))) (qc (spb (lc (rnd Qaj) (lc (rnd Qaq) (lc (rnd Qae) ln)))) (qc (spb (lc (rnd Qaj) (lc (rnd Qaq) (lc (rnd Qae) ln)))) qn))) ?_
    refine Qbw (τ:=Int) (fun n t=>Qeq N p0 p1 k2 n t=some r) (fun y20=>⟨mk 125 [(2,.ref 0 3 0 0),(3,.ref 1 3 0 0),(5,I y20)],[(Qiv p0),(Qiu p1)]⟩) (fun t h=>by rw [Qeq] at h; cases h) (fun n22 ih y20 h=>?_) N (0) h
    rw [Qeq] at h
    skip
    refine wsq ?_
    refine wx tbk [(3,rp [(.tmp 36,(Qrl p1))] (I ((p1.Out.length:Int))))] ⟨alm (c:=Qaf) (l:=p1.Out) (aln rfl Tryz.underlying49 rfl),trivial⟩ ?_
    refine bfe h (fun hc23 h=>?_) fun hc23 h=>?_
    ·refine wft hc23 ?_
     refine Qan ?_
     refine thn ?_
     obtain ⟨k24,hk_k24,h⟩:=jko h
     refine wjn (τ:=Unit) (fun t=>k24 t=some r) (fun _=>⟨mk 125 [(2,.ref 0 3 0 0),(3,.ref 1 3 0 0),(5,I y20)],[(Qiv p0),(Qiu p1)]⟩) (fun t h=>?_) ?_
     ·subst hk_k24
      refine wxz1 ?_
      refine thn ?_
      exact arm (mto (n:=125) [(2,.ref 0 3 0 0),(3,.ref 1 3 0 0),(5,(I (w64 (y20+1))))] [0,1] [(Qiv p0),(Qiu p1)] hφ0 (pc (.rn (rqr rfl)) (pc (.rn (rqr rfl)) (pc rwl pn))) (qc (spb (lc (rnd Qaj) (lc (rnd Qaq) (lc (rnd Qae) ln)))) (qc (spb (lc (rnd Qaj) (lc (rnd Qaq) (lc (rnd Qae) ln)))) qn))) (ih (w64 (y20+1)) h)
     ·skip
      refine Qam ?_
      refine wsq ?_
      obtain ⟨x25,hg26,h⟩:=bno h
      obtain ⟨hi27,hj28⟩:=gsm hg26
      obtain ⟨x29,hg30,h⟩:=bno h
      obtain ⟨hi31,hj32⟩:=gsm hg30
      refine wxd tbk [(3,rp [(.tmp 42,(Qvj p0)),(.tmp 43,I y20)] (.dptr (Qaf (x25)) 0)),(5,rp [(.tmp 45,(.dat 4 ((x25:List GStream).map Qaa)))] (I ((x25.length:Int)))),(9,rp [(.tmp 48,(Qrl p1)),(.tmp 49,I y20)] (.dptr (Qaf (x29)) 0)),(11,rp [(.tmp 51,(Q1j x29))] (I ((x29.length:Int))))] ⟨aid rfl Tryz.underlying31 ti45 rfl rfl hi27 (mgt Qaf hj28) rfl,alm (c:=Qaa) (l:=x25) (aln rfl Tryz.underlying45 rfl),aid rfl Tryz.underlying49 ti28 rfl rfl hi31 (mgt Qaf hj32) rfl,alm (c:=Qaa) (l:=x29) (aln rfl Tryz.underlying28 rfl),trivial⟩ ?_
      refine bfe h (fun hc33 h=>?_) fun hc33 h=>?_
      ·refine wft hc33 ?_
       refine wxz ?_
       refine Qag ?_
       refine Qah ?_
       refine Qao ?_
       refine Qah ?_
       refine Qah ?_
       refine Qao ?_
       refine Qah ?_
       obtain rfl:=osi h
       exact fend ⟨[B false],⟨rot,trivial⟩,rfl⟩ nll
      ·refine wfn hc33 ?_
       refine Qan ?_
       refine thn ?_
       refine wxz ?_
       refine Qam ?_
       refine wmr (mto (n:=125) (l':=[(2,.ref 0 3 0 0),(3,.ref 1 3 0 0),(5,I y20),(6,I 0)]) (own':=[(Qiv p0),(Qiu p1)]) [(2,.ref 0 3 0 0),(3,.ref 1 3 0 0),(5,I y20),(6,I 0)] [0,1] [(Qiv p0),(Qiu p1)] hφ0 (pc (.rn (rqr rfl)) (pc (.rn (rqr rfl)) (pc rwl (pc rwl pn)))) (qc (spb (lc (rnd Qaj) (lc (rnd Qaq) (lc (rnd Qae) ln)))) (qc (spb (lc (rnd Qaj) (lc (rnd Qaq) (lc (rnd Qae) ln)))) qn))) ?_
       refine Qbw (τ:=Int) (fun n t=>Qep N k24 x25 x29 n t=some r) (fun y34=>⟨mk 125 [(2,.ref 0 3 0 0),(3,.ref 1 3 0 0),(5,I y20),(6,I y34)],[(Qiv p0),(Qiu p1)]⟩) (fun t h=>by rw [Qep] at h; cases h) (fun n36 ih y34 h=>?_) N (0) h
       rw [Qep] at h
       skip
       refine wsq ?_
       refine wx tbk [(4,rp [(.tmp 56,(Qrl p1)),(.tmp 57,I y20)] (.dptr (Qaf (x29)) 0)),(6,rp [(.tmp 59,(Q1j x29))] (I ((x29.length:Int))))] ⟨aid rfl Tryz.underlying49 ti28 rfl rfl hi31 (mgt Qaf hj32) rfl,alm (c:=Qaa) (l:=x29) (aln rfl Tryz.underlying28 rfl),trivial⟩ ?_
       refine bfe h (fun hc37 h=>?_) fun hc37 h=>?_
       ·refine wft hc37 ?_
        refine Qan ?_
        refine thn ?_
        refine wsq ?_
        refine Qam ?_
        obtain ⟨x38,hg39,h⟩:=bno h
        obtain ⟨hi40,hj41⟩:=gsm hg39
        obtain ⟨x43,hf42,h⟩:=bno h
        obtain ⟨x44,hg45,h⟩:=bno h
        obtain ⟨hi46,hj47⟩:=gsm hg45
        refine wxd tbk [(3,rp [(.tmp 65,(Qvj p0)),(.tmp 66,I y20)] (.dptr (Qaf (x25)) 0)),(6,rp [(.tmp 68,(.dat 4 ((x25:List GStream).map Qaa))),(.tmp 69,I y34)] (.dptr (Qaa (x38)) 0)),(8,rp [fu 37,(.tmp 71,(Q88 x38))] (Q86 x43)),(12,rp [(.tmp 74,(Qrl p1)),(.tmp 75,I y20)] (.dptr (Qaf (x29)) 0)),(15,rp [(.tmp 77,(Q1j x29)),(.tmp 78,I y34)] (.dptr (Qaa (x44)) 0)),(17,rp [(.tmp 72,(Q86 x43)),(.tmp 80,(.agg [I x44.Mass,I x44.Heat,I x44.Silica,I x44.Gas]))] (B ((!(([x43.Mass,x43.Heat,x43.Silica,x43.Gas]:List Int)==[x44.Mass,x44.Heat,x44.Silica,x44.Gas])))))] ⟨aid rfl Tryz.underlying31 ti45 rfl rfl hi27 (mgt Qaf hj28) rfl,aid rfl Tryz.underlying45 ti63 rfl rfl hi40 (mgt Qaa hj41) rfl,apc (first:=[]) (cap:=[]) (vs:=[(Q88 x38)]) rfl Zkr (Qu8 N x38 _ hf42) rfl rfl (nlc (NLt.agg _ (nlcc (nlcc nl0))) nl0) (NLt.agg _ (nlcc (nlcc nl0))) rfl,aid rfl Tryz.underlying49 ti28 rfl rfl hi31 (mgt Qaf hj32) rfl,aid rfl Tryz.underlying28 ti89 rfl rfl hi46 (mgt Qaa hj47) rfl,Zbx (ls:=[x43.Mass,x43.Heat,x43.Silica,x43.Gas]) (ks:=[x44.Mass,x44.Heat,x44.Silica,x44.Gas]) rfl rfl Znz (by kernel_rfl) rfl rfl,trivial⟩ ?_
        refine bfe h (fun hc48 h=>?_) fun hc48 h=>?_
        ·refine wft hc48 ?_
         refine wxz ?_
         refine Qag ?_
         refine Qao ?_
         refine Qah ?_
         refine Qah ?_
         refine Qao ?_
         refine Qao ?_
         refine Qah ?_
         refine Qah ?_
         refine Qao ?_
         refine Qah ?_
         obtain rfl:=osi h
         exact fend ⟨[B false],⟨rot,trivial⟩,rfl⟩ nll
        ·refine wfn hc48 ?_
         refine Qan ?_
         refine bln ?_
         refine thn ?_
         refine wxz1 ?_
         refine thn ?_
         exact arm (mto (n:=125) [(2,.ref 0 3 0 0),(3,.ref 1 3 0 0),(5,I y20),(6,(I (w64 (y34+1))))] [0,1] [(Qiv p0),(Qiu p1)] hφ0 (pc (.rn (rqr rfl)) (pc (.rn (rqr rfl)) (pc rwl (pc rwl pn)))) (qc (spb (lc (rnd Qaj) (lc (rnd Qaq) (lc (rnd Qae) ln)))) (qc (spb (lc (rnd Qaj) (lc (rnd Qaq) (lc (rnd Qae) ln)))) qn))) (ih (w64 (y34+1)) h)
       ·refine wfn hc37 ?_
        refine Qbh ?_
        refine Qax ?_
        refine Qax ?_
        refine Qbg rfl ?_
        refine bln ?_
        refine thn ?_
        exact ⟨(),h,(mto (n:=125) [(2,.ref 0 3 0 0),(3,.ref 1 3 0 0),(5,I y20)] [0,1] [(Qiv p0),(Qiu p1)] hφ0 (pc (.rn (rqr rfl)) (pc (.rn (rqr rfl)) (pc rwl pn))) (qc (spb (lc (rnd Qaj) (lc (rnd Qaq) (lc (rnd Qae) ln)))) (qc (spb (lc (rnd Qaj) (lc (rnd Qaq) (lc (rnd Qae) ln)))) qn)))⟩
    ·refine wfn hc23 ?_
     refine Qbh ?_
     refine Qax ?_
     refine Qax ?_
     refine Qbg rfl ?_
     refine thn ?_
     exact ⟨(),h,(mto (n:=125) [(2,.ref 0 3 0 0),(3,.ref 1 3 0 0)] [0,1] [(Qiv p0),(Qiu p1)] hφ0 (pc (.rn (rqr rfl)) (pc (.rn (rqr rfl)) pn)) (qc (spb (lc (rnd Qaj) (lc (rnd Qaq) (lc (rnd Qae) ln)))) (qc (spb (lc (rnd Qaj) (lc (rnd Qaq) (lc (rnd Qae) ln)))) qn)))⟩
  ·skip
   refine bfe h (fun hb49 h=>?_) fun hb49 h=>?_
   ·refine wx tbk [(2,rp [(.tmp 11,(Qvj p0))] (I ((p0.Out.length:Int)))),(5,rp [(.tmp 14,(Qrl p1))] (I ((p1.Out.length:Int)))),(7,rp [(.tmp 16,(B (((p0.Out.length:Int) != (p1.Out.length:Int)))))] (B true))] ⟨alm (c:=Qaf) (l:=p0.Out) (aln rfl Tryz.underlying31 rfl),alm (c:=Qaf) (l:=p1.Out) (aln rfl Tryz.underlying49 rfl),asb hb49 (amv rfl),trivial⟩ ?_
    refine wtr ?_
    refine wxz ?_
    refine Qag ?_
    refine Qah ?_
    obtain rfl:=osi h
    exact fend ⟨[B false],⟨rot,trivial⟩,rfl⟩ nll
   ·refine bfe h (fun hb50 h=>?_) fun hb50 h=>?_
    ·refine wx tbk [(2,rp [(.tmp 11,(Qvj p0))] (I ((p0.Out.length:Int)))),(5,rp [(.tmp 14,(Qrl p1))] (I ((p1.Out.length:Int)))),(7,rp [(.tmp 16,(B (((p0.Out.length:Int) != (p1.Out.length:Int)))))] (B false)),(10,rp [(.tmp 17,B false),(.tmp 19,(Q37 p0))] (I ((p0.Lost.length:Int)))),(13,rp [(.tmp 17,B false),(.tmp 22,(Qys p1))] (I ((p1.Lost.length:Int)))),(16,rp [(.tmp 25,(B (((p0.Lost.length:Int) != (p1.Lost.length:Int)))))] (B true))] ⟨alm (c:=Qaf) (l:=p0.Out) (aln rfl Tryz.underlying31 rfl),alm (c:=Qaf) (l:=p1.Out) (aln rfl Tryz.underlying49 rfl),asb hb49 (amv rfl),ag_ (alm (c:=Qaw) (l:=p0.Lost) (aln rfl Tryz.underlying32 rfl)),ag_ (alm (c:=Qaw) (l:=p1.Lost) (aln rfl Tryz.underlying50 rfl)),asb hb50 (amv rfl),trivial⟩ ?_
     refine wtr ?_
     refine wxz ?_
     refine Qag ?_
     refine Qah ?_
     obtain rfl:=osi h
     exact fend ⟨[B false],⟨rot,trivial⟩,rfl⟩ nll
    ·obtain ⟨x52,hf51,h⟩:=bno h
     refine wx tbk [(2,rp [(.tmp 11,(Qvj p0))] (I ((p0.Out.length:Int)))),(5,rp [(.tmp 14,(Qrl p1))] (I ((p1.Out.length:Int)))),(7,rp [(.tmp 16,(B (((p0.Out.length:Int) != (p1.Out.length:Int)))))] (B false)),(10,rp [(.tmp 17,B false),(.tmp 19,(Q37 p0))] (I ((p0.Lost.length:Int)))),(13,rp [(.tmp 17,B false),(.tmp 22,(Qys p1))] (I ((p1.Lost.length:Int)))),(16,rp [(.tmp 25,(B (((p0.Lost.length:Int) != (p1.Lost.length:Int)))))] (B false)),(21,rp [(.tmp 26,B false),fu 49,(.tmp 28,(Q89 p0)),(.tmp 30,(Q87 p1))] (B x52))] ⟨alm (c:=Qaf) (l:=p0.Out) (aln rfl Tryz.underlying31 rfl),alm (c:=Qaf) (l:=p1.Out) (aln rfl Tryz.underlying49 rfl),asb hb49 (amv rfl),ag_ (alm (c:=Qaw) (l:=p0.Lost) (aln rfl Tryz.underlying32 rfl)),ag_ (alm (c:=Qaw) (l:=p1.Lost) (aln rfl Tryz.underlying50 rfl)),asb hb50 (amv rfl),ag_ (apc (first:=[]) (cap:=[]) (vs:=[(Q89 p0),(Q87 p1)]) rfl Zkp (Qu7 N p0.State p1.State _ hf51) rfl rfl (nlc (nld Qae _) (nlc (nld Qae _) nl0)) nll rfl),trivial⟩ ?_
     refine bfe h (fun hc53 h=>?_) fun hc53 h=>?_
     ·refine wft hc53 ?_
      refine wxz ?_
      refine Qag ?_
      refine Qah ?_
      obtain rfl:=osi h
      exact fend ⟨[B false],⟨rot,trivial⟩,rfl⟩ nll
     ·refine wfn hc53 ?_
      refine Qan ?_
      refine thn ?_
      exact ⟨(),h,(mto (n:=125) [(2,.ref 0 3 0 0),(3,.ref 1 3 0 0)] [0,1] [(Qiv p0),(Qiu p1)] hφ0 (pc (.rn (rqr rfl)) (pc (.rn (rqr rfl)) pn)) (qc (spb (lc (rnd Qaj) (lc (rnd Qaq) (lc (rnd Qae) ln)))) (qc (spb (lc (rnd Qaj) (lc (rnd Qaq) (lc (rnd Qae) ln)))) qn)))⟩
end Go.Proofs.YtmbhnllcfmiajaaGreat
