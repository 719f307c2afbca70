/-
  Functions of the program: what they compute, as plain functions, and that they do. No conditions.
-/
import Derived.Test.YtmbhnllcfmiajaaGreatX6
import Derived.Test.YtmbhnllcfmiajaaGreatEngOb
namespace Go.Proofs.YtmbhnllcfmiajaaGreat
set_option maxRecDepth 100000
set_option maxHeartbeats 4000000
open Go.RowKit
def Qew (N:Nat) (p0:(List GStream)) (k5:Int×Int×Int×Int→Option GStream):Nat→Int→Int→Int→Int→Int→Option GStream
  | 0,_,_,_,_,_=>none
  | n16+1,y6,y7,y8,y9,y10=>
    bif (decide (y6<(p0.length:Int))) then
     (getI p0 y6).bind fun x18=>
     Qew N p0 k5 n16 (w64 (y6+1)) (w64 (y7+x18.Mass)) (w64 (y8+x18.Heat)) (w64 (y9+x18.Silica)) (w64 (y10+x18.Gas))
    else
     k5 (y7,y8,y9,y10)
def Qk1 (N:Nat) (p0:(List GStream)):Option GStream:=
  Qbp (fun ⟨y1,y2,y3,y4⟩=>
    some (⟨y1,y2,y3,y4⟩:GStream)) fun k5:Int×Int×Int×Int→Option GStream=>
  Qew N p0 k5 N 0 0 0 0 0
def Qp2:Slot:=.own 4 [[(I (0)),(I (0)),(I (0)),(I (0))]]
def Qn7 (p0:(List GStream)):AV:=.dat 4 ((p0:List GStream).map Qab)
theorem Qu8 (N:Nat) (p0:(List GStream)) (r:GStream) (h:Qk1 N p0=some r):Spec Tryz.prog 38 [(.dat 4 (p0.map Qab))] [] (.agg (Qab r)) []:=by
  refine Qah Tryz.func38 rfl 0 (nle rfl) (fun X φ0 w0 hφ0 hd0=>?_)
  unfold Qk1 at h
  refine wxz<|wxz ?_
  obtain ⟨k5,hk_k5,h⟩:=jko h
  refine wjn (τ:=Int×Int×Int×Int) (fun t=>k5 t=some r) (fun ⟨y1,y2,y3,y4⟩=>⟨mk 45 [(2,.ref 0 4 0 0),(3,.ref 1 4 0 0)],[Qp2,(.own 4 [[I y1,I y2,I y3,I y4]])]⟩) (fun t h=>?_) ?_
  ·subst hk_k5
   obtain ⟨y1,y2,y3,y4⟩:=t
   refine wxz<|Qaf ?_
   obtain rfl:=osi h
   exact fend ⟨[(.agg [I y1,I y2,I y3,I y4])],⟨Qcd (n:=0) (m:=4) (j:=0) (i:=0) (xs:=[[I y1,I y2,I y3,I y4]]) (by kernel_rfl) (by kernel_rfl) ti89 (by decide) rfl (nle rfl) rfl,trivial⟩,rfl⟩ (NLt.agg _ (nlcc (nlcc nl0)))
  ·skip
   refine wxz<|Qal ?_
   refine wmr (mto (n:=45) (l':=[(0,(Qn7 p0)),(2,.ref 0 4 0 0),(3,.ref 1 4 0 0),(4,I 0)]) (own':=[Qp2,Qp2]) [(0,(Qn7 p0)),(2,.ref 0 4 0 0),(3,.ref 1 4 0 0),(4,I 0)] [0,1] [Qp2,Qp2] hφ0 (pc (rnd Qad) (pc (.rn (rqr rfl)) (pc (.rn (rqr rfl)) (pc rwl pn)))) (qc (spb (lcc (lcc ln))) (qc (spb (lcc (lcc ln))) qn))) ?_
   refine Qcb (τ:=Int×Int×Int×Int×Int) (fun n t=>Qew N p0 k5 n t.1 t.2.1 t.2.2.1 t.2.2.2.1 t.2.2.2.2=some r) (fun ⟨y6,y7,y8,y9,y10⟩=>⟨mk 45 [(0,(Qn7 p0)),(2,.ref 0 4 0 0),(3,.ref 1 4 0 0),(4,I y6)],[Qp2,(.own 4 [[I y7,I y8,I y9,I y10]])]⟩) (fun t h=>by rw [Qew] at h; cases h) (fun n16 ih t h=>?_) N (0,0,0,0,0) h
   obtain ⟨y6,y7,y8,y9,y10⟩:=t
   rw [Qew] at h
   skip
   refine wsq<|wx tbk [(2,rp [(.tmp 6,(Qn7 p0))] (I ((p0.length:Int))))] ⟨alm (c:=Qab) (l:=p0) (aln rfl Tryz.underlying28 rfl),trivial⟩ ?_
   refine bfe h (fun hc17 h=>?_) fun hc17 h=>?_
   ·refine wft hc17<|Qan<|thn<|wsq<|Qal ?_
    obtain ⟨x18,hg19,h⟩:=bno h
    obtain ⟨hi20,hj21⟩:=gsm hg19
    refine wy1 tbk [(4,rp [(.tmp 13,(Qn7 p0)),(.tmp 14,I y6)] (.dptr (Qab (x18)) 0)),(12,rp [(.tmp 21,(Qn7 p0)),(.tmp 22,I y6)] (.dptr (Qab (x18)) 0)),(20,rp [(.tmp 29,(Qn7 p0)),(.tmp 30,I y6)] (.dptr (Qab (x18)) 0)),(28,rp [(.tmp 37,(Qn7 p0)),(.tmp 38,I y6)] (.dptr (Qab (x18)) 0)),(32,rp [(.tmp 18,(I (w64 (y7+x18.Mass)))),(.tmp 26,(I (w64 (y8+x18.Heat)))),(.tmp 34,(I (w64 (y9+x18.Silica)))),(.tmp 42,(I (w64 (y10+x18.Gas))))] (.agg [(I (w64 (y7+x18.Mass))),(I (w64 (y8+x18.Heat))),(I (w64 (y9+x18.Silica))),(I (w64 (y10+x18.Gas)))]))] ⟨aid rfl Tryz.underlying28 ti89 rfl rfl hi20 (mgt Qab hj21) rfl,aid rfl Tryz.underlying28 ti89 rfl rfl hi20 (mgt Qab hj21) rfl,aid rfl Tryz.underlying28 ti89 rfl rfl hi20 (mgt Qab hj21) rfl,aid rfl Tryz.underlying28 ti89 rfl rfl hi20 (mgt Qab hj21) rfl,Qax (vs:=[(I (w64 (y7+x18.Mass))),(I (w64 (y8+x18.Heat))),(I (w64 (y9+x18.Silica))),(I (w64 (y10+x18.Gas)))]) rfl ts89 tz89 rfl (by rfl) rfl,trivial⟩<|bln<|thn<|wxz1<|thn ?_
    exact arm (mto (n:=45) [(0,(Qn7 p0)),(2,.ref 0 4 0 0),(3,.ref 1 4 0 0),(4,(I (w64 (y6+1))))] [0,1] [Qp2,(.own 4 [[(I (w64 (y7+x18.Mass))),(I (w64 (y8+x18.Heat))),(I (w64 (y9+x18.Silica))),(I (w64 (y10+x18.Gas)))]])] hφ0 (pc (rnd Qad) (pc (.rn (rqr rfl)) (pc (.rn (rqr rfl)) (pc rwl pn)))) (qc (spb (lcc (lcc ln))) (qc (spb (lcc (lcc ln))) qn))) (ih (w64 (y6+1),w64 (y7+x18.Mass),w64 (y8+x18.Heat),w64 (y9+x18.Silica),w64 (y10+x18.Gas)) h)
   ·exact wfn hc17<|Qbl<|Qay<|Qay<|Qbk rfl<|thn<|⟨(y7,y8,y9,y10),h,(mto (n:=45) [(2,.ref 0 4 0 0),(3,.ref 1 4 0 0)] [0,1] [Qp2,(.own 4 [[I y7,I y8,I y9,I y10]])] hφ0 (pc (.rn (rqr rfl)) (pc (.rn (rqr rfl)) pn)) (qc (spb (lcc (lcc ln))) (qc (spb (lcc (lcc ln))) qn)))⟩
def Qdg (N:Nat) (p0:(List GStream)) (k1:Unit→Option Bool):Nat→Int→Option Bool
  | 0,_=>none
  | n4+1,y2=>
    bif (decide (y2<(p0.length:Int))) then
     (getI p0 y2).bind fun x6=>
     (Qfv N x6).bind fun x11=>
     bif (!x11) then
      some false
     else
      Qdg N p0 k1 n4 (w64 (y2+1))
    else
     k1 ()
def Qg9 (N:Nat) (p0:(List GStream)):Option Bool:=
  Qbp (fun _=>
    some true) fun k1:Unit→Option Bool=>
  Qdg N p0 k1 N 0
def Qth (p0:(List GStream)):AV:=.dat 4 ((p0:List GStream).map Qab)
def Zd9 (x6:GStream):AV:=.agg [(I (x6.Mass)),(I (x6.Heat)),(I (x6.Silica)),(I (x6.Gas))]
theorem Qpf (N:Nat) (p0:(List GStream)) (r:Bool) (h:Qg9 N p0=some r):Spec Tryz.prog 98 [(.dat 4 (p0.map Qab))] [] (B r) []:=by
  refine Qah Tryz.func98 rfl 0 (nle rfl) (fun X φ0 w0 hφ0 hd0=>?_)
  unfold Qg9 at h
  refine wxz ?_
  obtain ⟨k1,hk_k1,h⟩:=jko h
  refine wjn (τ:=Unit) (fun t=>k1 t=some r) (fun _=>⟨mk 16 [],[]⟩) (fun t h=>?_) ?_
  ·subst hk_k1
   refine wxz<|Qaf ?_
   obtain rfl:=osi h
   exact fend ⟨[B true],⟨rot,trivial⟩,rfl⟩ nll
  ·skip
   refine wxz<|Qal ?_
   refine wmr (mto (n:=16) (l':=[(0,(Qth p0)),(3,I 0)]) (own':=[]) [(0,(Qth p0)),(3,I 0)] [] [] hφ0 (pc (rnd Qad) (pc rwl pn)) qn) ?_
   refine Qcb (τ:=Int) (fun n t=>Qdg N p0 k1 n t=some r) (fun y2=>⟨mk 16 [(0,(Qth p0)),(3,I y2)],[]⟩) (fun t h=>by rw [Qdg] at h; cases h) (fun n4 ih y2 h=>?_) N (0) h
   rw [Qdg] at h
   skip
   refine wsq<|wx tbk [(2,rp [(.tmp 5,(Qth p0))] (I ((p0.length:Int))))] ⟨alm (c:=Qab) (l:=p0) (aln rfl Tryz.underlying28 rfl),trivial⟩ ?_
   refine bfe h (fun hc5 h=>?_) fun hc5 h=>?_
   ·refine wft hc5<|Qan<|thn<|wsq<|Qal ?_
    obtain ⟨x6,hg7,h⟩:=bno h
    obtain ⟨hi8,hj9⟩:=gsm hg7
    obtain ⟨x11,hf10,h⟩:=bno h
    refine wx tbk [(2,rp [(.tmp 10,(Qth p0)),(.tmp 11,I y2)] (.dptr (Qab (x6)) 0)),(4,rp [fu 121,(.tmp 13,(Zd9 x6))] (B x11))] ⟨aid rfl Tryz.underlying28 ti89 rfl rfl hi8 (mgt Qab hj9) rfl,apc (first:=[]) (cap:=[]) (vs:=[(Zd9 x6)]) rfl Zcq (Qmf N x6 _ hf10) rfl rfl (nlc (NLt.agg _ (nlcc (nlcc nl0))) nl0) nll rfl,trivial⟩ ?_
    refine bfe h (fun hc12 h=>?_) fun hc12 h=>?_
    ·refine wft hc12<|wxz<|Qaf<|Qam<|Qae<|Qae<|Qam<|Qae ?_
     obtain rfl:=osi h
     exact fend ⟨[B false],⟨rot,trivial⟩,rfl⟩ nll
    ·exact wfn hc12<|Qan<|bln<|thn<|wxz1<|thn<|arm (mto (n:=16) [(0,(Qth p0)),(3,(I (w64 (y2+1))))] [] [] hφ0 (pc (rnd Qad) (pc rwl pn)) qn) (ih (w64 (y2+1)) h)
   ·exact wfn hc5<|Qbl<|Qay<|Qay<|Qbk rfl<|thn<|⟨(),h,(mto (n:=16) [] [] [] hφ0 pn qn)⟩
def Qdk (N:Nat) (p0:GNet) (p1:Int) (k2:Int→Option Int):Nat→Int→Int→Option Int
  | 0,_,_=>none
  | n7+1,y3,y4=>
    bif (decide (y4<(p0.Elements.length:Int))) then
     (getI p0.Elements y4).bind fun x9=>
     bif (x9.Kind==p1) then
      Qdk N p0 p1 k2 n7 (w64 (y3+1)) (w64 (y4+1))
     else
      Qdk N p0 p1 k2 n7 y3 (w64 (y4+1))
    else
     k2 (y3)
def Qi3 (N:Nat) (p0:GNet) (p1:Int):Option Int:=
  Qbp (fun y1=>
    some y1) fun k2:Int→Option Int=>
  Qdk N p0 p1 k2 N 0 0
def Q6v (p0:GNet):AV:=.dat 7 ((p0.Elements:List GElement).map Qac)
def Qwn (p0:GNet):Slot:=.own 2 [[(.dat 5 ((p0.Table:List GRow).map Qaw)),(Q6v p0)]]
theorem Qme (N:Nat) (p0:GNet) (p1:Int) (r:Int) (h:Qi3 N p0 p1=some r):Spec Tryz.prog 29 [(.agg (Qhn p0)),(K .u8 p1)] [] (I r) []:=by
  refine Qah Tryz.func29 rfl 0 (nle rfl) (fun X φ0 w0 hφ0 hd0=>?_)
  unfold Qi3 at h
  refine wxz<|wxz ?_
  obtain ⟨k2,hk_k2,h⟩:=jko h
  refine wjn (τ:=Int) (fun t=>k2 t=some r) (fun y1=>⟨mk 25 [(5,I y1)],[]⟩) (fun y1 h=>?_) ?_
  ·subst hk_k2
   refine wxz<|Qaf ?_
   obtain rfl:=osi h
   exact fend ⟨[I y1],⟨rot,trivial⟩,rfl⟩ nll
  ·skip
   refine wxz<|Qal ?_
   refine wmr (mto (n:=25) (l':=[(1,(K .u8 (p1))),(2,.ref 0 2 0 0),(5,I 0),(6,I 0)]) (own':=[(Qwn p0)]) [(1,(K .u8 (p1))),(2,.ref 0 2 0 0),(5,I 0),(6,I 0)] [0] [(Qwn p0)] hφ0 (pc rwl (pc (.rn (rqr rfl)) (pc rwl (pc rwl pn)))) (qc (spb (lc (rnd Qai) (lc (rnd Qaa) ln))) qn)) ?_
   refine Qcb (τ:=Int×Int) (fun n t=>Qdk N p0 p1 k2 n t.1 t.2=some r) (fun ⟨y3,y4⟩=>⟨mk 25 [(1,(K .u8 (p1))),(2,.ref 0 2 0 0),(5,I y3),(6,I y4)],[(Qwn p0)]⟩) (fun t h=>by rw [Qdk] at h; cases h) (fun n7 ih t h=>?_) N (0,0) h
   obtain ⟨y3,y4⟩:=t
   rw [Qdk] at h
   skip
   refine wsq<|wx tbk [(3,rp [(.tmp 9,(Q6v p0))] (I ((p0.Elements.length:Int))))] ⟨alm (c:=Qac) (l:=p0.Elements) (aln rfl Tryz.underlying24 rfl),trivial⟩ ?_
   refine bfe h (fun hc8 h=>?_) fun hc8 h=>?_
   ·refine wft hc8<|Qan<|thn<|wsq<|Qal ?_
    obtain ⟨x9,hg10,h⟩:=bno h
    obtain ⟨hi11,hj12⟩:=gsm hg10
    refine wx tbk [(3,rp [(.tmp 15,(Q6v p0)),(.tmp 16,I y4)] (.dptr (Qac (x9)) 0))] ⟨aid rfl Tryz.underlying24 ti59 rfl rfl hi11 (mgt Qac hj12) rfl,trivial⟩ ?_
    refine bfe h (fun hc13 h=>?_) fun hc13 h=>?_
    ·exact wft hc13<|wxz1<|bln<|thn<|wxz1<|thn<|arm (mto (n:=25) [(1,(K .u8 (p1))),(2,.ref 0 2 0 0),(5,(I (w64 (y3+1)))),(6,(I (w64 (y4+1))))] [0] [(Qwn p0)] hφ0 (pc rwl (pc (.rn (rqr rfl)) (pc rwl (pc rwl pn)))) (qc (spb (lc (rnd Qai) (lc (rnd Qaa) ln))) qn)) (ih (w64 (y3+1),w64 (y4+1)) h)
    ·exact wfn hc13<|Qan<|bln<|thn<|wxz1<|thn<|arm (mto (n:=25) [(1,(K .u8 (p1))),(2,.ref 0 2 0 0),(5,I y3),(6,(I (w64 (y4+1))))] [0] [(Qwn p0)] hφ0 (pc rwl (pc (.rn (rqr rfl)) (pc rwl (pc rwl pn)))) (qc (spb (lc (rnd Qai) (lc (rnd Qaa) ln))) qn)) (ih (y3,w64 (y4+1)) h)
   ·exact wfn hc8<|Qbl<|Qay<|Qay<|Qbk rfl<|thn<|⟨(y3),h,(mto (n:=25) [(5,I y3)] [] [] hφ0 (pc rwl pn) qn)⟩
def Qgm (N:Nat) (p0:GNet) (p1:(List GStream)):Option Int:=
  Qbp (fun _=>
    (Qk1 N p1).bind fun x3=>
    bif (decide (x3.Mass>1000000)) then
     some 3
    else
     bif (decide (x3.Gas>1000000000)) then
      some 3
     else
      some 0) fun k1:Unit→Option Int=>
  (Qi3 N p0 1).bind fun x7=>
  bif ((p1.length:Int) != x7) then
   some 1
  else
   (Qg9 N p1).bind fun x10=>
   bif (!x10) then
    some 1
   else
    k1 ()
def Qp1 (p1:(List GStream)):AV:=.dat 4 ((p1:List GStream).map Qab)
def Zjj (p0:GNet):AV:=.dat 7 ((p0.Elements:List GElement).map Qac)
def Q1z (p0:GNet):AV:=.agg [(.dat 5 ((p0.Table:List GRow).map Qaw)),(Zjj p0)]
theorem Qnr (N:Nat) (p0:GNet) (p1:(List GStream)) (r:Int) (h:Qgm N p0 p1=some r):Spec Tryz.prog 61 [(.agg (Qhn p0)),(.dat 4 (p1.map Qab))] [] (I r) []:=by
  refine Qah Tryz.func61 rfl 0 (nle rfl) (fun X φ0 w0 hφ0 hd0=>?_)
  unfold Qgm at h
  refine wxz ?_
  obtain ⟨k1,hk_k1,h⟩:=jko h
  refine wjn (τ:=Unit) (fun t=>k1 t=some r) (fun _=>⟨mk 26 [(1,(Qp1 p1))],[]⟩) (fun t h=>?_) ?_
  ·subst hk_k1
   obtain ⟨x3,hf2,h⟩:=bno h
   refine wx tbk [(1,rp [fu 38,(.tmp 16,(Qp1 p1))] (.agg [I x3.Mass,I x3.Heat,I x3.Silica,I x3.Gas]))] ⟨apc (first:=[]) (cap:=[]) (vs:=[(Qp1 p1)]) rfl Zif (Qu8 N p1 _ hf2) rfl rfl (nlc (nld Qad _) nl0) (NLt.agg _ (nlcc (nlcc nl0))) rfl,trivial⟩<|wsq ?_
   refine bfe h (fun hb4 h=>?_) fun hb4 h=>?_
   ·refine wx tbk [(3,rp [(.tmp 20,(B ((decide (x3.Mass>1000000)))))] (B true))] ⟨asb hb4 (amv rfl),trivial⟩<|wtr<|wxz<|Qaf<|Qae ?_
    obtain rfl:=osi h
    exact fend ⟨[I 3],⟨rot,trivial⟩,rfl⟩ nll
   ·refine wx tbk [(3,rp [(.tmp 20,(B ((decide (x3.Mass>1000000)))))] (B false))] ⟨asb hb4 (amv rfl),trivial⟩ ?_
    refine bfe h (fun hc5 h=>?_) fun hc5 h=>?_
    ·refine wft hc5<|wxz<|Qaf<|Qae ?_
     obtain rfl:=osi h
     exact fend ⟨[I 3],⟨rot,trivial⟩,rfl⟩ nll
    ·refine wfn hc5<|Qan<|thn<|wxz<|Qaf ?_
     obtain rfl:=osi h
     exact fend ⟨[I 0],⟨rot,trivial⟩,rfl⟩ nll
  ·skip
   obtain ⟨x7,hf6,h⟩:=bno h
   refine bfe h (fun hb8 h=>?_) fun hb8 h=>?_
   ·refine wx tbk [(1,rp [(.tmp 6,(Qp1 p1))] (I ((p1.length:Int)))),(3,rp [fu 29,(.tmp 8,(Q1z p0)),(.const (.int .u8 1),(K .u8 (1)))] (I x7)),(5,rp [(.tmp 10,(B (((p1.length:Int) != x7))))] (B true))] ⟨alm (c:=Qab) (l:=p1) (aln rfl Tryz.underlying28 rfl),apc (first:=[]) (cap:=[]) (vs:=[(Q1z p0),(K .u8 (1))]) rfl Q8u (Qme N p0 1 _ hf6) rfl rfl (nlc (NLt.agg _ (nlc (nld Qai _) (nlc (nld Qaa _) nl0))) (nlc nll nl0)) nll rfl,asb hb8 (amv rfl),trivial⟩<|wtr<|wxz<|Qaf<|Qae ?_
    obtain rfl:=osi h
    exact fend ⟨[I 1],⟨rot,trivial⟩,rfl⟩ nll
   ·obtain ⟨x10,hf9,h⟩:=bno h
    refine wx tbk [(1,rp [(.tmp 6,(Qp1 p1))] (I ((p1.length:Int)))),(3,rp [fu 29,(.tmp 8,(Q1z p0)),(.const (.int .u8 1),(K .u8 (1)))] (I x7)),(5,rp [(.tmp 10,(B (((p1.length:Int) != x7))))] (B false)),(7,rp [(.tmp 11,B false),fu 98,(.tmp 12,(Qp1 p1))] (B x10))] ⟨alm (c:=Qab) (l:=p1) (aln rfl Tryz.underlying28 rfl),apc (first:=[]) (cap:=[]) (vs:=[(Q1z p0),(K .u8 (1))]) rfl Q8u (Qme N p0 1 _ hf6) rfl rfl (nlc (NLt.agg _ (nlc (nld Qai _) (nlc (nld Qaa _) nl0))) (nlc nll nl0)) nll rfl,asb hb8 (amv rfl),ag_ (apc (first:=[]) (cap:=[]) (vs:=[(Qp1 p1)]) rfl Zh3 (Qpf N p1 _ hf9) rfl rfl (nlc (nld Qad _) nl0) nll rfl),trivial⟩ ?_
    refine bfe h (fun hc11 h=>?_) fun hc11 h=>?_
    ·refine wft hc11<|wxz<|Qaf<|Qae ?_
     obtain rfl:=osi h
     exact fend ⟨[I 1],⟨rot,trivial⟩,rfl⟩ nll
    ·exact wfn hc11<|Qan<|thn<|⟨(),h,(mto (n:=26) [(1,(Qp1 p1))] [] [] hφ0 (pc (rnd Qad) pn) qn)⟩
def Qi7 (N:Nat) (p0:GNet) (p1:(List Int)) (p2:(List GStream)):Option Int:=
  (Qi2 N p0).bind fun x2=>
  bif (!x2) then
   some 1
  else
   (Qe8 N p0 p1).bind fun x5=>
   bif (!x5) then
    some 1
   else
    (Qgm N p0 p2).bind fun x8=>
    some x8
def Zji (p0:GNet):AV:=.dat 7 ((p0.Elements:List GElement).map Qac)
def Qp0 (p0:GNet):AV:=.agg [(.dat 5 ((p0.Table:List GRow).map Qaw)),(Zji p0)]
theorem Qrz (N:Nat) (p0:GNet) (p1:(List Int)) (p2:(List GStream)) (r:Int) (h:Qi7 N p0 p1 p2=some r):Spec Tryz.prog 20 [(.agg (Qhn p0)),(.dat 1 (p1.map Qak)),(.dat 4 (p2.map Qab))] [] (I r) []:=by
  refine Qah Tryz.func20 rfl 0 (nle rfl) (fun X φ0 w0 hφ0 hd0=>?_)
  unfold Qi7 at h
  refine wxz<|wsq ?_
  obtain ⟨x2,hf1,h⟩:=bno h
  refine bfe h (fun hb3 h=>?_) fun hb3 h=>?_
  ·refine wx tbk [(1,rp [fu 28,(.tmp 7,(Qp0 p0))] (B x2)),(3,rp [(.tmp 9,(B ((!x2))))] (B true))] ⟨apc (first:=[]) (cap:=[]) (vs:=[(Qp0 p0)]) rfl Q8v (Qmd N p0 _ hf1) rfl rfl (nlc (NLt.agg _ (nlc (nld Qai _) (nlc (nld Qaa _) nl0))) nl0) nll rfl,asb hb3 (amv rfl),trivial⟩<|wtr<|wxz<|Qaf<|Qae ?_
   obtain rfl:=osi h
   exact fend ⟨[I 1],⟨rot,trivial⟩,rfl⟩ nll
  ·obtain ⟨x5,hf4,h⟩:=bno h
   refine wx tbk [(1,rp [fu 28,(.tmp 7,(Qp0 p0))] (B x2)),(3,rp [(.tmp 9,(B ((!x2))))] (B false)),(6,rp [(.tmp 10,B false),fu 33,(.tmp 11,(Qp0 p0)),(.tmp 12,(.dat 1 ((p1:List Int).map Qak)))] (B x5))] ⟨apc (first:=[]) (cap:=[]) (vs:=[(Qp0 p0)]) rfl Q8v (Qmd N p0 _ hf1) rfl rfl (nlc (NLt.agg _ (nlc (nld Qai _) (nlc (nld Qaa _) nl0))) nl0) nll rfl,asb hb3 (amv rfl),ag_ (apc (first:=[]) (cap:=[]) (vs:=[(Qp0 p0),(.dat 1 ((p1:List Int).map Qak))]) rfl Q8s (Qjp N p0 p1 _ hf4) rfl rfl (nlc (NLt.agg _ (nlc (nld Qai _) (nlc (nld Qaa _) nl0))) (nlc (nld Qag _) nl0)) nll rfl),trivial⟩ ?_
   refine bfe h (fun hc6 h=>?_) fun hc6 h=>?_
   ·refine wft hc6<|wxz<|Qaf<|Qae ?_
    obtain rfl:=osi h
    exact fend ⟨[I 1],⟨rot,trivial⟩,rfl⟩ nll
   ·refine wfn hc6<|Qan<|thn ?_
    obtain ⟨x8,hf7,h⟩:=bno h
    refine wx tbk [(2,rp [fu 61,(.tmp 16,(Qp0 p0)),(.tmp 17,(.dat 4 ((p2:List GStream).map Qab)))] (I x8))] ⟨apc (first:=[]) (cap:=[]) (vs:=[(Qp0 p0),(.dat 4 ((p2:List GStream).map Qab))]) rfl Zia (Qnr N p0 p2 _ hf7) rfl rfl (nlc (NLt.agg _ (nlc (nld Qai _) (nlc (nld Qaa _) nl0))) (nlc (nld Qad _) nl0)) nll rfl,trivial⟩<|Qaf ?_
    obtain rfl:=osi h
    exact fend ⟨[I x8],⟨rot,trivial⟩,rfl⟩ nll
def Qea (N:Nat) (p0:GNet) (p2:(List GStream)) (p3:Int) (k8:Int→Option (Int×Int×Int)):Nat→(List Int)→Int→Option (Int×Int×Int)
  | 0,_,_=>none
  | n13+1,y9,y10=>
    bif (decide (y10<p3)) then
     (Qe4 N p0 y9 p2).bind (
      Sum.elim (fun x17=>
        bif (decide (x17≥0)) then
         some (y10,x17,0)
        else
         none)
      (fun x19=>
        bif (decide (x19.1≥0)) then
         some (y10,x19.1,0)
        else
         chk (decide (y9.length≤x19.2.2.2.2.length))<|
         Qea N p0 p2 p3 k8 n13 (x19.2.2.2.2.take y9.length) (w64 (y10+1))))
    else
     k8 (y10)
def Qk6 (N:Nat) (p0:GNet) (p1:(List Int)) (p2:(List GStream)) (p3:Int):Option (Int×Int×Int):=
  (Qic N p0 p1 p2).bind fun x2=>
  bif (x2 != 0) then
   some (0,0,x2)
  else
   (Qcn N p3 1 1000).bind fun x5=>
   bif (!x5) then
    some (0,0,2)
   else
    Qbp (fun y7=>
      some (y7,(-1),0)) fun k8:Int→Option (Int×Int×Int)=>
    Qea N p0 p2 p3 k8 N p1 0
def Q6u (p0:GNet):AV:=.dat 5 ((p0.Table:List GRow).map Qaw)
def Q6t (p0:GNet):AV:=.dat 7 ((p0.Elements:List GElement).map Qac)
def Qtg (p0:GNet):AV:=.agg [(Q6u p0),(Q6t p0)]
def Q1y (p1:(List Int)):AV:=.dat 1 ((p1:List Int).map Qak)
def Qkw (p2:(List GStream)):AV:=.dat 4 ((p2:List GStream).map Qab)
def Qwm (p0:GNet):Slot:=.own 2 [[(Q6u p0),(Q6t p0)]]
def Qra (y9:(List Int)):AV:=.dat 1 ((y9:List Int).map Qak)
def Zd8:Slot:=.own 1 [[(.lit (.pointer none))]]
def Q6s:Slot:=.own 1 [[(.ref 3 7 (0) 0)]]
def Qut (p0:GNet) (y9:(List Int)) (p2:(List GStream)) (x19:(Int×Int×(List (List GStream))×(List GLost)×(List Int))):Slot:=.own 7 [[(Q6u p0),(Q6t p0),(.own 4 1 (0) ((p0.Elements.length:Int).toNat)),(.own 5 4 (0) ((p0.Elements.length:Int).toNat)),(.own 6 1 (0) (y9.length)),(Qkw p2),(I (x19.2.1))]]
theorem Qva (N:Nat) (p0:GNet) (p1:(List Int)) (p2:(List GStream)) (p3:Int) (r:(Int×Int×Int)) (h:Qk6 N p0 p1 p2 p3=some r):Spec Tryz.prog 24 [(.agg (Qhn p0)),(.dat 1 (p1.map Qak)),(.dat 4 (p2.map Qab)),(I p3)] [] (.tup [(I r.1),(I r.2.1),(I r.2.2)]) []:=by
  refine Qah Tryz.func24 rfl 0 (nle rfl) (fun X φ0 w0 hφ0 hd0=>?_)
  unfold Qk6 at h
  refine wxz<|wsq ?_
  obtain ⟨x2,hf1,h⟩:=bno h
  refine wx tbk [(3,rp [fu 57,(.tmp 14,(Qtg p0)),(.tmp 15,(Q1y p1)),(.tmp 16,(Qkw p2))] (I x2))] ⟨apc (first:=[]) (cap:=[]) (vs:=[(Qtg p0),(Q1y p1),(Qkw p2)]) rfl Q8r (Qne N p0 p1 p2 _ hf1) rfl rfl (nlc (NLt.agg _ (nlc (nld Qai _) (nlc (nld Qaa _) nl0))) (nlc (nld Qag _) (nlc (nld Qad _) nl0))) nll rfl,trivial⟩<|wxz ?_
  refine bfe h (fun hc3 h=>?_) fun hc3 h=>?_
  ·refine wft hc3<|wxz<|Qaf<|Qae ?_
   obtain rfl:=osi h
   exact fend ⟨[I 0,I 0,I x2],⟨rot,rot,rot,trivial⟩,rfl⟩ (NLt.tup _ (nlcc (nlc nll nl0)))
  ·refine wfn hc3<|Qan<|thn<|wsq ?_
   obtain ⟨x5,hf4,h⟩:=bno h
   refine wx tbk [(1,rp [fu 65,(.tmp 21,I p3),ci 1,ci 1000] (B x5))] ⟨apc (first:=[]) (cap:=[]) (vs:=[I p3,I 1,I 1000]) rfl Qfm (Qbg N p3 1 1000 _ hf4) rfl rfl (nlcc (nlc nll nl0)) nll rfl,trivial⟩ ?_
   refine bfe h (fun hc6 h=>?_) fun hc6 h=>?_
   ·refine wft hc6<|wxz<|Qaf<|Qae ?_
    obtain rfl:=osi h
    exact fend ⟨[I 0,I 0,I 2],⟨rot,rot,rot,trivial⟩,rfl⟩ (NLt.tup _ (nlcc (nlc nll nl0)))
   ·refine wfn hc6<|Qan<|thn ?_
    obtain ⟨k8,hk_k8,h⟩:=jko h
    refine wjn (τ:=Int) (fun t=>k8 t=some r) (fun y7=>⟨mk 46 [(8,I y7)],[]⟩) (fun y7 h=>?_) ?_
    ·subst hk_k8
     refine wxz<|Qaf ?_
     obtain rfl:=osi h
     exact fend ⟨[I y7,(I ((-1))),I 0],⟨rot,rot,rot,trivial⟩,rfl⟩ (NLt.tup _ (nlcc (nlc nll nl0)))
    ·skip
     refine wxz<|Qal ?_
     refine wmr (mto (n:=46) (l':=[(1,(Q1y p1)),(2,(Qkw p2)),(3,I p3),(4,.ref 0 2 0 0),(8,I 0)]) (own':=[(Qwm p0)]) [(1,(Q1y p1)),(2,(Qkw p2)),(3,I p3),(4,.ref 0 2 0 0),(8,I 0)] [0] [(Qwm p0)] hφ0 (pc (rnd Qag) (pc (rnd Qad) (pc rwl (pc (.rn (rqr rfl)) (pc rwl pn))))) (qc (spb (lc (rnd Qai) (lc (rnd Qaa) ln))) qn)) ?_
     refine Qcb (τ:=(List Int)×Int) (fun n t=>Qea N p0 p2 p3 k8 n t.1 t.2=some r) (fun ⟨y9,y10⟩=>⟨mk 46 [(1,(Qra y9)),(2,(Qkw p2)),(3,I p3),(4,.ref 0 2 0 0),(8,I y10)],[(Qwm p0)]⟩) (fun t h=>by rw [Qea] at h; cases h) (fun n13 ih t h=>?_) N (p1,0) h
     obtain ⟨y9,y10⟩:=t
     rw [Qea] at h
     skip
     refine wsq<|wxz ?_
     refine bfe h (fun hc14 h=>?_) fun hc14 h=>?_
     ·refine wft hc14<|Qan<|thn<|wsq<|Qal ?_
      obtain ⟨x16,hf15,h⟩:=bno h
      rcases x16 with x17 | x19
      ·replace h:=Zg2 h
       refine wx tbk [(3,⟨[fu 58,(.tmp 30,(Qtg p0)),(.tmp 31,(Qra y9)),(.tmp 32,(Qkw p2))],[(1,.unused),(2,.unused)],(.tup [(.lit (.pointer none)),I x17]),[(1,Zd8),(2,.own 1 [[I x17]])],false⟩)] ⟨Qas (first:=[]) (cap:=[]) (vs:=[(Qtg p0),(Qra y9),(Qkw p2)]) (σr:=[]) (σr':=[Zd8,(.own 1 [[I x17]])]) (res':=(.tup [(.lit (.pointer none)),I x17])) [1,2] rfl Qvn (Qkl N p0 y9 p2 _ hf15) rfl (Qbr (rnc (.plain _ (NLt.agg _ (nlc (nld Qai _) (nlc (nld Qaa _) nl0)))) (rnc (pld Qag) (rnc (pld Qad) rn0)))) Qar (slc (Qaq (rnc (.plain _ nll) rn0)) (slc (Qaq (rnc (.plain _ nll) rn0)) Qar)) (.plain _ (NLt.tup _ (nlcc nl0))) rfl rfl rfl,trivial⟩<|wsq<|wxz ?_
       refine bfe h (fun hc18 h=>?_) fun hc18 h=>?_
       ·refine wft hc18<|wxz<|Qaf<|Qae<|Qam<|Qae<|Qae<|Qam<|Qae ?_
        obtain rfl:=osi h
        exact fend ⟨[I y10,I x17,I 0],⟨rot,rot,rot,trivial⟩,rfl⟩ (NLt.tup _ (nlcc (nlc nll nl0)))
       ·refine wfn hc18<|Qan<|thn ?_
        cases h
      ·replace h:=Zg1 h
       refine wx tbk [(3,⟨[fu 58,(.tmp 30,(Qtg p0)),(.tmp 31,(Qra y9)),(.tmp 32,(Qkw p2))],[(1,.unused),(2,.unused),(3,.unused),(4,.unused),(5,.unused),(6,.unused)],(.tup [.ref 3 7 0 0,I x19.1]),[(1,Q6s),(2,.own 1 [[I x19.1]]),(3,(Qut p0 y9 p2 x19)),(4,(.own 1 ((x19.2.2.1:List (List GStream)).map Qaj))),(5,(.own 4 ((x19.2.2.2.1:List GLost).map Qa7))),(6,(.own 1 ((x19.2.2.2.2:List Int).map Qak)))],false⟩)] ⟨Qas (first:=[]) (cap:=[]) (vs:=[(Qtg p0),(Qra y9),(Qkw p2)]) (σr:=[]) (σr':=[Q6s,(.own 1 [[I x19.1]]),(Qut p0 y9 p2 x19),(.own 1 ((x19.2.2.1:List (List GStream)).map Qaj)),(.own 4 ((x19.2.2.2.1:List GLost).map Qa7)),(.own 1 ((x19.2.2.2.2:List Int).map Qak))]) (res':=(.tup [.ref 3 7 0 0,I x19.1])) [1,2,3,4,5,6] rfl Qvn (Qkk N p0 y9 p2 _ hf15) rfl (Qbr (rnc (.plain _ (NLt.agg _ (nlc (nld Qai _) (nlc (nld Qaa _) nl0)))) (rnc (pld Qag) (rnc (pld Qad) rn0)))) Qar (slc (Qaq (rnc (Qbo rfl) rn0)) (slc (Qaq (rnc (.plain _ nll) rn0)) (slc (Qaq (rnc (pld Qai) (rnc (pld Qaa) (rnc (Qc7 rfl) (rnc (Qc7 rfl) (rnc (Qc7 rfl) (rnc (pld Qad) (rnc (.plain _ nll) rn0)))))))) (slc (Qa8 Qap) (slc (Qa8 Qa1) (slc (Qa8 Qag) Qar)))))) (Zei (rnc (Qbo rfl) (rnc (.plain _ nll) rn0))) rfl rfl rfl,trivial⟩<|wsq<|wxz ?_
       refine bfe h (fun hc20 h=>?_) fun hc20 h=>?_
       ·refine wft hc20<|wxz<|Qaf<|Qae<|Qam<|Qae<|Qae<|Qam<|Qae ?_
        obtain rfl:=osi h
        exact fend ⟨[I y10,I x19.1,I 0],⟨rot,rot,rot,trivial⟩,rfl⟩ (NLt.tup _ (nlcc (nlc nll nl0)))
       ·refine wfn hc20<|Qan<|thn ?_
        refine wx1 tbk [(1,rb [(.tmp 40,.ref 3 7 0 0)] [(3,(Qut p0 y9 p2 x19))] (.ref 3 7 0 0))] ⟨Qba rfl,trivial⟩<|bln<|thn<|wxz1<|thn ?_
        obtain ⟨hz21,h⟩:=cko h
        exact arm (Mor.trans (Q71 (n:=46) (m:=1) (xs:=(x19.2.2.2.2:List Int).map Qak) (l':=[(1,(.dat 1 ((x19.2.2.2.2.take y9.length:List Int).map Qak))),(2,(Qkw p2)),(3,I p3),(4,.ref 0 2 0 0),(8,(I (w64 (y10+1))))]) (own':=[(Qwm p0),Q6s,(.own 1 [[I x19.1]]),(Qut p0 y9 p2 x19),(.own 1 ((x19.2.2.1:List (List GStream)).map Qaj)),(.own 4 ((x19.2.2.2.1:List GLost).map Qa7)),.dead]) 6 [(1,(.own 6 1 (0) (y9.length))),(2,(Qkw p2)),(3,I p3),(4,.ref 0 2 0 0),(8,(I (w64 (y10+1))))] (by kernel_rfl) (by kernel_rfl) (by kernel_rfl) ⟨rfl,(Qpo hz21),rfl,.same _,rfl,.same _,rfl,.same _,rfl,.same _,trivial⟩ (by kernel_rfl)) (mto (n:=46) [(1,(.dat 1 ((x19.2.2.2.2.take y9.length:List Int).map Qak))),(2,(Qkw p2)),(3,I p3),(4,.ref 0 2 0 0),(8,(I (w64 (y10+1))))] [0] [(Qwm p0)] hφ0 (pc (rnd Qag) (pc (rnd Qad) (pc rwl (pc (.rn (rqr rfl)) (pc rwl pn))))) (qc (spb (lc (rnd Qai) (lc (rnd Qaa) ln))) qn))) (ih (x19.2.2.2.2.take y9.length,w64 (y10+1)) h)
     ·exact wfn hc14<|Qbl<|Qay<|Qay<|Qbk rfl<|thn<|⟨(y10),h,(mto (n:=46) [(8,I y10)] [] [] hφ0 (pc rwl pn) qn)⟩
end Go.Proofs.YtmbhnllcfmiajaaGreat
