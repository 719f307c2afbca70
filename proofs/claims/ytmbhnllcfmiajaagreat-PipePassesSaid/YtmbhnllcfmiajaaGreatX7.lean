/-
  Functions of the program: what they compute, as plain functions, and that they do. No conditions.
-/
import Derived.Test.YtmbhnllcfmiajaaGreatX6
import Derived.Test.YtmbhnllcfmiajaaGreatEngOb
namespace Go.Proofs.YtmbhnllcfmiajaaGreat
set_option maxRecDepth 100000
set_option maxHeartbeats 4000000
open Go.RowKit
def Qey (N:Nat) (p0:(List GStream)) (k5:Int×Int×Int×Int→Option GStream):Nat→Int→Int→Int→Int→Int→Option GStream
  | 0,_,_,_,_,_=>none
  | n16+1,y6,y7,y8,y9,y10=>
    bif (decide (y6<(p0.length:Int))) then
     (getI p0 y6).bind fun x18=>
     Qey N p0 k5 n16 (w64 (y6+1)) (w64 (y7+x18.Mass)) (w64 (y8+x18.Heat)) (w64 (y9+x18.Silica)) (w64 (y10+x18.Gas))
    else
     k5 (y7,y8,y9,y10)
def Qkp (N:Nat) (p0:(List GStream)):Option GStream:=
  Qbp (fun ⟨y1,y2,y3,y4⟩=>
    some (⟨y1,y2,y3,y4⟩:GStream)) fun k5:Int×Int×Int×Int→Option GStream=>
  Qey N p0 k5 N 0 0 0 0 0
def Qps:Slot:=.own 4 [[(I (0)),(I (0)),(I (0)),(I (0))]]
def Qnp (p0:(List GStream)):AV:=.dat 4 ((p0:List GStream).map Qac)
theorem Qvd (N:Nat) (p0:(List GStream)) (r:GStream) (h:Qkp N p0=some r):Spec Tryz.prog 38 [(.dat 4 (p0.map Qac))] [] (.agg (Qac r)) []:=by
  refine Qah Tryz.func38 rfl 0 (nle rfl) (fun X φ0 w0 hφ0 hd0=>?_)
  unfold Qkp at h
  refine wxz<|wxz ?_
  obtain ⟨k5,hk_k5,h⟩:=jko h
  refine wjn (τ:=Int×Int×Int×Int) (fun t=>k5 t=some r) (fun ⟨y1,y2,y3,y4⟩=>⟨mk 45 [(2,.ref 0 4 0 0),(3,.ref 1 4 0 0)],[Qps,(.own 4 [[I y1,I y2,I y3,I y4]])]⟩) (fun t h=>?_) ?_
  ·subst hk_k5
   obtain ⟨y1,y2,y3,y4⟩:=t
   refine wxz<|Qae ?_
   obtain rfl:=osi h
   exact fend ⟨[(.agg [I y1,I y2,I y3,I y4])],⟨Qcc (n:=0) (m:=4) (j:=0) (i:=0) (xs:=[[I y1,I y2,I y3,I y4]]) (by kernel_rfl) (by kernel_rfl) ti89 (by decide) rfl (nle rfl) rfl,tv⟩,rfl⟩ (NLt.agg _ (nlcc (nlcc nl0)))
  ·skip
   refine wxz<|Qaj ?_
   refine wmr (mto (n:=45) (l':=[(0,(Qnp p0)),(2,.ref 0 4 0 0),(3,.ref 1 4 0 0),(4,I 0)]) (own':=[Qps,Qps]) [(0,(Qnp p0)),(2,.ref 0 4 0 0),(3,.ref 1 4 0 0),(4,I 0)] [0,1] [Qps,Qps] hφ0 (pc (rnd Qad) (prr (prr (pw pn)))) (qb (lcc (lcc ln)) (qb (lcc (lcc ln)) qn))) ?_
   refine Qcb (τ:=Int×Int×Int×Int×Int) (fun n t=>Qey N p0 k5 n t.1 t.2.1 t.2.2.1 t.2.2.2.1 t.2.2.2.2=some r) (fun ⟨y6,y7,y8,y9,y10⟩=>⟨mk 45 [(0,(Qnp p0)),(2,.ref 0 4 0 0),(3,.ref 1 4 0 0),(4,I y6)],[Qps,(.own 4 [[I y7,I y8,I y9,I y10]])]⟩) (fun t h=>by rw [Qey] at h; cases h) (fun n16 ih t h=>?_) N (0,0,0,0,0) h
   obtain ⟨y6,y7,y8,y9,y10⟩:=t
   rw [Qey] at h
   skip
   refine wsq<|wx tbk [(2,rp [(.tmp 6,(Qnp p0))] (I ((p0.length:Int))))] ⟨alm (c:=Qac) (l:=p0) (aln rfl Tryz.underlying28 rfl),tv⟩ ?_
   refine bfe h (fun hc17 h=>?_) fun hc17 h=>?_
   ·refine wft hc17<|Qan<|thn<|wsq<|Qaj ?_
    obtain ⟨x18,hg19,h⟩:=bno h
    obtain ⟨hi20,hj21⟩:=gsm hg19
    refine wy1 tbk [(4,rp [(.tmp 13,(Qnp p0)),(.tmp 14,I y6)] (.dptr (Qac (x18)) 0)),(12,rp [(.tmp 21,(Qnp p0)),(.tmp 22,I y6)] (.dptr (Qac (x18)) 0)),(20,rp [(.tmp 29,(Qnp p0)),(.tmp 30,I y6)] (.dptr (Qac (x18)) 0)),(28,rp [(.tmp 37,(Qnp p0)),(.tmp 38,I y6)] (.dptr (Qac (x18)) 0)),(32,rp [(.tmp 18,(I (w64 (y7+x18.Mass)))),(.tmp 26,(I (w64 (y8+x18.Heat)))),(.tmp 34,(I (w64 (y9+x18.Silica)))),(.tmp 42,(I (w64 (y10+x18.Gas))))] (.agg [(I (w64 (y7+x18.Mass))),(I (w64 (y8+x18.Heat))),(I (w64 (y9+x18.Silica))),(I (w64 (y10+x18.Gas)))]))] ⟨aid rfl Tryz.underlying28 ti89 rfl rfl hi20 (mgt Qac hj21) rfl,aid rfl Tryz.underlying28 ti89 rfl rfl hi20 (mgt Qac hj21) rfl,aid rfl Tryz.underlying28 ti89 rfl rfl hi20 (mgt Qac hj21) rfl,aid rfl Tryz.underlying28 ti89 rfl rfl hi20 (mgt Qac hj21) rfl,Qa2 (vs:=[(I (w64 (y7+x18.Mass))),(I (w64 (y8+x18.Heat))),(I (w64 (y9+x18.Silica))),(I (w64 (y10+x18.Gas)))]) rfl ts89 tz89 rfl (by rfl) rfl,tv⟩<|bln<|thn<|wxz1<|thn ?_
    exact arm (mto (n:=45) [(0,(Qnp p0)),(2,.ref 0 4 0 0),(3,.ref 1 4 0 0),(4,(I (w64 (y6+1))))] [0,1] [Qps,(.own 4 [[(I (w64 (y7+x18.Mass))),(I (w64 (y8+x18.Heat))),(I (w64 (y9+x18.Silica))),(I (w64 (y10+x18.Gas)))]])] hφ0 (pc (rnd Qad) (prr (prr (pw pn)))) (qb (lcc (lcc ln)) (qb (lcc (lcc ln)) qn))) (ih (w64 (y6+1),w64 (y7+x18.Mass),w64 (y8+x18.Heat),w64 (y9+x18.Silica),w64 (y10+x18.Gas)) h)
   ·exact wfn hc17<|Qbi<|Qax<|Qax<|Qbh rfl<|thn<|⟨(y7,y8,y9,y10),h,(mto (n:=45) [(2,.ref 0 4 0 0),(3,.ref 1 4 0 0)] [0,1] [Qps,(.own 4 [[I y7,I y8,I y9,I y10]])] hφ0 (prr (prr pn)) (qb (lcc (lcc ln)) (qb (lcc (lcc ln)) qn)))⟩
def Qdf (N:Nat) (p0:(List GStream)) (k1:Unit→Option Bool):Nat→Int→Option Bool
  | 0,_=>none
  | n4+1,y2=>
    bif (decide (y2<(p0.length:Int))) then
     (getI p0 y2).bind fun x6=>
     (Qft N x6).bind fun x11=>
     bif (!x11) then
      some false
     else
      Qdf N p0 k1 n4 (w64 (y2+1))
    else
     k1 ()
def Qg9 (N:Nat) (p0:(List GStream)):Option Bool:=
  Qbp (fun _=>
    some true) fun k1:Unit→Option Bool=>
  Qdf N p0 k1 N 0
def Qta (p0:(List GStream)):AV:=.dat 4 ((p0:List GStream).map Qac)
def Zlj (x6:GStream):AV:=.agg [(I (x6.Mass)),(I (x6.Heat)),(I (x6.Silica)),(I (x6.Gas))]
theorem Qo6 (N:Nat) (p0:(List GStream)) (r:Bool) (h:Qg9 N p0=some r):Spec Tryz.prog 98 [(.dat 4 (p0.map Qac))] [] (B r) []:=by
  refine Qah Tryz.func98 rfl 0 (nle rfl) (fun X φ0 w0 hφ0 hd0=>?_)
  unfold Qg9 at h
  refine wxz ?_
  obtain ⟨k1,hk_k1,h⟩:=jko h
  refine wjn (τ:=Unit) (fun t=>k1 t=some r) (fun _=>⟨mk 16 [],[]⟩) (fun t h=>?_) ?_
  ·subst hk_k1
   exact wxz<|Qae<|frb h
  ·skip
   refine wxz<|Qaj ?_
   refine wmr (mto (n:=16) (l':=[(0,(Qta p0)),(3,I 0)]) (own':=[]) [(0,(Qta p0)),(3,I 0)] [] [] hφ0 (pc (rnd Qad) (pw pn)) qn) ?_
   refine Qcb (τ:=Int) (fun n t=>Qdf N p0 k1 n t=some r) (fun y2=>⟨mk 16 [(0,(Qta p0)),(3,I y2)],[]⟩) (fun t h=>by rw [Qdf] at h; cases h) (fun n4 ih y2 h=>?_) N (0) h
   rw [Qdf] at h
   skip
   refine wsq<|wx tbk [(2,rp [(.tmp 5,(Qta p0))] (I ((p0.length:Int))))] ⟨alm (c:=Qac) (l:=p0) (aln rfl Tryz.underlying28 rfl),tv⟩ ?_
   refine bfe h (fun hc5 h=>?_) fun hc5 h=>?_
   ·refine wft hc5<|Qan<|thn<|wsq<|Qaj ?_
    obtain ⟨x6,hg7,h⟩:=bno h
    obtain ⟨hi8,hj9⟩:=gsm hg7
    obtain ⟨x11,hf10,h⟩:=bno h
    refine wx tbk [(2,rp [(.tmp 10,(Qta p0)),(.tmp 11,I y2)] (.dptr (Qac (x6)) 0)),(4,rp [fu 121,(.tmp 13,(Zlj x6))] (B x11))] ⟨aid rfl Tryz.underlying28 ti89 rfl rfl hi8 (mgt Qac hj9) rfl,apv Zdu (Qlw N x6 _ hf10) (nlc (NLt.agg _ (nlcc (nlcc nl0))) nl0) nll,tv⟩ ?_
    refine bfe h (fun hc12 h=>?_) fun hc12 h=>?_
    ·exact wft hc12<|wxz<|Qae<|Qap<|Qag<|Qag<|Qap<|Qag<|frb h
    ·exact wfn hc12<|Qan<|bln<|thn<|wxz1<|thn<|arm (mto (n:=16) [(0,(Qta p0)),(3,(I (w64 (y2+1))))] [] [] hφ0 (pc (rnd Qad) (pw pn)) qn) (ih (w64 (y2+1)) h)
   ·exact wfn hc5<|Qbi<|Qax<|Qax<|Qbh rfl<|thn<|⟨(),h,(mto (n:=16) [] [] [] hφ0 pn qn)⟩
def Qdj (N:Nat) (p0:GNet) (p1:Int) (k2:Int→Option Int):Nat→Int→Int→Option Int
  | 0,_,_=>none
  | n7+1,y3,y4=>
    bif (decide (y4<(p0.Elements.length:Int))) then
     (getI p0.Elements y4).bind fun x9=>
     bif (x9.Kind==p1) then
      Qdj N p0 p1 k2 n7 (w64 (y3+1)) (w64 (y4+1))
     else
      Qdj N p0 p1 k2 n7 y3 (w64 (y4+1))
    else
     k2 (y3)
def Qix (N:Nat) (p0:GNet) (p1:Int):Option Int:=
  Qbp (fun y1=>
    some y1) fun k2:Int→Option Int=>
  Qdj N p0 p1 k2 N 0 0
def Q7p (p0:GNet):AV:=.dat 7 ((p0.Elements:List GElement).map Qab)
def Qwp (p0:GNet):Slot:=.own 2 [[(.dat 5 ((p0.Table:List GRow).map Qa1)),(Q7p p0)]]
theorem Qre (N:Nat) (p0:GNet) (p1:Int) (r:Int) (h:Qix N p0 p1=some r):Spec Tryz.prog 29 [(.agg (Qh9 p0)),(K .u8 p1)] [] (I r) []:=by
  refine Qah Tryz.func29 rfl 0 (nle rfl) (fun X φ0 w0 hφ0 hd0=>?_)
  unfold Qix at h
  refine wxz<|wxz ?_
  obtain ⟨k2,hk_k2,h⟩:=jko h
  refine wjn (τ:=Int) (fun t=>k2 t=some r) (fun y1=>⟨mk 25 [(5,I y1)],[]⟩) (fun y1 h=>?_) ?_
  ·subst hk_k2
   refine wxz<|Qae ?_
   obtain rfl:=osi h
   exact fend ⟨[I y1],⟨rot,tv⟩,rfl⟩ nll
  ·skip
   refine wxz<|Qaj ?_
   refine wmr (mto (n:=25) (l':=[(1,(K .u8 (p1))),(2,.ref 0 2 0 0),(5,I 0),(6,I 0)]) (own':=[(Qwp p0)]) [(1,(K .u8 (p1))),(2,.ref 0 2 0 0),(5,I 0),(6,I 0)] [0] [(Qwp p0)] hφ0 (pw (prr (pw (pw pn)))) (qb (lc (rnd Qai) (lc (rnd Qaa) ln)) qn)) ?_
   refine Qcb (τ:=Int×Int) (fun n t=>Qdj N p0 p1 k2 n t.1 t.2=some r) (fun ⟨y3,y4⟩=>⟨mk 25 [(1,(K .u8 (p1))),(2,.ref 0 2 0 0),(5,I y3),(6,I y4)],[(Qwp p0)]⟩) (fun t h=>by rw [Qdj] at h; cases h) (fun n7 ih t h=>?_) N (0,0) h
   obtain ⟨y3,y4⟩:=t
   rw [Qdj] at h
   skip
   refine wsq<|wx tbk [(3,rp [(.tmp 9,(Q7p p0))] (I ((p0.Elements.length:Int))))] ⟨alm (c:=Qab) (l:=p0.Elements) (aln rfl Tryz.underlying24 rfl),tv⟩ ?_
   refine bfe h (fun hc8 h=>?_) fun hc8 h=>?_
   ·refine wft hc8<|Qan<|thn<|wsq<|Qaj ?_
    obtain ⟨x9,hg10,h⟩:=bno h
    obtain ⟨hi11,hj12⟩:=gsm hg10
    refine wx tbk [(3,rp [(.tmp 15,(Q7p p0)),(.tmp 16,I y4)] (.dptr (Qab (x9)) 0))] ⟨aid rfl Tryz.underlying24 ti59 rfl rfl hi11 (mgt Qab hj12) rfl,tv⟩ ?_
    refine bfe h (fun hc13 h=>?_) fun hc13 h=>?_
    ·exact wft hc13<|wxz1<|bln<|thn<|wxz1<|thn<|arm (mto (n:=25) [(1,(K .u8 (p1))),(2,.ref 0 2 0 0),(5,(I (w64 (y3+1)))),(6,(I (w64 (y4+1))))] [0] [(Qwp p0)] hφ0 (pw (prr (pw (pw pn)))) (qb (lc (rnd Qai) (lc (rnd Qaa) ln)) qn)) (ih (w64 (y3+1),w64 (y4+1)) h)
    ·exact wfn hc13<|Qan<|bln<|thn<|wxz1<|thn<|arm (mto (n:=25) [(1,(K .u8 (p1))),(2,.ref 0 2 0 0),(5,I y3),(6,(I (w64 (y4+1))))] [0] [(Qwp p0)] hφ0 (pw (prr (pw (pw pn)))) (qb (lc (rnd Qai) (lc (rnd Qaa) ln)) qn)) (ih (y3,w64 (y4+1)) h)
   ·exact wfn hc8<|Qbi<|Qax<|Qax<|Qbh rfl<|thn<|⟨(y3),h,(mto (n:=25) [(5,I y3)] [] [] hφ0 (pw pn) qn)⟩
def Qgl (N:Nat) (p0:GNet) (p1:(List GStream)):Option Int:=
  Qbp (fun _=>
    (Qkp N p1).bind fun x3=>
    bif (decide (x3.Mass>1000000)) then
     some 3
    else
     bif (decide (x3.Gas>1000000000)) then
      some 3
     else
      some 0) fun k1:Unit→Option Int=>
  (Qix N p0 1).bind fun x7=>
  bif ((p1.length:Int) != x7) then
   some 1
  else
   (Qg9 N p1).bind fun x10=>
   bif (!x10) then
    some 1
   else
    k1 ()
def Qwo (p1:(List GStream)):AV:=.dat 4 ((p1:List GStream).map Qac)
def Zli (p0:GNet):AV:=.dat 5 ((p0.Table:List GRow).map Qa1)
def Zlh (p0:GNet):AV:=.dat 7 ((p0.Elements:List GElement).map Qab)
def Q7o (p1:(List GStream)) (p0:GNet) (x7:Int):List (Nat×Rec):=[(1,rp [((.tmp 6),(Qwo p1))] (I ((p1.length:Int)))),(3,rp [fu 29,((.tmp 8),(.agg [(Zli p0),(Zlh p0)])),((.const (.int .u8 1)),(K .u8 (1)))] (I (x7)))]
theorem Qm7 (N:Nat) (p0:GNet) (p1:(List GStream)) (r:Int) (h:Qgl N p0 p1=some r):Spec Tryz.prog 61 [(.agg (Qh9 p0)),(.dat 4 (p1.map Qac))] [] (I r) []:=by
  refine Qah Tryz.func61 rfl 0 (nle rfl) (fun X φ0 w0 hφ0 hd0=>?_)
  unfold Qgl at h
  refine wxz ?_
  obtain ⟨k1,hk_k1,h⟩:=jko h
  refine wjn (τ:=Unit) (fun t=>k1 t=some r) (fun _=>⟨mk 26 [(1,(Qwo p1))],[]⟩) (fun t h=>?_) ?_
  ·subst hk_k1
   obtain ⟨x3,hf2,h⟩:=bno h
   refine wx tbk [(1,rp [fu 38,(.tmp 16,(Qwo p1))] (.agg [I x3.Mass,I x3.Heat,I x3.Silica,I x3.Gas]))] ⟨apv Zj2 (Qvd N p1 _ hf2) (nlc (nld Qad _) nl0) (NLt.agg _ (nlcc (nlcc nl0))),tv⟩<|wsq ?_
   refine bfe h (fun hb4 h=>?_) fun hb4 h=>?_
   ·refine wx tbk [(3,rp [(.tmp 20,(B ((decide (x3.Mass>1000000)))))] (B true))] ⟨asb hb4 (amv rfl),tv⟩<|wtr<|wxz<|Qae<|Qag ?_
    obtain rfl:=osi h
    exact fend ⟨[I 3],⟨rot,tv⟩,rfl⟩ nll
   ·refine wx tbk [(3,rp [(.tmp 20,(B ((decide (x3.Mass>1000000)))))] (B false))] ⟨asb hb4 (amv rfl),tv⟩ ?_
    refine bfe h (fun hc5 h=>?_) fun hc5 h=>?_
    ·refine wft hc5<|wxz<|Qae<|Qag ?_
     obtain rfl:=osi h
     exact fend ⟨[I 3],⟨rot,tv⟩,rfl⟩ nll
    ·refine wfn hc5<|Qan<|thn<|wxz<|Qae ?_
     obtain rfl:=osi h
     exact fend ⟨[I 0],⟨rot,tv⟩,rfl⟩ nll
  ·skip
   obtain ⟨x7,hf6,h⟩:=bno h
   refine hpre (A:=(Q7o p1 p0 x7)) ⟨alm (c:=Qac) (l:=p1) (aln rfl Tryz.underlying28 rfl),apv Zj4 (Qre N p0 1 _ hf6) (nlc (NLt.agg _ (nlc (nld Qai _) (nlc (nld Qaa _) nl0))) (nlc nll nl0)) nll,tv⟩ fun q1_=>?_
   refine bfe h (fun hb8 h=>?_) fun hb8 h=>?_
   ·refine wx tbk (hcat (Q7o p1 p0 x7) [(5,rp [(.tmp 10,(B (((p1.length:Int) != x7))))] (B true))]) (hap q1_ ⟨asb hb8 (amv rfl),tv⟩)<|wtr<|wxz<|Qae<|Qag ?_
    obtain rfl:=osi h
    exact fend ⟨[I 1],⟨rot,tv⟩,rfl⟩ nll
   ·obtain ⟨x10,hf9,h⟩:=bno h
    refine wx tbk (hcat (Q7o p1 p0 x7) [(5,rp [(.tmp 10,(B (((p1.length:Int) != x7))))] (B false)),(7,rp [(.tmp 11,B false),fu 98,(.tmp 12,(Qwo p1))] (B x10))]) (hap q1_ ⟨asb hb8 (amv rfl),ag_ (apv Zjl (Qo6 N p1 _ hf9) (nlc (nld Qad _) nl0) nll),tv⟩) ?_
    refine bfe h (fun hc11 h=>?_) fun hc11 h=>?_
    ·refine wft hc11<|wxz<|Qae<|Qag ?_
     obtain rfl:=osi h
     exact fend ⟨[I 1],⟨rot,tv⟩,rfl⟩ nll
    ·exact wfn hc11<|Qan<|thn<|⟨(),h,(mto (n:=26) [(1,(Qwo p1))] [] [] hφ0 (pc (rnd Qad) pn) qn)⟩
def Qi3 (N:Nat) (p0:GNet) (p1:(List Int)) (p2:(List GStream)):Option Int:=
  (Qiw N p0).bind fun x2=>
  bif (!x2) then
   some 1
  else
   (Qf6 N p0 p1).bind fun x5=>
   bif (!x5) then
    some 1
   else
    (Qgl N p0 p2).bind fun x8=>
    some x8
def Zlg (p0:GNet):AV:=.dat 7 ((p0.Elements:List GElement).map Qab)
def Q7n (p0:GNet):AV:=.agg [(.dat 5 ((p0.Table:List GRow).map Qa1)),(Zlg p0)]
def Q7m (p0:GNet) (x2:Bool):List (Nat×Rec):=[(1,rp [fu 28,((.tmp 7),(Q7n p0))] (B (x2)))]
theorem Qrt (N:Nat) (p0:GNet) (p1:(List Int)) (p2:(List GStream)) (r:Int) (h:Qi3 N p0 p1 p2=some r):Spec Tryz.prog 20 [(.agg (Qh9 p0)),(.dat 1 (p1.map Qak)),(.dat 4 (p2.map Qac))] [] (I r) []:=by
  refine Qah Tryz.func20 rfl 0 (nle rfl) (fun X φ0 w0 hφ0 hd0=>?_)
  unfold Qi3 at h
  refine wxz<|wsq ?_
  obtain ⟨x2,hf1,h⟩:=bno h
  refine hpre (A:=(Q7m p0 x2)) ⟨apv Zj5 (Qrd N p0 _ hf1) (nlc (NLt.agg _ (nlc (nld Qai _) (nlc (nld Qaa _) nl0))) nl0) nll,tv⟩ fun q1_=>?_
  refine bfe h (fun hb3 h=>?_) fun hb3 h=>?_
  ·refine wx tbk (hcat (Q7m p0 x2) [(3,rp [(.tmp 9,(B ((!x2))))] (B true))]) (hap q1_ ⟨asb hb3 (amv rfl),tv⟩)<|wtr<|wxz<|Qae<|Qag ?_
   obtain rfl:=osi h
   exact fend ⟨[I 1],⟨rot,tv⟩,rfl⟩ nll
  ·obtain ⟨x5,hf4,h⟩:=bno h
   refine wx tbk (hcat (Q7m p0 x2) [(3,rp [(.tmp 9,(B ((!x2))))] (B false)),(6,rp [(.tmp 10,B false),fu 33,(.tmp 11,(Q7n p0)),(.tmp 12,(.dat 1 ((p1:List Int).map Qak)))] (B x5))]) (hap q1_ ⟨asb hb3 (amv rfl),ag_ (apv Zj3 (Qmk N p0 p1 _ hf4) (nlc (NLt.agg _ (nlc (nld Qai _) (nlc (nld Qaa _) nl0))) (nlc (nld Qaf _) nl0)) nll),tv⟩) ?_
   refine bfe h (fun hc6 h=>?_) fun hc6 h=>?_
   ·refine wft hc6<|wxz<|Qae<|Qag ?_
    obtain rfl:=osi h
    exact fend ⟨[I 1],⟨rot,tv⟩,rfl⟩ nll
   ·refine wfn hc6<|Qan<|thn ?_
    obtain ⟨x8,hf7,h⟩:=bno h
    refine wx tbk [(2,rp [fu 61,(.tmp 16,(Q7n p0)),(.tmp 17,(.dat 4 ((p2:List GStream).map Qac)))] (I x8))] ⟨apv Zjw (Qm7 N p0 p2 _ hf7) (nlc (NLt.agg _ (nlc (nld Qai _) (nlc (nld Qaa _) nl0))) (nlc (nld Qad _) nl0)) nll,tv⟩<|Qae ?_
    obtain rfl:=osi h
    exact fend ⟨[I x8],⟨rot,tv⟩,rfl⟩ nll
end Go.Proofs.YtmbhnllcfmiajaaGreat
