/-
  Functions of the program: what they compute, as plain functions, and that they do. No conditions.
-/
import Derived.Test.YtmbhnllcfmiajaaGreatX7
namespace Go.Proofs.YtmbhnllcfmiajaaGreat
set_option maxRecDepth 100000
set_option maxHeartbeats 4000000
open Go.RowKit
def Qhx (N:Nat) (p0:GNet) (p1:(List Int)) (p2:(List GStream)) (p3:Int):Option Bool:=
  Qbh (fun _=>
    (Qly N p0).bind fun x3=>
    (Qku N p1).bind fun x5=>
    (Qhu N p2).bind fun x7=>
    (Qlu N x3 x5 x7 p3).bind fun x9=>
    (Qjs N p0 p1 p2).bind fun x11=>
    Qbh (fun y12=>
      bif (y12 != 0) then
       bif (x9.2.2==y12) then
        bif (x9.1==0) then
         bif (x9.2.1==0) then
          (Qgv 2000 ).bind fun x19=>
          some x19
         else
          some false
        else
         some false
       else
        some false
      else
       (Qkp N p0 p1 p2 p3).bind fun x21=>
       bif (x9.2.2==0) then
        bif (x9.1==x21.1) then
         bif (x9.2.1==x21.2) then
          (Qgv 2000 ).bind fun x26=>
          some x26
         else
          some false
        else
         some false
       else
        some false) fun k13:Int→Option Bool=>
    bif (x11==0) then
     (Qde N p3 1 1000).bind fun x29=>
     bif (!x29) then
      k13 (2)
     else
      k13 (x11)
    else
     k13 (x11)) fun k1:Unit→Option Bool=>
  (Qkg N p0 p2).bind fun x32=>
  bif (!x32) then
   (Qgv 2000 ).bind fun x35=>
   some x35
  else
   bif (decide ((p1.length:Int)>25)) then
    (Qgv 2000 ).bind fun x38=>
    some x38
   else
    bif (decide (p3>200)) then
     bif (decide (p3≤1000)) then
      (Qgv 2000 ).bind fun x42=>
      some x42
     else
      k1 ()
    else
     k1 ()
def Qj6 (p1:(List Int)):AV:=.dat 1 ((p1:List Int).map Qak)
def Qhp (p2:(List GStream)):AV:=.dat 4 ((p2:List GStream).map Qaa)
def Zgk (p0:GNet):AV:=.dat 7 ((p0.Elements:List GElement).map Qad)
def Qsk (p0:GNet):Slot:=.own 2 [[(.dat 5 ((p0.Table:List GRow).map Qa0)),(Zgk p0)]]
def Qk4 (p0:GNet):AV:=.agg [(.dat 5 ((p0.Table:List GRow).map Qa0)),(Zgk p0)]
def Q85 (x3:GNet):AV:=.agg [(.dat 5 ((x3.Table:List GRow).map Qa0)),(.dat 7 ((x3.Elements:List GElement).map Qad))]
def Q84 (x5:(List Int)):AV:=.dat 1 ((x5:List Int).map Qak)
def Q1g (x7:(List GStream)):AV:=.dat 4 ((x7:List GStream).map Qaa)
theorem Qou (N:Nat) (p0:GNet) (p1:(List Int)) (p2:(List GStream)) (p3:Int) (r:Bool) (h:Qhx N p0 p1 p2 p3=some r):Spec Tryz.prog 5 [(.agg (Qhv p0)),(.dat 1 (p1.map Qak)),(.dat 4 (p2.map Qaa)),(I p3)] [] (B r) []:=by
  refine Qai Tryz.func5 rfl 0 (nle rfl) (fun X φ0 w0 hφ0 hd0=>?_)
  unfold Qhx at h
  refine wxz ?_
  obtain ⟨k1,hk_k1,h⟩:=jko h
  refine wjn (τ:=Unit) (fun t=>k1 t=some r) (fun _=>⟨mk 95 [(1,(Qj6 p1)),(2,(Qhp p2)),(3,I p3),(4,.ref 0 2 0 0)],[(Qsk p0)]⟩) (fun t h=>?_) ?_
  ·subst hk_k1
   obtain ⟨x3,hf2,h⟩:=bno h
   obtain ⟨x5,hf4,h⟩:=bno h
   obtain ⟨x7,hf6,h⟩:=bno h
   obtain ⟨x9,hf8,h⟩:=bno h
   refine wx tbk [(1,rp [fu 17,(.tmp 34,(Qk4 p0))] (Q85 x3)),(3,rp [fu 18,(.tmp 36,(Qj6 p1))] (Q84 x5)),(5,rp [fu 19,(.tmp 38,(Qhp p2))] (Q1g x7)),(7,rp [fu 24,(.tmp 35,(Q85 x3)),(.tmp 37,(Q84 x5)),(.tmp 39,(Q1g x7)),(.tmp 40,I p3)] (.tup [I x9.1,I x9.2.1,I x9.2.2]))] ⟨apc (first:=[]) (cap:=[]) (vs:=[(Qk4 p0)]) rfl Zk3 (Qxb N p0 _ hf2) rfl rfl (nlc (NLt.agg _ (nlc (nld Qaj _) (nlc (nld Qab _) nl0))) nl0) (NLt.agg _ (nlc (nld Qaj _) (nlc (nld Qab _) nl0))) rfl,apc (first:=[]) (cap:=[]) (vs:=[(Qj6 p1)]) rfl Zk2 (Qux N p1 _ hf4) rfl rfl (nlc (nld Qae _) nl0) (nld Qae _) rfl,apc (first:=[]) (cap:=[]) (vs:=[(Qhp p2)]) rfl Zk1 (Qq2 N p2 _ hf6) rfl rfl (nlc (nld Qac _) nl0) (nld Qac _) rfl,apc (first:=[]) (cap:=[]) (vs:=[(Q85 x3),(Q84 x5),(Q1g x7),I p3]) rfl Zky (Qw2 N x3 x5 x7 p3 _ hf8) rfl rfl (nlc (NLt.agg _ (nlc (nld Qaj _) (nlc (nld Qab _) nl0))) (nlc (nld Qae _) (nlc (nld Qac _) (nlc nll nl0)))) (NLt.tup _ (nlcc (nlc nll nl0))) rfl,trivial⟩ ?_
   obtain ⟨x11,hf10,h⟩:=bno h
   refine wx tbk [(3,rp [fu 20,(.tmp 45,(Qk4 p0)),(.tmp 46,(Qj6 p1)),(.tmp 47,(Qhp p2))] (I x11))] ⟨apc (first:=[]) (cap:=[]) (vs:=[(Qk4 p0),(Qj6 p1),(Qhp p2)]) rfl Zk0 (Qts N p0 p1 p2 _ hf10) rfl rfl (nlc (NLt.agg _ (nlc (nld Qaj _) (nlc (nld Qab _) nl0))) (nlc (nld Qae _) (nlc (nld Qac _) nl0))) nll rfl,trivial⟩ ?_
   obtain ⟨k13,hk_k13,h⟩:=jko h
   refine wjn (τ:=Int) (fun t=>k13 t=some r) (fun y12=>⟨mk 95 [(1,(Qj6 p1)),(2,(Qhp p2)),(3,I p3),(4,.ref 0 2 0 0),(9,I x9.1),(10,I x9.2.1),(11,I x9.2.2),(12,I y12)],[(Qsk p0)]⟩) (fun y12 h=>?_) ?_
   ·subst hk_k13
    refine wsq<|wxz ?_
    refine bfe h (fun hc14 h=>?_) fun hc14 h=>?_
    ·refine wft hc14 ?_
     refine bfe h (fun hb15 h=>?_) fun hb15 h=>?_
     ·refine bfe h (fun hb16 h=>?_) fun hb16 h=>?_
      ·refine bfe h (fun hb17 h=>?_) fun hb17 h=>?_
       ·obtain ⟨x19,hf18,h⟩:=bno h
        refine wx tbk [(3,rp [(.tmp 60,(B ((x9.2.2==y12))))] (B true)),(7,rp [(.tmp 64,(B ((x9.1==0))))] (B true)),(11,rp [(.tmp 68,(B ((x9.2.1==0))))] (B true)),(12,rp [(.tmp 69,B true),fu 15] (B x19))] ⟨asb hb15 (amv rfl),asb hb16 (amv rfl),asb hb17 (amv rfl),ag_ (apc (first:=[]) (cap:=[]) (vs:=[]) rfl Qt1 (Qhe 2000  _ hf18) rfl rfl nl0 nll rfl),trivial⟩<|Qaf<|Qag ?_
        obtain rfl:=osi h
        exact fend ⟨[B x19],⟨rot,trivial⟩,rfl⟩ nll
       ·refine wx tbk [(3,rp [(.tmp 60,(B ((x9.2.2==y12))))] (B true)),(7,rp [(.tmp 64,(B ((x9.1==0))))] (B true)),(11,rp [(.tmp 68,(B ((x9.2.1==0))))] (B false))] ⟨asb hb15 (amv rfl),asb hb16 (amv rfl),asb hb17 (amv rfl),trivial⟩<|Qaf<|Qag ?_
        obtain rfl:=osi h
        exact fend ⟨[B false],⟨rot,trivial⟩,rfl⟩ nll
      ·refine wx tbk [(3,rp [(.tmp 60,(B ((x9.2.2==y12))))] (B true)),(7,rp [(.tmp 64,(B ((x9.1==0))))] (B false))] ⟨asb hb15 (amv rfl),asb hb16 (amv rfl),trivial⟩<|Qaf<|Qag ?_
       obtain rfl:=osi h
       exact fend ⟨[B false],⟨rot,trivial⟩,rfl⟩ nll
     ·refine wx tbk [(3,rp [(.tmp 60,(B ((x9.2.2==y12))))] (B false))] ⟨asb hb15 (amv rfl),trivial⟩<|Qaf<|Qag ?_
      obtain rfl:=osi h
      exact fend ⟨[B false],⟨rot,trivial⟩,rfl⟩ nll
    ·refine wfn hc14<|Qam<|thn ?_
     obtain ⟨x21,hf20,h⟩:=bno h
     refine wx tbk [(4,rp [fu 26,(.tmp 73,(Qk4 p0)),(.tmp 74,(Qj6 p1)),(.tmp 75,(Qhp p2)),(.tmp 76,I p3)] (.tup [I x21.1,I x21.2]))] ⟨apc (first:=[]) (cap:=[]) (vs:=[(Qk4 p0),(Qj6 p1),(Qhp p2),I p3]) rfl Zkx (Qut N p0 p1 p2 p3 _ hf20) rfl rfl (nlc (NLt.agg _ (nlc (nld Qaj _) (nlc (nld Qab _) nl0))) (nlc (nld Qae _) (nlc (nld Qac _) (nlc nll nl0)))) (NLt.tup _ (nlcc nl0)) rfl,trivial⟩ ?_
     refine bfe h (fun hb22 h=>?_) fun hb22 h=>?_
     ·refine bfe h (fun hb23 h=>?_) fun hb23 h=>?_
      ·refine bfe h (fun hb24 h=>?_) fun hb24 h=>?_
       ·obtain ⟨x26,hf25,h⟩:=bno h
        refine wx tbk [(2,rp [(.tmp 81,(B ((x9.2.2==0))))] (B true)),(7,rp [(.tmp 86,(B ((x9.1==x21.1))))] (B true)),(12,rp [(.tmp 91,(B ((x9.2.1==x21.2))))] (B true)),(13,rp [(.tmp 92,B true),fu 15] (B x26))] ⟨asb hb22 (amv rfl),asb hb23 (amv rfl),asb hb24 (amv rfl),ag_ (apc (first:=[]) (cap:=[]) (vs:=[]) rfl Qt1 (Qhe 2000  _ hf25) rfl rfl nl0 nll rfl),trivial⟩<|Qaf ?_
        obtain rfl:=osi h
        exact fend ⟨[B x26],⟨rot,trivial⟩,rfl⟩ nll
       ·refine wx tbk [(2,rp [(.tmp 81,(B ((x9.2.2==0))))] (B true)),(7,rp [(.tmp 86,(B ((x9.1==x21.1))))] (B true)),(12,rp [(.tmp 91,(B ((x9.2.1==x21.2))))] (B false))] ⟨asb hb22 (amv rfl),asb hb23 (amv rfl),asb hb24 (amv rfl),trivial⟩<|Qaf ?_
        obtain rfl:=osi h
        exact fend ⟨[B false],⟨rot,trivial⟩,rfl⟩ nll
      ·refine wx tbk [(2,rp [(.tmp 81,(B ((x9.2.2==0))))] (B true)),(7,rp [(.tmp 86,(B ((x9.1==x21.1))))] (B false))] ⟨asb hb22 (amv rfl),asb hb23 (amv rfl),trivial⟩<|Qaf ?_
       obtain rfl:=osi h
       exact fend ⟨[B false],⟨rot,trivial⟩,rfl⟩ nll
     ·refine wx tbk [(2,rp [(.tmp 81,(B ((x9.2.2==0))))] (B false))] ⟨asb hb22 (amv rfl),trivial⟩<|Qaf ?_
      obtain rfl:=osi h
      exact fend ⟨[B false],⟨rot,trivial⟩,rfl⟩ nll
   ·skip
    refine bfe h (fun hb27 h=>?_) fun hb27 h=>?_
    ·obtain ⟨x29,hf28,h⟩:=bno h
     refine wx tbk [(2,rp [(.tmp 50,(B ((x11==0))))] (B true)),(4,rp [(.tmp 51,B true),fu 25,(.tmp 52,I p3),ci 1,ci 1000] (B x29))] ⟨asb hb27 (amv rfl),ag_ (apc (first:=[]) (cap:=[]) (vs:=[I p3,I 1,I 1000]) rfl Qcl (Qa1 N p3 1 1000 _ hf28) rfl rfl (nlcc (nlc nll nl0)) nll rfl),trivial⟩ ?_
     refine bfe h (fun hc30 h=>?_) fun hc30 h=>?_
     ·exact wft hc30<|wxz1<|thn<|⟨(2),h,(mto (n:=95) [(1,(Qj6 p1)),(2,(Qhp p2)),(3,I p3),(4,.ref 0 2 0 0),(9,I x9.1),(10,I x9.2.1),(11,I x9.2.2),(12,I 2)] [0] [(Qsk p0)] hφ0 (pc (rnd Qae) (pc (rnd Qac) (pc rwl (pc (.rn (rqr rfl)) (pc rwl (pc rwl (pc rwl (pc rwl pn)))))))) (qc (spb (lc (rnd Qaj) (lc (rnd Qab) ln))) qn))⟩
     ·exact wfn hc30<|Qam<|thn<|⟨(x11),h,(mto (n:=95) [(1,(Qj6 p1)),(2,(Qhp p2)),(3,I p3),(4,.ref 0 2 0 0),(9,I x9.1),(10,I x9.2.1),(11,I x9.2.2),(12,I x11)] [0] [(Qsk p0)] hφ0 (pc (rnd Qae) (pc (rnd Qac) (pc rwl (pc (.rn (rqr rfl)) (pc rwl (pc rwl (pc rwl (pc rwl pn)))))))) (qc (spb (lc (rnd Qaj) (lc (rnd Qab) ln))) qn))⟩
    ·exact wx tbk [(2,rp [(.tmp 50,(B ((x11==0))))] (B false))] ⟨asb hb27 (amv rfl),trivial⟩<|wfa<|Qam<|thn<|⟨(x11),h,(mto (n:=95) [(1,(Qj6 p1)),(2,(Qhp p2)),(3,I p3),(4,.ref 0 2 0 0),(9,I x9.1),(10,I x9.2.1),(11,I x9.2.2),(12,I x11)] [0] [(Qsk p0)] hφ0 (pc (rnd Qae) (pc (rnd Qac) (pc rwl (pc (.rn (rqr rfl)) (pc rwl (pc rwl (pc rwl (pc rwl pn)))))))) (qc (spb (lc (rnd Qaj) (lc (rnd Qab) ln))) qn))⟩
  ·skip
   obtain ⟨x32,hf31,h⟩:=bno h
   refine bfe h (fun hb33 h=>?_) fun hb33 h=>?_
   ·refine wx tbk [(2,rp [fu 14,(.tmp 15,(Qk4 p0)),(.tmp 16,(Qhp p2))] (B x32)),(4,rp [(.tmp 18,(B ((!x32))))] (B true))] ⟨apc (first:=[]) (cap:=[]) (vs:=[(Qk4 p0),(Qhp p2)]) rfl Qxo (Qkd N p0 p2 _ hf31) rfl rfl (nlc (NLt.agg _ (nlc (nld Qaj _) (nlc (nld Qab _) nl0))) (nlc (nld Qac _) nl0)) nll rfl,asb hb33 (amv rfl),trivial⟩<|wtr ?_
    obtain ⟨x35,hf34,h⟩:=bno h
    refine wx tbk [(0,rp [fu 15] (B x35))] ⟨apc (first:=[]) (cap:=[]) (vs:=[]) rfl Qt1 (Qhe 2000  _ hf34) rfl rfl nl0 nll rfl,trivial⟩<|Qaf<|Qag ?_
    obtain rfl:=osi h
    exact fend ⟨[B x35],⟨rot,trivial⟩,rfl⟩ nll
   ·refine bfe h (fun hb36 h=>?_) fun hb36 h=>?_
    ·refine wx tbk [(2,rp [fu 14,(.tmp 15,(Qk4 p0)),(.tmp 16,(Qhp p2))] (B x32)),(4,rp [(.tmp 18,(B ((!x32))))] (B false)),(6,rp [(.tmp 19,B false),(.tmp 20,(Qj6 p1))] (I ((p1.length:Int)))),(9,rp [(.tmp 23,(B ((decide ((p1.length:Int)>25)))))] (B true))] ⟨apc (first:=[]) (cap:=[]) (vs:=[(Qk4 p0),(Qhp p2)]) rfl Qxo (Qkd N p0 p2 _ hf31) rfl rfl (nlc (NLt.agg _ (nlc (nld Qaj _) (nlc (nld Qab _) nl0))) (nlc (nld Qac _) nl0)) nll rfl,asb hb33 (amv rfl),ag_ (alm (c:=Qak) (l:=p1) (aln rfl Tryz.underlying27 rfl)),asb hb36 (amv rfl),trivial⟩<|wtr ?_
     obtain ⟨x38,hf37,h⟩:=bno h
     refine wx tbk [(0,rp [fu 15] (B x38))] ⟨apc (first:=[]) (cap:=[]) (vs:=[]) rfl Qt1 (Qhe 2000  _ hf37) rfl rfl nl0 nll rfl,trivial⟩<|Qaf<|Qag ?_
     obtain rfl:=osi h
     exact fend ⟨[B x38],⟨rot,trivial⟩,rfl⟩ nll
    ·refine bfe h (fun hb39 h=>?_) fun hb39 h=>?_
     ·refine wx tbk [(2,rp [fu 14,(.tmp 15,(Qk4 p0)),(.tmp 16,(Qhp p2))] (B x32)),(4,rp [(.tmp 18,(B ((!x32))))] (B false)),(6,rp [(.tmp 19,B false),(.tmp 20,(Qj6 p1))] (I ((p1.length:Int)))),(9,rp [(.tmp 23,(B ((decide ((p1.length:Int)>25)))))] (B false)),(12,rp [(.tmp 24,B false),(.tmp 26,(B ((decide (p3>200)))))] (B true))] ⟨apc (first:=[]) (cap:=[]) (vs:=[(Qk4 p0),(Qhp p2)]) rfl Qxo (Qkd N p0 p2 _ hf31) rfl rfl (nlc (NLt.agg _ (nlc (nld Qaj _) (nlc (nld Qab _) nl0))) (nlc (nld Qac _) nl0)) nll rfl,asb hb33 (amv rfl),ag_ (alm (c:=Qak) (l:=p1) (aln rfl Tryz.underlying27 rfl)),asb hb36 (amv rfl),asb hb39 (ag_ (amv rfl)),trivial⟩ ?_
      refine bfe h (fun hc40 h=>?_) fun hc40 h=>?_
      ·refine wft hc40 ?_
       obtain ⟨x42,hf41,h⟩:=bno h
       refine wx tbk [(0,rp [fu 15] (B x42))] ⟨apc (first:=[]) (cap:=[]) (vs:=[]) rfl Qt1 (Qhe 2000  _ hf41) rfl rfl nl0 nll rfl,trivial⟩<|Qaf<|Qag ?_
       obtain rfl:=osi h
       exact fend ⟨[B x42],⟨rot,trivial⟩,rfl⟩ nll
      ·exact wfn hc40<|Qam<|thn<|⟨(),h,(mto (n:=95) [(1,(Qj6 p1)),(2,(Qhp p2)),(3,I p3),(4,.ref 0 2 0 0)] [0] [(Qsk p0)] hφ0 (pc (rnd Qae) (pc (rnd Qac) (pc rwl (pc (.rn (rqr rfl)) pn)))) (qc (spb (lc (rnd Qaj) (lc (rnd Qab) ln))) qn))⟩
     ·refine wx tbk [(2,rp [fu 14,(.tmp 15,(Qk4 p0)),(.tmp 16,(Qhp p2))] (B x32)),(4,rp [(.tmp 18,(B ((!x32))))] (B false)),(6,rp [(.tmp 19,B false),(.tmp 20,(Qj6 p1))] (I ((p1.length:Int)))),(9,rp [(.tmp 23,(B ((decide ((p1.length:Int)>25)))))] (B false)),(12,rp [(.tmp 24,B false),(.tmp 26,(B ((decide (p3>200)))))] (B false))] ⟨apc (first:=[]) (cap:=[]) (vs:=[(Qk4 p0),(Qhp p2)]) rfl Qxo (Qkd N p0 p2 _ hf31) rfl rfl (nlc (NLt.agg _ (nlc (nld Qaj _) (nlc (nld Qab _) nl0))) (nlc (nld Qac _) nl0)) nll rfl,asb hb33 (amv rfl),ag_ (alm (c:=Qak) (l:=p1) (aln rfl Tryz.underlying27 rfl)),asb hb36 (amv rfl),asb hb39 (ag_ (amv rfl)),trivial⟩<|wfa<|Qam<|thn ?_
      exact ⟨(),h,(mto (n:=95) [(1,(Qj6 p1)),(2,(Qhp p2)),(3,I p3),(4,.ref 0 2 0 0)] [0] [(Qsk p0)] hφ0 (pc (rnd Qae) (pc (rnd Qac) (pc rwl (pc (.rn (rqr rfl)) pn)))) (qc (spb (lc (rnd Qaj) (lc (rnd Qab) ln))) qn))⟩
end Go.Proofs.YtmbhnllcfmiajaaGreat
