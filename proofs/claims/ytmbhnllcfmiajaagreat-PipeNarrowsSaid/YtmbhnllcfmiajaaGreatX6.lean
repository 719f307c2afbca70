/-
  Functions of the program: what they compute, as plain functions, and that they do. No conditions.
-/
import Derived.Test.YtmbhnllcfmiajaaGreatX5
namespace Go.Proofs.YtmbhnllcfmiajaaGreat
set_option maxRecDepth 100000
set_option maxHeartbeats 4000000
open Go.RowKit
def Qdp (_N:Nat) (p0:Int) (p1:Int) (p2:Int):Option Bool:=
  bif (decide (p0≥p1)) then
   some (decide (p0≤p2))
  else
   some false
theorem Qaz (N:Nat) (p0:Int) (p1:Int) (p2:Int) (r:Bool) (h:Qdp N p0 p1 p2=some r):Spec Tryz.prog 25 [(I p0),(I p1),(I p2)] [] (B r) []:=by
  refine Qah Tryz.func25 rfl 0 (nle rfl) (fun X φ0 w0 hφ0 hd0=>?_)
  unfold Qdp at h
  refine wxz ?_
  refine bfe h (fun hb1 h=>?_) fun hb1 h=>?_
  ·refine wx tbk [(3,rp [(.tmp 9,(B ((decide (p0≥p1)))))] (B true))] ⟨asb hb1 (amv rfl),trivial⟩<|Qaf ?_
   obtain rfl:=osi h
   exact fend ⟨[(B ((decide (p0≤p2))))],⟨rot,trivial⟩,rfl⟩ nll
  ·refine wx tbk [(3,rp [(.tmp 9,(B ((decide (p0≥p1)))))] (B false))] ⟨asb hb1 (amv rfl),trivial⟩<|Qaf ?_
   obtain rfl:=osi h
   exact fend ⟨[B false],⟨rot,trivial⟩,rfl⟩ nll
def Qdl (N:Nat) (p0:(List GRow)) (k1:Unit→Option Bool):Nat→Int→Option Bool
  | 0,_=>none
  | n5+1,y3=>
    bif (decide (y3<(p0.length:Int))) then
     (getI p0 y3).bind fun x7=>
     Qbp (fun _=>
       bif (decide (y3>0)) then
        (getI p0 (w64 (y3 - 1))).bind fun x13=>
        bif (decide (x7.T≤x13.T)) then
         some false
        else
         bif (decide (x7.P≤x13.P)) then
          some false
         else
          bif (decide (x7.Liquid≤x13.Liquid)) then
           some false
          else
           bif (decide (x7.Silica<x13.Silica)) then
            some false
           else
            Qdl N p0 k1 n5 (w64 (y3+1))
       else
        Qdl N p0 k1 n5 (w64 (y3+1))) fun k11:Unit→Option Bool=>
     (Qdp N x7.T 0 400).bind fun x22=>
     bif (!x22) then
      some false
     else
      (Qdp N x7.P 1 10000).bind fun x25=>
      bif (!x25) then
       some false
      else
       (Qdp N x7.Liquid 0 4000).bind fun x28=>
       bif (!x28) then
        some false
       else
        (Qdp N x7.Silica 0 2000).bind fun x31=>
        bif (!x31) then
         some false
        else
         bif (decide (x7.Vapour≤x7.Liquid)) then
          some false
         else
          bif (decide (x7.Vapour>4000)) then
           some false
          else
           k11 ()
    else
     k1 ()
def Qi4 (N:Nat) (p0:(List GRow)):Option Bool:=
  Qbp (fun _=>
    bif (decide ((p0.length:Int)≥2)) then
     some (decide ((p0.length:Int)≤20))
    else
     some false) fun k1:Unit→Option Bool=>
  Qdl N p0 k1 N 0
def Qjq (p0:(List GRow)):AV:=.dat 5 ((p0:List GRow).map Qaw)
def Zdo (x7:GRow):Slot:=.own 5 [[(I (x7.T)),(I (x7.P)),(I (x7.Liquid)),(I (x7.Vapour)),(I (x7.Silica))]]
theorem Qj5 (N:Nat) (p0:(List GRow)) (r:Bool) (h:Qi4 N p0=some r):Spec Tryz.prog 69 [(.dat 5 (p0.map Qaw))] [] (B r) []:=by
  refine Qah Tryz.func69 rfl 0 (nle rfl) (fun X φ0 w0 hφ0 hd0=>?_)
  unfold Qi4 at h
  refine wxz ?_
  obtain ⟨k1,hk_k1,h⟩:=jko h
  refine wjn (τ:=Unit) (fun t=>k1 t=some r) (fun _=>⟨mk 103 [(0,(Qjq p0))],[]⟩) (fun t h=>?_) ?_
  ·subst hk_k1
   refine bfe h (fun hb2 h=>?_) fun hb2 h=>?_
   ·refine wx tbk [(1,rp [(.tmp 95,(Qjq p0))] (I ((p0.length:Int)))),(3,rp [(.tmp 97,(B ((decide ((p0.length:Int)≥2)))))] (B true)),(5,rp [(.tmp 98,B true),(.tmp 99,(Qjq p0))] (I ((p0.length:Int))))] ⟨alm (c:=Qaw) (l:=p0) (aln rfl Tryz.underlying23 rfl),asb hb2 (amv rfl),ag_ (alm (c:=Qaw) (l:=p0) (aln rfl Tryz.underlying23 rfl)),trivial⟩<|Qaf ?_
    obtain rfl:=osi h
    exact fend ⟨[(B ((decide ((p0.length:Int)≤20))))],⟨rot,trivial⟩,rfl⟩ nll
   ·refine wx tbk [(1,rp [(.tmp 95,(Qjq p0))] (I ((p0.length:Int)))),(3,rp [(.tmp 97,(B ((decide ((p0.length:Int)≥2)))))] (B false))] ⟨alm (c:=Qaw) (l:=p0) (aln rfl Tryz.underlying23 rfl),asb hb2 (amv rfl),trivial⟩<|Qaf ?_
    obtain rfl:=osi h
    exact fend ⟨[B false],⟨rot,trivial⟩,rfl⟩ nll
  ·skip
   refine wxz<|Qal ?_
   refine wmr (mto (n:=103) (l':=[(0,(Qjq p0)),(3,I 0)]) (own':=[]) [(0,(Qjq p0)),(3,I 0)] [] [] hφ0 (pc (rnd Qai) (pc rwl pn)) qn) ?_
   refine Qcb (τ:=Int) (fun n t=>Qdl N p0 k1 n t=some r) (fun y3=>⟨mk 103 [(0,(Qjq p0)),(3,I y3)],[]⟩) (fun t h=>by rw [Qdl] at h; cases h) (fun n5 ih y3 h=>?_) N (0) h
   rw [Qdl] at h
   skip
   refine wsq<|wx tbk [(2,rp [(.tmp 6,(Qjq p0))] (I ((p0.length:Int))))] ⟨alm (c:=Qaw) (l:=p0) (aln rfl Tryz.underlying23 rfl),trivial⟩ ?_
   refine bfe h (fun hc6 h=>?_) fun hc6 h=>?_
   ·refine wft hc6<|Qan<|thn<|wsq<|Qal ?_
    obtain ⟨x7,hg8,h⟩:=bno h
    obtain ⟨hi9,hj10⟩:=gsm hg8
    refine wx tbk [(2,rp [(.tmp 11,(Qjq p0)),(.tmp 12,I y3)] (.dptr (Qaw (x7)) 0))] ⟨aid rfl Tryz.underlying23 Ql6 rfl rfl hi9 (mgt Qaw hj10) rfl,trivial⟩ ?_
    obtain ⟨k11,hk_k11,h⟩:=jko h
    refine wjn (τ:=Unit) (fun t=>k11 t=some r) (fun _=>⟨mk 103 [(0,(Qjq p0)),(3,I y3),(4,.ref 0 5 0 0)],[(Zdo x7)]⟩) (fun t h=>?_) ?_
    ·subst hk_k11
     refine bfe h (fun hb12 h=>?_) fun hb12 h=>?_
     ·obtain ⟨x13,hg14,h⟩:=bno h
      obtain ⟨hi15,hj16⟩:=gsm hg14
      refine bfe h (fun hb17 h=>?_) fun hb17 h=>?_
      ·refine wxd tbk [(2,rp [(.tmp 50,(B ((decide (y3>0)))))] (B true)),(8,rp [(.tmp 51,B true),(.tmp 54,(Qjq p0)),(.tmp 56,(I (w64 (y3 - 1))))] (.dptr (Qaw (x13)) 0)),(12,rp [(.tmp 51,B true),(.tmp 60,(B ((decide (x7.T≤x13.T)))))] (B true))] ⟨asb hb12 (amv rfl),ag_ (aid rfl Tryz.underlying23 Ql6 rfl rfl hi15 (mgt Qaw hj16) rfl),asb hb17 (ag_ (amv rfl)),trivial⟩<|wtr<|wxz<|Qaf<|Qam<|Qae<|Qae<|Qam<|Qae ?_
       obtain rfl:=osi h
       exact fend ⟨[B false],⟨rot,trivial⟩,rfl⟩ nll
      ·refine bfe h (fun hb18 h=>?_) fun hb18 h=>?_
       ·refine wxd tbk [(2,rp [(.tmp 50,(B ((decide (y3>0)))))] (B true)),(8,rp [(.tmp 51,B true),(.tmp 54,(Qjq p0)),(.tmp 56,(I (w64 (y3 - 1))))] (.dptr (Qaw (x13)) 0)),(12,rp [(.tmp 51,B true),(.tmp 60,(B ((decide (x7.T≤x13.T)))))] (B false)),(18,rp [(.tmp 61,B false),(.tmp 64,(Qjq p0)),(.tmp 66,(I (w64 (y3 - 1))))] (.dptr (Qaw (x13)) 0)),(23,rp [(.tmp 51,B true),(.tmp 71,(B ((decide (x7.P≤x13.P)))))] (B true))] ⟨asb hb12 (amv rfl),ag_ (aid rfl Tryz.underlying23 Ql6 rfl rfl hi15 (mgt Qaw hj16) rfl),asb hb17 (ag_ (amv rfl)),ag_ (aid rfl Tryz.underlying23 Ql6 rfl rfl hi15 (mgt Qaw hj16) rfl),asb hb18 (ag_ (amv rfl)),trivial⟩<|wtr<|wxz<|Qaf<|Qam<|Qae<|Qae<|Qam<|Qae ?_
        obtain rfl:=osi h
        exact fend ⟨[B false],⟨rot,trivial⟩,rfl⟩ nll
       ·refine bfe h (fun hb19 h=>?_) fun hb19 h=>?_
        ·refine wxd tbk [(2,rp [(.tmp 50,(B ((decide (y3>0)))))] (B true)),(8,rp [(.tmp 51,B true),(.tmp 54,(Qjq p0)),(.tmp 56,(I (w64 (y3 - 1))))] (.dptr (Qaw (x13)) 0)),(12,rp [(.tmp 51,B true),(.tmp 60,(B ((decide (x7.T≤x13.T)))))] (B false)),(18,rp [(.tmp 61,B false),(.tmp 64,(Qjq p0)),(.tmp 66,(I (w64 (y3 - 1))))] (.dptr (Qaw (x13)) 0)),(23,rp [(.tmp 51,B true),(.tmp 71,(B ((decide (x7.P≤x13.P)))))] (B false)),(29,rp [(.tmp 72,B false),(.tmp 75,(Qjq p0)),(.tmp 77,(I (w64 (y3 - 1))))] (.dptr (Qaw (x13)) 0)),(34,rp [(.tmp 51,B true),(.tmp 82,(B ((decide (x7.Liquid≤x13.Liquid)))))] (B true))] ⟨asb hb12 (amv rfl),ag_ (aid rfl Tryz.underlying23 Ql6 rfl rfl hi15 (mgt Qaw hj16) rfl),asb hb17 (ag_ (amv rfl)),ag_ (aid rfl Tryz.underlying23 Ql6 rfl rfl hi15 (mgt Qaw hj16) rfl),asb hb18 (ag_ (amv rfl)),ag_ (aid rfl Tryz.underlying23 Ql6 rfl rfl hi15 (mgt Qaw hj16) rfl),asb hb19 (ag_ (amv rfl)),trivial⟩<|wtr<|wxz<|Qaf<|Qam<|Qae<|Qae<|Qam<|Qae ?_
         obtain rfl:=osi h
         exact fend ⟨[B false],⟨rot,trivial⟩,rfl⟩ nll
        ·refine wxd tbk [(2,rp [(.tmp 50,(B ((decide (y3>0)))))] (B true)),(8,rp [(.tmp 51,B true),(.tmp 54,(Qjq p0)),(.tmp 56,(I (w64 (y3 - 1))))] (.dptr (Qaw (x13)) 0)),(12,rp [(.tmp 51,B true),(.tmp 60,(B ((decide (x7.T≤x13.T)))))] (B false)),(18,rp [(.tmp 61,B false),(.tmp 64,(Qjq p0)),(.tmp 66,(I (w64 (y3 - 1))))] (.dptr (Qaw (x13)) 0)),(23,rp [(.tmp 51,B true),(.tmp 71,(B ((decide (x7.P≤x13.P)))))] (B false)),(29,rp [(.tmp 72,B false),(.tmp 75,(Qjq p0)),(.tmp 77,(I (w64 (y3 - 1))))] (.dptr (Qaw (x13)) 0)),(34,rp [(.tmp 51,B true),(.tmp 82,(B ((decide (x7.Liquid≤x13.Liquid)))))] (B false)),(40,rp [(.tmp 83,B false),(.tmp 86,(Qjq p0)),(.tmp 88,(I (w64 (y3 - 1))))] (.dptr (Qaw (x13)) 0))] ⟨asb hb12 (amv rfl),ag_ (aid rfl Tryz.underlying23 Ql6 rfl rfl hi15 (mgt Qaw hj16) rfl),asb hb17 (ag_ (amv rfl)),ag_ (aid rfl Tryz.underlying23 Ql6 rfl rfl hi15 (mgt Qaw hj16) rfl),asb hb18 (ag_ (amv rfl)),ag_ (aid rfl Tryz.underlying23 Ql6 rfl rfl hi15 (mgt Qaw hj16) rfl),asb hb19 (ag_ (amv rfl)),ag_ (aid rfl Tryz.underlying23 Ql6 rfl rfl hi15 (mgt Qaw hj16) rfl),trivial⟩ ?_
         refine bfe h (fun hc20 h=>?_) fun hc20 h=>?_
         ·refine wft hc20<|wxz<|Qaf<|Qam<|Qae<|Qae<|Qam<|Qae ?_
          obtain rfl:=osi h
          exact fend ⟨[B false],⟨rot,trivial⟩,rfl⟩ nll
         ·exact wfn hc20<|Qan<|bln<|thn<|wxz1<|thn<|arm (mto (n:=103) [(0,(Qjq p0)),(3,(I (w64 (y3+1))))] [] [] hφ0 (pc (rnd Qai) (pc rwl pn)) qn) (ih (w64 (y3+1)) h)
     ·exact wxd tbk [(2,rp [(.tmp 50,(B ((decide (y3>0)))))] (B false))] ⟨asb hb12 (amv rfl),trivial⟩<|wfa<|Qan<|bln<|thn<|wxz1<|thn<|arm (mto (n:=103) [(0,(Qjq p0)),(3,(I (w64 (y3+1))))] [] [] hφ0 (pc (rnd Qai) (pc rwl pn)) qn) (ih (w64 (y3+1)) h)
    ·skip
     obtain ⟨x22,hf21,h⟩:=bno h
     refine bfe h (fun hb23 h=>?_) fun hb23 h=>?_
     ·refine wx tbk [(2,rp [fu 25,(.tmp 16,I x7.T),ci 0,ci 400] (B x22)),(4,rp [(.tmp 18,(B ((!x22))))] (B true))] ⟨apc (first:=[]) (cap:=[]) (vs:=[I x7.T,I 0,I 400]) rfl Qcp (Qaz N x7.T 0 400 _ hf21) rfl rfl (nlcc (nlc nll nl0)) nll rfl,asb hb23 (amv rfl),trivial⟩<|wtr<|wxz<|Qaf<|Qae<|Qam<|Qae<|Qae<|Qam<|Qae ?_
      obtain rfl:=osi h
      exact fend ⟨[B false],⟨rot,trivial⟩,rfl⟩ nll
     ·obtain ⟨x25,hf24,h⟩:=bno h
      refine bfe h (fun hb26 h=>?_) fun hb26 h=>?_
      ·refine wx tbk [(2,rp [fu 25,(.tmp 16,I x7.T),ci 0,ci 400] (B x22)),(4,rp [(.tmp 18,(B ((!x22))))] (B false)),(7,rp [(.tmp 19,B false),fu 25,(.tmp 21,I x7.P),ci 1,ci 10000] (B x25)),(10,rp [(.tmp 24,(B ((!x25))))] (B true))] ⟨apc (first:=[]) (cap:=[]) (vs:=[I x7.T,I 0,I 400]) rfl Qcp (Qaz N x7.T 0 400 _ hf21) rfl rfl (nlcc (nlc nll nl0)) nll rfl,asb hb23 (amv rfl),ag_ (apc (first:=[]) (cap:=[]) (vs:=[I x7.P,I 1,I 10000]) rfl Qcp (Qaz N x7.P 1 10000 _ hf24) rfl rfl (nlcc (nlc nll nl0)) nll rfl),asb hb26 (amv rfl),trivial⟩<|wtr<|wxz<|Qaf<|Qae<|Qam<|Qae<|Qae<|Qam<|Qae ?_
       obtain rfl:=osi h
       exact fend ⟨[B false],⟨rot,trivial⟩,rfl⟩ nll
      ·obtain ⟨x28,hf27,h⟩:=bno h
       refine bfe h (fun hb29 h=>?_) fun hb29 h=>?_
       ·refine wx tbk [(2,rp [fu 25,(.tmp 16,I x7.T),ci 0,ci 400] (B x22)),(4,rp [(.tmp 18,(B ((!x22))))] (B false)),(7,rp [(.tmp 19,B false),fu 25,(.tmp 21,I x7.P),ci 1,ci 10000] (B x25)),(10,rp [(.tmp 24,(B ((!x25))))] (B false)),(13,rp [(.tmp 25,B false),fu 25,(.tmp 27,I x7.Liquid),ci 0,ci 4000] (B x28)),(16,rp [(.tmp 30,(B ((!x28))))] (B true))] ⟨apc (first:=[]) (cap:=[]) (vs:=[I x7.T,I 0,I 400]) rfl Qcp (Qaz N x7.T 0 400 _ hf21) rfl rfl (nlcc (nlc nll nl0)) nll rfl,asb hb23 (amv rfl),ag_ (apc (first:=[]) (cap:=[]) (vs:=[I x7.P,I 1,I 10000]) rfl Qcp (Qaz N x7.P 1 10000 _ hf24) rfl rfl (nlcc (nlc nll nl0)) nll rfl),asb hb26 (amv rfl),ag_ (apc (first:=[]) (cap:=[]) (vs:=[I x7.Liquid,I 0,I 4000]) rfl Qcp (Qaz N x7.Liquid 0 4000 _ hf27) rfl rfl (nlcc (nlc nll nl0)) nll rfl),asb hb29 (amv rfl),trivial⟩<|wtr<|wxz<|Qaf<|Qae<|Qam<|Qae<|Qae<|Qam<|Qae ?_
        obtain rfl:=osi h
        exact fend ⟨[B false],⟨rot,trivial⟩,rfl⟩ nll
       ·obtain ⟨x31,hf30,h⟩:=bno h
        refine bfe h (fun hb32 h=>?_) fun hb32 h=>?_
        ·refine wx tbk [(2,rp [fu 25,(.tmp 16,I x7.T),ci 0,ci 400] (B x22)),(4,rp [(.tmp 18,(B ((!x22))))] (B false)),(7,rp [(.tmp 19,B false),fu 25,(.tmp 21,I x7.P),ci 1,ci 10000] (B x25)),(10,rp [(.tmp 24,(B ((!x25))))] (B false)),(13,rp [(.tmp 25,B false),fu 25,(.tmp 27,I x7.Liquid),ci 0,ci 4000] (B x28)),(16,rp [(.tmp 30,(B ((!x28))))] (B false)),(19,rp [(.tmp 31,B false),fu 25,(.tmp 33,I x7.Silica),ci 0,ci 2000] (B x31)),(22,rp [(.tmp 36,(B ((!x31))))] (B true))] ⟨apc (first:=[]) (cap:=[]) (vs:=[I x7.T,I 0,I 400]) rfl Qcp (Qaz N x7.T 0 400 _ hf21) rfl rfl (nlcc (nlc nll nl0)) nll rfl,asb hb23 (amv rfl),ag_ (apc (first:=[]) (cap:=[]) (vs:=[I x7.P,I 1,I 10000]) rfl Qcp (Qaz N x7.P 1 10000 _ hf24) rfl rfl (nlcc (nlc nll nl0)) nll rfl),asb hb26 (amv rfl),ag_ (apc (first:=[]) (cap:=[]) (vs:=[I x7.Liquid,I 0,I 4000]) rfl Qcp (Qaz N x7.Liquid 0 4000 _ hf27) rfl rfl (nlcc (nlc nll nl0)) nll rfl),asb hb29 (amv rfl),ag_ (apc (first:=[]) (cap:=[]) (vs:=[I x7.Silica,I 0,I 2000]) rfl Qcp (Qaz N x7.Silica 0 2000 _ hf30) rfl rfl (nlcc (nlc nll nl0)) nll rfl),asb hb32 (amv rfl),trivial⟩<|wtr<|wxz<|Qaf<|Qae<|Qam<|Qae<|Qae<|Qam<|Qae ?_
         obtain rfl:=osi h
         exact fend ⟨[B false],⟨rot,trivial⟩,rfl⟩ nll
        ·refine bfe h (fun hb33 h=>?_) fun hb33 h=>?_
         ·refine wx tbk [(2,rp [fu 25,(.tmp 16,I x7.T),ci 0,ci 400] (B x22)),(4,rp [(.tmp 18,(B ((!x22))))] (B false)),(7,rp [(.tmp 19,B false),fu 25,(.tmp 21,I x7.P),ci 1,ci 10000] (B x25)),(10,rp [(.tmp 24,(B ((!x25))))] (B false)),(13,rp [(.tmp 25,B false),fu 25,(.tmp 27,I x7.Liquid),ci 0,ci 4000] (B x28)),(16,rp [(.tmp 30,(B ((!x28))))] (B false)),(19,rp [(.tmp 31,B false),fu 25,(.tmp 33,I x7.Silica),ci 0,ci 2000] (B x31)),(22,rp [(.tmp 36,(B ((!x31))))] (B false)),(29,rp [(.tmp 43,(B ((decide (x7.Vapour≤x7.Liquid)))))] (B true))] ⟨apc (first:=[]) (cap:=[]) (vs:=[I x7.T,I 0,I 400]) rfl Qcp (Qaz N x7.T 0 400 _ hf21) rfl rfl (nlcc (nlc nll nl0)) nll rfl,asb hb23 (amv rfl),ag_ (apc (first:=[]) (cap:=[]) (vs:=[I x7.P,I 1,I 10000]) rfl Qcp (Qaz N x7.P 1 10000 _ hf24) rfl rfl (nlcc (nlc nll nl0)) nll rfl),asb hb26 (amv rfl),ag_ (apc (first:=[]) (cap:=[]) (vs:=[I x7.Liquid,I 0,I 4000]) rfl Qcp (Qaz N x7.Liquid 0 4000 _ hf27) rfl rfl (nlcc (nlc nll nl0)) nll rfl),asb hb29 (amv rfl),ag_ (apc (first:=[]) (cap:=[]) (vs:=[I x7.Silica,I 0,I 2000]) rfl Qcp (Qaz N x7.Silica 0 2000 _ hf30) rfl rfl (nlcc (nlc nll nl0)) nll rfl),asb hb32 (amv rfl),asb hb33 (amv rfl),trivial⟩<|wtr<|wxz<|Qaf<|Qae<|Qam<|Qae<|Qae<|Qam<|Qae ?_
          obtain rfl:=osi h
          exact fend ⟨[B false],⟨rot,trivial⟩,rfl⟩ nll
         ·refine wx tbk [(2,rp [fu 25,(.tmp 16,I x7.T),ci 0,ci 400] (B x22)),(4,rp [(.tmp 18,(B ((!x22))))] (B false)),(7,rp [(.tmp 19,B false),fu 25,(.tmp 21,I x7.P),ci 1,ci 10000] (B x25)),(10,rp [(.tmp 24,(B ((!x25))))] (B false)),(13,rp [(.tmp 25,B false),fu 25,(.tmp 27,I x7.Liquid),ci 0,ci 4000] (B x28)),(16,rp [(.tmp 30,(B ((!x28))))] (B false)),(19,rp [(.tmp 31,B false),fu 25,(.tmp 33,I x7.Silica),ci 0,ci 2000] (B x31)),(22,rp [(.tmp 36,(B ((!x31))))] (B false)),(29,rp [(.tmp 43,(B ((decide (x7.Vapour≤x7.Liquid)))))] (B false))] ⟨apc (first:=[]) (cap:=[]) (vs:=[I x7.T,I 0,I 400]) rfl Qcp (Qaz N x7.T 0 400 _ hf21) rfl rfl (nlcc (nlc nll nl0)) nll rfl,asb hb23 (amv rfl),ag_ (apc (first:=[]) (cap:=[]) (vs:=[I x7.P,I 1,I 10000]) rfl Qcp (Qaz N x7.P 1 10000 _ hf24) rfl rfl (nlcc (nlc nll nl0)) nll rfl),asb hb26 (amv rfl),ag_ (apc (first:=[]) (cap:=[]) (vs:=[I x7.Liquid,I 0,I 4000]) rfl Qcp (Qaz N x7.Liquid 0 4000 _ hf27) rfl rfl (nlcc (nlc nll nl0)) nll rfl),asb hb29 (amv rfl),ag_ (apc (first:=[]) (cap:=[]) (vs:=[I x7.Silica,I 0,I 2000]) rfl Qcp (Qaz N x7.Silica 0 2000 _ hf30) rfl rfl (nlcc (nlc nll nl0)) nll rfl),asb hb32 (amv rfl),asb hb33 (amv rfl),trivial⟩ ?_
          refine bfe h (fun hc34 h=>?_) fun hc34 h=>?_
          ·refine wft hc34<|wxz<|Qaf<|Qae<|Qam<|Qae<|Qae<|Qam<|Qae ?_
           obtain rfl:=osi h
           exact fend ⟨[B false],⟨rot,trivial⟩,rfl⟩ nll
          ·exact wfn hc34<|Qan<|thn<|⟨(),h,(mto (n:=103) [(0,(Qjq p0)),(3,I y3),(4,.ref 0 5 0 0)] [0] [(Zdo x7)] hφ0 (pc (rnd Qai) (pc rwl (pc (.rn (rqr rfl)) pn))) (qc (spb (lcc (lcc (lc rwl ln)))) qn))⟩
   ·exact wfn hc6<|Qbl<|Qay<|Qay<|Qbk rfl<|thn<|⟨(),h,(mto (n:=103) [(0,(Qjq p0))] [] [] hφ0 (pc (rnd Qai) pn) qn)⟩
def Qd9 (N:Nat) (p0:(List GRow)) (k2:(List GRow)→Option (List GRow)):Nat→(List GRow)→Int→Option (List GRow)
  | 0,_,_=>none
  | n7+1,y3,y4=>
    bif (decide (y4<(p0.length:Int))) then
     (getI p0 y4).bind fun x9=>
     chk (decide ((y3.length+([x9]).length) * 40≤140737488355328))<|
     Qd9 N p0 k2 n7 (y3++([x9])) (w64 (y4+1))
    else
     k2 (y3)
def Qi8 (N:Nat) (p0:(List GRow)):Option (List GRow):=
  Qbp (fun y1=>
    some y1) fun k2:(List GRow)→Option (List GRow)=>
  Qd9 N p0 k2 N ([]) 0
def Qsy (p0:(List GRow)):AV:=.dat 5 ((p0:List GRow).map Qaw)
def Q5n (y3:(List GRow)):AV:=.acc 0 160 5 ((y3:List GRow).map Qaw)
def Q5m (x9:GRow):AV:=.agg [(I (x9.T)),(I (x9.P)),(I (x9.Liquid)),(I (x9.Vapour)),(I (x9.Silica))]
theorem Qr0 (N:Nat) (p0:(List GRow)) (r:(List GRow)) (h:Qi8 N p0=some r):Spec Tryz.prog 59 [(.dat 5 (p0.map Qaw))] [] (.dat 5 (r.map Qaw)) []:=by
  refine Qah Tryz.func59 rfl 0 (nle rfl) (fun X φ0 w0 hφ0 hd0=>?_)
  unfold Qi8 at h
  refine wxz<|wxz ?_
  obtain ⟨k2,hk_k2,h⟩:=jko h
  refine wjn (τ:=(List GRow)) (fun t=>k2 t=some r) (fun y1=>⟨mk 41 [(3,(.acc 0 160 5 ((y1:List GRow).map Qaw)))],[.tok]⟩) (fun y1 h=>?_) ?_
  ·subst hk_k2
   refine wxz<|Qaf ?_
   obtain rfl:=osi h
   exact fend ⟨[(.dat 5 ((y1:List GRow).map Qaw))],⟨Qe7 (v:=(.acc 0 160 5 ((y1:List GRow).map Qaw))) (rot) Less.acc,trivial⟩,rfl⟩ (nld Qai _)
  ·skip
   refine wxz<|Qal ?_
   refine wmr (Mor.trans (Qpl 0 160 5 3 (by kernel_rfl) (by kernel_rfl)) (mto (n:=41) (l':=[(0,(Qsy p0)),(3,(.acc 0 160 5 ((([]):List GRow).map Qaw))),(4,I 0)]) (own':=[.tok]) [(0,(Qsy p0)),(3,(.acc 0 160 5 (([]:List GRow).map Qaw))),(4,I 0)] [0] [.tok] hφ0 (pc (rnd Qai) (pc (.rn (Qcu rfl (Qca Qai _))) (pc rwl pn))) (qc .tok qn))) ?_
   refine Qcb (τ:=(List GRow)×Int) (fun n t=>Qd9 N p0 k2 n t.1 t.2=some r) (fun ⟨y3,y4⟩=>⟨mk 41 [(0,(Qsy p0)),(3,(Q5n y3)),(4,I y4)],[.tok]⟩) (fun t h=>by rw [Qd9] at h; cases h) (fun n7 ih t h=>?_) N ([],0) h
   obtain ⟨y3,y4⟩:=t
   rw [Qd9] at h
   skip
   refine wsq<|wx tbk [(2,rp [(.tmp 6,(Qsy p0))] (I ((p0.length:Int))))] ⟨alm (c:=Qaw) (l:=p0) (aln rfl Tryz.underlying23 rfl),trivial⟩ ?_
   refine bfe h (fun hc8 h=>?_) fun hc8 h=>?_
   ·refine wft hc8<|Qan<|thn<|wsq<|Qal ?_
    obtain ⟨x9,hg10,h⟩:=bno h
    obtain ⟨hi11,hj12⟩:=gsm hg10
    obtain ⟨ha13,h⟩:=cko h
    refine wy1 tbk [(3,rp [(.tmp 12,(Qsy p0)),(.tmp 13,I y4)] (.dptr (Qaw (x9)) 0)),(8,rp [(.tmp 17,(Qsy p0)),(.tmp 18,I y4)] (.dptr (Qaw (x9)) 0)),(13,rp [(.tmp 22,(Qsy p0)),(.tmp 23,I y4)] (.dptr (Qaw (x9)) 0)),(18,rp [(.tmp 27,(Qsy p0)),(.tmp 28,I y4)] (.dptr (Qaw (x9)) 0)),(23,rp [(.tmp 32,(Qsy p0)),(.tmp 33,I y4)] (.dptr (Qaw (x9)) 0)),(26,rp [(.tmp 16,I x9.T),(.tmp 21,I x9.P),(.tmp 26,I x9.Liquid),(.tmp 31,I x9.Vapour),(.tmp 36,I x9.Silica)] (Q5m x9)),(27,rp [(.tmp 37,(Q5m x9))] (.dat 5 (([x9]:List GRow).map Qaw))),(28,⟨[(.tmp 11,(Q5n y3)),(.tmp 38,(.dat 5 (([x9]:List GRow).map Qaw)))],[(0,.tok),(1,.unused)],(.acc 1 160 5 ((y3++([x9]):List GRow).map Qaw)),[(0,.dead),(1,.tok)],false⟩)] ⟨aid rfl Tryz.underlying23 Ql6 rfl rfl hi11 (mgt Qaw hj12) rfl,aid rfl Tryz.underlying23 Ql6 rfl rfl hi11 (mgt Qaw hj12) rfl,aid rfl Tryz.underlying23 Ql6 rfl rfl hi11 (mgt Qaw hj12) rfl,aid rfl Tryz.underlying23 Ql6 rfl rfl hi11 (mgt Qaw hj12) rfl,aid rfl Tryz.underlying23 Ql6 rfl rfl hi11 (mgt Qaw hj12) rfl,Qax (vs:=[I x9.T,I x9.P,I x9.Liquid,I x9.Vapour,I x9.Silica]) rfl Zaz Qze rfl (by rfl) rfl,Qbw (vs:=[(Q5m x9)]) rfl Tryz.underlying39 Qs1 Qze rfl (by decide) rfl (by decide) (by rfl) (by rfl) (by rfl) rfl,Qgo rfl Tryz.underlying39 Zk3 (Base.acc _ _) rfl rfl (by rfl) (Qjk Qaw ha13) (Qjj Qaw ha13 (by decide)) (Qji Qaw) rfl rfl,trivial⟩<|bln<|thn<|wxz1<|thn ?_
    exact arm (mto (n:=41) [(0,(Qsy p0)),(3,(.acc 1 160 5 ((y3++([x9]):List GRow).map Qaw))),(4,(I (w64 (y4+1))))] [1] [.tok] hφ0 (pc (rnd Qai) (pc (.rn (Qcu rfl (Qca Qai _))) (pc rwl pn))) (qc .tok qn)) (ih (y3++([x9]),w64 (y4+1)) h)
   ·exact wfn hc8<|Qbl<|Qay<|Qay<|Qbk rfl<|thn<|⟨(y3),h,(mto (n:=41) [(3,(Q5n y3))] [0] [.tok] hφ0 (pc (.rn (Qcu rfl (Qca Qai _))) pn) (qc .tok qn))⟩
def Qex (N:Nat) (x13:GElement) (k21:(List GElement)×(List GPort)×(List Int)→Option GNet):Nat→Int→(List GElement)→(List GPort)→(List Int)→Option GNet
  | 0,_,_,_,_=>none
  | n31+1,y23,y24,y25,y26=>
    bif (decide (y23<(x13.From.length:Int))) then
     (getI x13.From y23).bind fun x33=>
     chk (decide ((y25.length+([x33]).length) * 16≤140737488355328))<|
     Qex N x13 k21 n31 (w64 (y23+1)) y24 (y25++([x33])) y26
    else
     k21 (y24,y25,y26)
def Qey (N:Nat) (p0:GNet) (k4:(List GElement)→Option GNet):Nat→Int→(List GElement)→Option GNet
  | 0,_,_=>none
  | n9+1,y5,y6=>
    bif (decide (y5<(p0.Elements.length:Int))) then
     Qbp (fun y11=>
       Qey N p0 k4 n9 (w64 (y5+1)) y11) fun k12:(List GElement)→Option GNet=>
     (getI p0.Elements y5).bind fun x13=>
     chk (decide ((([]:List Int).length+x13.Weights.length) * 8≤140737488355328))<|
     Qbp (fun ⟨y18,y19,y20⟩=>
       chk (decide ((y18.length+([(⟨x13.Kind,y19,x13.Level,x13.Amount,x13.Wide,x13.Narrow,y20⟩:GElement)]).length) * 88≤140737488355328))<|
       k12 (y18++([(⟨x13.Kind,y19,x13.Level,x13.Amount,x13.Wide,x13.Narrow,y20⟩:GElement)]))) fun k21:(List GElement)×(List GPort)×(List Int)→Option GNet=>
     Qex N x13 k21 N 0 y6 ([]) (([]:List Int)++x13.Weights)
    else
     k4 (y6)
def Qg3 (N:Nat) (p0:GNet):Option GNet:=
  (Qi8 N p0.Table).bind fun x2=>
  Qbp (fun y3=>
    some (⟨x2,y3⟩:GNet)) fun k4:(List GElement)→Option GNet=>
  Qey N p0 k4 N 0 ([])
def Zez (p0:GNet):AV:=.dat 5 ((p0.Table:List GRow).map Qaw)
def Qke (x2:(List GRow)):AV:=.dat 5 ((x2:List GRow).map Qaw)
def Qym (y3:(List GElement)):AV:=.acc 2 133 7 ((y3:List GElement).map Qac)
def Zey (p0:GNet):AV:=.dat 7 ((p0.Elements:List GElement).map Qac)
def Qqe (p0:GNet):Slot:=.own 2 [[(Zez p0),(Zey p0)]]
def Qyn (y6:(List GElement)):AV:=.acc 3 133 7 ((y6:List GElement).map Qac)
def Q5l:AV:=.acc 5 3 1 ((([]:List Int):List Int).map Qak)
def Q5j (x13:GElement):AV:=.dat 1 ((x13.Weights:List Int).map Qak)
def Qo4 (x13:GElement):AV:=.acc 6 3 1 ((([]:List Int)++x13.Weights:List Int).map Qak)
def Q5k (y20:(List Int)):AV:=.acc 6 3 1 ((y20:List Int).map Qak)
def Q5h (x13:GElement) (y19:(List GPort)) (y20:(List Int)):AV:=.dat 7 (([(⟨x13.Kind,y19,x13.Level,x13.Amount,x13.Wide,x13.Narrow,y20⟩:GElement)]:List GElement).map Qac)
def Q5i (x13:GElement) (y19:(List GPort)) (y20:(List Int)):AV:=.agg [(K .u8 (x13.Kind)),(.dat 2 ((y19:List GPort).map Qat)),(I (x13.Level)),(I (x13.Amount)),(I (x13.Wide)),(I (x13.Narrow)),(.dat 1 ((y20:List Int).map Qak))]
def Qul (x13:GElement):AV:=.dat 2 ((x13.From:List GPort).map Qat)
def Quk (x13:GElement):Slot:=.own 7 [[(K .u8 (x13.Kind)),(Qul x13),(I (x13.Level)),(I (x13.Amount)),(I (x13.Wide)),(I (x13.Narrow)),(Q5j x13)]]
def Zew:AV:=.acc 6 120 2 ((([]):List GPort).map Qat)
def Zex:AV:=.acc 8 120 2 (([]:List GPort).map Qat)
def Qyl (y24:(List GElement)):AV:=.acc 5 133 7 ((y24:List GElement).map Qac)
def Q5g (y26:(List Int)):AV:=.acc 7 3 1 ((y26:List Int).map Qak)
def Q5f (x13:GElement) (y25:(List GPort)) (y26:(List Int)):Slot:=.own 7 [[(K .u8 (x13.Kind)),(.acc 6 120 2 ((y25:List GPort).map Qat)),(I (x13.Level)),(I (x13.Amount)),(I (x13.Wide)),(I (x13.Narrow)),(Q5g y26)]]
def Qyk (x33:GPort):AV:=.agg [(I (x33.Element)),(I (x33.Outlet))]
theorem Qh6 (N:Nat) (p0:GNet) (r:GNet) (h:Qg3 N p0=some r):Spec Tryz.prog 17 [(.agg (Qhn p0))] [] (.agg (Qhn r)) []:=by
  refine Qah Tryz.func17 rfl 0 (nle rfl) (fun X φ0 w0 hφ0 hd0=>?_)
  unfold Qg3 at h
  refine wxz ?_
  obtain ⟨x2,hf1,h⟩:=bno h
  refine wx tbk [(2,rp [fu 59,(.tmp 9,(Zez p0))] (Qke x2)),(3,rp [(.tmp 10,(Qke x2))] (.agg [(Qke x2),nilS]))] ⟨apc (first:=[]) (cap:=[]) (vs:=[(Zez p0)]) rfl Zic (Qr0 N p0.Table _ hf1) rfl rfl (nlc (nld Qai _) nl0) (nld Qai _) rfl,Qax (vs:=[(Qke x2)]) rfl ts42 tz42 rfl (by rfl) rfl,trivial⟩ ?_
  obtain ⟨k4,hk_k4,h⟩:=jko h
  refine wjn (τ:=(List GElement)) (fun t=>k4 t=some r) (fun y3=>⟨mk 71 [(2,.ref 0 2 0 0),(3,.ref 1 2 0 0)],[(.own 2 [[nilS,nilS]]),(.own 2 [[(Qke x2),(Qym y3)]]),.tok]⟩) (fun y3 h=>?_) ?_
  ·subst hk_k4
   refine wxz<|Qaf ?_
   obtain rfl:=osi h
   exact fend ⟨[(.agg [(Qke x2),(.dat 7 ((y3:List GElement).map Qac))])],⟨Qe7 (v:=(.agg [(Qke x2),(Qym y3)])) (Qcd (n:=0) (m:=2) (j:=0) (i:=0) (xs:=[[(Qke x2),(Qym y3)]]) (by kernel_rfl) (by kernel_rfl) ti42 (by decide) rfl (nle rfl) rfl) (Less.agg ⟨lrf,Less.acc,trivial⟩),trivial⟩,rfl⟩ (NLt.agg _ (nlc (nld Qai _) (nlc (nld Qaa _) nl0)))
  ·skip
   refine wxz<|Qal ?_
   refine wmr (Mor.trans (Qqt (n:=3) (ty:=133) (m:=7) (q:=2) (mq:=2) (c:=[(Qke x2),nilS]) 1 (by kernel_rfl) (by kernel_rfl) (by kernel_rfl) (by decide)) (mto (n:=71) (l':=[(1,.ref 0 2 0 0),(2,.ref 1 2 0 0),(3,.ref 2 2 0 0),(4,I 0)]) (own':=[(Qqe p0),(.own 2 [[nilS,nilS]]),(.own 2 [[(Qke x2),(.acc 3 133 7 ((([]):List GElement).map Qac))]]),.tok]) [(1,.ref 0 2 0 0),(2,.ref 1 2 0 0),(3,.ref 2 2 0 0),(4,I 0)] [0,1,2,3] [(Qqe p0),(.own 2 [[nilS,nilS]]),(.own 2 [[(Qke x2),(.acc 3 133 7 (([]:List GElement).map Qac))]]),.tok] hφ0 (pc (.rn (rqr rfl)) (pc (.rn (rqr rfl)) (pc (.rn (rqr rfl)) (pc rwl pn)))) (qc (spb (lc (rnd Qai) (lc (rnd Qaa) ln))) (qc (spb (lcc ln)) (qc (spb (lc (rnd Qai) (lc (.rn (Qcu rfl (Qca Qaa _))) ln))) (qc .tok qn)))))) ?_
   refine Qcb (τ:=Int×(List GElement)) (fun n t=>Qey N p0 k4 n t.1 t.2=some r) (fun ⟨y5,y6⟩=>⟨mk 71 [(1,.ref 0 2 0 0),(2,.ref 1 2 0 0),(3,.ref 2 2 0 0),(4,I y5)],[(Qqe p0),(.own 2 [[nilS,nilS]]),(.own 2 [[(Qke x2),(Qyn y6)]]),.tok]⟩) (fun t h=>by rw [Qey] at h; cases h) (fun n9 ih t h=>?_) N (0,[]) h
   obtain ⟨y5,y6⟩:=t
   rw [Qey] at h
   skip
   refine wsq<|wx tbk [(3,rp [(.tmp 14,(Zey p0))] (I ((p0.Elements.length:Int))))] ⟨alm (c:=Qac) (l:=p0.Elements) (aln rfl Tryz.underlying24 rfl),trivial⟩ ?_
   refine bfe h (fun hc10 h=>?_) fun hc10 h=>?_
   ·refine wft hc10<|Qan<|thn ?_
    obtain ⟨k12,hk_k12,h⟩:=jko h
    refine wjn (τ:=(List GElement)) (fun t=>k12 t=some r) (fun y11=>⟨mk 71 [(1,.ref 0 2 0 0),(2,.ref 1 2 0 0),(3,.ref 2 2 0 0),(4,I y5)],[(Qqe p0),(.own 2 [[nilS,nilS]]),(.own 2 [[(Qke x2),(.acc 3 133 7 ((y11:List GElement).map Qac))]]),.tok]⟩) (fun y11 h=>?_) ?_
    ·subst hk_k12
     exact wxz1<|thn<|arm (mto (n:=71) [(1,.ref 0 2 0 0),(2,.ref 1 2 0 0),(3,.ref 2 2 0 0),(4,(I (w64 (y5+1))))] [0,1,2,3] [(Qqe p0),(.own 2 [[nilS,nilS]]),(.own 2 [[(Qke x2),(.acc 3 133 7 ((y11:List GElement).map Qac))]]),.tok] hφ0 (pc (.rn (rqr rfl)) (pc (.rn (rqr rfl)) (pc (.rn (rqr rfl)) (pc rwl pn)))) (qc (spb (lc (rnd Qai) (lc (rnd Qaa) ln))) (qc (spb (lcc ln)) (qc (spb (lc (rnd Qai) (lc (.rn (Qcu rfl (Qca Qaa _))) ln))) (qc .tok qn))))) (ih (w64 (y5+1),y11) h)
    ·skip
     refine Qal ?_
     obtain ⟨x13,hg14,h⟩:=bno h
     obtain ⟨hi15,hj16⟩:=gsm hg14
     refine wx tbk [(3,rp [(.tmp 20,(Zey p0)),(.tmp 21,I y5)] (.dptr (Qac (x13)) 0))] ⟨aid rfl Tryz.underlying24 ti59 rfl rfl hi15 (mgt Qac hj16) rfl,trivial⟩ ?_
     obtain ⟨ha17,h⟩:=cko h
     refine wxd tbk [(10,⟨[],[(5,.unused)],Q5l,[(5,.tok)],false⟩),(13,⟨[(.tmp 34,Q5l),(.tmp 36,(Q5j x13))],[(5,.tok),(6,.unused)],(Qo4 x13),[(5,.dead),(6,.tok)],false⟩),(14,rp [(.tmp 25,(K .u8 (x13.Kind))),(.tmp 27,I x13.Level),(.tmp 29,I x13.Amount),(.tmp 31,I x13.Wide),(.tmp 33,I x13.Narrow),(.tmp 37,(Qo4 x13))] (.agg [(K .u8 (x13.Kind)),nilS,I x13.Level,I x13.Amount,I x13.Wide,I x13.Narrow,(Qo4 x13)]))] ⟨Qlr rfl Tryz.underlying27 ti3 tz3,Qgo rfl Tryz.underlying27 te3 (Base.acc _ _) rfl rfl (Qve Qak Qzu _) (Qjk Qak ha17) (Qjj Qak ha17 (by decide)) (Qji Qak) rfl rfl,Qax (vs:=[(K .u8 (x13.Kind)),I x13.Level,I x13.Amount,I x13.Wide,I x13.Narrow,(Qo4 x13)]) rfl Za0 Qzf rfl (by rfl) rfl,trivial⟩ ?_
     obtain ⟨k21,hk_k21,h⟩:=jko h
     refine wjn (τ:=(List GElement)×(List GPort)×(List Int)) (fun t=>k21 t=some r) (fun ⟨y18,y19,y20⟩=>⟨mk 71 [(1,.ref 0 2 0 0),(2,.ref 1 2 0 0),(3,.ref 2 2 0 0),(4,I y5),(6,.ref 3 7 0 0)],[(Qqe p0),(.own 2 [[nilS,nilS]]),(.own 2 [[(Qke x2),(.acc 4 133 7 ((y18:List GElement).map Qac))]]),(.own 7 [[(K .u8 (x13.Kind)),(.acc 5 120 2 ((y19:List GPort).map Qat)),I x13.Level,I x13.Amount,I x13.Wide,I x13.Narrow,(Q5k y20)]]),.tok,.tok,.tok]⟩) (fun t h=>?_) ?_
     ·subst hk_k21
      obtain ⟨y18,y19,y20⟩:=t
      obtain ⟨ha22,h⟩:=cko h
      refine wx1 tbk [(3,rp [(.tmp 66,(.agg [(K .u8 (x13.Kind)),(.acc 5 120 2 ((y19:List GPort).map Qat)),I x13.Level,I x13.Amount,I x13.Wide,I x13.Narrow,(Q5k y20)]))] (Q5h x13 y19 y20)),(4,⟨[(.tmp 65,(.acc 4 133 7 ((y18:List GElement).map Qac))),(.tmp 67,(Q5h x13 y19 y20))],[(4,.tok),(7,.unused)],(.acc 7 133 7 ((y18++([(⟨x13.Kind,y19,x13.Level,x13.Amount,x13.Wide,x13.Narrow,y20⟩:GElement)]):List GElement).map Qac)),[(4,.dead),(7,.tok)],false⟩)] ⟨awk (rd':=[(.tmp 66,(Q5i x13 y19 y20))]) ⟨rfl,(Less.agg ⟨lrf,Less.acc,lrf,lrf,lrf,lrf,Less.acc,trivial⟩),trivial⟩ (Qbw (vs:=[(Q5i x13 y19 y20)]) rfl Tryz.underlying40 Qip Qzf rfl (by decide) rfl (by decide) (by rfl) (by rfl) (by rfl) rfl),Qgo rfl Tryz.underlying40 Zk4 (Base.acc _ _) rfl rfl (by rfl) (Qjk Qac ha22) (Qjj Qac ha22 (by decide)) (Qji Qac) rfl rfl,trivial⟩<|bln<|thn ?_
      exact ⟨(y18++([(⟨x13.Kind,y19,x13.Level,x13.Amount,x13.Wide,x13.Narrow,y20⟩:GElement)])),h,(mto (n:=71) [(1,.ref 0 2 0 0),(2,.ref 1 2 0 0),(3,.ref 2 2 0 0),(4,I y5)] [0,1,2,7] [(Qqe p0),(.own 2 [[nilS,nilS]]),(.own 2 [[(Qke x2),(.acc 7 133 7 ((y18++([(⟨x13.Kind,y19,x13.Level,x13.Amount,x13.Wide,x13.Narrow,y20⟩:GElement)]):List GElement).map Qac))]]),.tok] hφ0 (pc (.rn (rqr rfl)) (pc (.rn (rqr rfl)) (pc (.rn (rqr rfl)) (pc rwl pn)))) (qc (spb (lc (rnd Qai) (lc (rnd Qaa) ln))) (qc (spb (lcc ln)) (qc (spb (lc (rnd Qai) (lc (.rn (Qcu rfl (Qca Qaa _))) ln))) (qc .tok qn)))))⟩
     ·skip
      refine wxz<|Qal ?_
      refine wmr (Mor.trans (Qqt (n:=8) (ty:=120) (m:=2) (q:=7) (mq:=7) (c:=[(K .u8 (x13.Kind)),nilS,I x13.Level,I x13.Amount,I x13.Wide,I x13.Narrow,(Qo4 x13)]) 1 (by kernel_rfl) (by kernel_rfl) (by kernel_rfl) (by decide)) (mto (n:=71) (l':=[(1,.ref 0 2 0 0),(2,.ref 1 2 0 0),(3,.ref 2 2 0 0),(4,I y5),(5,.ref 3 7 0 0),(6,.ref 4 7 0 0),(7,I 0)]) (own':=[(Qqe p0),(.own 2 [[nilS,nilS]]),(.own 2 [[(Qke x2),(.acc 5 133 7 ((y6:List GElement).map Qac))]]),(Quk x13),(.own 7 [[(K .u8 (x13.Kind)),Zew,I x13.Level,I x13.Amount,I x13.Wide,I x13.Narrow,(.acc 7 3 1 (((([]:List Int)++x13.Weights):List Int).map Qak))]]),.tok,.tok,.tok]) [(1,.ref 0 2 0 0),(2,.ref 1 2 0 0),(3,.ref 2 2 0 0),(4,I y5),(5,.ref 4 7 0 0),(6,.ref 7 7 0 0),(7,I 0)] [0,1,2,4,7,3,8,6] [(Qqe p0),(.own 2 [[nilS,nilS]]),(.own 2 [[(Qke x2),(Qyn y6)]]),(Quk x13),(.own 7 [[(K .u8 (x13.Kind)),Zex,I x13.Level,I x13.Amount,I x13.Wide,I x13.Narrow,(Qo4 x13)]]),.tok,.tok,.tok] hφ0 (pc (.rn (rqr rfl)) (pc (.rn (rqr rfl)) (pc (.rn (rqr rfl)) (pc rwl (pc (.rn (rqr rfl)) (pc (.rn (rqr rfl)) (pc rwl pn))))))) (qc (spb (lc (rnd Qai) (lc (rnd Qaa) ln))) (qc (spb (lcc ln)) (qc (spb (lc (rnd Qai) (lc (.rn (Qcu rfl (Qca Qaa _))) ln))) (qc (spb (lc rwl (lc (rnd Qa4) (lcc (lcc (lc (rnd Qag) ln)))))) (qc (spb (lc rwl (lc (.rn (Qcu rfl (Qca Qa4 _))) (lcc (lcc (lc (.rn (Qcu rfl (Qca Qag _))) ln)))))) (qc .tok (qc .tok (qc .tok qn)))))))))) ?_
      refine Qcb (τ:=Int×(List GElement)×(List GPort)×(List Int)) (fun n t=>Qex N x13 k21 n t.1 t.2.1 t.2.2.1 t.2.2.2=some r) (fun ⟨y23,y24,y25,y26⟩=>⟨mk 71 [(1,.ref 0 2 0 0),(2,.ref 1 2 0 0),(3,.ref 2 2 0 0),(4,I y5),(5,.ref 3 7 0 0),(6,.ref 4 7 0 0),(7,I y23)],[(Qqe p0),(.own 2 [[nilS,nilS]]),(.own 2 [[(Qke x2),(Qyl y24)]]),(Quk x13),(Q5f x13 y25 y26),.tok,.tok,.tok]⟩) (fun t h=>by rw [Qex] at h; cases h) (fun n31 ih t h=>?_) N (0,y6,[],([]:List Int)++x13.Weights) h
      obtain ⟨y23,y24,y25,y26⟩:=t
      rw [Qex] at h
      skip
      refine wsq<|wx tbk [(3,rp [(.tmp 41,(Qul x13))] (I ((x13.From.length:Int))))] ⟨alm (c:=Qat) (l:=x13.From) (aln rfl Tryz.underlying57 rfl),trivial⟩ ?_
      refine bfe h (fun hc32 h=>?_) fun hc32 h=>?_
      ·refine wft hc32<|Qan<|thn<|wsq<|Qal ?_
       obtain ⟨x33,hg34,h⟩:=bno h
       obtain ⟨hi35,hj36⟩:=gsm hg34
       obtain ⟨ha37,h⟩:=cko h
       refine wy1 tbk [(5,rp [(.tmp 49,(Qul x13)),(.tmp 50,I y23)] (.dptr (Qat (x33)) 0)),(11,rp [(.tmp 55,(Qul x13)),(.tmp 56,I y23)] (.dptr (Qat (x33)) 0)),(14,rp [(.tmp 53,I x33.Element),(.tmp 59,I x33.Outlet)] (Qyk x33)),(15,rp [(.tmp 60,(Qyk x33))] (.dat 2 (([x33]:List GPort).map Qat))),(16,⟨[(.tmp 47,(.acc 6 120 2 ((y25:List GPort).map Qat))),(.tmp 61,(.dat 2 (([x33]:List GPort).map Qat)))],[(6,.tok),(8,.unused)],(.acc 8 120 2 ((y25++([x33]):List GPort).map Qat)),[(6,.dead),(8,.tok)],false⟩)] ⟨aid rfl Tryz.underlying57 ti61 rfl rfl hi35 (mgt Qat hj36) rfl,aid rfl Tryz.underlying57 ti61 rfl rfl hi35 (mgt Qat hj36) rfl,Qax (vs:=[I x33.Element,I x33.Outlet]) rfl Qqj Ql3 rfl (by rfl) rfl,Qbw (vs:=[(Qyk x33)]) rfl Tryz.underlying116 Qkz Ql3 rfl (by decide) rfl (by decide) (by rfl) (by rfl) (by rfl) rfl,Qgo rfl Tryz.underlying116 Zjt (Base.acc _ _) rfl rfl (by rfl) (Qjk Qat ha37) (Qjj Qat ha37 (by decide)) (Qji Qat) rfl rfl,trivial⟩<|bln<|thn<|wxz1<|thn ?_
       exact arm (mto (n:=71) [(1,.ref 0 2 0 0),(2,.ref 1 2 0 0),(3,.ref 2 2 0 0),(4,I y5),(5,.ref 3 7 0 0),(6,.ref 4 7 0 0),(7,(I (w64 (y23+1))))] [0,1,2,3,4,5,8,7] [(Qqe p0),(.own 2 [[nilS,nilS]]),(.own 2 [[(Qke x2),(Qyl y24)]]),(Quk x13),(.own 7 [[(K .u8 (x13.Kind)),(.acc 8 120 2 ((y25++([x33]):List GPort).map Qat)),I x13.Level,I x13.Amount,I x13.Wide,I x13.Narrow,(Q5g y26)]]),.tok,.tok,.tok] hφ0 (pc (.rn (rqr rfl)) (pc (.rn (rqr rfl)) (pc (.rn (rqr rfl)) (pc rwl (pc (.rn (rqr rfl)) (pc (.rn (rqr rfl)) (pc rwl pn))))))) (qc (spb (lc (rnd Qai) (lc (rnd Qaa) ln))) (qc (spb (lcc ln)) (qc (spb (lc (rnd Qai) (lc (.rn (Qcu rfl (Qca Qaa _))) ln))) (qc (spb (lc rwl (lc (rnd Qa4) (lcc (lcc (lc (rnd Qag) ln)))))) (qc (spb (lc rwl (lc (.rn (Qcu rfl (Qca Qa4 _))) (lcc (lcc (lc (.rn (Qcu rfl (Qca Qag _))) ln)))))) (qc .tok (qc .tok (qc .tok qn))))))))) (ih (w64 (y23+1),y24,y25++([x33]),y26) h)
      ·exact wfn hc32<|Qbl<|Qay<|Qay<|Qbk rfl<|thn<|⟨(y24,y25,y26),h,(mto (n:=71) [(1,.ref 0 2 0 0),(2,.ref 1 2 0 0),(3,.ref 2 2 0 0),(4,I y5),(6,.ref 4 7 0 0)] [0,1,2,4,5,6,7] [(Qqe p0),(.own 2 [[nilS,nilS]]),(.own 2 [[(Qke x2),(Qyl y24)]]),(Q5f x13 y25 y26),.tok,.tok,.tok] hφ0 (pc (.rn (rqr rfl)) (pc (.rn (rqr rfl)) (pc (.rn (rqr rfl)) (pc rwl (pc (.rn (rqr rfl)) pn))))) (qc (spb (lc (rnd Qai) (lc (rnd Qaa) ln))) (qc (spb (lcc ln)) (qc (spb (lc (rnd Qai) (lc (.rn (Qcu rfl (Qca Qaa _))) ln))) (qc (spb (lc rwl (lc (.rn (Qcu rfl (Qca Qa4 _))) (lcc (lcc (lc (.rn (Qcu rfl (Qca Qag _))) ln)))))) (qc .tok (qc .tok (qc .tok qn))))))))⟩
   ·exact wfn hc10<|Qbl<|Qay<|Qay<|Qbk rfl<|thn<|⟨(y6),h,(mto (n:=71) [(2,.ref 1 2 0 0),(3,.ref 2 2 0 0)] [1,2,3] [(.own 2 [[nilS,nilS]]),(.own 2 [[(Qke x2),(Qyn y6)]]),.tok] hφ0 (pc (.rn (rqr rfl)) (pc (.rn (rqr rfl)) pn)) (qc (spb (lcc ln)) (qc (spb (lc (rnd Qai) (lc (.rn (Qcu rfl (Qca Qaa _))) ln))) (qc .tok qn))))⟩
def Qid (_N:Nat) (p0:(List Int)):Option (List Int):=
  chk (decide ((([]:List Int).length+p0.length) * 8≤140737488355328))<|
  some (([]:List Int)++p0)
def Zix:AV:=.acc 0 3 1 ((([]:List Int):List Int).map Qak)
def Ziw (p0:(List Int)):AV:=.acc 1 3 1 ((([]:List Int)++p0:List Int).map Qak)
theorem Qnf (N:Nat) (p0:(List Int)) (r:(List Int)) (h:Qid N p0=some r):Spec Tryz.prog 18 [(.dat 1 (p0.map Qak))] [] (.dat 1 (r.map Qak)) []:=by
  refine Qah Tryz.func18 rfl 0 (nle rfl) (fun X φ0 w0 hφ0 hd0=>?_)
  unfold Qid at h
  refine wxz ?_
  obtain ⟨ha1,h⟩:=cko h
  refine wx tbk [(0,⟨[],[(0,.unused)],Zix,[(0,.tok)],false⟩),(2,⟨[(.tmp 3,Zix),(.tmp 4,(.dat 1 ((p0:List Int).map Qak)))],[(0,.tok),(1,.unused)],(Ziw p0),[(0,.dead),(1,.tok)],false⟩)] ⟨Qlr rfl Tryz.underlying27 ti3 tz3,Qgo rfl Tryz.underlying27 te3 (Base.acc _ _) rfl rfl (Qve Qak Qzu _) (Qjk Qak ha1) (Qjj Qak ha1 (by decide)) (Qji Qak) rfl rfl,trivial⟩<|Qaf ?_
  obtain rfl:=osi h
  exact fend ⟨[(.dat 1 ((([]:List Int)++p0:List Int).map Qak))],⟨Qe7 (v:=(Ziw p0)) (rot) Less.acc,trivial⟩,rfl⟩ (nld Qag _)
def Qez (N:Nat) (p0:GNet) (k1:Unit→Option Bool):Nat→Int→Option Bool
  | 0,_=>none
  | n6+1,y4=>
    bif (decide (y4<(p0.Elements.length:Int))) then
     (getI p0.Elements y4).bind fun x8=>
     bif (decide ((x8.From.length:Int)>25)) then
      some false
     else
      bif (decide ((x8.Weights.length:Int)>25)) then
       some false
      else
       Qez N p0 k1 n6 (w64 (y4+1))
    else
     k1 ()
def Qjw (N:Nat) (p0:GNet) (p1:(List GStream)):Option Bool:=
  Qbp (fun _=>
    bif (decide ((p0.Elements.length:Int)≤18)) then
     bif (decide ((p0.Table.length:Int)≤25)) then
      some (decide ((p1.length:Int)≤25))
     else
      some false
    else
     some false) fun k1:Unit→Option Bool=>
  Qez N p0 k1 N 0
def Qyj (p1:(List GStream)):AV:=.dat 4 ((p1:List GStream).map Qab)
def Zev (p0:GNet):AV:=.dat 5 ((p0.Table:List GRow).map Qaw)
def Qv2 (p0:GNet):AV:=.dat 7 ((p0.Elements:List GElement).map Qac)
def Q3d (p0:GNet):Slot:=.own 2 [[(Zev p0),(Qv2 p0)]]
theorem Qlo (N:Nat) (p0:GNet) (p1:(List GStream)) (r:Bool) (h:Qjw N p0 p1=some r):Spec Tryz.prog 14 [(.agg (Qhn p0)),(.dat 4 (p1.map Qab))] [] (B r) []:=by
  refine Qah Tryz.func14 rfl 0 (nle rfl) (fun X φ0 w0 hφ0 hd0=>?_)
  unfold Qjw at h
  refine wxz ?_
  obtain ⟨k1,hk_k1,h⟩:=jko h
  refine wjn (τ:=Unit) (fun t=>k1 t=some r) (fun _=>⟨mk 46 [(1,(Qyj p1)),(2,.ref 0 2 0 0)],[(Q3d p0)]⟩) (fun t h=>?_) ?_
  ·subst hk_k1
   refine bfe h (fun hb2 h=>?_) fun hb2 h=>?_
   ·refine bfe h (fun hb3 h=>?_) fun hb3 h=>?_
    ·refine wx tbk [(2,rp [(.tmp 32,(Qv2 p0))] (I ((p0.Elements.length:Int)))),(4,rp [(.tmp 34,(B ((decide ((p0.Elements.length:Int)≤18)))))] (B true)),(7,rp [(.tmp 35,B true),(.tmp 37,(Zev p0))] (I ((p0.Table.length:Int)))),(10,rp [(.tmp 40,(B ((decide ((p0.Table.length:Int)≤25)))))] (B true)),(12,rp [(.tmp 41,B true),(.tmp 42,(Qyj p1))] (I ((p1.length:Int))))] ⟨alm (c:=Qac) (l:=p0.Elements) (aln rfl Tryz.underlying24 rfl),asb hb2 (amv rfl),ag_ (alm (c:=Qaw) (l:=p0.Table) (aln rfl Tryz.underlying23 rfl)),asb hb3 (amv rfl),ag_ (alm (c:=Qab) (l:=p1) (aln rfl Tryz.underlying28 rfl)),trivial⟩<|Qaf ?_
     obtain rfl:=osi h
     exact fend ⟨[(B ((decide ((p1.length:Int)≤25))))],⟨rot,trivial⟩,rfl⟩ nll
    ·refine wx tbk [(2,rp [(.tmp 32,(Qv2 p0))] (I ((p0.Elements.length:Int)))),(4,rp [(.tmp 34,(B ((decide ((p0.Elements.length:Int)≤18)))))] (B true)),(7,rp [(.tmp 35,B true),(.tmp 37,(Zev p0))] (I ((p0.Table.length:Int)))),(10,rp [(.tmp 40,(B ((decide ((p0.Table.length:Int)≤25)))))] (B false))] ⟨alm (c:=Qac) (l:=p0.Elements) (aln rfl Tryz.underlying24 rfl),asb hb2 (amv rfl),ag_ (alm (c:=Qaw) (l:=p0.Table) (aln rfl Tryz.underlying23 rfl)),asb hb3 (amv rfl),trivial⟩<|Qaf ?_
     obtain rfl:=osi h
     exact fend ⟨[B false],⟨rot,trivial⟩,rfl⟩ nll
   ·refine wx tbk [(2,rp [(.tmp 32,(Qv2 p0))] (I ((p0.Elements.length:Int)))),(4,rp [(.tmp 34,(B ((decide ((p0.Elements.length:Int)≤18)))))] (B false))] ⟨alm (c:=Qac) (l:=p0.Elements) (aln rfl Tryz.underlying24 rfl),asb hb2 (amv rfl),trivial⟩<|Qaf ?_
    obtain rfl:=osi h
    exact fend ⟨[B false],⟨rot,trivial⟩,rfl⟩ nll
  ·skip
   refine wxz<|Qal ?_
   refine wmr (mto (n:=46) (l':=[(1,(Qyj p1)),(2,.ref 0 2 0 0),(5,I 0)]) (own':=[(Q3d p0)]) [(1,(Qyj p1)),(2,.ref 0 2 0 0),(5,I 0)] [0] [(Q3d p0)] hφ0 (pc (rnd Qad) (pc (.rn (rqr rfl)) (pc rwl pn))) (qc (spb (lc (rnd Qai) (lc (rnd Qaa) ln))) qn)) ?_
   refine Qcb (τ:=Int) (fun n t=>Qez N p0 k1 n t=some r) (fun y4=>⟨mk 46 [(1,(Qyj p1)),(2,.ref 0 2 0 0),(5,I y4)],[(Q3d p0)]⟩) (fun t h=>by rw [Qez] at h; cases h) (fun n6 ih y4 h=>?_) N (0) h
   rw [Qez] at h
   skip
   refine wsq<|wx tbk [(3,rp [(.tmp 8,(Qv2 p0))] (I ((p0.Elements.length:Int))))] ⟨alm (c:=Qac) (l:=p0.Elements) (aln rfl Tryz.underlying24 rfl),trivial⟩ ?_
   refine bfe h (fun hc7 h=>?_) fun hc7 h=>?_
   ·refine wft hc7<|Qan<|thn<|wsq<|Qal ?_
    obtain ⟨x8,hg9,h⟩:=bno h
    obtain ⟨hi10,hj11⟩:=gsm hg9
    refine bfe h (fun hb12 h=>?_) fun hb12 h=>?_
    ·refine wx tbk [(3,rp [(.tmp 14,(Qv2 p0)),(.tmp 15,I y4)] (.dptr (Qac (x8)) 0)),(6,rp [(.tmp 18,(.dat 2 ((x8.From:List GPort).map Qat)))] (I ((x8.From.length:Int)))),(8,rp [(.tmp 20,(B ((decide ((x8.From.length:Int)>25)))))] (B true))] ⟨aid rfl Tryz.underlying24 ti59 rfl rfl hi10 (mgt Qac hj11) rfl,alm (c:=Qat) (l:=x8.From) (aln rfl Tryz.underlying57 rfl),asb hb12 (amv rfl),trivial⟩<|wtr<|wxz<|Qaf<|Qam<|Qae<|Qae<|Qam<|Qae ?_
     obtain rfl:=osi h
     exact fend ⟨[B false],⟨rot,trivial⟩,rfl⟩ nll
    ·refine wx tbk [(3,rp [(.tmp 14,(Qv2 p0)),(.tmp 15,I y4)] (.dptr (Qac (x8)) 0)),(6,rp [(.tmp 18,(.dat 2 ((x8.From:List GPort).map Qat)))] (I ((x8.From.length:Int)))),(8,rp [(.tmp 20,(B ((decide ((x8.From.length:Int)>25)))))] (B false)),(12,rp [(.tmp 21,B false),(.tmp 23,(Qv2 p0)),(.tmp 24,I y4)] (.dptr (Qac (x8)) 0)),(15,rp [(.tmp 21,B false),(.tmp 27,(.dat 1 ((x8.Weights:List Int).map Qak)))] (I ((x8.Weights.length:Int))))] ⟨aid rfl Tryz.underlying24 ti59 rfl rfl hi10 (mgt Qac hj11) rfl,alm (c:=Qat) (l:=x8.From) (aln rfl Tryz.underlying57 rfl),asb hb12 (amv rfl),ag_ (aid rfl Tryz.underlying24 ti59 rfl rfl hi10 (mgt Qac hj11) rfl),ag_ (alm (c:=Qak) (l:=x8.Weights) (aln rfl Tryz.underlying27 rfl)),trivial⟩ ?_
     refine bfe h (fun hc13 h=>?_) fun hc13 h=>?_
     ·refine wft hc13<|wxz<|Qaf<|Qam<|Qae<|Qae<|Qam<|Qae ?_
      obtain rfl:=osi h
      exact fend ⟨[B false],⟨rot,trivial⟩,rfl⟩ nll
     ·exact wfn hc13<|Qan<|bln<|thn<|wxz1<|thn<|arm (mto (n:=46) [(1,(Qyj p1)),(2,.ref 0 2 0 0),(5,(I (w64 (y4+1))))] [0] [(Q3d p0)] hφ0 (pc (rnd Qad) (pc (.rn (rqr rfl)) (pc rwl pn))) (qc (spb (lc (rnd Qai) (lc (rnd Qaa) ln))) qn)) (ih (w64 (y4+1)) h)
   ·exact wfn hc7<|Qbl<|Qay<|Qay<|Qbk rfl<|thn<|⟨(),h,(mto (n:=46) [(1,(Qyj p1)),(2,.ref 0 2 0 0)] [0] [(Q3d p0)] hφ0 (pc (rnd Qad) (pc (.rn (rqr rfl)) pn)) (qc (spb (lc (rnd Qai) (lc (rnd Qaa) ln))) qn))⟩
def Qcr (N:Nat) (p0:(List Int)) (k2:Int→Option Bool):Nat→Int→Int→Option Bool
  | 0,_,_=>none
  | n8+1,y4,y5=>
    bif (decide (y5<(p0.length:Int))) then
     (getI p0 y5).bind fun x10=>
     (Qdp N x10 0 1000).bind fun x15=>
     bif (!x15) then
      some false
     else
      Qcr N p0 k2 n8 (w64 (y4+x10)) (w64 (y5+1))
    else
     k2 (y4)
def Qfe (N:Nat) (p0:(List Int)):Option Bool:=
  Qbp (fun y1=>
    bif (decide ((p0.length:Int)≤20)) then
     some (decide (y1>0))
    else
     some false) fun k2:Int→Option Bool=>
  Qcr N p0 k2 N 0 0
def Ql1 (p0:(List Int)):AV:=.dat 1 ((p0:List Int).map Qak)
theorem Qly (N:Nat) (p0:(List Int)) (r:Bool) (h:Qfe N p0=some r):Spec Tryz.prog 107 [(.dat 1 (p0.map Qak))] [] (B r) []:=by
  refine Qah Tryz.func107 rfl 0 (nle rfl) (fun X φ0 w0 hφ0 hd0=>?_)
  unfold Qfe at h
  refine wxz<|wxz ?_
  obtain ⟨k2,hk_k2,h⟩:=jko h
  refine wjn (τ:=Int) (fun t=>k2 t=some r) (fun y1=>⟨mk 30 [(0,(Ql1 p0)),(3,I y1)],[]⟩) (fun y1 h=>?_) ?_
  ·subst hk_k2
   refine bfe h (fun hb3 h=>?_) fun hb3 h=>?_
   ·refine wx tbk [(1,rp [(.tmp 23,(Ql1 p0))] (I ((p0.length:Int)))),(3,rp [(.tmp 25,(B ((decide ((p0.length:Int)≤20)))))] (B true))] ⟨alm (c:=Qak) (l:=p0) (aln rfl Tryz.underlying27 rfl),asb hb3 (amv rfl),trivial⟩<|Qaf ?_
    obtain rfl:=osi h
    exact fend ⟨[(B ((decide (y1>0))))],⟨rot,trivial⟩,rfl⟩ nll
   ·refine wx tbk [(1,rp [(.tmp 23,(Ql1 p0))] (I ((p0.length:Int)))),(3,rp [(.tmp 25,(B ((decide ((p0.length:Int)≤20)))))] (B false))] ⟨alm (c:=Qak) (l:=p0) (aln rfl Tryz.underlying27 rfl),asb hb3 (amv rfl),trivial⟩<|Qaf ?_
    obtain rfl:=osi h
    exact fend ⟨[B false],⟨rot,trivial⟩,rfl⟩ nll
  ·skip
   refine wxz<|Qal ?_
   refine wmr (mto (n:=30) (l':=[(0,(Ql1 p0)),(3,I 0),(4,I 0)]) (own':=[]) [(0,(Ql1 p0)),(3,I 0),(4,I 0)] [] [] hφ0 (pc (rnd Qag) (pc rwl (pc rwl pn))) qn) ?_
   refine Qcb (τ:=Int×Int) (fun n t=>Qcr N p0 k2 n t.1 t.2=some r) (fun ⟨y4,y5⟩=>⟨mk 30 [(0,(Ql1 p0)),(3,I y4),(4,I y5)],[]⟩) (fun t h=>by rw [Qcr] at h; cases h) (fun n8 ih t h=>?_) N (0,0) h
   obtain ⟨y4,y5⟩:=t
   rw [Qcr] at h
   skip
   refine wsq<|wx tbk [(2,rp [(.tmp 6,(Ql1 p0))] (I ((p0.length:Int))))] ⟨alm (c:=Qak) (l:=p0) (aln rfl Tryz.underlying27 rfl),trivial⟩ ?_
   refine bfe h (fun hc9 h=>?_) fun hc9 h=>?_
   ·refine wft hc9<|Qan<|thn<|wsq<|Qal<|wsq ?_
    obtain ⟨x10,hg11,h⟩:=bno h
    obtain ⟨hi12,hj13⟩:=gsm hg11
    obtain ⟨x15,hf14,h⟩:=bno h
    refine wx tbk [(2,rp [(.tmp 11,(Ql1 p0)),(.tmp 12,I y5)] (.dptr (Qak (x10)) 0)),(4,rp [fu 25,(.tmp 14,I x10),ci 0,ci 1000] (B x15))] ⟨aid rfl Tryz.underlying27 ti3 rfl rfl hi12 (mgt Qak hj13) rfl,apc (first:=[]) (cap:=[]) (vs:=[I x10,I 0,I 1000]) rfl Qcp (Qaz N x10 0 1000 _ hf14) rfl rfl (nlcc (nlc nll nl0)) nll rfl,trivial⟩ ?_
    refine bfe h (fun hc16 h=>?_) fun hc16 h=>?_
    ·refine wft hc16<|wxz<|Qaf<|Qae<|Qam<|Qae<|Qae<|Qam<|Qae ?_
     obtain rfl:=osi h
     exact fend ⟨[B false],⟨rot,trivial⟩,rfl⟩ nll
    ·refine wfn hc16<|Qan<|thn ?_
     exact wx1 tbk [(3,rp [(.tmp 18,(Ql1 p0)),(.tmp 19,I y5)] (.dptr (Qak (x10)) 0))] ⟨aid rfl Tryz.underlying27 ti3 rfl rfl hi12 (mgt Qak hj13) rfl,trivial⟩<|bln<|thn<|wxz1<|thn<|arm (mto (n:=30) [(0,(Ql1 p0)),(3,(I (w64 (y4+x10)))),(4,(I (w64 (y5+1))))] [] [] hφ0 (pc (rnd Qag) (pc rwl (pc rwl pn))) qn) (ih (w64 (y4+x10),w64 (y5+1)) h)
   ·exact wfn hc9<|Qbl<|Qay<|Qay<|Qbk rfl<|thn<|⟨(y4),h,(mto (n:=30) [(0,(Ql1 p0)),(3,I y4)] [] [] hφ0 (pc (rnd Qag) (pc rwl pn)) qn)⟩
def Qi1 (N:Nat) (p0:GElement):Option Bool:=
  Qbp (fun _=>
    Qbp (fun ⟨y2,y3⟩=>
      Qbp (fun y5=>
        Qbp (fun y7=>
          Qbp (fun y9=>
            Qbp (fun _=>
              bif (p0.Kind==5) then
               (Qfe N p0.Weights).bind fun x14=>
               some x14
              else
               some ((p0.Weights.length:Int)==0)) fun k11:Unit→Option Bool=>
            (Qdp N (p0.From.length:Int) y2 y5).bind fun x16=>
            bif (!x16) then
             some false
            else
             (Qdp N p0.Amount 0 y9).bind fun x19=>
             bif (!x19) then
              some false
             else
              k11 ()) fun k10:Int→Option Bool=>
          bif (p0.Kind==4) then
           k10 (1000)
          else
           k10 (y7)) fun k8:Int→Option Bool=>
        bif (p0.Kind==3) then
         k8 (1000000000)
        else
         k8 (0)) fun k6:Int→Option Bool=>
      bif (p0.Kind==2) then
       k6 (6)
      else
       k6 (y3)) fun k4:Int×Int→Option Bool=>
    bif (p0.Kind==1) then
     k4 (0,0)
    else
     k4 (1,1)) fun k1:Unit→Option Bool=>
  bif (decide (p0.Kind<1)) then
   some false
  else
   bif (decide (p0.Kind>6)) then
    some false
   else
    (Qdp N p0.Wide 0 1000000).bind fun x28=>
    bif (!x28) then
     some false
    else
     (Qdp N p0.Narrow 1 1000000000).bind fun x31=>
     bif (!x31) then
      some false
     else
      k1 ()
def Q6x (p0:GElement):AV:=.dat 2 ((p0.From:List GPort).map Qat)
def Q11 (p0:GElement):AV:=.dat 1 ((p0.Weights:List Int).map Qak)
def Qjn (p0:GElement):Slot:=.own 7 [[(K .u8 (p0.Kind)),(Q6x p0),(I (p0.Level)),(I (p0.Amount)),(I (p0.Wide)),(I (p0.Narrow)),(Q11 p0)]]
theorem Qmc (N:Nat) (p0:GElement) (r:Bool) (h:Qi1 N p0=some r):Spec Tryz.prog 70 [(.agg (Qac p0))] [] (B r) []:=by
  refine Qah Tryz.func70 rfl 0 (nle rfl) (fun X φ0 w0 hφ0 hd0=>?_)
  unfold Qi1 at h
  refine wxz ?_
  obtain ⟨k1,hk_k1,h⟩:=jko h
  refine wjn (τ:=Unit) (fun t=>k1 t=some r) (fun _=>⟨mk 62 [(1,.ref 0 7 0 0)],[(Qjn p0)]⟩) (fun t h=>?_) ?_
  ·subst hk_k1
   refine wxz ?_
   obtain ⟨k4,hk_k4,h⟩:=jko h
   refine wjn (τ:=Int×Int) (fun t=>k4 t=some r) (fun ⟨y2,y3⟩=>⟨mk 62 [(1,.ref 0 7 0 0),(3,I y2),(4,I y3),(5,I 0)],[(Qjn p0)]⟩) (fun t h=>?_) ?_
   ·subst hk_k4
    obtain ⟨y2,y3⟩:=t
    obtain ⟨k6,hk_k6,h⟩:=jko h
    refine wjn (τ:=Int) (fun t=>k6 t=some r) (fun y5=>⟨mk 62 [(1,.ref 0 7 0 0),(3,I y2),(4,I y5),(5,I 0)],[(Qjn p0)]⟩) (fun y5 h=>?_) ?_
    ·subst hk_k6
     obtain ⟨k8,hk_k8,h⟩:=jko h
     refine wjn (τ:=Int) (fun t=>k8 t=some r) (fun y7=>⟨mk 62 [(1,.ref 0 7 0 0),(3,I y2),(4,I y5),(5,I y7)],[(Qjn p0)]⟩) (fun y7 h=>?_) ?_
     ·subst hk_k8
      obtain ⟨k10,hk_k10,h⟩:=jko h
      refine wjn (τ:=Int) (fun t=>k10 t=some r) (fun y9=>⟨mk 62 [(1,.ref 0 7 0 0),(3,I y2),(4,I y5),(5,I y9)],[(Qjn p0)]⟩) (fun y9 h=>?_) ?_
      ·subst hk_k10
       obtain ⟨k11,hk_k11,h⟩:=jko h
       refine wjn (τ:=Unit) (fun t=>k11 t=some r) (fun _=>⟨mk 62 [(1,.ref 0 7 0 0)],[(Qjn p0)]⟩) (fun t h=>?_) ?_
       ·subst hk_k11
        refine wsq<|wxz ?_
        refine bfe h (fun hc12 h=>?_) fun hc12 h=>?_
        ·refine wft hc12 ?_
         obtain ⟨x14,hf13,h⟩:=bno h
         refine wx tbk [(2,rp [fu 107,(.tmp 56,(Q11 p0))] (B x14))] ⟨apc (first:=[]) (cap:=[]) (vs:=[(Q11 p0)]) rfl Zc2 (Qly N p0.Weights _ hf13) rfl rfl (nlc (nld Qag _) nl0) nll rfl,trivial⟩<|Qaf<|Qae ?_
         obtain rfl:=osi h
         exact fend ⟨[B x14],⟨rot,trivial⟩,rfl⟩ nll
        ·refine wfn hc12<|Qan<|thn ?_
         refine wx tbk [(2,rp [(.tmp 59,(Q11 p0))] (I ((p0.Weights.length:Int))))] ⟨alm (c:=Qak) (l:=p0.Weights) (aln rfl Tryz.underlying27 rfl),trivial⟩<|Qaf ?_
         obtain rfl:=osi h
         exact fend ⟨[(B (((p0.Weights.length:Int)==0)))],⟨rot,trivial⟩,rfl⟩ nll
       ·skip
        obtain ⟨x16,hf15,h⟩:=bno h
        refine bfe h (fun hb17 h=>?_) fun hb17 h=>?_
        ·refine wx tbk [(2,rp [(.tmp 39,(Q6x p0))] (I ((p0.From.length:Int)))),(5,rp [fu 25,(.tmp 40,(I ((p0.From.length:Int)))),(.tmp 41,I y2),(.tmp 42,I y5)] (B x16)),(7,rp [(.tmp 44,(B ((!x16))))] (B true))] ⟨alm (c:=Qat) (l:=p0.From) (aln rfl Tryz.underlying57 rfl),apc (first:=[]) (cap:=[]) (vs:=[(I ((p0.From.length:Int))),I y2,I y5]) rfl Qcp (Qaz N (p0.From.length:Int) y2 y5 _ hf15) rfl rfl (nlcc (nlc nll nl0)) nll rfl,asb hb17 (amv rfl),trivial⟩<|wtr<|wxz<|Qaf<|Qae ?_
         obtain rfl:=osi h
         exact fend ⟨[B false],⟨rot,trivial⟩,rfl⟩ nll
        ·obtain ⟨x19,hf18,h⟩:=bno h
         refine wx tbk [(2,rp [(.tmp 39,(Q6x p0))] (I ((p0.From.length:Int)))),(5,rp [fu 25,(.tmp 40,(I ((p0.From.length:Int)))),(.tmp 41,I y2),(.tmp 42,I y5)] (B x16)),(7,rp [(.tmp 44,(B ((!x16))))] (B false)),(11,rp [(.tmp 45,B false),fu 25,(.tmp 47,I p0.Amount),ci 0,(.tmp 48,I y9)] (B x19))] ⟨alm (c:=Qat) (l:=p0.From) (aln rfl Tryz.underlying57 rfl),apc (first:=[]) (cap:=[]) (vs:=[(I ((p0.From.length:Int))),I y2,I y5]) rfl Qcp (Qaz N (p0.From.length:Int) y2 y5 _ hf15) rfl rfl (nlcc (nlc nll nl0)) nll rfl,asb hb17 (amv rfl),ag_ (apc (first:=[]) (cap:=[]) (vs:=[I p0.Amount,I 0,I y9]) rfl Qcp (Qaz N p0.Amount 0 y9 _ hf18) rfl rfl (nlcc (nlc nll nl0)) nll rfl),trivial⟩ ?_
         refine bfe h (fun hc20 h=>?_) fun hc20 h=>?_
         ·refine wft hc20<|wxz<|Qaf<|Qae ?_
          obtain rfl:=osi h
          exact fend ⟨[B false],⟨rot,trivial⟩,rfl⟩ nll
         ·exact wfn hc20<|Qan<|thn<|⟨(),h,(mto (n:=62) [(1,.ref 0 7 0 0)] [0] [(Qjn p0)] hφ0 (pc (.rn (rqr rfl)) pn) (qc (spb (lc rwl (lc (rnd Qa4) (lcc (lcc (lc (rnd Qag) ln)))))) qn))⟩
      ·skip
       refine wxz ?_
       refine bfe h (fun hc21 h=>?_) fun hc21 h=>?_
       ·exact wft hc21<|wxz1<|thn<|⟨(1000),h,(mto (n:=62) [(1,.ref 0 7 0 0),(3,I y2),(4,I y5),(5,I 1000)] [0] [(Qjn p0)] hφ0 (pc (.rn (rqr rfl)) (pc rwl (pc rwl (pc rwl pn)))) (qc (spb (lc rwl (lc (rnd Qa4) (lcc (lcc (lc (rnd Qag) ln)))))) qn))⟩
       ·exact wfn hc21<|Qan<|thn<|⟨(y7),h,(mto (n:=62) [(1,.ref 0 7 0 0),(3,I y2),(4,I y5),(5,I y7)] [0] [(Qjn p0)] hφ0 (pc (.rn (rqr rfl)) (pc rwl (pc rwl (pc rwl pn)))) (qc (spb (lc rwl (lc (rnd Qa4) (lcc (lcc (lc (rnd Qag) ln)))))) qn))⟩
     ·skip
      refine wxz ?_
      refine bfe h (fun hc22 h=>?_) fun hc22 h=>?_
      ·exact wft hc22<|wxz1<|thn<|⟨(1000000000),h,(mto (n:=62) [(1,.ref 0 7 0 0),(3,I y2),(4,I y5),(5,I 1000000000)] [0] [(Qjn p0)] hφ0 (pc (.rn (rqr rfl)) (pc rwl (pc rwl (pc rwl pn)))) (qc (spb (lc rwl (lc (rnd Qa4) (lcc (lcc (lc (rnd Qag) ln)))))) qn))⟩
      ·exact wfn hc22<|Qan<|thn<|⟨(0),h,(mto (n:=62) [(1,.ref 0 7 0 0),(3,I y2),(4,I y5),(5,I 0)] [0] [(Qjn p0)] hφ0 (pc (.rn (rqr rfl)) (pc rwl (pc rwl (pc rwl pn)))) (qc (spb (lc rwl (lc (rnd Qa4) (lcc (lcc (lc (rnd Qag) ln)))))) qn))⟩
    ·skip
     refine wxz ?_
     refine bfe h (fun hc23 h=>?_) fun hc23 h=>?_
     ·exact wft hc23<|wxz1<|thn<|⟨(6),h,(mto (n:=62) [(1,.ref 0 7 0 0),(3,I y2),(4,I 6),(5,I 0)] [0] [(Qjn p0)] hφ0 (pc (.rn (rqr rfl)) (pc rwl (pc rwl (pc rwl pn)))) (qc (spb (lc rwl (lc (rnd Qa4) (lcc (lcc (lc (rnd Qag) ln)))))) qn))⟩
     ·exact wfn hc23<|Qan<|thn<|⟨(y3),h,(mto (n:=62) [(1,.ref 0 7 0 0),(3,I y2),(4,I y3),(5,I 0)] [0] [(Qjn p0)] hφ0 (pc (.rn (rqr rfl)) (pc rwl (pc rwl (pc rwl pn)))) (qc (spb (lc rwl (lc (rnd Qa4) (lcc (lcc (lc (rnd Qag) ln)))))) qn))⟩
   ·skip
    refine wxz ?_
    refine bfe h (fun hc24 h=>?_) fun hc24 h=>?_
    ·exact wft hc24<|wxz1<|thn<|⟨(0,0),h,(mto (n:=62) [(1,.ref 0 7 0 0),(3,I 0),(4,I 0),(5,I 0)] [0] [(Qjn p0)] hφ0 (pc (.rn (rqr rfl)) (pc rwl (pc rwl (pc rwl pn)))) (qc (spb (lc rwl (lc (rnd Qa4) (lcc (lcc (lc (rnd Qag) ln)))))) qn))⟩
    ·exact wfn hc24<|Qan<|thn<|⟨(1,1),h,(mto (n:=62) [(1,.ref 0 7 0 0),(3,I 1),(4,I 1),(5,I 0)] [0] [(Qjn p0)] hφ0 (pc (.rn (rqr rfl)) (pc rwl (pc rwl (pc rwl pn)))) (qc (spb (lc rwl (lc (rnd Qa4) (lcc (lcc (lc (rnd Qag) ln)))))) qn))⟩
  ·skip
   refine bfe h (fun hb25 h=>?_) fun hb25 h=>?_
   ·refine wx tbk [(3,rp [(.tmp 8,(B ((decide (p0.Kind<1)))))] (B true))] ⟨asb hb25 (amv rfl),trivial⟩<|wtr<|wxz<|Qaf<|Qae ?_
    obtain rfl:=osi h
    exact fend ⟨[B false],⟨rot,trivial⟩,rfl⟩ nll
   ·refine bfe h (fun hb26 h=>?_) fun hb26 h=>?_
    ·refine wx tbk [(3,rp [(.tmp 8,(B ((decide (p0.Kind<1)))))] (B false)),(8,rp [(.tmp 13,(B ((decide (p0.Kind>6)))))] (B true))] ⟨asb hb25 (amv rfl),asb hb26 (amv rfl),trivial⟩<|wtr<|wxz<|Qaf<|Qae ?_
     obtain rfl:=osi h
     exact fend ⟨[B false],⟨rot,trivial⟩,rfl⟩ nll
    ·obtain ⟨x28,hf27,h⟩:=bno h
     refine bfe h (fun hb29 h=>?_) fun hb29 h=>?_
     ·refine wx tbk [(3,rp [(.tmp 8,(B ((decide (p0.Kind<1)))))] (B false)),(8,rp [(.tmp 13,(B ((decide (p0.Kind>6)))))] (B false)),(11,rp [(.tmp 14,B false),fu 25,(.tmp 16,I p0.Wide),ci 0,ci 1000000] (B x28)),(14,rp [(.tmp 19,(B ((!x28))))] (B true))] ⟨asb hb25 (amv rfl),asb hb26 (amv rfl),ag_ (apc (first:=[]) (cap:=[]) (vs:=[I p0.Wide,I 0,I 1000000]) rfl Qcp (Qaz N p0.Wide 0 1000000 _ hf27) rfl rfl (nlcc (nlc nll nl0)) nll rfl),asb hb29 (amv rfl),trivial⟩<|wtr<|wxz<|Qaf<|Qae ?_
      obtain rfl:=osi h
      exact fend ⟨[B false],⟨rot,trivial⟩,rfl⟩ nll
     ·obtain ⟨x31,hf30,h⟩:=bno h
      refine wx tbk [(3,rp [(.tmp 8,(B ((decide (p0.Kind<1)))))] (B false)),(8,rp [(.tmp 13,(B ((decide (p0.Kind>6)))))] (B false)),(11,rp [(.tmp 14,B false),fu 25,(.tmp 16,I p0.Wide),ci 0,ci 1000000] (B x28)),(14,rp [(.tmp 19,(B ((!x28))))] (B false)),(17,rp [(.tmp 20,B false),fu 25,(.tmp 22,I p0.Narrow),ci 1,ci 1000000000] (B x31))] ⟨asb hb25 (amv rfl),asb hb26 (amv rfl),ag_ (apc (first:=[]) (cap:=[]) (vs:=[I p0.Wide,I 0,I 1000000]) rfl Qcp (Qaz N p0.Wide 0 1000000 _ hf27) rfl rfl (nlcc (nlc nll nl0)) nll rfl),asb hb29 (amv rfl),ag_ (apc (first:=[]) (cap:=[]) (vs:=[I p0.Narrow,I 1,I 1000000000]) rfl Qcp (Qaz N p0.Narrow 1 1000000000 _ hf30) rfl rfl (nlcc (nlc nll nl0)) nll rfl),trivial⟩ ?_
      refine bfe h (fun hc32 h=>?_) fun hc32 h=>?_
      ·refine wft hc32<|wxz<|Qaf<|Qae ?_
       obtain rfl:=osi h
       exact fend ⟨[B false],⟨rot,trivial⟩,rfl⟩ nll
      ·exact wfn hc32<|Qan<|thn<|⟨(),h,(mto (n:=62) [(1,.ref 0 7 0 0)] [0] [(Qjn p0)] hφ0 (pc (.rn (rqr rfl)) pn) (qc (spb (lc rwl (lc (rnd Qa4) (lcc (lcc (lc (rnd Qag) ln)))))) qn))⟩
def Qg8 (_N:Nat) (p0:GElement):Option Int:=
  bif (p0.Kind==4) then
   some 2
  else
   bif (p0.Kind==5) then
    (some (p0.Weights.length:Int)).bind fun x3=>
    some x3
   else
    some 1
def Zjk (p0:GElement):AV:=.dat 1 ((p0.Weights:List Int).map Qak)
theorem Qib (N:Nat) (p0:GElement) (r:Int) (h:Qg8 N p0=some r):Spec Tryz.prog 71 [(.agg (Qac p0))] [] (I r) []:=by
  refine Qah Tryz.func71 rfl 0 (nle rfl) (fun X φ0 w0 hφ0 hd0=>?_)
  unfold Qg8 at h
  refine wxz<|wsq<|wxz ?_
  refine bfe h (fun hc1 h=>?_) fun hc1 h=>?_
  ·refine wft hc1<|wxz<|Qaf<|Qae ?_
   obtain rfl:=osi h
   exact fend ⟨[I 2],⟨rot,trivial⟩,rfl⟩ nll
  ·refine wfn hc1<|Qan<|thn<|wsq<|wxz ?_
   refine bfe h (fun hc2 h=>?_) fun hc2 h=>?_
   ·refine wft hc2 ?_
    obtain ⟨x3,hl4,h⟩:=bno h
    refine wx tbk [(2,rp [(.tmp 10,(Zjk p0))] (I ((p0.Weights.length:Int)))),(3,rp [(.tmp 11,(I ((p0.Weights.length:Int))))] (I x3))] ⟨alm (c:=Qak) (l:=p0.Weights) (aln rfl Tryz.underlying27 rfl),Qjh hl4 (aas rfl),trivial⟩<|Qaf<|Qae ?_
    obtain rfl:=osi h
    exact fend ⟨[I x3],⟨rot,trivial⟩,rfl⟩ nll
   ·refine wfn hc2<|Qan<|thn<|wxz<|Qaf ?_
    obtain rfl:=osi h
    exact fend ⟨[I 1],⟨rot,trivial⟩,rfl⟩ nll
def Qd5 (N:Nat) (p0:(List GPort)) (k1:Unit→Option Bool) (p1:GPort):Nat→Int→Option Bool
  | 0,_=>none
  | n4+1,y2=>
    bif (decide (y2<(p0.length:Int))) then
     (getI p0 y2).bind fun x6=>
     bif (([x6.Element,x6.Outlet]:List Int)==[p1.Element,p1.Outlet]) then
      some true
     else
      Qd5 N p0 k1 p1 n4 (w64 (y2+1))
    else
     k1 ()
def Qi0 (N:Nat) (p0:(List GPort)) (p1:GPort):Option Bool:=
  Qbp (fun _=>
    some false) fun k1:Unit→Option Bool=>
  Qd5 N p0 k1 p1 N 0
def Qtk (p0:(List GPort)):AV:=.dat 2 ((p0:List GPort).map Qat)
def Q10 (p1:GPort):Slot:=.own 2 [[(I (p1.Element)),(I (p1.Outlet))]]
theorem Qrm (N:Nat) (p0:(List GPort)) (p1:GPort) (r:Bool) (h:Qi0 N p0 p1=some r):Spec Tryz.prog 72 [(.dat 2 (p0.map Qat)),(.agg (Qat p1))] [] (B r) []:=by
  refine Qah Tryz.func72 rfl 0 (nle rfl) (fun X φ0 w0 hφ0 hd0=>?_)
  unfold Qi0 at h
  refine wxz ?_
  obtain ⟨k1,hk_k1,h⟩:=jko h
  refine wjn (τ:=Unit) (fun t=>k1 t=some r) (fun _=>⟨mk 18 [],[]⟩) (fun t h=>?_) ?_
  ·subst hk_k1
   refine wxz<|Qaf ?_
   obtain rfl:=osi h
   exact fend ⟨[B false],⟨rot,trivial⟩,rfl⟩ nll
  ·skip
   refine wxz<|Qal ?_
   refine wmr (mto (n:=18) (l':=[(0,(Qtk p0)),(3,.ref 0 2 0 0),(5,I 0)]) (own':=[(Q10 p1)]) [(0,(Qtk p0)),(3,.ref 0 2 0 0),(5,I 0)] [0] [(Q10 p1)] hφ0 (pc (rnd Qa4) (pc (.rn (rqr rfl)) (pc rwl pn))) (qc (spb (lcc ln)) qn)) ?_
   refine Qcb (τ:=Int) (fun n t=>Qd5 N p0 k1 p1 n t=some r) (fun y2=>⟨mk 18 [(0,(Qtk p0)),(3,.ref 0 2 0 0),(5,I y2)],[(Q10 p1)]⟩) (fun t h=>by rw [Qd5] at h; cases h) (fun n4 ih y2 h=>?_) N (0) h
   rw [Qd5] at h
   skip
   refine wsq<|wx tbk [(2,rp [(.tmp 7,(Qtk p0))] (I ((p0.length:Int))))] ⟨alm (c:=Qat) (l:=p0) (aln rfl Tryz.underlying57 rfl),trivial⟩ ?_
   refine bfe h (fun hc5 h=>?_) fun hc5 h=>?_
   ·refine wft hc5<|Qan<|thn<|wsq<|Qal ?_
    obtain ⟨x6,hg7,h⟩:=bno h
    obtain ⟨hi8,hj9⟩:=gsm hg7
    refine wxd tbk [(2,rp [(.tmp 12,(Qtk p0)),(.tmp 13,I y2)] (.dptr (Qat (x6)) 0)),(5,rp [(.tmp 15,(.agg [I x6.Element,I x6.Outlet])),(.tmp 16,(.agg [I p1.Element,I p1.Outlet]))] (B ((([x6.Element,x6.Outlet]:List Int)==[p1.Element,p1.Outlet]))))] ⟨aid rfl Tryz.underlying57 ti61 rfl rfl hi8 (mgt Qat hj9) rfl,Qe1 (ls:=[x6.Element,x6.Outlet]) (ks:=[p1.Element,p1.Outlet]) rfl rfl Zli (by kernel_rfl) rfl rfl,trivial⟩ ?_
    refine bfe h (fun hc10 h=>?_) fun hc10 h=>?_
    ·refine wft hc10<|wxz<|Qaf<|Qam<|Qae<|Qae<|Qam<|Qae ?_
     obtain rfl:=osi h
     exact fend ⟨[B true],⟨rot,trivial⟩,rfl⟩ nll
    ·exact wfn hc10<|Qan<|bln<|thn<|wxz1<|thn<|arm (mto (n:=18) [(0,(Qtk p0)),(3,.ref 0 2 0 0),(5,(I (w64 (y2+1))))] [0] [(Q10 p1)] hφ0 (pc (rnd Qa4) (pc (.rn (rqr rfl)) (pc rwl pn))) (qc (spb (lcc ln)) qn)) (ih (w64 (y2+1)) h)
   ·exact wfn hc5<|Qbl<|Qay<|Qay<|Qbk rfl<|thn<|⟨(),h,(mto (n:=18) [] [] [] hφ0 pn qn)⟩
def Qd6 (N:Nat) (p0:GNet) (y4:Int) (k10:(List GPort)→Option Bool) (x11:GElement):Nat→(List GPort)→Int→Option Bool
  | 0,_,_=>none
  | n21+1,y17,y18=>
    bif (decide (y18<(x11.From.length:Int))) then
     (getI x11.From y18).bind fun x23=>
     (Qdp N x23.Element 0 (w64 (y4 - 1))).bind fun x28=>
     bif (!x28) then
      some false
     else
      (getI p0.Elements x23.Element).bind fun x30=>
      (Qg8 N x30).bind fun x35=>
      (Qdp N x23.Outlet 0 (w64 (x35 - 1))).bind fun x37=>
      bif (!x37) then
       some false
      else
       bif (decide (x11.Level>x30.Level)) then
        some false
       else
        (Qi0 N y17 x23).bind fun x41=>
        bif x41 then
         some false
        else
         chk (decide ((y17.length+([x23]).length) * 16≤140737488355328))<|
         Qd6 N p0 y4 k10 x11 n21 (y17++([x23])) (w64 (y18+1))
    else
     k10 (y17)
def Qdj (N:Nat) (p0:GNet) (k2:Unit→Option Bool):Nat→(List GPort)→Int→Option Bool
  | 0,_,_=>none
  | n7+1,y3,y4=>
    bif (decide (y4<(p0.Elements.length:Int))) then
     Qbp (fun y9=>
       Qdj N p0 k2 n7 y9 (w64 (y4+1))) fun k10:(List GPort)→Option Bool=>
     (getI p0.Elements y4).bind fun x11=>
     Qbp (fun y15=>
       Qd6 N p0 y4 k10 x11 N y15 0) fun k16:(List GPort)→Option Bool=>
     (Qi1 N x11).bind fun x45=>
     bif (!x45) then
      some false
     else
      (Qdp N x11.Level 0 (w64 ((p0.Table.length:Int) - 1))).bind fun x48=>
      bif (!x48) then
       some false
      else
       k16 (y3)
    else
     k2 ()
def Qi2 (N:Nat) (p0:GNet):Option Bool:=
  Qbp (fun _=>
    Qbp (fun _=>
      some true) fun k2:Unit→Option Bool=>
    Qdj N p0 k2 N ([]) 0) fun k1:Unit→Option Bool=>
  (Qi4 N p0.Table).bind fun x51=>
  bif (!x51) then
   some false
  else
   bif (decide ((p0.Elements.length:Int)<1)) then
    some false
   else
    bif (decide ((p0.Elements.length:Int)>16)) then
     some false
    else
     k1 ()
def Qv1 (p0:GNet):AV:=.dat 5 ((p0.Table:List GRow).map Qaw)
def Qq1 (p0:GNet):AV:=.dat 7 ((p0.Elements:List GElement).map Qac)
def Qn2 (p0:GNet):Slot:=.own 2 [[(Qv1 p0),(Qq1 p0)]]
def Qyi (y15:(List GPort)):AV:=.acc 1 61 2 ((y15:List GPort).map Qat)
def Quj (x11:GElement):AV:=.dat 2 ((x11.From:List GPort).map Qat)
def Qo3 (x11:GElement):Slot:=.own 7 [[(K .u8 (x11.Kind)),(Quj x11),(I (x11.Level)),(I (x11.Amount)),(I (x11.Wide)),(I (x11.Narrow)),(.dat 1 ((x11.Weights:List Int).map Qak))]]
def Quh (y17:(List GPort)):AV:=.acc 1 61 2 ((y17:List GPort).map Qat)
def Qo2 (x30:GElement):AV:=.agg [(K .u8 (x30.Kind)),(.dat 2 ((x30.From:List GPort).map Qat)),(I (x30.Level)),(I (x30.Amount)),(I (x30.Wide)),(I (x30.Narrow)),(.dat 1 ((x30.Weights:List Int).map Qak))]
def Qq0 (x23:GPort):AV:=.agg [(I (x23.Element)),(I (x23.Outlet))]
def Qui (x11:GElement):AV:=.agg [(K .u8 (x11.Kind)),(Quj x11),(I (x11.Level)),(I (x11.Amount)),(I (x11.Wide)),(I (x11.Narrow)),(.dat 1 ((x11.Weights:List Int).map Qak))]
theorem Qmd (N:Nat) (p0:GNet) (r:Bool) (h:Qi2 N p0=some r):Spec Tryz.prog 28 [(.agg (Qhn p0))] [] (B r) []:=by
  refine Qah Tryz.func28 rfl 0 (nle rfl) (fun X φ0 w0 hφ0 hd0=>?_)
  unfold Qi2 at h
  refine wxz ?_
  obtain ⟨k1,hk_k1,h⟩:=jko h
  refine wjn (τ:=Unit) (fun t=>k1 t=some r) (fun _=>⟨mk 102 [(1,.ref 0 2 0 0)],[(Qn2 p0)]⟩) (fun t h=>?_) ?_
  ·subst hk_k1
   refine wxz ?_
   obtain ⟨k2,hk_k2,h⟩:=jko h
   refine wjn (τ:=Unit) (fun t=>k2 t=some r) (fun _=>⟨mk 102 [],[]⟩) (fun t h=>?_) ?_
   ·subst hk_k2
    refine wxz<|Qaf ?_
    obtain rfl:=osi h
    exact fend ⟨[B true],⟨rot,trivial⟩,rfl⟩ nll
   ·skip
    refine wxz<|Qal ?_
    refine wmr (Mor.trans (Qpl 1 61 2 3 (by kernel_rfl) (by kernel_rfl)) (mto (n:=102) (l':=[(1,.ref 0 2 0 0),(3,(.acc 1 61 2 ((([]):List GPort).map Qat))),(4,I 0)]) (own':=[(Qn2 p0),.tok]) [(1,.ref 0 2 0 0),(3,(.acc 1 61 2 (([]:List GPort).map Qat))),(4,I 0)] [0,1] [(Qn2 p0),.tok] hφ0 (pc (.rn (rqr rfl)) (pc (.rn (Qcu rfl (Qca Qa4 _))) (pc rwl pn))) (qc (spb (lc (rnd Qai) (lc (rnd Qaa) ln))) (qc .tok qn)))) ?_
    refine Qcb (τ:=(List GPort)×Int) (fun n t=>Qdj N p0 k2 n t.1 t.2=some r) (fun ⟨y3,y4⟩=>⟨mk 102 [(1,.ref 0 2 0 0),(3,(.acc 1 61 2 ((y3:List GPort).map Qat))),(4,I y4)],[(Qn2 p0),.tok]⟩) (fun t h=>by rw [Qdj] at h; cases h) (fun n7 ih t h=>?_) N ([],0) h
    obtain ⟨y3,y4⟩:=t
    rw [Qdj] at h
    skip
    refine wsq<|wx tbk [(3,rp [(.tmp 26,(Qq1 p0))] (I ((p0.Elements.length:Int))))] ⟨alm (c:=Qac) (l:=p0.Elements) (aln rfl Tryz.underlying24 rfl),trivial⟩ ?_
    refine bfe h (fun hc8 h=>?_) fun hc8 h=>?_
    ·refine wft hc8<|Qan<|thn ?_
     obtain ⟨k10,hk_k10,h⟩:=jko h
     refine wjn (τ:=(List GPort)) (fun t=>k10 t=some r) (fun y9=>⟨mk 102 [(1,.ref 0 2 0 0),(3,(.acc 1 61 2 ((y9:List GPort).map Qat))),(4,I y4)],[(Qn2 p0),.tok]⟩) (fun y9 h=>?_) ?_
     ·subst hk_k10
      exact wxz1<|thn<|arm (mto (n:=102) [(1,.ref 0 2 0 0),(3,(.acc 1 61 2 ((y9:List GPort).map Qat))),(4,(I (w64 (y4+1))))] [0,1] [(Qn2 p0),.tok] hφ0 (pc (.rn (rqr rfl)) (pc (.rn (Qcu rfl (Qca Qa4 _))) (pc rwl pn))) (qc (spb (lc (rnd Qai) (lc (rnd Qaa) ln))) (qc .tok qn))) (ih (y9,w64 (y4+1)) h)
     ·skip
      refine Qal ?_
      obtain ⟨x11,hg12,h⟩:=bno h
      obtain ⟨hi13,hj14⟩:=gsm hg12
      refine wx tbk [(3,rp [(.tmp 32,(Qq1 p0)),(.tmp 33,I y4)] (.dptr (Qac (x11)) 0))] ⟨aid rfl Tryz.underlying24 ti59 rfl rfl hi13 (mgt Qac hj14) rfl,trivial⟩ ?_
      obtain ⟨k16,hk_k16,h⟩:=jko h
      refine wjn (τ:=(List GPort)) (fun t=>k16 t=some r) (fun y15=>⟨mk 102 [(1,.ref 0 2 0 0),(3,(Qyi y15)),(4,I y4),(5,.ref 2 7 0 0)],[(Qn2 p0),.tok,(Qo3 x11)]⟩) (fun y15 h=>?_) ?_
      ·subst hk_k16
       refine wxz<|Qal ?_
       refine wmr (mto (n:=102) (l':=[(1,.ref 0 2 0 0),(3,(Qyi y15)),(4,I y4),(5,.ref 2 7 0 0),(6,I 0)]) (own':=[(Qn2 p0),.tok,(Qo3 x11)]) [(1,.ref 0 2 0 0),(3,(Qyi y15)),(4,I y4),(5,.ref 2 7 0 0),(6,I 0)] [0,1,2] [(Qn2 p0),.tok,(Qo3 x11)] hφ0 (pc (.rn (rqr rfl)) (pc (.rn (Qcu rfl (Qca Qa4 _))) (pc rwl (pc (.rn (rqr rfl)) (pc rwl pn))))) (qc (spb (lc (rnd Qai) (lc (rnd Qaa) ln))) (qc .tok (qc (spb (lc rwl (lc (rnd Qa4) (lcc (lcc (lc (rnd Qag) ln)))))) qn)))) ?_
       refine Qcb (τ:=(List GPort)×Int) (fun n t=>Qd6 N p0 y4 k10 x11 n t.1 t.2=some r) (fun ⟨y17,y18⟩=>⟨mk 102 [(1,.ref 0 2 0 0),(3,(Quh y17)),(4,I y4),(5,.ref 2 7 0 0),(6,I y18)],[(Qn2 p0),.tok,(Qo3 x11)]⟩) (fun t h=>by rw [Qd6] at h; cases h) (fun n21 ih t h=>?_) N (y15,0) h
       obtain ⟨y17,y18⟩:=t
       rw [Qd6] at h
       skip
       refine wsq<|wx tbk [(3,rp [(.tmp 51,(Quj x11))] (I ((x11.From.length:Int))))] ⟨alm (c:=Qat) (l:=x11.From) (aln rfl Tryz.underlying57 rfl),trivial⟩ ?_
       refine bfe h (fun hc22 h=>?_) fun hc22 h=>?_
       ·refine wft hc22<|Qan<|thn<|wsq<|Qal ?_
        obtain ⟨x23,hg24,h⟩:=bno h
        obtain ⟨hi25,hj26⟩:=gsm hg24
        refine wx tbk [(3,rp [(.tmp 57,(Quj x11)),(.tmp 58,I y18)] (.dptr (Qat (x23)) 0))] ⟨aid rfl Tryz.underlying57 ti61 rfl rfl hi25 (mgt Qat hj26) rfl,trivial⟩<|wsq ?_
        obtain ⟨x28,hf27,h⟩:=bno h
        refine bfe h (fun hb29 h=>?_) fun hb29 h=>?_
        ·refine wxd tbk [(4,rp [fu 25,(.tmp 62,I x23.Element),ci 0,(.tmp 64,(I (w64 (y4 - 1))))] (B x28)),(6,rp [(.tmp 66,(B ((!x28))))] (B true))] ⟨apc (first:=[]) (cap:=[]) (vs:=[I x23.Element,I 0,(I (w64 (y4 - 1)))]) rfl Qcp (Qaz N x23.Element 0 (w64 (y4 - 1)) _ hf27) rfl rfl (nlcc (nlc nll nl0)) nll rfl,asb hb29 (amv rfl),trivial⟩<|wtr<|wxz<|Qaf<|Qae<|Qam<|Qae<|Qae<|Qam<|Qam ?_
         refine Qae<|Qae<|Qam<|Qae ?_
         obtain rfl:=osi h
         exact fend ⟨[B false],⟨rot,trivial⟩,rfl⟩ nll
        ·obtain ⟨x30,hg31,h⟩:=bno h
         obtain ⟨hi32,hj33⟩:=gsm hg31
         obtain ⟨x35,hf34,h⟩:=bno h
         obtain ⟨x37,hf36,h⟩:=bno h
         refine bfe h (fun hb38 h=>?_) fun hb38 h=>?_
         ·refine wxd tbk [(4,rp [fu 25,(.tmp 62,I x23.Element),ci 0,(.tmp 64,(I (w64 (y4 - 1))))] (B x28)),(6,rp [(.tmp 66,(B ((!x28))))] (B false)),(13,rp [(.tmp 67,B false),(.tmp 71,(Qq1 p0)),(.tmp 73,I x23.Element)] (.dptr (Qac (x30)) 0)),(15,rp [(.tmp 67,B false),fu 71,(.tmp 75,(Qo2 x30))] (I x35)),(17,rp [(.tmp 67,B false),fu 25,(.tmp 69,I x23.Outlet),ci 0,(.tmp 77,(I (w64 (x35 - 1))))] (B x37)),(20,rp [(.tmp 80,(B ((!x37))))] (B true))] ⟨apc (first:=[]) (cap:=[]) (vs:=[I x23.Element,I 0,(I (w64 (y4 - 1)))]) rfl Qcp (Qaz N x23.Element 0 (w64 (y4 - 1)) _ hf27) rfl rfl (nlcc (nlc nll nl0)) nll rfl,asb hb29 (amv rfl),ag_ (aid rfl Tryz.underlying24 ti59 rfl rfl hi32 (mgt Qac hj33) rfl),ag_ (apc (first:=[]) (cap:=[]) (vs:=[(Qo2 x30)]) rfl Q0b (Qib N x30 _ hf34) rfl rfl (nlc (NLt.agg _ (nlc nll (nlc (nld Qa4 _) (nlcc (nlcc (nlc (nld Qag _) nl0)))))) nl0) nll rfl),ag_ (apc (first:=[]) (cap:=[]) (vs:=[I x23.Outlet,I 0,(I (w64 (x35 - 1)))]) rfl Qcp (Qaz N x23.Outlet 0 (w64 (x35 - 1)) _ hf36) rfl rfl (nlcc (nlc nll nl0)) nll rfl),asb hb38 (amv rfl),trivial⟩<|wtr<|wxz<|Qaf<|Qae<|Qam<|Qae<|Qae<|Qam<|Qam ?_
          refine Qae<|Qae<|Qam<|Qae ?_
          obtain rfl:=osi h
          exact fend ⟨[B false],⟨rot,trivial⟩,rfl⟩ nll
         ·refine bfe h (fun hb39 h=>?_) fun hb39 h=>?_
          ·refine wxd tbk [(4,rp [fu 25,(.tmp 62,I x23.Element),ci 0,(.tmp 64,(I (w64 (y4 - 1))))] (B x28)),(6,rp [(.tmp 66,(B ((!x28))))] (B false)),(13,rp [(.tmp 67,B false),(.tmp 71,(Qq1 p0)),(.tmp 73,I x23.Element)] (.dptr (Qac (x30)) 0)),(15,rp [(.tmp 67,B false),fu 71,(.tmp 75,(Qo2 x30))] (I x35)),(17,rp [(.tmp 67,B false),fu 25,(.tmp 69,I x23.Outlet),ci 0,(.tmp 77,(I (w64 (x35 - 1))))] (B x37)),(20,rp [(.tmp 80,(B ((!x37))))] (B false)),(27,rp [(.tmp 81,B false),(.tmp 85,(Qq1 p0)),(.tmp 87,I x23.Element)] (.dptr (Qac (x30)) 0)),(32,rp [(.tmp 92,(B ((decide (x11.Level>x30.Level)))))] (B true))] ⟨apc (first:=[]) (cap:=[]) (vs:=[I x23.Element,I 0,(I (w64 (y4 - 1)))]) rfl Qcp (Qaz N x23.Element 0 (w64 (y4 - 1)) _ hf27) rfl rfl (nlcc (nlc nll nl0)) nll rfl,asb hb29 (amv rfl),ag_ (aid rfl Tryz.underlying24 ti59 rfl rfl hi32 (mgt Qac hj33) rfl),ag_ (apc (first:=[]) (cap:=[]) (vs:=[(Qo2 x30)]) rfl Q0b (Qib N x30 _ hf34) rfl rfl (nlc (NLt.agg _ (nlc nll (nlc (nld Qa4 _) (nlcc (nlcc (nlc (nld Qag _) nl0)))))) nl0) nll rfl),ag_ (apc (first:=[]) (cap:=[]) (vs:=[I x23.Outlet,I 0,(I (w64 (x35 - 1)))]) rfl Qcp (Qaz N x23.Outlet 0 (w64 (x35 - 1)) _ hf36) rfl rfl (nlcc (nlc nll nl0)) nll rfl),asb hb38 (amv rfl),ag_ (aid rfl Tryz.underlying24 ti59 rfl rfl hi32 (mgt Qac hj33) rfl),asb hb39 (amv rfl),trivial⟩<|wtr<|wxz<|Qaf<|Qae<|Qam<|Qae<|Qae<|Qam<|Qam ?_
           refine Qae<|Qae<|Qam<|Qae ?_
           obtain rfl:=osi h
           exact fend ⟨[B false],⟨rot,trivial⟩,rfl⟩ nll
          ·obtain ⟨x41,hf40,h⟩:=bno h
           refine wxd tbk [(4,rp [fu 25,(.tmp 62,I x23.Element),ci 0,(.tmp 64,(I (w64 (y4 - 1))))] (B x28)),(6,rp [(.tmp 66,(B ((!x28))))] (B false)),(13,rp [(.tmp 67,B false),(.tmp 71,(Qq1 p0)),(.tmp 73,I x23.Element)] (.dptr (Qac (x30)) 0)),(15,rp [(.tmp 67,B false),fu 71,(.tmp 75,(Qo2 x30))] (I x35)),(17,rp [(.tmp 67,B false),fu 25,(.tmp 69,I x23.Outlet),ci 0,(.tmp 77,(I (w64 (x35 - 1))))] (B x37)),(20,rp [(.tmp 80,(B ((!x37))))] (B false)),(27,rp [(.tmp 81,B false),(.tmp 85,(Qq1 p0)),(.tmp 87,I x23.Element)] (.dptr (Qac (x30)) 0)),(32,rp [(.tmp 92,(B ((decide (x11.Level>x30.Level)))))] (B false)),(35,rp [(.tmp 93,B false),fu 72,(.tmp 94,(Quh y17)),(.tmp 95,(Qq0 x23))] (B x41))] ⟨apc (first:=[]) (cap:=[]) (vs:=[I x23.Element,I 0,(I (w64 (y4 - 1)))]) rfl Qcp (Qaz N x23.Element 0 (w64 (y4 - 1)) _ hf27) rfl rfl (nlcc (nlc nll nl0)) nll rfl,asb hb29 (amv rfl),ag_ (aid rfl Tryz.underlying24 ti59 rfl rfl hi32 (mgt Qac hj33) rfl),ag_ (apc (first:=[]) (cap:=[]) (vs:=[(Qo2 x30)]) rfl Q0b (Qib N x30 _ hf34) rfl rfl (nlc (NLt.agg _ (nlc nll (nlc (nld Qa4 _) (nlcc (nlcc (nlc (nld Qag _) nl0)))))) nl0) nll rfl),ag_ (apc (first:=[]) (cap:=[]) (vs:=[I x23.Outlet,I 0,(I (w64 (x35 - 1)))]) rfl Qcp (Qaz N x23.Outlet 0 (w64 (x35 - 1)) _ hf36) rfl rfl (nlcc (nlc nll nl0)) nll rfl),asb hb38 (amv rfl),ag_ (aid rfl Tryz.underlying24 ti59 rfl rfl hi32 (mgt Qac hj33) rfl),asb hb39 (amv rfl),ag_ (awk (rd':=(.func 72,(.fn (.func 72) [] []))::[(.tmp 94,(.dat 2 ((y17:List GPort).map Qat))),(.tmp 95,(Qq0 x23))]) ⟨rfl,lrf,rfl,Less.acc,rfl,lrf,trivial⟩ (apc (first:=[]) (cap:=[]) (vs:=[(.dat 2 ((y17:List GPort).map Qat)),(Qq0 x23)]) rfl Zh9 (Qrm N y17 x23 _ hf40) rfl rfl (nlc (nld Qa4 _) (nlc (NLt.agg _ (nlcc nl0)) nl0)) nll rfl)),trivial⟩ ?_
           refine bfe h (fun hc42 h=>?_) fun hc42 h=>?_
           ·refine wft hc42<|wxz<|Qaf<|Qae<|Qam<|Qae<|Qae<|Qam<|Qam<|Qae ?_
            refine Qae<|Qam<|Qae ?_
            obtain rfl:=osi h
            exact fend ⟨[B false],⟨rot,trivial⟩,rfl⟩ nll
           ·refine wfn hc42<|Qan<|thn ?_
            obtain ⟨ha43,h⟩:=cko h
            refine wx1 tbk [(2,rp [(.tmp 99,(Qq0 x23))] (.dat 2 (([x23]:List GPort).map Qat))),(3,⟨[(.tmp 98,(Quh y17)),(.tmp 100,(.dat 2 (([x23]:List GPort).map Qat)))],[(1,.tok),(4,.unused)],(.acc 4 61 2 ((y17++([x23]):List GPort).map Qat)),[(1,.dead),(4,.tok)],false⟩)] ⟨Qbw (vs:=[(Qq0 x23)]) rfl Tryz.underlying57 ti61 tz61 rfl (by decide) rfl (by decide) (by rfl) (by rfl) (by rfl) rfl,Qgo rfl Tryz.underlying57 te61 (Base.acc _ _) rfl rfl (by rfl) (Qjk Qat ha43) (Qjj Qat ha43 (by decide)) (Qji Qat) rfl rfl,trivial⟩<|bln<|thn<|wxz1<|thn ?_
            exact arm (mto (n:=102) [(1,.ref 0 2 0 0),(3,(.acc 4 61 2 ((y17++([x23]):List GPort).map Qat))),(4,I y4),(5,.ref 2 7 0 0),(6,(I (w64 (y18+1))))] [0,4,2] [(Qn2 p0),.tok,(Qo3 x11)] hφ0 (pc (.rn (rqr rfl)) (pc (.rn (Qcu rfl (Qca Qa4 _))) (pc rwl (pc (.rn (rqr rfl)) (pc rwl pn))))) (qc (spb (lc (rnd Qai) (lc (rnd Qaa) ln))) (qc .tok (qc (spb (lc rwl (lc (rnd Qa4) (lcc (lcc (lc (rnd Qag) ln)))))) qn)))) (ih (y17++([x23]),w64 (y18+1)) h)
       ·exact wfn hc22<|Qbl<|Qay<|Qay<|Qbk rfl<|bln<|thn<|⟨(y17),h,(mto (n:=102) [(1,.ref 0 2 0 0),(3,(Quh y17)),(4,I y4)] [0,1] [(Qn2 p0),.tok] hφ0 (pc (.rn (rqr rfl)) (pc (.rn (Qcu rfl (Qca Qa4 _))) (pc rwl pn))) (qc (spb (lc (rnd Qai) (lc (rnd Qaa) ln))) (qc .tok qn)))⟩
      ·skip
       obtain ⟨x45,hf44,h⟩:=bno h
       refine bfe h (fun hb46 h=>?_) fun hb46 h=>?_
       ·refine wx tbk [(1,rp [fu 70,(.tmp 36,(Qui x11))] (B x45)),(3,rp [(.tmp 38,(B ((!x45))))] (B true))] ⟨apc (first:=[]) (cap:=[]) (vs:=[(Qui x11)]) rfl Q8q (Qmc N x11 _ hf44) rfl rfl (nlc (NLt.agg _ (nlc nll (nlc (nld Qa4 _) (nlcc (nlcc (nlc (nld Qag _) nl0)))))) nl0) nll rfl,asb hb46 (amv rfl),trivial⟩<|wtr<|wxz<|Qaf<|Qae<|Qam<|Qae<|Qae<|Qam<|Qae ?_
        obtain rfl:=osi h
        exact fend ⟨[B false],⟨rot,trivial⟩,rfl⟩ nll
       ·obtain ⟨x48,hf47,h⟩:=bno h
        refine wx tbk [(1,rp [fu 70,(.tmp 36,(Qui x11))] (B x45)),(3,rp [(.tmp 38,(B ((!x45))))] (B false)),(8,rp [(.tmp 39,B false),(.tmp 43,(Qv1 p0))] (I ((p0.Table.length:Int)))),(10,rp [(.tmp 39,B false),fu 25,(.tmp 41,I x11.Level),ci 0,(.tmp 45,(I (w64 ((p0.Table.length:Int) - 1))))] (B x48))] ⟨apc (first:=[]) (cap:=[]) (vs:=[(Qui x11)]) rfl Q8q (Qmc N x11 _ hf44) rfl rfl (nlc (NLt.agg _ (nlc nll (nlc (nld Qa4 _) (nlcc (nlcc (nlc (nld Qag _) nl0)))))) nl0) nll rfl,asb hb46 (amv rfl),ag_ (alm (c:=Qaw) (l:=p0.Table) (aln rfl Tryz.underlying23 rfl)),ag_ (apc (first:=[]) (cap:=[]) (vs:=[I x11.Level,I 0,(I (w64 ((p0.Table.length:Int) - 1)))]) rfl Qcp (Qaz N x11.Level 0 (w64 ((p0.Table.length:Int) - 1)) _ hf47) rfl rfl (nlcc (nlc nll nl0)) nll rfl),trivial⟩ ?_
        refine bfe h (fun hc49 h=>?_) fun hc49 h=>?_
        ·refine wft hc49<|wxz<|Qaf<|Qae<|Qam<|Qae<|Qae<|Qam<|Qae ?_
         obtain rfl:=osi h
         exact fend ⟨[B false],⟨rot,trivial⟩,rfl⟩ nll
        ·exact wfn hc49<|Qan<|thn<|⟨(y3),h,(mto (n:=102) [(1,.ref 0 2 0 0),(3,(.acc 1 61 2 ((y3:List GPort).map Qat))),(4,I y4),(5,.ref 2 7 0 0)] [0,1,2] [(Qn2 p0),.tok,(Qo3 x11)] hφ0 (pc (.rn (rqr rfl)) (pc (.rn (Qcu rfl (Qca Qa4 _))) (pc rwl (pc (.rn (rqr rfl)) pn)))) (qc (spb (lc (rnd Qai) (lc (rnd Qaa) ln))) (qc .tok (qc (spb (lc rwl (lc (rnd Qa4) (lcc (lcc (lc (rnd Qag) ln)))))) qn))))⟩
    ·exact wfn hc8<|Qbl<|Qay<|Qay<|Qbk rfl<|thn<|⟨(),h,(mto (n:=102) [] [] [] hφ0 pn qn)⟩
  ·skip
   obtain ⟨x51,hf50,h⟩:=bno h
   refine bfe h (fun hb52 h=>?_) fun hb52 h=>?_
   ·refine wx tbk [(2,rp [fu 69,(.tmp 9,(Qv1 p0))] (B x51)),(4,rp [(.tmp 11,(B ((!x51))))] (B true))] ⟨apc (first:=[]) (cap:=[]) (vs:=[(Qv1 p0)]) rfl Q0c (Qj5 N p0.Table _ hf50) rfl rfl (nlc (nld Qai _) nl0) nll rfl,asb hb52 (amv rfl),trivial⟩<|wtr<|wxz<|Qaf<|Qae ?_
    obtain rfl:=osi h
    exact fend ⟨[B false],⟨rot,trivial⟩,rfl⟩ nll
   ·refine bfe h (fun hb53 h=>?_) fun hb53 h=>?_
    ·refine wx tbk [(2,rp [fu 69,(.tmp 9,(Qv1 p0))] (B x51)),(4,rp [(.tmp 11,(B ((!x51))))] (B false)),(7,rp [(.tmp 12,B false),(.tmp 14,(Qq1 p0))] (I ((p0.Elements.length:Int)))),(10,rp [(.tmp 17,(B ((decide ((p0.Elements.length:Int)<1)))))] (B true))] ⟨apc (first:=[]) (cap:=[]) (vs:=[(Qv1 p0)]) rfl Q0c (Qj5 N p0.Table _ hf50) rfl rfl (nlc (nld Qai _) nl0) nll rfl,asb hb52 (amv rfl),ag_ (alm (c:=Qac) (l:=p0.Elements) (aln rfl Tryz.underlying24 rfl)),asb hb53 (amv rfl),trivial⟩<|wtr<|wxz<|Qaf<|Qae ?_
     obtain rfl:=osi h
     exact fend ⟨[B false],⟨rot,trivial⟩,rfl⟩ nll
    ·refine wx tbk [(2,rp [fu 69,(.tmp 9,(Qv1 p0))] (B x51)),(4,rp [(.tmp 11,(B ((!x51))))] (B false)),(7,rp [(.tmp 12,B false),(.tmp 14,(Qq1 p0))] (I ((p0.Elements.length:Int)))),(10,rp [(.tmp 17,(B ((decide ((p0.Elements.length:Int)<1)))))] (B false)),(13,rp [(.tmp 18,B false),(.tmp 20,(Qq1 p0))] (I ((p0.Elements.length:Int))))] ⟨apc (first:=[]) (cap:=[]) (vs:=[(Qv1 p0)]) rfl Q0c (Qj5 N p0.Table _ hf50) rfl rfl (nlc (nld Qai _) nl0) nll rfl,asb hb52 (amv rfl),ag_ (alm (c:=Qac) (l:=p0.Elements) (aln rfl Tryz.underlying24 rfl)),asb hb53 (amv rfl),ag_ (alm (c:=Qac) (l:=p0.Elements) (aln rfl Tryz.underlying24 rfl)),trivial⟩ ?_
     refine bfe h (fun hc54 h=>?_) fun hc54 h=>?_
     ·refine wft hc54<|wxz<|Qaf<|Qae ?_
      obtain rfl:=osi h
      exact fend ⟨[B false],⟨rot,trivial⟩,rfl⟩ nll
     ·exact wfn hc54<|Qan<|thn<|⟨(),h,(mto (n:=102) [(1,.ref 0 2 0 0)] [0] [(Qn2 p0)] hφ0 (pc (.rn (rqr rfl)) pn) (qc (spb (lc (rnd Qai) (lc (rnd Qaa) ln))) qn))⟩
def Qc3 (N:Nat) (k1:Unit→Option Bool) (p1:(List Int)):Nat→Int→Option Bool
  | 0,_=>none
  | n4+1,y2=>
    bif (decide (y2<(p1.length:Int))) then
     (getI p1 y2).bind fun x6=>
     (Qdp N x6 0 1000000000000).bind fun x11=>
     bif (!x11) then
      some false
     else
      Qc3 N k1 p1 n4 (w64 (y2+1))
    else
     k1 ()
def Qe8 (N:Nat) (p0:GNet) (p1:(List Int)):Option Bool:=
  Qbp (fun _=>
    some ((p1.length:Int)==(p0.Elements.length:Int))) fun k1:Unit→Option Bool=>
  Qc3 N k1 p1 N 0
def Qn8 (p1:(List Int)):AV:=.dat 1 ((p1:List Int).map Qak)
def Zed (p0:GNet):AV:=.dat 7 ((p0.Elements:List GElement).map Qac)
def Qtj (p0:GNet):Slot:=.own 2 [[(.dat 5 ((p0.Table:List GRow).map Qaw)),(Zed p0)]]
theorem Qjp (N:Nat) (p0:GNet) (p1:(List Int)) (r:Bool) (h:Qe8 N p0 p1=some r):Spec Tryz.prog 33 [(.agg (Qhn p0)),(.dat 1 (p1.map Qak))] [] (B r) []:=by
  refine Qah Tryz.func33 rfl 0 (nle rfl) (fun X φ0 w0 hφ0 hd0=>?_)
  unfold Qe8 at h
  refine wxz ?_
  obtain ⟨k1,hk_k1,h⟩:=jko h
  refine wjn (τ:=Unit) (fun t=>k1 t=some r) (fun _=>⟨mk 24 [(1,(Qn8 p1)),(2,.ref 0 2 0 0)],[(Qtj p0)]⟩) (fun t h=>?_) ?_
  ·subst hk_k1
   refine wx tbk [(1,rp [(.tmp 18,(Qn8 p1))] (I ((p1.length:Int)))),(4,rp [(.tmp 21,(Zed p0))] (I ((p0.Elements.length:Int))))] ⟨alm (c:=Qak) (l:=p1) (aln rfl Tryz.underlying27 rfl),alm (c:=Qac) (l:=p0.Elements) (aln rfl Tryz.underlying24 rfl),trivial⟩<|Qaf ?_
   obtain rfl:=osi h
   exact fend ⟨[(B (((p1.length:Int)==(p0.Elements.length:Int))))],⟨rot,trivial⟩,rfl⟩ nll
  ·skip
   refine wxz<|Qal ?_
   refine wmr (mto (n:=24) (l':=[(1,(Qn8 p1)),(2,.ref 0 2 0 0),(5,I 0)]) (own':=[(Qtj p0)]) [(1,(Qn8 p1)),(2,.ref 0 2 0 0),(5,I 0)] [0] [(Qtj p0)] hφ0 (pc (rnd Qag) (pc (.rn (rqr rfl)) (pc rwl pn))) (qc (spb (lc (rnd Qai) (lc (rnd Qaa) ln))) qn)) ?_
   refine Qcb (τ:=Int) (fun n t=>Qc3 N k1 p1 n t=some r) (fun y2=>⟨mk 24 [(1,(Qn8 p1)),(2,.ref 0 2 0 0),(5,I y2)],[(Qtj p0)]⟩) (fun t h=>by rw [Qc3] at h; cases h) (fun n4 ih y2 h=>?_) N (0) h
   rw [Qc3] at h
   skip
   refine wsq<|wx tbk [(2,rp [(.tmp 7,(Qn8 p1))] (I ((p1.length:Int))))] ⟨alm (c:=Qak) (l:=p1) (aln rfl Tryz.underlying27 rfl),trivial⟩ ?_
   refine bfe h (fun hc5 h=>?_) fun hc5 h=>?_
   ·refine wft hc5<|Qan<|thn<|wsq<|Qal ?_
    obtain ⟨x6,hg7,h⟩:=bno h
    obtain ⟨hi8,hj9⟩:=gsm hg7
    obtain ⟨x11,hf10,h⟩:=bno h
    refine wx tbk [(2,rp [(.tmp 12,(Qn8 p1)),(.tmp 13,I y2)] (.dptr (Qak (x6)) 0)),(4,rp [fu 25,(.tmp 15,I x6),ci 0,ci 1000000000000] (B x11))] ⟨aid rfl Tryz.underlying27 ti3 rfl rfl hi8 (mgt Qak hj9) rfl,apc (first:=[]) (cap:=[]) (vs:=[I x6,I 0,I 1000000000000]) rfl Qcp (Qaz N x6 0 1000000000000 _ hf10) rfl rfl (nlcc (nlc nll nl0)) nll rfl,trivial⟩ ?_
    refine bfe h (fun hc12 h=>?_) fun hc12 h=>?_
    ·refine wft hc12<|wxz<|Qaf<|Qam<|Qae<|Qae<|Qam<|Qae ?_
     obtain rfl:=osi h
     exact fend ⟨[B false],⟨rot,trivial⟩,rfl⟩ nll
    ·exact wfn hc12<|Qan<|bln<|thn<|wxz1<|thn<|arm (mto (n:=24) [(1,(Qn8 p1)),(2,.ref 0 2 0 0),(5,(I (w64 (y2+1))))] [0] [(Qtj p0)] hφ0 (pc (rnd Qag) (pc (.rn (rqr rfl)) (pc rwl pn))) (qc (spb (lc (rnd Qai) (lc (rnd Qaa) ln))) qn)) (ih (w64 (y2+1)) h)
   ·exact wfn hc5<|Qbl<|Qay<|Qay<|Qbk rfl<|thn<|⟨(),h,(mto (n:=24) [(1,(Qn8 p1)),(2,.ref 0 2 0 0)] [0] [(Qtj p0)] hφ0 (pc (rnd Qag) (pc (.rn (rqr rfl)) pn)) (qc (spb (lc (rnd Qai) (lc (rnd Qaa) ln))) qn))⟩
def Qfv (N:Nat) (p0:GStream):Option Bool:=
  (Qdp N p0.Mass 0 1000000).bind fun x2=>
  bif x2 then
   (Qdp N p0.Heat 0 (w64 (4000 * p0.Mass))).bind fun x5=>
   bif x5 then
    (Qdp N p0.Silica 0 (w64 (10000 * p0.Mass))).bind fun x8=>
    bif x8 then
     (Qdp N p0.Gas 0 1000000000).bind fun x11=>
     some x11
    else
     some false
   else
    some false
  else
   some false
theorem Qmf (N:Nat) (p0:GStream) (r:Bool) (h:Qfv N p0=some r):Spec Tryz.prog 121 [(.agg (Qab p0))] [] (B r) []:=by
  refine Qah Tryz.func121 rfl 0 (nle rfl) (fun X φ0 w0 hφ0 hd0=>?_)
  unfold Qfv at h
  refine wxz ?_
  obtain ⟨x2,hf1,h⟩:=bno h
  refine bfe h (fun hb3 h=>?_) fun hb3 h=>?_
  ·obtain ⟨x5,hf4,h⟩:=bno h
   refine bfe h (fun hb6 h=>?_) fun hb6 h=>?_
   ·obtain ⟨x8,hf7,h⟩:=bno h
    refine bfe h (fun hb9 h=>?_) fun hb9 h=>?_
    ·obtain ⟨x11,hf10,h⟩:=bno h
     refine wx tbk [(2,rp [fu 25,(.tmp 4,I p0.Mass),ci 0,ci 1000000] (B x2)),(3,rp [(.tmp 5,B x2)] (B true)),(9,rp [(.tmp 6,B true),fu 25,(.tmp 8,I p0.Heat),ci 0,(.tmp 11,(I (w64 (4000 * p0.Mass))))] (B x5)),(11,rp [(.tmp 13,B x5)] (B true)),(17,rp [(.tmp 14,B true),fu 25,(.tmp 16,I p0.Silica),ci 0,(.tmp 19,(I (w64 (10000 * p0.Mass))))] (B x8)),(19,rp [(.tmp 21,B x8)] (B true)),(22,rp [(.tmp 22,B true),fu 25,(.tmp 24,I p0.Gas),ci 0,ci 1000000000] (B x11))] ⟨apc (first:=[]) (cap:=[]) (vs:=[I p0.Mass,I 0,I 1000000]) rfl Qcp (Qaz N p0.Mass 0 1000000 _ hf1) rfl rfl (nlcc (nlc nll nl0)) nll rfl,asb hb3 (amv rfl),ag_ (apc (first:=[]) (cap:=[]) (vs:=[I p0.Heat,I 0,(I (w64 (4000 * p0.Mass)))]) rfl Qcp (Qaz N p0.Heat 0 (w64 (4000 * p0.Mass)) _ hf4) rfl rfl (nlcc (nlc nll nl0)) nll rfl),asb hb6 (amv rfl),ag_ (apc (first:=[]) (cap:=[]) (vs:=[I p0.Silica,I 0,(I (w64 (10000 * p0.Mass)))]) rfl Qcp (Qaz N p0.Silica 0 (w64 (10000 * p0.Mass)) _ hf7) rfl rfl (nlcc (nlc nll nl0)) nll rfl),asb hb9 (amv rfl),ag_ (apc (first:=[]) (cap:=[]) (vs:=[I p0.Gas,I 0,I 1000000000]) rfl Qcp (Qaz N p0.Gas 0 1000000000 _ hf10) rfl rfl (nlcc (nlc nll nl0)) nll rfl),trivial⟩<|Qaf ?_
     obtain rfl:=osi h
     exact fend ⟨[B x11],⟨rot,trivial⟩,rfl⟩ nll
    ·refine wx tbk [(2,rp [fu 25,(.tmp 4,I p0.Mass),ci 0,ci 1000000] (B x2)),(3,rp [(.tmp 5,B x2)] (B true)),(9,rp [(.tmp 6,B true),fu 25,(.tmp 8,I p0.Heat),ci 0,(.tmp 11,(I (w64 (4000 * p0.Mass))))] (B x5)),(11,rp [(.tmp 13,B x5)] (B true)),(17,rp [(.tmp 14,B true),fu 25,(.tmp 16,I p0.Silica),ci 0,(.tmp 19,(I (w64 (10000 * p0.Mass))))] (B x8)),(19,rp [(.tmp 21,B x8)] (B false))] ⟨apc (first:=[]) (cap:=[]) (vs:=[I p0.Mass,I 0,I 1000000]) rfl Qcp (Qaz N p0.Mass 0 1000000 _ hf1) rfl rfl (nlcc (nlc nll nl0)) nll rfl,asb hb3 (amv rfl),ag_ (apc (first:=[]) (cap:=[]) (vs:=[I p0.Heat,I 0,(I (w64 (4000 * p0.Mass)))]) rfl Qcp (Qaz N p0.Heat 0 (w64 (4000 * p0.Mass)) _ hf4) rfl rfl (nlcc (nlc nll nl0)) nll rfl),asb hb6 (amv rfl),ag_ (apc (first:=[]) (cap:=[]) (vs:=[I p0.Silica,I 0,(I (w64 (10000 * p0.Mass)))]) rfl Qcp (Qaz N p0.Silica 0 (w64 (10000 * p0.Mass)) _ hf7) rfl rfl (nlcc (nlc nll nl0)) nll rfl),asb hb9 (amv rfl),trivial⟩<|Qaf ?_
     obtain rfl:=osi h
     exact fend ⟨[B false],⟨rot,trivial⟩,rfl⟩ nll
   ·refine wx tbk [(2,rp [fu 25,(.tmp 4,I p0.Mass),ci 0,ci 1000000] (B x2)),(3,rp [(.tmp 5,B x2)] (B true)),(9,rp [(.tmp 6,B true),fu 25,(.tmp 8,I p0.Heat),ci 0,(.tmp 11,(I (w64 (4000 * p0.Mass))))] (B x5)),(11,rp [(.tmp 13,B x5)] (B false))] ⟨apc (first:=[]) (cap:=[]) (vs:=[I p0.Mass,I 0,I 1000000]) rfl Qcp (Qaz N p0.Mass 0 1000000 _ hf1) rfl rfl (nlcc (nlc nll nl0)) nll rfl,asb hb3 (amv rfl),ag_ (apc (first:=[]) (cap:=[]) (vs:=[I p0.Heat,I 0,(I (w64 (4000 * p0.Mass)))]) rfl Qcp (Qaz N p0.Heat 0 (w64 (4000 * p0.Mass)) _ hf4) rfl rfl (nlcc (nlc nll nl0)) nll rfl),asb hb6 (amv rfl),trivial⟩<|Qaf ?_
    obtain rfl:=osi h
    exact fend ⟨[B false],⟨rot,trivial⟩,rfl⟩ nll
  ·refine wx tbk [(2,rp [fu 25,(.tmp 4,I p0.Mass),ci 0,ci 1000000] (B x2)),(3,rp [(.tmp 5,B x2)] (B false))] ⟨apc (first:=[]) (cap:=[]) (vs:=[I p0.Mass,I 0,I 1000000]) rfl Qcp (Qaz N p0.Mass 0 1000000 _ hf1) rfl rfl (nlcc (nlc nll nl0)) nll rfl,asb hb3 (amv rfl),trivial⟩<|Qaf ?_
   obtain rfl:=osi h
   exact fend ⟨[B false],⟨rot,trivial⟩,rfl⟩ nll
def Qjt (_N:Nat) (p0:GStream):Option GStream:=
  some p0
def Zec (p0:GStream):AV:=.agg [(I (p0.Mass)),(I (p0.Heat)),(I (p0.Silica)),(I (p0.Gas))]
theorem Qqm (N:Nat) (p0:GStream) (r:GStream) (h:Qjt N p0=some r):Spec Tryz.prog 60 [(.agg (Qab p0))] [] (.agg (Qab r)) []:=by
  refine Qah Tryz.func60 rfl 0 (nle rfl) (fun X φ0 w0 hφ0 hd0=>?_)
  unfold Qjt at h
  refine wxz<|wx tbk [(8,rp [(.tmp 4,I p0.Mass),(.tmp 6,I p0.Heat),(.tmp 8,I p0.Silica),(.tmp 10,I p0.Gas)] (Zec p0))] ⟨Qax (vs:=[I p0.Mass,I p0.Heat,I p0.Silica,I p0.Gas]) rfl ts63 tz63 rfl (by rfl) rfl,trivial⟩<|Qaf ?_
  obtain rfl:=osi h
  exact fend ⟨[(Zec p0)],⟨Qcd (n:=1) (m:=4) (j:=0) (i:=0) (xs:=[[I p0.Mass,I p0.Heat,I p0.Silica,I p0.Gas]]) (by kernel_rfl) (by kernel_rfl) ti63 (by decide) rfl (nle rfl) rfl,trivial⟩,rfl⟩ (NLt.agg _ (nlcc (nlcc nl0)))
def Qdi (N:Nat) (p0:(List GStream)) (k2:(List GStream)→Option (List GStream)):Nat→(List GStream)→Int→Option (List GStream)
  | 0,_,_=>none
  | n7+1,y3,y4=>
    bif (decide (y4<(p0.length:Int))) then
     (getI p0 y4).bind fun x9=>
     (Qjt N x9).bind fun x14=>
     chk (decide ((y3.length+([x14]).length) * 32≤140737488355328))<|
     Qdi N p0 k2 n7 (y3++([x14])) (w64 (y4+1))
    else
     k2 (y3)
def Qf1 (N:Nat) (p0:(List GStream)):Option (List GStream):=
  Qbp (fun y1=>
    some y1) fun k2:(List GStream)→Option (List GStream)=>
  Qdi N p0 k2 N ([]) 0
def Qti (p0:(List GStream)):AV:=.dat 4 ((p0:List GStream).map Qab)
def Qza (y3:(List GStream)):AV:=.acc 0 63 4 ((y3:List GStream).map Qab)
def Zeb (x9:GStream):AV:=.agg [(I (x9.Mass)),(I (x9.Heat)),(I (x9.Silica)),(I (x9.Gas))]
def Qy9 (x14:GStream):AV:=.agg [(I (x14.Mass)),(I (x14.Heat)),(I (x14.Silica)),(I (x14.Gas))]
theorem Qie (N:Nat) (p0:(List GStream)) (r:(List GStream)) (h:Qf1 N p0=some r):Spec Tryz.prog 19 [(.dat 4 (p0.map Qab))] [] (.dat 4 (r.map Qab)) []:=by
  refine Qah Tryz.func19 rfl 0 (nle rfl) (fun X φ0 w0 hφ0 hd0=>?_)
  unfold Qf1 at h
  refine wxz<|wxz ?_
  obtain ⟨k2,hk_k2,h⟩:=jko h
  refine wjn (τ:=(List GStream)) (fun t=>k2 t=some r) (fun y1=>⟨mk 20 [(3,(.acc 0 63 4 ((y1:List GStream).map Qab)))],[.tok]⟩) (fun y1 h=>?_) ?_
  ·subst hk_k2
   refine wxz<|Qaf ?_
   obtain rfl:=osi h
   exact fend ⟨[(.dat 4 ((y1:List GStream).map Qab))],⟨Qe7 (v:=(.acc 0 63 4 ((y1:List GStream).map Qab))) (rot) Less.acc,trivial⟩,rfl⟩ (nld Qad _)
  ·skip
   refine wxz<|Qal ?_
   refine wmr (Mor.trans (Qpl 0 63 4 3 (by kernel_rfl) (by kernel_rfl)) (mto (n:=20) (l':=[(0,(Qti p0)),(3,(.acc 0 63 4 ((([]):List GStream).map Qab))),(4,I 0)]) (own':=[.tok]) [(0,(Qti p0)),(3,(.acc 0 63 4 (([]:List GStream).map Qab))),(4,I 0)] [0] [.tok] hφ0 (pc (rnd Qad) (pc (.rn (Qcu rfl (Qca Qad _))) (pc rwl pn))) (qc .tok qn))) ?_
   refine Qcb (τ:=(List GStream)×Int) (fun n t=>Qdi N p0 k2 n t.1 t.2=some r) (fun ⟨y3,y4⟩=>⟨mk 20 [(0,(Qti p0)),(3,(Qza y3)),(4,I y4)],[.tok]⟩) (fun t h=>by rw [Qdi] at h; cases h) (fun n7 ih t h=>?_) N ([],0) h
   obtain ⟨y3,y4⟩:=t
   rw [Qdi] at h
   skip
   refine wsq<|wx tbk [(2,rp [(.tmp 6,(Qti p0))] (I ((p0.length:Int))))] ⟨alm (c:=Qab) (l:=p0) (aln rfl Tryz.underlying28 rfl),trivial⟩ ?_
   refine bfe h (fun hc8 h=>?_) fun hc8 h=>?_
   ·refine wft hc8<|Qan<|thn<|wsq<|Qal ?_
    obtain ⟨x9,hg10,h⟩:=bno h
    obtain ⟨hi11,hj12⟩:=gsm hg10
    obtain ⟨x14,hf13,h⟩:=bno h
    obtain ⟨ha15,h⟩:=cko h
    refine wx1 tbk [(3,rp [(.tmp 12,(Qti p0)),(.tmp 13,I y4)] (.dptr (Qab (x9)) 0)),(5,rp [fu 60,(.tmp 15,(Zeb x9))] (Qy9 x14)),(6,rp [(.tmp 16,(Qy9 x14))] (.dat 4 (([x14]:List GStream).map Qab))),(7,⟨[(.tmp 11,(Qza y3)),(.tmp 17,(.dat 4 (([x14]:List GStream).map Qab)))],[(0,.tok),(1,.unused)],(.acc 1 63 4 ((y3++([x14]):List GStream).map Qab)),[(0,.dead),(1,.tok)],false⟩)] ⟨aid rfl Tryz.underlying28 ti89 rfl rfl hi11 (mgt Qab hj12) rfl,apc (first:=[]) (cap:=[]) (vs:=[(Zeb x9)]) rfl Zib (Qqm N x9 _ hf13) rfl rfl (nlc (NLt.agg _ (nlcc (nlcc nl0))) nl0) (NLt.agg _ (nlcc (nlcc nl0))) rfl,Qbw (vs:=[(Qy9 x14)]) rfl Tryz.underlying45 ti63 tz63 rfl (by decide) rfl (by decide) (by rfl) (by rfl) (by rfl) rfl,Qgo rfl Tryz.underlying45 te63 (Base.acc _ _) rfl rfl (by rfl) (Qjk Qab ha15) (Qjj Qab ha15 (by decide)) (Qji Qab) rfl rfl,trivial⟩<|bln<|thn<|wxz1<|thn ?_
    exact arm (mto (n:=20) [(0,(Qti p0)),(3,(.acc 1 63 4 ((y3++([x14]):List GStream).map Qab))),(4,(I (w64 (y4+1))))] [1] [.tok] hφ0 (pc (rnd Qad) (pc (.rn (Qcu rfl (Qca Qad _))) (pc rwl pn))) (qc .tok qn)) (ih (y3++([x14]),w64 (y4+1)) h)
   ·exact wfn hc8<|Qbl<|Qay<|Qay<|Qbk rfl<|thn<|⟨(y3),h,(mto (n:=20) [(3,(Qza y3))] [0] [.tok] hφ0 (pc (.rn (Qcu rfl (Qca Qad _))) pn) (qc .tok qn))⟩
def Qd7 (N:Nat) (p0:GNet) (p1:(List Int)) (k5:(List Int)→Option ((List Int)×Int)):Nat→(List Int)→Int→Option ((List Int)×Int)
  | 0,_,_=>none
  | n10+1,y6,y7=>
    bif (decide (y7<(p0.Elements.length:Int))) then
     (getI p0.Elements y7).bind fun x12=>
     (getI p1 y7).bind fun x16=>
     (Qei N x12 x16).bind fun x21=>
     chk (decide ((y6.length+([x21]).length) * 8≤140737488355328))<|
     Qd7 N p0 p1 k5 n10 (y6++([x21])) (w64 (y7+1))
    else
     k5 (y6)
def Qhk (N:Nat) (p0:GNet) (p1:(List Int)):Option ((List Int)×Int):=
  (Qhj N p0 p1).bind fun x2=>
  bif (x2 != 0) then
   some ([],x2)
  else
   Qbp (fun y4=>
     some (y4,0)) fun k5:(List Int)→Option ((List Int)×Int)=>
   Qd7 N p0 p1 k5 N ([]) 0
def Zea (p0:GNet):AV:=.dat 5 ((p0.Table:List GRow).map Qaw)
def Qp3 (p0:GNet):AV:=.dat 7 ((p0.Elements:List GElement).map Qac)
def Qrb (p1:(List Int)):AV:=.dat 1 ((p1:List Int).map Qak)
def Qy8 (y6:(List Int)):AV:=.acc 0 3 1 ((y6:List Int).map Qak)
def Q6w (x12:GElement):AV:=.agg [(K .u8 (x12.Kind)),(.dat 2 ((x12.From:List GPort).map Qat)),(I (x12.Level)),(I (x12.Amount)),(I (x12.Wide)),(I (x12.Narrow)),(.dat 1 ((x12.Weights:List Int).map Qak))]
theorem Qmi (N:Nat) (p0:GNet) (p1:(List Int)) (r:((List Int)×Int)) (h:Qhk N p0 p1=some r):Spec Tryz.prog 32 [(.agg (Qhn p0)),(.dat 1 (p1.map Qak))] [] (.tup [(.dat 1 (r.1.map Qak)),(I r.2)]) []:=by
  refine Qah Tryz.func32 rfl 0 (nle rfl) (fun X φ0 w0 hφ0 hd0=>?_)
  unfold Qhk at h
  refine wxz<|wsq ?_
  obtain ⟨x2,hf1,h⟩:=bno h
  refine wx tbk [(2,rp [fu 73,(.tmp 10,(.agg [(Zea p0),(Qp3 p0)])),(.tmp 11,(Qrb p1))] (I x2))] ⟨apc (first:=[]) (cap:=[]) (vs:=[(.agg [(Zea p0),(Qp3 p0)]),(Qrb p1)]) rfl Q8p (Qmh N p0 p1 _ hf1) rfl rfl (nlc (NLt.agg _ (nlc (nld Qai _) (nlc (nld Qaa _) nl0))) (nlc (nld Qag _) nl0)) nll rfl,trivial⟩<|wxz ?_
  refine bfe h (fun hc3 h=>?_) fun hc3 h=>?_
  ·refine wft hc3<|wxz<|Qaf<|Qae ?_
   obtain rfl:=osi h
   exact fend ⟨[(.dat 1 (([]:List Int).map Qak)),I x2],⟨Qe7 (v:=nilS) (rot) Less.nil,rot,trivial⟩,rfl⟩ (NLt.tup _ (nlc (nld Qag _) (nlc nll nl0)))
  ·refine wfn hc3<|Qan<|thn<|wxz ?_
   obtain ⟨k5,hk_k5,h⟩:=jko h
   refine wjn (τ:=(List Int)) (fun t=>k5 t=some r) (fun y4=>⟨mk 35 [(7,(.acc 0 3 1 ((y4:List Int).map Qak)))],[.tok]⟩) (fun y4 h=>?_) ?_
   ·subst hk_k5
    refine wxz<|Qaf ?_
    obtain rfl:=osi h
    exact fend ⟨[(.dat 1 ((y4:List Int).map Qak)),I 0],⟨Qe7 (v:=(.acc 0 3 1 ((y4:List Int).map Qak))) (rot) Less.acc,rot,trivial⟩,rfl⟩ (NLt.tup _ (nlc (nld Qag _) (nlc nll nl0)))
   ·skip
    refine wx tbk [(2,rp [(.tmp 17,(Qp3 p0))] (I ((p0.Elements.length:Int))))] ⟨alm (c:=Qac) (l:=p0.Elements) (aln rfl Tryz.underlying40 rfl),trivial⟩<|Qal ?_
    refine wmr (Mor.trans (Qpl 1 3 1 7 (by kernel_rfl) (by kernel_rfl)) (mto (n:=35) (l':=[(1,(Qrb p1)),(7,(.acc 0 3 1 ((([]):List Int).map Qak))),(17,(Qp3 p0)),(18,(I ((p0.Elements.length:Int)))),(19,I 0)]) (own':=[.tok]) [(1,(Qrb p1)),(7,(.acc 1 3 1 (([]:List Int).map Qak))),(17,(Qp3 p0)),(18,(I ((p0.Elements.length:Int)))),(19,I 0)] [1] [.tok] hφ0 (pc (rnd Qag) (pc (.rn (Qcu rfl (Qca Qag _))) (pc (rnd Qaa) (pc rwl (pc rwl pn))))) (qc .tok qn))) ?_
    refine Qcb (τ:=(List Int)×Int) (fun n t=>Qd7 N p0 p1 k5 n t.1 t.2=some r) (fun ⟨y6,y7⟩=>⟨mk 35 [(1,(Qrb p1)),(7,(Qy8 y6)),(17,(Qp3 p0)),(18,(I ((p0.Elements.length:Int)))),(19,I y7)],[.tok]⟩) (fun t h=>by rw [Qd7] at h; cases h) (fun n10 ih t h=>?_) N ([],0) h
    obtain ⟨y6,y7⟩:=t
    rw [Qd7] at h
    skip
    refine wxz<|wsq ?_
    refine bfe h (fun hc11 h=>?_) fun hc11 h=>?_
    ·refine wft hc11<|Qan<|thn<|wsq<|Qal ?_
     obtain ⟨x12,hg13,h⟩:=bno h
     obtain ⟨hi14,hj15⟩:=gsm hg13
     refine wx tbk [(1,rp [(.tmp 17,(Qp3 p0)),(.tmp 19,I y7)] (.dptr (Qac (x12)) 0))] ⟨aid rfl Tryz.underlying40 Qip rfl rfl hi14 (mgt Qac hj15) rfl,trivial⟩ ?_
     obtain ⟨x16,hg17,h⟩:=bno h
     obtain ⟨hi18,hj19⟩:=gsm hg17
     obtain ⟨x21,hf20,h⟩:=bno h
     obtain ⟨ha22,h⟩:=cko h
     refine wy1 tbk [(4,rp [(.tmp 26,(Qrb p1)),(.tmp 27,I y7)] (.dptr (Qak (x16)) 0)),(6,rp [fu 74,(.tmp 25,(Q6w x12)),(.tmp 29,I x16)] (I x21)),(7,rp [(.tmp 30,I x21)] (.dat 1 (([x21]:List Int).map Qak))),(8,⟨[(.tmp 24,(Qy8 y6)),(.tmp 31,(.dat 1 (([x21]:List Int).map Qak)))],[(0,.tok),(2,.unused)],(.acc 2 3 1 ((y6++([x21]):List Int).map Qak)),[(0,.dead),(2,.tok)],false⟩)] ⟨aid rfl Tryz.underlying27 ti3 rfl rfl hi18 (mgt Qak hj19) rfl,apc (first:=[]) (cap:=[]) (vs:=[(Q6w x12),I x16]) rfl Q0a (Qgq N x12 x16 _ hf20) rfl rfl (nlc (NLt.agg _ (nlc nll (nlc (nld Qa4 _) (nlcc (nlcc (nlc (nld Qag _) nl0)))))) (nlc nll nl0)) nll rfl,Qbw (vs:=[I x21]) rfl Tryz.underlying27 ti3 tz3 rfl (by decide) rfl (by decide) (by rfl) (by rfl) (by rfl) rfl,Qgo rfl Tryz.underlying27 te3 (Base.acc _ _) rfl rfl (by rfl) (Qjk Qak ha22) (Qjj Qak ha22 (by decide)) (Qji Qak) rfl rfl,trivial⟩<|bln<|thn<|wxz1<|thn ?_
     exact arm (mto (n:=35) [(1,(Qrb p1)),(7,(.acc 2 3 1 ((y6++([x21]):List Int).map Qak))),(17,(Qp3 p0)),(18,(I ((p0.Elements.length:Int)))),(19,(I (w64 (y7+1))))] [2] [.tok] hφ0 (pc (rnd Qag) (pc (.rn (Qcu rfl (Qca Qag _))) (pc (rnd Qaa) (pc rwl (pc rwl pn))))) (qc .tok qn)) (ih (y6++([x21]),w64 (y7+1)) h)
    ·exact wfn hc11<|Qbl<|Qay<|Qay<|Qbk rfl<|thn<|⟨(y6),h,(mto (n:=35) [(7,(Qy8 y6))] [0] [.tok] hφ0 (pc (.rn (Qcu rfl (Qca Qag _))) pn) (qc .tok qn))⟩
end Go.Proofs.YtmbhnllcfmiajaaGreat
