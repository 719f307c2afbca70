/-
  Functions of the program: what they compute, as plain functions, and that they do. No conditions.
-/
import Derived.Test.YtmbhnllcfmiajaaGreatX7
namespace Go.Proofs.YtmbhnllcfmiajaaGreat
set_option maxRecDepth 100000
set_option maxHeartbeats 4000000
open Go.RowKit
def Qcv (N:Nat) (x41:((List Int)×Int)) (x57:((List Int)×Int)) (k59:Unit→Option Bool):Nat→Int→Option Bool
  | 0,_=>none
  | n62+1,y60=>
    bif (decide (y60<(x57.1.length:Int))) then
     (getI x57.1 y60).bind fun x64=>
     (getI x41.1 y60).bind fun x68=>
     bif (decide (x64>x68)) then
      some false
     else
      Qcv N x41 x57 k59 n62 (w64 (y60+1))
    else
     k59 ()
def Qci (N:Nat) (p0:GNet) (p2:(List GStream)) (x11:(Int×Int×Int)) (k16:(List Int)→Option Bool):Nat→(List Int)→Int→Option Bool
  | 0,_,_=>none
  | n34+1,y30,y31=>
    bif (decide (y31<x11.1)) then
     Qbp (fun y36=>
       Qci N p0 p2 x11 k16 n34 y36 (w64 (y31+1))) fun k37:(List Int)→Option Bool=>
     (Qg3 N p0).bind fun x39=>
     (Qhk N x39 y30).bind fun x41=>
     (Qg3 N p0).bind fun x43=>
     (Qf1 N p2).bind fun x45=>
     (Qkm N x43 y30 x45).bind fun x47=>
     (Qe8 N p0 x47.1.State).bind fun x49=>
     bif (!x49) then
      bif (x47.2.2==0) then
       (Qfy 2000 ).bind fun x53=>
       some x53
      else
       some false
     else
      (Qg3 N p0).bind fun x55=>
      (Qhk N x55 x47.1.State).bind fun x57=>
      Qbp (fun _=>
        Qbp (fun _=>
          k37 (x47.1.State)) fun k59:Unit→Option Bool=>
        Qcv N x41 x57 k59 N 0) fun k58:Unit→Option Bool=>
      bif (x41.2 != 0) then
       some false
      else
       bif (x47.2.2 != 0) then
        some false
       else
        bif (x57.2 != 0) then
         some false
        else
         bif ((x41.1.length:Int) != (x57.1.length:Int)) then
          some false
         else
          k58 ()
    else
     k16 (y30)
def Qgt (N:Nat) (p0:GNet) (p1:(List Int)) (p2:(List GStream)) (p3:Int):Option Bool:=
  Qbp (fun _=>
    (some (w64 (1+((w64 p3).tmod 60)))).bind fun x2=>
    (Qg3 N p0).bind fun x5=>
    (Qid N p1).bind fun x7=>
    (Qf1 N p2).bind fun x9=>
    (Qk6 N x5 x7 x9 x2).bind fun x11=>
    Qbp (fun _=>
      (Qid N p1).bind fun x14=>
      Qbp (fun y15=>
        bif (x11.1==x2) then
         (Qfy 2000 ).bind fun x19=>
         some x19
        else
         (Qg3 N p0).bind fun x21=>
         (Qf1 N p2).bind fun x23=>
         (Qkm N x21 y15 x23).bind fun x25=>
         bif (x25.2.2==11) then
          bif (x25.2.1==x11.2.1) then
           (Qfy 2000 ).bind fun x29=>
           some x29
          else
           some false
         else
          some false) fun k16:(List Int)→Option Bool=>
      Qci N p0 p2 x11 k16 N x14 0) fun k12:Unit→Option Bool=>
    bif (x11.2.2 != 0) then
     some false
    else
     bif (decide (x11.1<0)) then
      some false
     else
      bif (decide (x11.1>x2)) then
       some false
      else
       bif (!((x11.1==x2)==(x11.2.1==(-1)))) then
        some false
       else
        k12 ()) fun k1:Unit→Option Bool=>
  (Qjw N p0 p2).bind fun x82=>
  bif (!x82) then
   (Qfy 2000 ).bind fun x85=>
   some x85
  else
   bif (decide ((p1.length:Int)>25)) then
    (Qfy 2000 ).bind fun x88=>
    some x88
   else
    (Qi7 N p0 p1 p2).bind fun x90=>
    bif (x90 != 0) then
     (Qfy 2000 ).bind fun x93=>
     some x93
    else
     k1 ()
def Qlu (p1:(List Int)):AV:=.dat 1 ((p1:List Int).map Qak)
def Qeo (p2:(List GStream)):AV:=.dat 4 ((p2:List GStream).map Qab)
def Zd7 (p0:GNet):AV:=.dat 7 ((p0.Elements:List GElement).map Qac)
def Qhf (p0:GNet):Slot:=.own 2 [[(.dat 5 ((p0.Table:List GRow).map Qaw)),(Zd7 p0)]]
def Qhe (p0:GNet):AV:=.agg [(.dat 5 ((p0.Table:List GRow).map Qaw)),(Zd7 p0)]
def Q6r (x5:GNet):AV:=.agg [(.dat 5 ((x5.Table:List GRow).map Qaw)),(.dat 7 ((x5.Elements:List GElement).map Qac))]
def Q6q (x7:(List Int)):AV:=.dat 1 ((x7:List Int).map Qak)
def Qy7 (x9:(List GStream)):AV:=.dat 4 ((x9:List GStream).map Qab)
def Qy6 (x21:GNet):AV:=.agg [(.dat 5 ((x21.Table:List GRow).map Qaw)),(.dat 7 ((x21.Elements:List GElement).map Qac))]
def Qy5 (x23:(List GStream)):AV:=.dat 4 ((x23:List GStream).map Qab)
def Qmr (y30:(List Int)):AV:=.dat 1 ((y30:List Int).map Qak)
def Qus (x39:GNet):AV:=.agg [(.dat 5 ((x39.Table:List GRow).map Qaw)),(.dat 7 ((x39.Elements:List GElement).map Qac))]
def Qjr (x41:((List Int)×Int)):AV:=.dat 1 ((x41.1:List Int).map Qak)
def Qur (x43:GNet):AV:=.agg [(.dat 5 ((x43.Table:List GRow).map Qaw)),(.dat 7 ((x43.Elements:List GElement).map Qac))]
def Quq (x45:(List GStream)):AV:=.dat 4 ((x45:List GStream).map Qab)
def Qlf (x47:(GTick×Int×Int)):AV:=.dat 1 ((x47.1.State:List Int).map Qak)
def Qup (x55:GNet):AV:=.agg [(.dat 5 ((x55.Table:List GRow).map Qaw)),(.dat 7 ((x55.Elements:List GElement).map Qac))]
def Qih (x57:((List Int)×Int)):AV:=.dat 1 ((x57.1:List Int).map Qak)
def Qkh (x47:(GTick×Int×Int)):Slot:=.own 3 [[(.dat 1 ((x47.1.Out:List (List GStream)).map Qaj)),(.dat 4 ((x47.1.Lost:List GLost).map Qa7)),(Qlf x47)]]
theorem Qmo (N:Nat) (p0:GNet) (p1:(List Int)) (p2:(List GStream)) (p3:Int) (r:Bool) (h:Qgt N p0 p1 p2 p3=some r):Spec Tryz.prog 7 [(.agg (Qhn p0)),(.dat 1 (p1.map Qak)),(.dat 4 (p2.map Qab)),(K .u8 p3)] [] (B r) []:=by
  refine Qah Tryz.func7 rfl 0 (nle rfl) (fun X φ0 w0 hφ0 hd0=>?_)
  unfold Qgt at h
  refine wxz ?_
  obtain ⟨k1,hk_k1,h⟩:=jko h
  refine wjn (τ:=Unit) (fun t=>k1 t=some r) (fun _=>⟨mk 178 [(1,(Qlu p1)),(2,(Qeo p2)),(3,(K .u8 (p3))),(4,.ref 0 2 0 0)],[(Qhf p0)]⟩) (fun t h=>?_) ?_
  ·subst hk_k1
   obtain ⟨x2,hl3,h⟩:=bno h
   refine wx tbk [(1,rp [(.tmp 43,(K .u8 (p3)))] (I (w64 p3))),(2,rp [(.tmp 44,I (w64 p3)),ci 60] (I ((w64 p3).tmod 60))),(4,rp [(.tmp 46,(I (w64 (1+((w64 p3).tmod 60)))))] (I x2))] ⟨acv rfl (by rw [Tryz.underlying5]; rfl) Tryz.underlying3,Qyc rfl (by decide),Qjh hl3 (aas rfl),trivial⟩ ?_
   obtain ⟨x5,hf4,h⟩:=bno h
   obtain ⟨x7,hf6,h⟩:=bno h
   obtain ⟨x9,hf8,h⟩:=bno h
   obtain ⟨x11,hf10,h⟩:=bno h
   refine wx tbk [(1,rp [fu 17,(.tmp 48,(Qhe p0))] (Q6r x5)),(3,rp [fu 18,(.tmp 50,(Qlu p1))] (Q6q x7)),(5,rp [fu 19,(.tmp 52,(Qeo p2))] (Qy7 x9)),(7,rp [fu 24,(.tmp 49,(Q6r x5)),(.tmp 51,(Q6q x7)),(.tmp 53,(Qy7 x9)),(.tmp 54,I x2)] (.tup [I x11.1,I x11.2.1,I x11.2.2]))] ⟨apc (first:=[]) (cap:=[]) (vs:=[(Qhe p0)]) rfl Qsa (Qh6 N p0 _ hf4) rfl rfl (nlc (NLt.agg _ (nlc (nld Qai _) (nlc (nld Qaa _) nl0))) nl0) (NLt.agg _ (nlc (nld Qai _) (nlc (nld Qaa _) nl0))) rfl,apc (first:=[]) (cap:=[]) (vs:=[(Qlu p1)]) rfl Q8w (Qnf N p1 _ hf6) rfl rfl (nlc (nld Qag _) nl0) (nld Qag _) rfl,apc (first:=[]) (cap:=[]) (vs:=[(Qeo p2)]) rfl Q0d (Qie N p2 _ hf8) rfl rfl (nlc (nld Qad _) nl0) (nld Qad _) rfl,apc (first:=[]) (cap:=[]) (vs:=[(Q6r x5),(Q6q x7),(Qy7 x9),I x2]) rfl Zig (Qva N x5 x7 x9 x2 _ hf10) rfl rfl (nlc (NLt.agg _ (nlc (nld Qai _) (nlc (nld Qaa _) nl0))) (nlc (nld Qag _) (nlc (nld Qad _) (nlc nll nl0)))) (NLt.tup _ (nlcc (nlc nll nl0))) rfl,trivial⟩ ?_
   obtain ⟨k12,hk_k12,h⟩:=jko h
   refine wjn (τ:=Unit) (fun t=>k12 t=some r) (fun _=>⟨mk 178 [(1,(Qlu p1)),(2,(Qeo p2)),(4,.ref 0 2 0 0),(9,I x2),(10,I x11.1),(11,I x11.2.1)],[(Qhf p0)]⟩) (fun t h=>?_) ?_
   ·subst hk_k12
    obtain ⟨x14,hf13,h⟩:=bno h
    refine wx tbk [(1,rp [fu 18,(.tmp 78,(Qlu p1))] (.dat 1 ((x14:List Int).map Qak)))] ⟨apc (first:=[]) (cap:=[]) (vs:=[(Qlu p1)]) rfl Q8w (Qnf N p1 _ hf13) rfl rfl (nlc (nld Qag _) nl0) (nld Qag _) rfl,trivial⟩ ?_
    obtain ⟨k16,hk_k16,h⟩:=jko h
    refine wjn (τ:=(List Int)) (fun t=>k16 t=some r) (fun y15=>⟨mk 178 [(2,(Qeo p2)),(4,.ref 0 2 0 0),(9,I x2),(10,I x11.1),(11,I x11.2.1),(13,(.dat 1 ((y15:List Int).map Qak)))],[(Qhf p0)]⟩) (fun y15 h=>?_) ?_
    ·subst hk_k16
     refine wsq<|wxz ?_
     refine bfe h (fun hc17 h=>?_) fun hc17 h=>?_
     ·refine wft hc17 ?_
      obtain ⟨x19,hf18,h⟩:=bno h
      refine wx tbk [(0,rp [fu 15] (B x19))] ⟨apc (first:=[]) (cap:=[]) (vs:=[]) rfl Qpq (Qgf 2000  _ hf18) rfl rfl nl0 nll rfl,trivial⟩<|Qaf<|Qae ?_
      obtain rfl:=osi h
      exact fend ⟨[B x19],⟨rot,trivial⟩,rfl⟩ nll
     ·refine wfn hc17<|Qan<|thn ?_
      obtain ⟨x21,hf20,h⟩:=bno h
      obtain ⟨x23,hf22,h⟩:=bno h
      obtain ⟨x25,hf24,h⟩:=bno h
      refine wx tbk [(1,rp [fu 17,(.tmp 159,(Qhe p0))] (Qy6 x21)),(4,rp [fu 19,(.tmp 162,(Qeo p2))] (Qy5 x23)),(5,rp [fu 16,(.tmp 160,(Qy6 x21)),(.tmp 161,(.dat 1 ((y15:List Int).map Qak))),(.tmp 163,(Qy5 x23))] (.tup [(.agg [(.dat 1 ((x25.1.Out:List (List GStream)).map Qaj)),(.dat 4 ((x25.1.Lost:List GLost).map Qa7)),(.dat 1 ((x25.1.State:List Int).map Qak))]),I x25.2.1,I x25.2.2]))] ⟨apc (first:=[]) (cap:=[]) (vs:=[(Qhe p0)]) rfl Qsa (Qh6 N p0 _ hf20) rfl rfl (nlc (NLt.agg _ (nlc (nld Qai _) (nlc (nld Qaa _) nl0))) nl0) (NLt.agg _ (nlc (nld Qai _) (nlc (nld Qaa _) nl0))) rfl,apc (first:=[]) (cap:=[]) (vs:=[(Qeo p2)]) rfl Q0d (Qie N p2 _ hf22) rfl rfl (nlc (nld Qad _) nl0) (nld Qad _) rfl,apc (first:=[]) (cap:=[]) (vs:=[(Qy6 x21),(.dat 1 ((y15:List Int).map Qak)),(Qy5 x23)]) rfl Q0e (Qnu N x21 y15 x23 _ hf24) rfl rfl (nlc (NLt.agg _ (nlc (nld Qai _) (nlc (nld Qaa _) nl0))) (nlc (nld Qag _) (nlc (nld Qad _) nl0))) (NLt.tup _ (nlc (NLt.agg _ (nlc (nld Qap _) (nlc (nld Qa1 _) (nlc (nld Qag _) nl0)))) (nlcc nl0))) rfl,trivial⟩ ?_
      refine bfe h (fun hb26 h=>?_) fun hb26 h=>?_
      ·refine bfe h (fun hb27 h=>?_) fun hb27 h=>?_
       ·obtain ⟨x29,hf28,h⟩:=bno h
        refine wx tbk [(2,rp [(.tmp 169,(B ((x25.2.2==11))))] (B true)),(7,rp [(.tmp 174,(B ((x25.2.1==x11.2.1))))] (B true)),(8,rp [(.tmp 175,B true),fu 15] (B x29))] ⟨asb hb26 (amv rfl),asb hb27 (amv rfl),ag_ (apc (first:=[]) (cap:=[]) (vs:=[]) rfl Qpq (Qgf 2000  _ hf28) rfl rfl nl0 nll rfl),trivial⟩<|Qaf ?_
        obtain rfl:=osi h
        exact fend ⟨[B x29],⟨rot,trivial⟩,rfl⟩ nll
       ·refine wx tbk [(2,rp [(.tmp 169,(B ((x25.2.2==11))))] (B true)),(7,rp [(.tmp 174,(B ((x25.2.1==x11.2.1))))] (B false))] ⟨asb hb26 (amv rfl),asb hb27 (amv rfl),trivial⟩<|Qaf ?_
        obtain rfl:=osi h
        exact fend ⟨[B false],⟨rot,trivial⟩,rfl⟩ nll
      ·refine wx tbk [(2,rp [(.tmp 169,(B ((x25.2.2==11))))] (B false))] ⟨asb hb26 (amv rfl),trivial⟩<|Qaf ?_
       obtain rfl:=osi h
       exact fend ⟨[B false],⟨rot,trivial⟩,rfl⟩ nll
    ·skip
     refine wxz<|Qal ?_
     refine wmr (mto (n:=178) (l':=[(2,(Qeo p2)),(4,.ref 0 2 0 0),(9,I x2),(10,I x11.1),(11,I x11.2.1),(13,(.dat 1 ((x14:List Int).map Qak))),(14,I 0)]) (own':=[(Qhf p0)]) [(2,(Qeo p2)),(4,.ref 0 2 0 0),(9,I x2),(10,I x11.1),(11,I x11.2.1),(13,(.dat 1 ((x14:List Int).map Qak))),(14,I 0)] [0] [(Qhf p0)] hφ0 (pc (rnd Qad) (pc (.rn (rqr rfl)) (pc rwl (pc rwl (pc rwl (pc (rnd Qag) (pc rwl pn))))))) (qc (spb (lc (rnd Qai) (lc (rnd Qaa) ln))) qn)) ?_
     refine Qcb (τ:=(List Int)×Int) (fun n t=>Qci N p0 p2 x11 k16 n t.1 t.2=some r) (fun ⟨y30,y31⟩=>⟨mk 178 [(2,(Qeo p2)),(4,.ref 0 2 0 0),(9,I x2),(10,I x11.1),(11,I x11.2.1),(13,(Qmr y30)),(14,I y31)],[(Qhf p0)]⟩) (fun t h=>by rw [Qci] at h; cases h) (fun n34 ih t h=>?_) N (x14,0) h
     obtain ⟨y30,y31⟩:=t
     rw [Qci] at h
     skip
     refine wsq<|wxz ?_
     refine bfe h (fun hc35 h=>?_) fun hc35 h=>?_
     ·refine wft hc35<|Qan<|thn ?_
      obtain ⟨k37,hk_k37,h⟩:=jko h
      refine wjn (τ:=(List Int)) (fun t=>k37 t=some r) (fun y36=>⟨mk 178 [(2,(Qeo p2)),(4,.ref 0 2 0 0),(9,I x2),(10,I x11.1),(11,I x11.2.1),(13,(.dat 1 ((y36:List Int).map Qak))),(14,I y31)],[(Qhf p0)]⟩) (fun y36 h=>?_) ?_
      ·subst hk_k37
       exact wxz1<|thn<|arm (mto (n:=178) [(2,(Qeo p2)),(4,.ref 0 2 0 0),(9,I x2),(10,I x11.1),(11,I x11.2.1),(13,(.dat 1 ((y36:List Int).map Qak))),(14,(I (w64 (y31+1))))] [0] [(Qhf p0)] hφ0 (pc (rnd Qad) (pc (.rn (rqr rfl)) (pc rwl (pc rwl (pc rwl (pc (rnd Qag) (pc rwl pn))))))) (qc (spb (lc (rnd Qai) (lc (rnd Qaa) ln))) qn)) (ih (y36,w64 (y31+1)) h)
      ·skip
       refine Qal ?_
       obtain ⟨x39,hf38,h⟩:=bno h
       obtain ⟨x41,hf40,h⟩:=bno h
       refine wx tbk [(1,rp [fu 17,(.tmp 86,(Qhe p0))] (Qus x39)),(3,rp [fu 32,(.tmp 87,(Qus x39)),(.tmp 88,(Qmr y30))] (.tup [(Qjr x41),I x41.2]))] ⟨apc (first:=[]) (cap:=[]) (vs:=[(Qhe p0)]) rfl Qsa (Qh6 N p0 _ hf38) rfl rfl (nlc (NLt.agg _ (nlc (nld Qai _) (nlc (nld Qaa _) nl0))) nl0) (NLt.agg _ (nlc (nld Qai _) (nlc (nld Qaa _) nl0))) rfl,apc (first:=[]) (cap:=[]) (vs:=[(Qus x39),(Qmr y30)]) rfl Q8t (Qmi N x39 y30 _ hf40) rfl rfl (nlc (NLt.agg _ (nlc (nld Qai _) (nlc (nld Qaa _) nl0))) (nlc (nld Qag _) nl0)) (NLt.tup _ (nlc (nld Qag _) (nlc nll nl0))) rfl,trivial⟩ ?_
       obtain ⟨x43,hf42,h⟩:=bno h
       obtain ⟨x45,hf44,h⟩:=bno h
       obtain ⟨x47,hf46,h⟩:=bno h
       refine wx tbk [(1,rp [fu 17,(.tmp 93,(Qhe p0))] (Qur x43)),(4,rp [fu 19,(.tmp 96,(Qeo p2))] (Quq x45)),(5,rp [fu 16,(.tmp 94,(Qur x43)),(.tmp 95,(Qmr y30)),(.tmp 97,(Quq x45))] (.tup [(.agg [(.dat 1 ((x47.1.Out:List (List GStream)).map Qaj)),(.dat 4 ((x47.1.Lost:List GLost).map Qa7)),(Qlf x47)]),I x47.2.1,I x47.2.2]))] ⟨apc (first:=[]) (cap:=[]) (vs:=[(Qhe p0)]) rfl Qsa (Qh6 N p0 _ hf42) rfl rfl (nlc (NLt.agg _ (nlc (nld Qai _) (nlc (nld Qaa _) nl0))) nl0) (NLt.agg _ (nlc (nld Qai _) (nlc (nld Qaa _) nl0))) rfl,apc (first:=[]) (cap:=[]) (vs:=[(Qeo p2)]) rfl Q0d (Qie N p2 _ hf44) rfl rfl (nlc (nld Qad _) nl0) (nld Qad _) rfl,apc (first:=[]) (cap:=[]) (vs:=[(Qur x43),(Qmr y30),(Quq x45)]) rfl Q0e (Qnu N x43 y30 x45 _ hf46) rfl rfl (nlc (NLt.agg _ (nlc (nld Qai _) (nlc (nld Qaa _) nl0))) (nlc (nld Qag _) (nlc (nld Qad _) nl0))) (NLt.tup _ (nlc (NLt.agg _ (nlc (nld Qap _) (nlc (nld Qa1 _) (nlc (nld Qag _) nl0)))) (nlcc nl0))) rfl,trivial⟩<|wsq ?_
       obtain ⟨x49,hf48,h⟩:=bno h
       refine wx tbk [(3,rp [fu 33,(.tmp 102,(Qhe p0)),(.tmp 104,(Qlf x47))] (B x49))] ⟨apc (first:=[]) (cap:=[]) (vs:=[(Qhe p0),(Qlf x47)]) rfl Q8s (Qjp N p0 x47.1.State _ hf48) rfl rfl (nlc (NLt.agg _ (nlc (nld Qai _) (nlc (nld Qaa _) nl0))) (nlc (nld Qag _) nl0)) nll rfl,trivial⟩ ?_
       refine bfe h (fun hc50 h=>?_) fun hc50 h=>?_
       ·refine wft hc50 ?_
        refine bfe h (fun hb51 h=>?_) fun hb51 h=>?_
        ·obtain ⟨x53,hf52,h⟩:=bno h
         refine wx tbk [(2,rp [(.tmp 108,(B ((x47.2.2==0))))] (B true)),(3,rp [(.tmp 109,B true),fu 15] (B x53))] ⟨asb hb51 (amv rfl),ag_ (apc (first:=[]) (cap:=[]) (vs:=[]) rfl Qpq (Qgf 2000  _ hf52) rfl rfl nl0 nll rfl),trivial⟩<|Qaf<|Qae<|Qam<|Qae<|Qae<|Qam<|Qae ?_
         obtain rfl:=osi h
         exact fend ⟨[B x53],⟨rot,trivial⟩,rfl⟩ nll
        ·refine wx tbk [(2,rp [(.tmp 108,(B ((x47.2.2==0))))] (B false))] ⟨asb hb51 (amv rfl),trivial⟩<|Qaf<|Qae<|Qam<|Qae<|Qae<|Qam<|Qae ?_
         obtain rfl:=osi h
         exact fend ⟨[B false],⟨rot,trivial⟩,rfl⟩ nll
       ·refine wfn hc50<|Qan<|thn ?_
        obtain ⟨x55,hf54,h⟩:=bno h
        obtain ⟨x57,hf56,h⟩:=bno h
        refine wxd tbk [(1,rp [fu 17,(.tmp 113,(Qhe p0))] (Qup x55)),(4,rp [fu 32,(.tmp 114,(Qup x55)),(.tmp 116,(Qlf x47))] (.tup [(Qih x57),I x57.2]))] ⟨apc (first:=[]) (cap:=[]) (vs:=[(Qhe p0)]) rfl Qsa (Qh6 N p0 _ hf54) rfl rfl (nlc (NLt.agg _ (nlc (nld Qai _) (nlc (nld Qaa _) nl0))) nl0) (NLt.agg _ (nlc (nld Qai _) (nlc (nld Qaa _) nl0))) rfl,apc (first:=[]) (cap:=[]) (vs:=[(Qup x55),(Qlf x47)]) rfl Q8t (Qmi N x55 x47.1.State _ hf56) rfl rfl (nlc (NLt.agg _ (nlc (nld Qai _) (nlc (nld Qaa _) nl0))) (nlc (nld Qag _) nl0)) (NLt.tup _ (nlc (nld Qag _) (nlc nll nl0))) rfl,trivial⟩ ?_
        obtain ⟨k58,hk_k58,h⟩:=jko h
        refine wjn (τ:=Unit) (fun t=>k58 t=some r) (fun _=>⟨mk 178 [(2,(Qeo p2)),(4,.ref 0 2 0 0),(9,I x2),(10,I x11.1),(11,I x11.2.1),(14,I y31),(15,(Qjr x41)),(17,.ref 1 3 0 0),(20,(Qih x57))],[(Qhf p0),(Qkh x47)]⟩) (fun t h=>?_) ?_
        ·subst hk_k58
         obtain ⟨k59,hk_k59,h⟩:=jko h
         refine wjn (τ:=Unit) (fun t=>k59 t=some r) (fun _=>⟨mk 178 [(2,(Qeo p2)),(4,.ref 0 2 0 0),(9,I x2),(10,I x11.1),(11,I x11.2.1),(14,I y31),(17,.ref 1 3 0 0)],[(Qhf p0),(Qkh x47)]⟩) (fun t h=>?_) ?_
         ·subst hk_k59
          exact wxz1<|bln<|thn<|⟨(x47.1.State),h,(mto (n:=178) [(2,(Qeo p2)),(4,.ref 0 2 0 0),(9,I x2),(10,I x11.1),(11,I x11.2.1),(13,(Qlf x47)),(14,I y31)] [0] [(Qhf p0)] hφ0 (pc (rnd Qad) (pc (.rn (rqr rfl)) (pc rwl (pc rwl (pc rwl (pc (rnd Qag) (pc rwl pn))))))) (qc (spb (lc (rnd Qai) (lc (rnd Qaa) ln))) qn))⟩
         ·skip
          refine wxz<|Qal ?_
          refine wmr (mto (n:=178) (l':=[(2,(Qeo p2)),(4,.ref 0 2 0 0),(9,I x2),(10,I x11.1),(11,I x11.2.1),(14,I y31),(15,(Qjr x41)),(17,.ref 1 3 0 0),(20,(Qih x57)),(22,I 0)]) (own':=[(Qhf p0),(Qkh x47)]) [(2,(Qeo p2)),(4,.ref 0 2 0 0),(9,I x2),(10,I x11.1),(11,I x11.2.1),(14,I y31),(15,(Qjr x41)),(17,.ref 1 3 0 0),(20,(Qih x57)),(22,I 0)] [0,1] [(Qhf p0),(Qkh x47)] hφ0 (pc (rnd Qad) (pc (.rn (rqr rfl)) (pc rwl (pc rwl (pc rwl (pc rwl (pc (rnd Qag) (pc (.rn (rqr rfl)) (pc (rnd Qag) (pc rwl pn)))))))))) (qc (spb (lc (rnd Qai) (lc (rnd Qaa) ln))) (qc (spb (lc (rnd Qap) (lc (rnd Qa1) (lc (rnd Qag) ln)))) qn))) ?_
          refine Qcb (τ:=Int) (fun n t=>Qcv N x41 x57 k59 n t=some r) (fun y60=>⟨mk 178 [(2,(Qeo p2)),(4,.ref 0 2 0 0),(9,I x2),(10,I x11.1),(11,I x11.2.1),(14,I y31),(15,(Qjr x41)),(17,.ref 1 3 0 0),(20,(Qih x57)),(22,I y60)],[(Qhf p0),(Qkh x47)]⟩) (fun t h=>by rw [Qcv] at h; cases h) (fun n62 ih y60 h=>?_) N (0) h
          rw [Qcv] at h
          skip
          refine wsq<|wx tbk [(2,rp [(.tmp 138,(Qih x57))] (I ((x57.1.length:Int))))] ⟨alm (c:=Qak) (l:=x57.1) (aln rfl Tryz.underlying27 rfl),trivial⟩ ?_
          refine bfe h (fun hc63 h=>?_) fun hc63 h=>?_
          ·refine wft hc63<|Qan<|thn<|wsq<|Qal ?_
           obtain ⟨x64,hg65,h⟩:=bno h
           obtain ⟨hi66,hj67⟩:=gsm hg65
           obtain ⟨x68,hg69,h⟩:=bno h
           obtain ⟨hi70,hj71⟩:=gsm hg69
           refine wxd tbk [(2,rp [(.tmp 143,(Qih x57)),(.tmp 144,I y60)] (.dptr (Qak (x64)) 0)),(6,rp [(.tmp 147,(Qjr x41)),(.tmp 148,I y60)] (.dptr (Qak (x68)) 0))] ⟨aid rfl Tryz.underlying27 ti3 rfl rfl hi66 (mgt Qak hj67) rfl,aid rfl Tryz.underlying27 ti3 rfl rfl hi70 (mgt Qak hj71) rfl,trivial⟩ ?_
           refine bfe h (fun hc72 h=>?_) fun hc72 h=>?_
           ·refine wft hc72<|wxz<|Qaf<|Qam<|Qae<|Qae<|Qam<|Qae<|Qam<|Qae ?_
            refine Qae<|Qam<|Qae ?_
            obtain rfl:=osi h
            exact fend ⟨[B false],⟨rot,trivial⟩,rfl⟩ nll
           ·exact wfn hc72<|Qan<|bln<|thn<|wxz1<|thn<|arm (mto (n:=178) [(2,(Qeo p2)),(4,.ref 0 2 0 0),(9,I x2),(10,I x11.1),(11,I x11.2.1),(14,I y31),(15,(Qjr x41)),(17,.ref 1 3 0 0),(20,(Qih x57)),(22,(I (w64 (y60+1))))] [0,1] [(Qhf p0),(Qkh x47)] hφ0 (pc (rnd Qad) (pc (.rn (rqr rfl)) (pc rwl (pc rwl (pc rwl (pc rwl (pc (rnd Qag) (pc (.rn (rqr rfl)) (pc (rnd Qag) (pc rwl pn)))))))))) (qc (spb (lc (rnd Qai) (lc (rnd Qaa) ln))) (qc (spb (lc (rnd Qap) (lc (rnd Qa1) (lc (rnd Qag) ln)))) qn))) (ih (w64 (y60+1)) h)
          ·exact wfn hc63<|Qbl<|Qay<|Qay<|Qbk rfl<|thn<|⟨(),h,(mto (n:=178) [(2,(Qeo p2)),(4,.ref 0 2 0 0),(9,I x2),(10,I x11.1),(11,I x11.2.1),(14,I y31),(17,.ref 1 3 0 0)] [0,1] [(Qhf p0),(Qkh x47)] hφ0 (pc (rnd Qad) (pc (.rn (rqr rfl)) (pc rwl (pc rwl (pc rwl (pc rwl (pc (.rn (rqr rfl)) pn))))))) (qc (spb (lc (rnd Qai) (lc (rnd Qaa) ln))) (qc (spb (lc (rnd Qap) (lc (rnd Qa1) (lc (rnd Qag) ln)))) qn)))⟩
        ·skip
         refine bfe h (fun hb73 h=>?_) fun hb73 h=>?_
         ·refine wx tbk [(2,rp [(.tmp 121,(B ((x41.2 != 0))))] (B true))] ⟨asb hb73 (amv rfl),trivial⟩<|wtr<|wxz<|Qaf<|Qae<|Qam<|Qae<|Qae<|Qam<|Qae ?_
          obtain rfl:=osi h
          exact fend ⟨[B false],⟨rot,trivial⟩,rfl⟩ nll
         ·refine bfe h (fun hb74 h=>?_) fun hb74 h=>?_
          ·refine wx tbk [(2,rp [(.tmp 121,(B ((x41.2 != 0))))] (B false)),(6,rp [(.tmp 125,(B ((x47.2.2 != 0))))] (B true))] ⟨asb hb73 (amv rfl),asb hb74 (amv rfl),trivial⟩<|wtr<|wxz<|Qaf<|Qae<|Qam<|Qae<|Qae<|Qam<|Qae ?_
           obtain rfl:=osi h
           exact fend ⟨[B false],⟨rot,trivial⟩,rfl⟩ nll
          ·refine bfe h (fun hb75 h=>?_) fun hb75 h=>?_
           ·refine wx tbk [(2,rp [(.tmp 121,(B ((x41.2 != 0))))] (B false)),(6,rp [(.tmp 125,(B ((x47.2.2 != 0))))] (B false)),(10,rp [(.tmp 129,(B ((x57.2 != 0))))] (B true))] ⟨asb hb73 (amv rfl),asb hb74 (amv rfl),asb hb75 (amv rfl),trivial⟩<|wtr<|wxz<|Qaf<|Qae<|Qam<|Qae<|Qae<|Qam<|Qae ?_
            obtain rfl:=osi h
            exact fend ⟨[B false],⟨rot,trivial⟩,rfl⟩ nll
           ·refine wx tbk [(2,rp [(.tmp 121,(B ((x41.2 != 0))))] (B false)),(6,rp [(.tmp 125,(B ((x47.2.2 != 0))))] (B false)),(10,rp [(.tmp 129,(B ((x57.2 != 0))))] (B false)),(12,rp [(.tmp 130,B false),(.tmp 131,(Qjr x41))] (I ((x41.1.length:Int)))),(14,rp [(.tmp 130,B false),(.tmp 133,(Qih x57))] (I ((x57.1.length:Int))))] ⟨asb hb73 (amv rfl),asb hb74 (amv rfl),asb hb75 (amv rfl),ag_ (alm (c:=Qak) (l:=x41.1) (aln rfl Tryz.underlying27 rfl)),ag_ (alm (c:=Qak) (l:=x57.1) (aln rfl Tryz.underlying27 rfl)),trivial⟩ ?_
            refine bfe h (fun hc76 h=>?_) fun hc76 h=>?_
            ·refine wft hc76<|wxz<|Qaf<|Qae<|Qam<|Qae<|Qae<|Qam<|Qae ?_
             obtain rfl:=osi h
             exact fend ⟨[B false],⟨rot,trivial⟩,rfl⟩ nll
            ·exact wfn hc76<|Qan<|thn<|⟨(),h,(mto (n:=178) [(2,(Qeo p2)),(4,.ref 0 2 0 0),(9,I x2),(10,I x11.1),(11,I x11.2.1),(14,I y31),(15,(Qjr x41)),(17,.ref 1 3 0 0),(20,(Qih x57))] [0,1] [(Qhf p0),(Qkh x47)] hφ0 (pc (rnd Qad) (pc (.rn (rqr rfl)) (pc rwl (pc rwl (pc rwl (pc rwl (pc (rnd Qag) (pc (.rn (rqr rfl)) (pc (rnd Qag) pn))))))))) (qc (spb (lc (rnd Qai) (lc (rnd Qaa) ln))) (qc (spb (lc (rnd Qap) (lc (rnd Qa1) (lc (rnd Qag) ln)))) qn)))⟩
     ·exact wfn hc35<|Qbl<|Qay<|Qay<|Qbk rfl<|thn<|⟨(y30),h,(mto (n:=178) [(2,(Qeo p2)),(4,.ref 0 2 0 0),(9,I x2),(10,I x11.1),(11,I x11.2.1),(13,(Qmr y30))] [0] [(Qhf p0)] hφ0 (pc (rnd Qad) (pc (.rn (rqr rfl)) (pc rwl (pc rwl (pc rwl (pc (rnd Qag) pn)))))) (qc (spb (lc (rnd Qai) (lc (rnd Qaa) ln))) qn))⟩
   ·skip
    refine bfe h (fun hb77 h=>?_) fun hb77 h=>?_
    ·refine wx tbk [(2,rp [(.tmp 60,(B ((x11.2.2 != 0))))] (B true))] ⟨asb hb77 (amv rfl),trivial⟩<|wtr<|wxz<|Qaf<|Qae ?_
     obtain rfl:=osi h
     exact fend ⟨[B false],⟨rot,trivial⟩,rfl⟩ nll
    ·refine bfe h (fun hb78 h=>?_) fun hb78 h=>?_
     ·refine wx tbk [(2,rp [(.tmp 60,(B ((x11.2.2 != 0))))] (B false)),(6,rp [(.tmp 64,(B ((decide (x11.1<0)))))] (B true))] ⟨asb hb77 (amv rfl),asb hb78 (amv rfl),trivial⟩<|wtr<|wxz<|Qaf<|Qae ?_
      obtain rfl:=osi h
      exact fend ⟨[B false],⟨rot,trivial⟩,rfl⟩ nll
     ·refine bfe h (fun hb79 h=>?_) fun hb79 h=>?_
      ·refine wx tbk [(2,rp [(.tmp 60,(B ((x11.2.2 != 0))))] (B false)),(6,rp [(.tmp 64,(B ((decide (x11.1<0)))))] (B false)),(11,rp [(.tmp 69,(B ((decide (x11.1>x2)))))] (B true))] ⟨asb hb77 (amv rfl),asb hb78 (amv rfl),asb hb79 (amv rfl),trivial⟩<|wtr<|wxz<|Qaf<|Qae ?_
       obtain rfl:=osi h
       exact fend ⟨[B false],⟨rot,trivial⟩,rfl⟩ nll
      ·refine wx tbk [(2,rp [(.tmp 60,(B ((x11.2.2 != 0))))] (B false)),(6,rp [(.tmp 64,(B ((decide (x11.1<0)))))] (B false)),(11,rp [(.tmp 69,(B ((decide (x11.1>x2)))))] (B false)),(17,rp [(.tmp 70,B false),(.tmp 73,(B ((x11.1==x2)))),(.tmp 75,(B ((x11.2.1==(-1)))))] (B ((!((x11.1==x2)==(x11.2.1==(-1)))))))] ⟨asb hb77 (amv rfl),asb hb78 (amv rfl),asb hb79 (amv rfl),ag_ (Q9h rfl Tryz.underlying4),trivial⟩ ?_
       refine bfe h (fun hc80 h=>?_) fun hc80 h=>?_
       ·refine wft hc80<|wxz<|Qaf<|Qae ?_
        obtain rfl:=osi h
        exact fend ⟨[B false],⟨rot,trivial⟩,rfl⟩ nll
       ·exact wfn hc80<|Qan<|thn<|⟨(),h,(mto (n:=178) [(1,(Qlu p1)),(2,(Qeo p2)),(4,.ref 0 2 0 0),(9,I x2),(10,I x11.1),(11,I x11.2.1)] [0] [(Qhf p0)] hφ0 (pc (rnd Qag) (pc (rnd Qad) (pc (.rn (rqr rfl)) (pc rwl (pc rwl (pc rwl pn)))))) (qc (spb (lc (rnd Qai) (lc (rnd Qaa) ln))) qn))⟩
  ·skip
   obtain ⟨x82,hf81,h⟩:=bno h
   refine bfe h (fun hb83 h=>?_) fun hb83 h=>?_
   ·refine wx tbk [(2,rp [fu 14,(.tmp 26,(Qhe p0)),(.tmp 27,(Qeo p2))] (B x82)),(4,rp [(.tmp 29,(B ((!x82))))] (B true))] ⟨apc (first:=[]) (cap:=[]) (vs:=[(Qhe p0),(Qeo p2)]) rfl Q0f (Qlo N p0 p2 _ hf81) rfl rfl (nlc (NLt.agg _ (nlc (nld Qai _) (nlc (nld Qaa _) nl0))) (nlc (nld Qad _) nl0)) nll rfl,asb hb83 (amv rfl),trivial⟩<|wtr ?_
    obtain ⟨x85,hf84,h⟩:=bno h
    refine wx tbk [(0,rp [fu 15] (B x85))] ⟨apc (first:=[]) (cap:=[]) (vs:=[]) rfl Qpq (Qgf 2000  _ hf84) rfl rfl nl0 nll rfl,trivial⟩<|Qaf<|Qae ?_
    obtain rfl:=osi h
    exact fend ⟨[B x85],⟨rot,trivial⟩,rfl⟩ nll
   ·refine bfe h (fun hb86 h=>?_) fun hb86 h=>?_
    ·refine wx tbk [(2,rp [fu 14,(.tmp 26,(Qhe p0)),(.tmp 27,(Qeo p2))] (B x82)),(4,rp [(.tmp 29,(B ((!x82))))] (B false)),(6,rp [(.tmp 30,B false),(.tmp 31,(Qlu p1))] (I ((p1.length:Int)))),(9,rp [(.tmp 34,(B ((decide ((p1.length:Int)>25)))))] (B true))] ⟨apc (first:=[]) (cap:=[]) (vs:=[(Qhe p0),(Qeo p2)]) rfl Q0f (Qlo N p0 p2 _ hf81) rfl rfl (nlc (NLt.agg _ (nlc (nld Qai _) (nlc (nld Qaa _) nl0))) (nlc (nld Qad _) nl0)) nll rfl,asb hb83 (amv rfl),ag_ (alm (c:=Qak) (l:=p1) (aln rfl Tryz.underlying27 rfl)),asb hb86 (amv rfl),trivial⟩<|wtr ?_
     obtain ⟨x88,hf87,h⟩:=bno h
     refine wx tbk [(0,rp [fu 15] (B x88))] ⟨apc (first:=[]) (cap:=[]) (vs:=[]) rfl Qpq (Qgf 2000  _ hf87) rfl rfl nl0 nll rfl,trivial⟩<|Qaf<|Qae ?_
     obtain rfl:=osi h
     exact fend ⟨[B x88],⟨rot,trivial⟩,rfl⟩ nll
    ·obtain ⟨x90,hf89,h⟩:=bno h
     refine wx tbk [(2,rp [fu 14,(.tmp 26,(Qhe p0)),(.tmp 27,(Qeo p2))] (B x82)),(4,rp [(.tmp 29,(B ((!x82))))] (B false)),(6,rp [(.tmp 30,B false),(.tmp 31,(Qlu p1))] (I ((p1.length:Int)))),(9,rp [(.tmp 34,(B ((decide ((p1.length:Int)>25)))))] (B false)),(13,rp [(.tmp 35,B false),fu 20,(.tmp 36,(Qhe p0)),(.tmp 37,(Qlu p1)),(.tmp 38,(Qeo p2))] (I x90))] ⟨apc (first:=[]) (cap:=[]) (vs:=[(Qhe p0),(Qeo p2)]) rfl Q0f (Qlo N p0 p2 _ hf81) rfl rfl (nlc (NLt.agg _ (nlc (nld Qai _) (nlc (nld Qaa _) nl0))) (nlc (nld Qad _) nl0)) nll rfl,asb hb83 (amv rfl),ag_ (alm (c:=Qak) (l:=p1) (aln rfl Tryz.underlying27 rfl)),asb hb86 (amv rfl),ag_ (apc (first:=[]) (cap:=[]) (vs:=[(Qhe p0),(Qlu p1),(Qeo p2)]) rfl Zih (Qrz N p0 p1 p2 _ hf89) rfl rfl (nlc (NLt.agg _ (nlc (nld Qai _) (nlc (nld Qaa _) nl0))) (nlc (nld Qag _) (nlc (nld Qad _) nl0))) nll rfl),trivial⟩ ?_
     refine bfe h (fun hc91 h=>?_) fun hc91 h=>?_
     ·refine wft hc91 ?_
      obtain ⟨x93,hf92,h⟩:=bno h
      refine wx tbk [(0,rp [fu 15] (B x93))] ⟨apc (first:=[]) (cap:=[]) (vs:=[]) rfl Qpq (Qgf 2000  _ hf92) rfl rfl nl0 nll rfl,trivial⟩<|Qaf<|Qae ?_
      obtain rfl:=osi h
      exact fend ⟨[B x93],⟨rot,trivial⟩,rfl⟩ nll
     ·exact wfn hc91<|Qan<|thn<|⟨(),h,(mto (n:=178) [(1,(Qlu p1)),(2,(Qeo p2)),(3,(K .u8 (p3))),(4,.ref 0 2 0 0)] [0] [(Qhf p0)] hφ0 (pc (rnd Qag) (pc (rnd Qad) (pc rwl (pc (.rn (rqr rfl)) pn)))) (qc (spb (lc (rnd Qai) (lc (rnd Qaa) ln))) qn))⟩
end Go.Proofs.YtmbhnllcfmiajaaGreat
