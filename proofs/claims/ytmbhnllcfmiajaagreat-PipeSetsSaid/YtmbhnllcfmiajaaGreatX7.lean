/-
  Functions of the program: what they compute, as plain functions, and that they do. No conditions.
-/
import Derived.Test.YtmbhnllcfmiajaaGreatX6
import Derived.Test.YtmbhnllcfmiajaaGreatEngOb
namespace Go.Proofs.YtmbhnllcfmiajaaGreat
set_option maxRecDepth 100000
set_option maxHeartbeats 4000000
open Go.RowKit
def Qc5 (N:Nat) (p0:GNet) (p1:Int) (k2:Int→Option Int):Nat→Int→Int→Option Int
  | 0,_,_=>none
  | n7+1,y3,y4=>
    bif (decide (y4<(p0.Elements.length:Int))) then
     (getI p0.Elements y4).bind fun x9=>
     bif (x9.Kind==p1) then
      Qc5 N p0 p1 k2 n7 (w64 (y3+1)) (w64 (y4+1))
     else
      Qc5 N p0 p1 k2 n7 y3 (w64 (y4+1))
    else
     k2 (y3)
def Qh6 (N:Nat) (p0:GNet) (p1:Int):Option Int:=
  Qby (fun y1=>
    some y1) fun k2:Int→Option Int=>
  Qc5 N p0 p1 k2 N 0 0
def Q4h (p0:GNet):AV:=.dat 7 ((p0.Elements:List GElement).map Qab)
def Quc (p0:GNet):Slot:=.own 2 [[(.dat 5 ((p0.Table:List GRow).map Qau)),(Q4h p0)]]
theorem Qp3 (N:Nat) (p0:GNet) (p1:Int) (r:Int) (h:Qh6 N p0 p1=some r):Spec Tryz.prog 29 [(.agg (Qgn p0)),(K .u8 p1)] [] (I r) []:=by
  refine Qah Tryz.func29 rfl 0 (nle rfl) (fun X φ0 w0 hφ0 hd0=>?_)
  unfold Qh6 at h
  refine wxz<|wxz ?_
  obtain ⟨k2,hk_k2,h⟩:=jko h
  refine wjn (τ:=Int) (fun t=>k2 t=some r) (fun y1=>⟨mk 25 [(5,I y1)],[]⟩) (fun y1 h=>?_) ?_
  ·subst hk_k2
   refine wxz<|Qad ?_
   obtain rfl:=osi h
   exact fend ⟨[I y1],⟨rot,tv⟩,rfl⟩ nll
  ·skip
   refine wxz<|Qal ?_
   refine wmr (mto (n:=25) (l':=[(1,(K .u8 (p1))),(2,.ref 0 2 0 0),(5,I 0),(6,I 0)]) (own':=[(Quc p0)]) [(1,(K .u8 (p1))),(2,.ref 0 2 0 0),(5,I 0),(6,I 0)] [0] [(Quc p0)] hφ0 (pw (prr (pw (pw pn)))) (qb (lc (rnd Qae) (lc (rnd Qaa) ln)) qn)) ?_
   refine Qbu (τ:=Int×Int) (fun n t=>Qc5 N p0 p1 k2 n t.1 t.2=some r) (fun ⟨y3,y4⟩=>⟨mk 25 [(1,(K .u8 (p1))),(2,.ref 0 2 0 0),(5,I y3),(6,I y4)],[(Quc p0)]⟩) (fun t h=>by rw [Qc5] at h; cases h) (fun n7 ih t h=>?_) N (0,0) h
   obtain ⟨y3,y4⟩:=t
   rw [Qc5] at h
   skip
   refine wsq<|wx tbk [(3,rp [(.tmp 9,(Q4h p0))] (I ((p0.Elements.length:Int))))] ⟨alm (c:=Qab) (l:=p0.Elements) (aln rfl Tryz.underlying24 rfl),tv⟩ ?_
   refine bfe h (fun hc8 h=>?_) fun hc8 h=>?_
   ·refine wft hc8<|Qam<|thn<|wsq<|Qal ?_
    obtain ⟨x9,hg10,h⟩:=bno h
    obtain ⟨hi11,hj12⟩:=gsm hg10
    refine wx tbk [(3,rp [(.tmp 15,(Q4h p0)),(.tmp 16,I y4)] (.dptr (Qab (x9)) 0))] ⟨aid rfl Tryz.underlying24 ti59 rfl rfl hi11 (mgt Qab hj12) rfl,tv⟩ ?_
    refine bfe h (fun hc13 h=>?_) fun hc13 h=>?_
    ·exact wft hc13<|wxz1<|bln<|thn<|wxz1<|thn<|arm (mto (n:=25) [(1,(K .u8 (p1))),(2,.ref 0 2 0 0),(5,(I (w64 (y3+1)))),(6,(I (w64 (y4+1))))] [0] [(Quc p0)] hφ0 (pw (prr (pw (pw pn)))) (qb (lc (rnd Qae) (lc (rnd Qaa) ln)) qn)) (ih (w64 (y3+1),w64 (y4+1)) h)
    ·exact wfn hc13<|Qam<|bln<|thn<|wxz1<|thn<|arm (mto (n:=25) [(1,(K .u8 (p1))),(2,.ref 0 2 0 0),(5,I y3),(6,(I (w64 (y4+1))))] [0] [(Quc p0)] hφ0 (pw (prr (pw (pw pn)))) (qb (lc (rnd Qae) (lc (rnd Qaa) ln)) qn)) (ih (y3,w64 (y4+1)) h)
   ·exact wfn hc8<|Qbf<|Qav<|Qav<|Qbe rfl<|thn<|⟨(y3),h,(mto (n:=25) [(5,I y3)] [] [] hφ0 (pw pn) qn)⟩
def Qd0 (N:Nat) (p0:(List Int)) (p1:(List Int)) (k2:Unit→Option Bool):Nat→Int→Option Bool
  | 0,_=>none
  | n5+1,y3=>
    bif (decide (y3<(p0.length:Int))) then
     (getI p0 y3).bind fun x7=>
     (getI p1 y3).bind fun x11=>
     bif (x7 != x11) then
      some false
     else
      Qd0 N p0 p1 k2 n5 (w64 (y3+1))
    else
     k2 ()
def Qi8 (N:Nat) (p0:(List Int)) (p1:(List Int)):Option Bool:=
  bif ((p0.length:Int) != (p1.length:Int)) then
   some false
  else
   Qby (fun _=>
     some true) fun k2:Unit→Option Bool=>
   Qd0 N p0 p1 k2 N 0
def Qpu (p0:(List Int)):AV:=.dat 1 ((p0:List Int).map Qaj)
def Qro (p1:(List Int)):AV:=.dat 1 ((p1:List Int).map Qaj)
theorem Qrf (N:Nat) (p0:(List Int)) (p1:(List Int)) (r:Bool) (h:Qi8 N p0 p1=some r):Spec Tryz.prog 49 [(.dat 1 (p0.map Qaj)),(.dat 1 (p1.map Qaj))] [] (B r) []:=by
  refine Qah Tryz.func49 rfl 0 (nle rfl) (fun X φ0 w0 hφ0 hd0=>?_)
  unfold Qi8 at h
  refine wxz<|wsq ?_
  refine wx tbk [(1,rp [(.tmp 6,(Qpu p0))] (I ((p0.length:Int)))),(3,rp [(.tmp 8,(Qro p1))] (I ((p1.length:Int))))] ⟨alm (c:=Qaj) (l:=p0) (aln rfl Tryz.underlying27 rfl),alm (c:=Qaj) (l:=p1) (aln rfl Tryz.underlying27 rfl),tv⟩ ?_
  refine bfe h (fun hc1 h=>?_) fun hc1 h=>?_
  ·exact wft hc1<|wxz<|Qad<|Qac<|frb h
  ·refine wfn hc1<|Qam<|thn ?_
   obtain ⟨k2,hk_k2,h⟩:=jko h
   refine wjn (τ:=Unit) (fun t=>k2 t=some r) (fun _=>⟨mk 26 [],[]⟩) (fun t h=>?_) ?_
   ·subst hk_k2
    exact wxz<|Qad<|frb h
   ·skip
    refine wxz<|Qal ?_
    refine wmr (mto (n:=26) (l':=[(0,(Qpu p0)),(1,(Qro p1)),(5,I 0)]) (own':=[]) [(0,(Qpu p0)),(1,(Qro p1)),(5,I 0)] [] [] hφ0 (pc (rnd Qaf) (pc (rnd Qaf) (pw pn))) qn) ?_
    refine Qbu (τ:=Int) (fun n t=>Qd0 N p0 p1 k2 n t=some r) (fun y3=>⟨mk 26 [(0,(Qpu p0)),(1,(Qro p1)),(5,I y3)],[]⟩) (fun t h=>by rw [Qd0] at h; cases h) (fun n5 ih y3 h=>?_) N (0) h
    rw [Qd0] at h
    skip
    refine wsq<|wx tbk [(2,rp [(.tmp 12,(Qpu p0))] (I ((p0.length:Int))))] ⟨alm (c:=Qaj) (l:=p0) (aln rfl Tryz.underlying27 rfl),tv⟩ ?_
    refine bfe h (fun hc6 h=>?_) fun hc6 h=>?_
    ·refine wft hc6<|Qam<|thn<|wsq<|Qal ?_
     obtain ⟨x7,hg8,h⟩:=bno h
     obtain ⟨hi9,hj10⟩:=gsm hg8
     obtain ⟨x11,hg12,h⟩:=bno h
     obtain ⟨hi13,hj14⟩:=gsm hg12
     refine wxd tbk [(2,rp [(.tmp 17,(Qpu p0)),(.tmp 18,I y3)] (.dptr (Qaj (x7)) 0)),(6,rp [(.tmp 21,(Qro p1)),(.tmp 22,I y3)] (.dptr (Qaj (x11)) 0))] ⟨aid rfl Tryz.underlying27 ti3 rfl rfl hi9 (mgt Qaj hj10) rfl,aid rfl Tryz.underlying27 ti3 rfl rfl hi13 (mgt Qaj hj14) rfl,tv⟩ ?_
     refine bfe h (fun hc15 h=>?_) fun hc15 h=>?_
     ·exact wft hc15<|wxz<|Qad<|Qak<|Qac<|Qac<|Qak<|Qac<|frb h
     ·exact wfn hc15<|Qam<|bln<|thn<|wxz1<|thn<|arm (mto (n:=26) [(0,(Qpu p0)),(1,(Qro p1)),(5,(I (w64 (y3+1))))] [] [] hφ0 (pc (rnd Qaf) (pc (rnd Qaf) (pw pn))) qn) (ih (w64 (y3+1)) h)
    ·exact wfn hc6<|Qbf<|Qav<|Qav<|Qbe rfl<|thn<|⟨(),h,(mto (n:=26) [] [] [] hφ0 pn qn)⟩
end Go.Proofs.YtmbhnllcfmiajaaGreat
