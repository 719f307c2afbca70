/-
  Functions of the program: what they compute, as plain functions, and that they do. No conditions.
-/
import Derived.Test.YtmbhnllcfmiajaaGreatX5
namespace Go.Proofs.YtmbhnllcfmiajaaGreat
set_option maxRecDepth 100000
set_option maxHeartbeats 4000000
open Go.RowKit
def Qdr (_N:Nat) (p0:Int) (p1:Int) (p2:Int):Option Bool:=
  bif (decide (p0≥p1)) then
   some (decide (p0≤p2))
  else
   some false
theorem Qcz (N:Nat) (p0:Int) (p1:Int) (p2:Int) (r:Bool) (h:Qdr N p0 p1 p2=some r):Spec Tryz.prog 25 [(I p0),(I p1),(I p2)] [] (B r) []:=by
  refine Qah Tryz.func25 rfl 0 (nle rfl) (fun X φ0 w0 hφ0 hd0=>?_)
  unfold Qdr at h
  refine wxz ?_
  refine bfe h (fun hb1 h=>?_) fun hb1 h=>?_
  ·refine wx tbk [(3,rp [(.tmp 9,(B ((decide (p0≥p1)))))] (B true))] ⟨asb hb1 (amv rfl),tv⟩<|Qaf ?_
   obtain rfl:=osi h
   exact fend ⟨[(B ((decide (p0≤p2))))],⟨rot,tv⟩,rfl⟩ nll
  ·exact wx tbk [(3,rp [(.tmp 9,(B ((decide (p0≥p1)))))] (B false))] ⟨asb hb1 (amv rfl),tv⟩<|Qaf<|frb h
def Qdp (N:Nat) (p0:(List GRow)) (k1:Unit→Option Bool):Nat→Int→Option Bool
  | 0,_=>none
  | n5+1,y3=>
    bif (decide (y3<(p0.length:Int))) then
     (getI p0 y3).bind fun x7=>
     Qbb (fun _=>
       bif (decide (y3>0)) then
        (getI p0 (w64 (y3 - 1))).bind fun x13=>
        bif (decide (x7.T≤x13.T)) then
         some false
        else
         bif (decide (x7.P≤x13.P)) then
          some false
         else
          bif (decide (x7.Liquid≤x13.Liquid)) then
           some false
          else
           bif (decide (x7.Silica<x13.Silica)) then
            some false
           else
            Qdp N p0 k1 n5 (w64 (y3+1))
       else
        Qdp N p0 k1 n5 (w64 (y3+1))) fun k11:Unit→Option Bool=>
     (Qdr N x7.T 0 400).bind fun x22=>
     bif (!x22) then
      some false
     else
      (Qdr N x7.P 1 10000).bind fun x25=>
      bif (!x25) then
       some false
      else
       (Qdr N x7.Liquid 0 4000).bind fun x28=>
       bif (!x28) then
        some false
       else
        (Qdr N x7.Silica 0 2000).bind fun x31=>
        bif (!x31) then
         some false
        else
         bif (decide (x7.Vapour≤x7.Liquid)) then
          some false
         else
          bif (decide (x7.Vapour>4000)) then
           some false
          else
           k11 ()
    else
     k1 ()
def Qj7 (N:Nat) (p0:(List GRow)):Option Bool:=
  Qbb (fun _=>
    bif (decide ((p0.length:Int)≥2)) then
     some (decide ((p0.length:Int)≤20))
    else
     some false) fun k1:Unit→Option Bool=>
  Qdp N p0 k1 N 0
def Qm3 (p0:(List GRow)):AV:=.dat 5 ((p0:List GRow).map Qa4)
def Ziy (x7:GRow):Slot:=.own 5 [[(I (x7.T)),(I (x7.P)),(I (x7.Liquid)),(I (x7.Vapour)),(I (x7.Silica))]]
def Q9n (y3:Int) (p0:(List GRow)) (x13:GRow):List (Nat×Rec):=[(2,rp [((.tmp 50),(B ((decide (y3>0)))))] (B (true))),(8,rp [((.tmp 51),(B (true))),((.tmp 54),(Qm3 p0)),((.tmp 56),(I (w64 (y3 - 1))))] (.dptr (Qa4 (x13)) 0))]
def Q9m (y3) (p0) (x13) (x7:GRow):=hcat (Q9n y3 p0 x13) [(12,rp [((.tmp 51),(B (true))),((.tmp 60),(B ((decide (x7.T≤x13.T)))))] (B (false))),(18,rp [((.tmp 61),(B (false))),((.tmp 64),(Qm3 p0)),((.tmp 66),(I (w64 (y3 - 1))))] (.dptr (Qa4 (x13)) 0))]
def Q9l (y3) (p0) (x13) (x7):=hcat (Q9m y3 p0 x13 x7) [(23,rp [((.tmp 51),(B (true))),((.tmp 71),(B ((decide (x7.P≤x13.P)))))] (B (false))),(29,rp [((.tmp 72),(B (false))),((.tmp 75),(Qm3 p0)),((.tmp 77),(I (w64 (y3 - 1))))] (.dptr (Qa4 (x13)) 0))]
def Q9k (x7:GRow) (x22:Bool):List (Nat×Rec):=[(2,rp [fu 25,((.tmp 16),(I (x7.T))),ci 0,ci 400] (B (x22)))]
def Q9j (x7) (x22) (x25:Bool):=hcat (Q9k x7 x22) [(4,rp [((.tmp 18),(B ((!x22))))] (B (false))),(7,rp [((.tmp 19),(B (false))),fu 25,((.tmp 21),(I (x7.P))),ci 1,ci 10000] (B (x25)))]
def Q9i (x7) (x22) (x25) (x28:Bool):=hcat (Q9j x7 x22 x25) [(10,rp [((.tmp 24),(B ((!x25))))] (B (false))),(13,rp [((.tmp 25),(B (false))),fu 25,((.tmp 27),(I (x7.Liquid))),ci 0,ci 4000] (B (x28)))]
def Q4e (x7) (x22) (x25) (x28) (x31:Bool):=hcat (Q9i x7 x22 x25 x28) [(16,rp [((.tmp 30),(B ((!x28))))] (B (false))),(19,rp [((.tmp 31),(B (false))),fu 25,((.tmp 33),(I (x7.Silica))),ci 0,ci 2000] (B (x31)))]
theorem Qtr (N:Nat) (p0:(List GRow)) (r:Bool) (h:Qj7 N p0=some r):Spec Tryz.prog 69 [(.dat 5 (p0.map Qa4))] [] (B r) []:=by
  refine Qah Tryz.func69 rfl 0 (nle rfl) (fun X φ0 w0 hφ0 hd0=>?_)
  unfold Qj7 at h
  refine wxz ?_
  obtain ⟨k1,hk_k1,h⟩:=jko h
  refine wjn (τ:=Unit) (fun t=>k1 t=some r) (fun _=>⟨mk 103 [(0,(Qm3 p0))],[]⟩) (fun t h=>?_) ?_
  ·subst hk_k1
   refine bfe h (fun hb2 h=>?_) fun hb2 h=>?_
   ·refine wx tbk [(1,rp [(.tmp 95,(Qm3 p0))] (I ((p0.length:Int)))),(3,rp [(.tmp 97,(B ((decide ((p0.length:Int)≥2)))))] (B true)),(5,rp [(.tmp 98,B true),(.tmp 99,(Qm3 p0))] (I ((p0.length:Int))))] ⟨alm (c:=Qa4) (l:=p0) (aln rfl Tryz.underlying23 rfl),asb hb2 (amv rfl),ag_ (alm (c:=Qa4) (l:=p0) (aln rfl Tryz.underlying23 rfl)),tv⟩<|Qaf ?_
    obtain rfl:=osi h
    exact fend ⟨[(B ((decide ((p0.length:Int)≤20))))],⟨rot,tv⟩,rfl⟩ nll
   ·exact wx tbk [(1,rp [(.tmp 95,(Qm3 p0))] (I ((p0.length:Int)))),(3,rp [(.tmp 97,(B ((decide ((p0.length:Int)≥2)))))] (B false))] ⟨alm (c:=Qa4) (l:=p0) (aln rfl Tryz.underlying23 rfl),asb hb2 (amv rfl),tv⟩<|Qaf<|frb h
  ·skip
   refine wxz<|Qaj ?_
   refine wmr (mto (n:=103) (l':=[(0,(Qm3 p0)),(3,I 0)]) (own':=[]) [(0,(Qm3 p0)),(3,I 0)] [] [] hφ0 (pc (rnd Qai) (pw pn)) qn) ?_
   refine Qbt (τ:=Int) (fun n t=>Qdp N p0 k1 n t=some r) (fun y3=>⟨mk 103 [(0,(Qm3 p0)),(3,I y3)],[]⟩) (fun t h=>by rw [Qdp] at h; cases h) (fun n5 ih y3 h=>?_) N (0) h
   rw [Qdp] at h
   skip
   refine wsq<|wx tbk [(2,rp [(.tmp 6,(Qm3 p0))] (I ((p0.length:Int))))] ⟨alm (c:=Qa4) (l:=p0) (aln rfl Tryz.underlying23 rfl),tv⟩ ?_
   refine bfe h (fun hc6 h=>?_) fun hc6 h=>?_
   ·refine wft hc6<|Qan<|thn<|wsq<|Qaj ?_
    obtain ⟨x7,hg8,h⟩:=bno h
    obtain ⟨hi9,hj10⟩:=gsm hg8
    refine wx tbk [(2,rp [(.tmp 11,(Qm3 p0)),(.tmp 12,I y3)] (.dptr (Qa4 (x7)) 0))] ⟨aid rfl Tryz.underlying23 Qsb rfl rfl hi9 (mgt Qa4 hj10) rfl,tv⟩ ?_
    obtain ⟨k11,hk_k11,h⟩:=jko h
    refine wjn (τ:=Unit) (fun t=>k11 t=some r) (fun _=>⟨mk 103 [(0,(Qm3 p0)),(3,I y3),(4,.ref 0 5 0 0)],[(Ziy x7)]⟩) (fun t h=>?_) ?_
    ·subst hk_k11
     refine bfe h (fun hb12 h=>?_) fun hb12 h=>?_
     ·obtain ⟨x13,hg14,h⟩:=bno h
      obtain ⟨hi15,hj16⟩:=gsm hg14
      refine hpre (A:=(Q9n y3 p0 x13)) ⟨asb hb12 (amv rfl),ag_ (aid rfl Tryz.underlying23 Qsb rfl rfl hi15 (mgt Qa4 hj16) rfl),tv⟩ fun q1_=>?_
      refine bfe h (fun hb17 h=>?_) fun hb17 h=>?_
      ·exact wxd tbk (hcat (Q9n y3 p0 x13) [(12,rp [(.tmp 51,B true),(.tmp 60,(B ((decide (x7.T≤x13.T)))))] (B true))]) (hap q1_ ⟨asb hb17 (ag_ (amv rfl)),tv⟩)<|wtr<|wxz<|Qaf<|Qaq<|Qag<|Qag<|Qaq<|Qag<|frb h
      ·refine hpre (A:=(Q9m y3 p0 x13 x7)) (hap q1_ ⟨asb hb17 (ag_ (amv rfl)),ag_ (aid rfl Tryz.underlying23 Qsb rfl rfl hi15 (mgt Qa4 hj16) rfl),tv⟩) fun q2_=>?_
       refine bfe h (fun hb18 h=>?_) fun hb18 h=>?_
       ·exact wxd tbk (hcat (Q9m y3 p0 x13 x7) [(23,rp [(.tmp 51,B true),(.tmp 71,(B ((decide (x7.P≤x13.P)))))] (B true))]) (hap q2_ ⟨asb hb18 (ag_ (amv rfl)),tv⟩)<|wtr<|wxz<|Qaf<|Qaq<|Qag<|Qag<|Qaq<|Qag<|frb h
       ·refine hpre (A:=(Q9l y3 p0 x13 x7)) (hap q2_ ⟨asb hb18 (ag_ (amv rfl)),ag_ (aid rfl Tryz.underlying23 Qsb rfl rfl hi15 (mgt Qa4 hj16) rfl),tv⟩) fun q3_=>?_
        refine bfe h (fun hb19 h=>?_) fun hb19 h=>?_
        ·exact wxd tbk (hcat (Q9l y3 p0 x13 x7) [(34,rp [(.tmp 51,B true),(.tmp 82,(B ((decide (x7.Liquid≤x13.Liquid)))))] (B true))]) (hap q3_ ⟨asb hb19 (ag_ (amv rfl)),tv⟩)<|wtr<|wxz<|Qaf<|Qaq<|Qag<|Qag<|Qaq<|Qag<|frb h
        ·refine wxd tbk (hcat (Q9l y3 p0 x13 x7) [(34,rp [(.tmp 51,B true),(.tmp 82,(B ((decide (x7.Liquid≤x13.Liquid)))))] (B false)),(40,rp [(.tmp 83,B false),(.tmp 86,(Qm3 p0)),(.tmp 88,(I (w64 (y3 - 1))))] (.dptr (Qa4 (x13)) 0))]) (hap q3_ ⟨asb hb19 (ag_ (amv rfl)),ag_ (aid rfl Tryz.underlying23 Qsb rfl rfl hi15 (mgt Qa4 hj16) rfl),tv⟩) ?_
         refine bfe h (fun hc20 h=>?_) fun hc20 h=>?_
         ·exact wft hc20<|wxz<|Qaf<|Qaq<|Qag<|Qag<|Qaq<|Qag<|frb h
         ·exact wfn hc20<|Qan<|bln<|thn<|wxz1<|thn<|arm (mto (n:=103) [(0,(Qm3 p0)),(3,(I (w64 (y3+1))))] [] [] hφ0 (pc (rnd Qai) (pw pn)) qn) (ih (w64 (y3+1)) h)
     ·exact wxd tbk [(2,rp [(.tmp 50,(B ((decide (y3>0)))))] (B false))] ⟨asb hb12 (amv rfl),tv⟩<|wfa<|Qan<|bln<|thn<|wxz1<|thn<|arm (mto (n:=103) [(0,(Qm3 p0)),(3,(I (w64 (y3+1))))] [] [] hφ0 (pc (rnd Qai) (pw pn)) qn) (ih (w64 (y3+1)) h)
    ·skip
     obtain ⟨x22,hf21,h⟩:=bno h
     refine hpre (A:=(Q9k x7 x22)) ⟨apv Qhs (Qcz N x7.T 0 400 _ hf21) (nlcc (nlc nll nl0)) nll,tv⟩ fun q4_=>?_
     refine bfe h (fun hb23 h=>?_) fun hb23 h=>?_
     ·refine wx tbk (hcat (Q9k x7 x22) [(4,rp [(.tmp 18,(B ((!x22))))] (B true))]) (hap q4_ ⟨asb hb23 (amv rfl),tv⟩)<|wtr<|wxz<|Qaf<|Qag<|Qaq<|Qag<|Qag<|Qaq<|Qag ?_
      exact frb h
     ·obtain ⟨x25,hf24,h⟩:=bno h
      refine hpre (A:=(Q9j x7 x22 x25)) (hap q4_ ⟨asb hb23 (amv rfl),ag_ (apv Qhs (Qcz N x7.P 1 10000 _ hf24) (nlcc (nlc nll nl0)) nll),tv⟩) fun q5_=>?_
      refine bfe h (fun hb26 h=>?_) fun hb26 h=>?_
      ·refine wx tbk (hcat (Q9j x7 x22 x25) [(10,rp [(.tmp 24,(B ((!x25))))] (B true))]) (hap q5_ ⟨asb hb26 (amv rfl),tv⟩)<|wtr<|wxz<|Qaf<|Qag<|Qaq<|Qag<|Qag<|Qaq<|Qag ?_
       exact frb h
      ·obtain ⟨x28,hf27,h⟩:=bno h
       refine hpre (A:=(Q9i x7 x22 x25 x28)) (hap q5_ ⟨asb hb26 (amv rfl),ag_ (apv Qhs (Qcz N x7.Liquid 0 4000 _ hf27) (nlcc (nlc nll nl0)) nll),tv⟩) fun q6_=>?_
       refine bfe h (fun hb29 h=>?_) fun hb29 h=>?_
       ·refine wx tbk (hcat (Q9i x7 x22 x25 x28) [(16,rp [(.tmp 30,(B ((!x28))))] (B true))]) (hap q6_ ⟨asb hb29 (amv rfl),tv⟩)<|wtr<|wxz<|Qaf<|Qag<|Qaq<|Qag<|Qag<|Qaq<|Qag ?_
        exact frb h
       ·obtain ⟨x31,hf30,h⟩:=bno h
        refine hpre (A:=(Q4e x7 x22 x25 x28 x31)) (hap q6_ ⟨asb hb29 (amv rfl),ag_ (apv Qhs (Qcz N x7.Silica 0 2000 _ hf30) (nlcc (nlc nll nl0)) nll),tv⟩) fun q7_=>?_
        refine bfe h (fun hb32 h=>?_) fun hb32 h=>?_
        ·refine wx tbk (hcat (Q4e x7 x22 x25 x28 x31) [(22,rp [(.tmp 36,(B ((!x31))))] (B true))]) (hap q7_ ⟨asb hb32 (amv rfl),tv⟩)<|wtr<|wxz<|Qaf<|Qag<|Qaq<|Qag<|Qag<|Qaq<|Qag ?_
         exact frb h
        ·refine bfe h (fun hb33 h=>?_) fun hb33 h=>?_
         ·refine wx tbk (hcat (Q4e x7 x22 x25 x28 x31) [(22,rp [(.tmp 36,(B ((!x31))))] (B false)),(29,rp [(.tmp 43,(B ((decide (x7.Vapour≤x7.Liquid)))))] (B true))]) (hap q7_ ⟨asb hb32 (amv rfl),asb hb33 (amv rfl),tv⟩)<|wtr<|wxz<|Qaf<|Qag<|Qaq<|Qag<|Qag<|Qaq<|Qag ?_
          exact frb h
         ·refine wx tbk (hcat (Q4e x7 x22 x25 x28 x31) [(22,rp [(.tmp 36,(B ((!x31))))] (B false)),(29,rp [(.tmp 43,(B ((decide (x7.Vapour≤x7.Liquid)))))] (B false))]) (hap q7_ ⟨asb hb32 (amv rfl),asb hb33 (amv rfl),tv⟩) ?_
          refine bfe h (fun hc34 h=>?_) fun hc34 h=>?_
          ·exact wft hc34<|wxz<|Qaf<|Qag<|Qaq<|Qag<|Qag<|Qaq<|Qag<|frb h
          ·exact wfn hc34<|Qan<|thn<|⟨(),h,(mto (n:=103) [(0,(Qm3 p0)),(3,I y3),(4,.ref 0 5 0 0)] [0] [(Ziy x7)] hφ0 (pc (rnd Qai) (pw (prr pn))) (qb (lcc (lcc (lc rwl ln))) qn))⟩
   ·exact wfn hc6<|Qbd<|Qax<|Qax<|Qbc rfl<|thn<|⟨(),h,(mto (n:=103) [(0,(Qm3 p0))] [] [] hφ0 (pc (rnd Qai) pn) qn)⟩
def Qep (N:Nat) (p0:(List GRow)) (k2:(List GRow)→Option (List GRow)):Nat→(List GRow)→Int→Option (List GRow)
  | 0,_,_=>none
  | n7+1,y3,y4=>
    bif (decide (y4<(p0.length:Int))) then
     (getI p0 y4).bind fun x9=>
     chk (decide ((y3.length+([x9]).length) * 40≤140737488355328))<|
     Qep N p0 k2 n7 (y3++([x9])) (w64 (y4+1))
    else
     k2 (y3)
def Qkb (N:Nat) (p0:(List GRow)):Option (List GRow):=
  Qbb (fun y1=>
    some y1) fun k2:(List GRow)→Option (List GRow)=>
  Qep N p0 k2 N ([]) 0
def Qu7 (p0:(List GRow)):AV:=.dat 5 ((p0:List GRow).map Qa4)
def Q9h (y3:(List GRow)):AV:=.acc 0 160 5 ((y3:List GRow).map Qa4)
def Q9g (x9:GRow):AV:=.agg [(I (x9.T)),(I (x9.P)),(I (x9.Liquid)),(I (x9.Vapour)),(I (x9.Silica))]
theorem Qub (N:Nat) (p0:(List GRow)) (r:(List GRow)) (h:Qkb N p0=some r):Spec Tryz.prog 59 [(.dat 5 (p0.map Qa4))] [] (.dat 5 (r.map Qa4)) []:=by
  refine Qah Tryz.func59 rfl 0 (nle rfl) (fun X φ0 w0 hφ0 hd0=>?_)
  unfold Qkb at h
  refine wxz<|wxz ?_
  obtain ⟨k2,hk_k2,h⟩:=jko h
  refine wjn (τ:=(List GRow)) (fun t=>k2 t=some r) (fun y1=>⟨mk 41 [(3,(.acc 0 160 5 ((y1:List GRow).map Qa4)))],[.tok]⟩) (fun y1 h=>?_) ?_
  ·subst hk_k2
   refine wxz<|Qaf ?_
   obtain rfl:=osi h
   exact fend ⟨[(.dat 5 ((y1:List GRow).map Qa4))],⟨Qd2 (v:=(.acc 0 160 5 ((y1:List GRow).map Qa4))) (rot) Less.acc,tv⟩,rfl⟩ (nld Qai _)
  ·skip
   refine wxz<|Qaj ?_
   refine wmr (Mor.trans (Qlu 0 160 5 3 (by kernel_rfl) (by kernel_rfl)) (mto (n:=41) (l':=[(0,(Qu7 p0)),(3,(.acc 0 160 5 ((([]):List GRow).map Qa4))),(4,I 0)]) (own':=[.tok]) [(0,(Qu7 p0)),(3,(.acc 0 160 5 (([]:List GRow).map Qa4))),(4,I 0)] [0] [.tok] hφ0 (pc (rnd Qai) (pc (.rn (Qaw rfl (Qas Qai _))) (pw pn))) (qc .tok qn))) ?_
   refine Qbt (τ:=(List GRow)×Int) (fun n t=>Qep N p0 k2 n t.1 t.2=some r) (fun ⟨y3,y4⟩=>⟨mk 41 [(0,(Qu7 p0)),(3,(Q9h y3)),(4,I y4)],[.tok]⟩) (fun t h=>by rw [Qep] at h; cases h) (fun n7 ih t h=>?_) N ([],0) h
   obtain ⟨y3,y4⟩:=t
   rw [Qep] at h
   skip
   refine wsq<|wx tbk [(2,rp [(.tmp 6,(Qu7 p0))] (I ((p0.length:Int))))] ⟨alm (c:=Qa4) (l:=p0) (aln rfl Tryz.underlying23 rfl),tv⟩ ?_
   refine bfe h (fun hc8 h=>?_) fun hc8 h=>?_
   ·refine wft hc8<|Qan<|thn<|wsq<|Qaj ?_
    obtain ⟨x9,hg10,h⟩:=bno h
    obtain ⟨hi11,hj12⟩:=gsm hg10
    obtain ⟨ha13,h⟩:=cko h
    refine wy1 tbk [(3,rp [(.tmp 12,(Qu7 p0)),(.tmp 13,I y4)] (.dptr (Qa4 (x9)) 0)),(8,rp [(.tmp 17,(Qu7 p0)),(.tmp 18,I y4)] (.dptr (Qa4 (x9)) 0)),(13,rp [(.tmp 22,(Qu7 p0)),(.tmp 23,I y4)] (.dptr (Qa4 (x9)) 0)),(18,rp [(.tmp 27,(Qu7 p0)),(.tmp 28,I y4)] (.dptr (Qa4 (x9)) 0)),(23,rp [(.tmp 32,(Qu7 p0)),(.tmp 33,I y4)] (.dptr (Qa4 (x9)) 0)),(26,rp [(.tmp 16,I x9.T),(.tmp 21,I x9.P),(.tmp 26,I x9.Liquid),(.tmp 31,I x9.Vapour),(.tmp 36,I x9.Silica)] (Q9g x9)),(27,rp [(.tmp 37,(Q9g x9))] (.dat 5 (([x9]:List GRow).map Qa4))),(28,⟨[(.tmp 11,(Q9h y3)),(.tmp 38,(.dat 5 (([x9]:List GRow).map Qa4)))],[(0,.tok),(1,.unused)],(.acc 1 160 5 ((y3++([x9]):List GRow).map Qa4)),[(0,.dead),(1,.tok)],false⟩)] ⟨aid rfl Tryz.underlying23 Qsb rfl rfl hi11 (mgt Qa4 hj12) rfl,aid rfl Tryz.underlying23 Qsb rfl rfl hi11 (mgt Qa4 hj12) rfl,aid rfl Tryz.underlying23 Qsb rfl rfl hi11 (mgt Qa4 hj12) rfl,aid rfl Tryz.underlying23 Qsb rfl rfl hi11 (mgt Qa4 hj12) rfl,aid rfl Tryz.underlying23 Qsb rfl rfl hi11 (mgt Qa4 hj12) rfl,Qaz (vs:=[I x9.T,I x9.P,I x9.Liquid,I x9.Vapour,I x9.Silica]) rfl Zf4 Q21 rfl (by rfl) rfl,Qbe (vs:=[(Q9g x9)]) rfl Tryz.underlying39 Qva Q21 rfl (by decide) rfl (by decide) (by rfl) (by rfl) (by rfl) rfl,Qdj rfl Tryz.underlying39 Zra (Base.acc _ _) rfl rfl (by rfl) (Qf4 Qa4 ha13) (Qf3 Qa4 ha13 (by decide)) (Qf2 Qa4) rfl rfl,tv⟩<|bln<|thn<|wxz1<|thn ?_
    exact arm (mto (n:=41) [(0,(Qu7 p0)),(3,(.acc 1 160 5 ((y3++([x9]):List GRow).map Qa4))),(4,(I (w64 (y4+1))))] [1] [.tok] hφ0 (pc (rnd Qai) (pc (.rn (Qaw rfl (Qas Qai _))) (pw pn))) (qc .tok qn)) (ih (y3++([x9]),w64 (y4+1)) h)
   ·exact wfn hc8<|Qbd<|Qax<|Qax<|Qbc rfl<|thn<|⟨(y3),h,(mto (n:=41) [(3,(Q9h y3))] [0] [.tok] hφ0 (pc (.rn (Qaw rfl (Qas Qai _))) pn) (qc .tok qn))⟩
def Qfa (N:Nat) (x13:GElement) (k21:(List GElement)×(List GPort)×(List Int)→Option GNet):Nat→Int→(List GElement)→(List GPort)→(List Int)→Option GNet
  | 0,_,_,_,_=>none
  | n31+1,y23,y24,y25,y26=>
    bif (decide (y23<(x13.From.length:Int))) then
     (getI x13.From y23).bind fun x33=>
     chk (decide ((y25.length+([x33]).length) * 16≤140737488355328))<|
     Qfa N x13 k21 n31 (w64 (y23+1)) y24 (y25++([x33])) y26
    else
     k21 (y24,y25,y26)
def Qfb (N:Nat) (p0:GNet) (k4:(List GElement)→Option GNet):Nat→Int→(List GElement)→Option GNet
  | 0,_,_=>none
  | n9+1,y5,y6=>
    bif (decide (y5<(p0.Elements.length:Int))) then
     Qbb (fun y11=>
       Qfb N p0 k4 n9 (w64 (y5+1)) y11) fun k12:(List GElement)→Option GNet=>
     (getI p0.Elements y5).bind fun x13=>
     chk (decide ((([]:List Int).length+x13.Weights.length) * 8≤140737488355328))<|
     Qbb (fun ⟨y18,y19,y20⟩=>
       chk (decide ((y18.length+([(⟨x13.Kind,y19,x13.Level,x13.Amount,x13.Wide,x13.Narrow,y20⟩:GElement)]).length) * 88≤140737488355328))<|
       k12 (y18++([(⟨x13.Kind,y19,x13.Level,x13.Amount,x13.Wide,x13.Narrow,y20⟩:GElement)]))) fun k21:(List GElement)×(List GPort)×(List Int)→Option GNet=>
     Qfa N x13 k21 N 0 y6 ([]) (([]:List Int)++x13.Weights)
    else
     k4 (y6)
def Qks (N:Nat) (p0:GNet):Option GNet:=
  (Qkb N p0.Table).bind fun x2=>
  Qbb (fun y3=>
    some (⟨x2,y3⟩:GNet)) fun k4:(List GElement)→Option GNet=>
  Qfb N p0 k4 N 0 ([])
def Zol (p0:GNet):AV:=.dat 5 ((p0.Table:List GRow).map Qa4)
def Qlh (x2:(List GRow)):AV:=.dat 5 ((x2:List GRow).map Qa4)
def Q13 (y3:(List GElement)):AV:=.acc 2 133 7 ((y3:List GElement).map Qad)
def Zkb (p0:GNet):AV:=.dat 7 ((p0.Elements:List GElement).map Qad)
def Qr5 (p0:GNet):Slot:=.own 2 [[(Zol p0),(Zkb p0)]]
def Q14 (y6:(List GElement)):AV:=.acc 3 133 7 ((y6:List GElement).map Qad)
def Q9f:AV:=.acc 5 3 1 ((([]:List Int):List Int).map Qal)
def Q9d (x13:GElement):AV:=.dat 1 ((x13.Weights:List Int).map Qal)
def Qqv (x13:GElement):AV:=.acc 6 3 1 ((([]:List Int)++x13.Weights:List Int).map Qal)
def Q9e (y20:(List Int)):AV:=.acc 6 3 1 ((y20:List Int).map Qal)
def Q9b (x13:GElement) (y19:(List GPort)) (y20:(List Int)):AV:=.dat 7 (([(⟨x13.Kind,y19,x13.Level,x13.Amount,x13.Wide,x13.Narrow,y20⟩:GElement)]:List GElement).map Qad)
def Q9c (x13:GElement) (y19:(List GPort)) (y20:(List Int)):AV:=.agg [(K .u8 (x13.Kind)),(.dat 2 ((y19:List GPort).map Qap)),(I (x13.Level)),(I (x13.Amount)),(I (x13.Wide)),(I (x13.Narrow)),(.dat 1 ((y20:List Int).map Qal))]
def Qwv (x13:GElement):AV:=.dat 2 ((x13.From:List GPort).map Qap)
def Qwu (x13:GElement):Slot:=.own 7 [[(K .u8 (x13.Kind)),(Qwv x13),(I (x13.Level)),(I (x13.Amount)),(I (x13.Wide)),(I (x13.Narrow)),(Q9d x13)]]
def Zj9:AV:=.acc 6 120 2 ((([]):List GPort).map Qap)
def Zka:AV:=.acc 8 120 2 (([]:List GPort).map Qap)
def Q12 (y24:(List GElement)):AV:=.acc 5 133 7 ((y24:List GElement).map Qad)
def Q9a (y26:(List Int)):AV:=.acc 7 3 1 ((y26:List Int).map Qal)
def Q89 (x13:GElement) (y25:(List GPort)) (y26:(List Int)):Slot:=.own 7 [[(K .u8 (x13.Kind)),(.acc 6 120 2 ((y25:List GPort).map Qap)),(I (x13.Level)),(I (x13.Amount)),(I (x13.Wide)),(I (x13.Narrow)),(Q9a y26)]]
def Q11 (x33:GPort):AV:=.agg [(I (x33.Element)),(I (x33.Outlet))]
theorem Qqe (N:Nat) (p0:GNet) (r:GNet) (h:Qks N p0=some r):Spec Tryz.prog 17 [(.agg (Qhz p0))] [] (.agg (Qhz r)) []:=by
  refine Qah Tryz.func17 rfl 0 (nle rfl) (fun X φ0 w0 hφ0 hd0=>?_)
  unfold Qks at h
  refine wxz ?_
  obtain ⟨x2,hf1,h⟩:=bno h
  refine wx tbk [(2,rp [fu 59,(.tmp 9,(Zol p0))] (Qlh x2)),(3,rp [(.tmp 10,(Qlh x2))] (.agg [(Qlh x2),nilS]))] ⟨apv Znq (Qub N p0.Table _ hf1) (nlc (nld Qai _) nl0) (nld Qai _),Qaz (vs:=[(Qlh x2)]) rfl ts42 tz42 rfl (by rfl) rfl,tv⟩ ?_
  obtain ⟨k4,hk_k4,h⟩:=jko h
  refine wjn (τ:=(List GElement)) (fun t=>k4 t=some r) (fun y3=>⟨mk 71 [(2,.ref 0 2 0 0),(3,.ref 1 2 0 0)],[(.own 2 [[nilS,nilS]]),(.own 2 [[(Qlh x2),(Q13 y3)]]),.tok]⟩) (fun y3 h=>?_) ?_
  ·subst hk_k4
   refine wxz<|Qaf ?_
   obtain rfl:=osi h
   exact fend ⟨[(.agg [(Qlh x2),(.dat 7 ((y3:List GElement).map Qad))])],⟨Qd2 (v:=(.agg [(Qlh x2),(Q13 y3)])) (Qbj (n:=0) (m:=2) (j:=0) (i:=0) (xs:=[[(Qlh x2),(Q13 y3)]]) (by kernel_rfl) (by kernel_rfl) ti42 (by decide) rfl (nle rfl) rfl) (Less.agg ⟨lrf,Less.acc,tv⟩),tv⟩,rfl⟩ (NLt.agg _ (nlc (nld Qai _) (nlc (nld Qab _) nl0)))
  ·skip
   refine wxz<|Qaj ?_
   refine wmr (Mor.trans (Qln (n:=3) (ty:=133) (m:=7) (q:=2) (mq:=2) (c:=[(Qlh x2),nilS]) 1 (by kernel_rfl) (by kernel_rfl) (by kernel_rfl) (by decide)) (mto (n:=71) (l':=[(1,.ref 0 2 0 0),(2,.ref 1 2 0 0),(3,.ref 2 2 0 0),(4,I 0)]) (own':=[(Qr5 p0),(.own 2 [[nilS,nilS]]),(.own 2 [[(Qlh x2),(.acc 3 133 7 ((([]):List GElement).map Qad))]]),.tok]) [(1,.ref 0 2 0 0),(2,.ref 1 2 0 0),(3,.ref 2 2 0 0),(4,I 0)] [0,1,2,3] [(Qr5 p0),(.own 2 [[nilS,nilS]]),(.own 2 [[(Qlh x2),(.acc 3 133 7 (([]:List GElement).map Qad))]]),.tok] hφ0 (prr (prr (prr (pw pn)))) (qb (lc (rnd Qai) (lc (rnd Qab) ln)) (qb (lcc ln) (qb (lc (rnd Qai) (lc (.rn (Qaw rfl (Qas Qab _))) ln)) (qc .tok qn)))))) ?_
   refine Qbt (τ:=Int×(List GElement)) (fun n t=>Qfb N p0 k4 n t.1 t.2=some r) (fun ⟨y5,y6⟩=>⟨mk 71 [(1,.ref 0 2 0 0),(2,.ref 1 2 0 0),(3,.ref 2 2 0 0),(4,I y5)],[(Qr5 p0),(.own 2 [[nilS,nilS]]),(.own 2 [[(Qlh x2),(Q14 y6)]]),.tok]⟩) (fun t h=>by rw [Qfb] at h; cases h) (fun n9 ih t h=>?_) N (0,[]) h
   obtain ⟨y5,y6⟩:=t
   rw [Qfb] at h
   skip
   refine wsq<|wx tbk [(3,rp [(.tmp 14,(Zkb p0))] (I ((p0.Elements.length:Int))))] ⟨alm (c:=Qad) (l:=p0.Elements) (aln rfl Tryz.underlying24 rfl),tv⟩ ?_
   refine bfe h (fun hc10 h=>?_) fun hc10 h=>?_
   ·refine wft hc10<|Qan<|thn ?_
    obtain ⟨k12,hk_k12,h⟩:=jko h
    refine wjn (τ:=(List GElement)) (fun t=>k12 t=some r) (fun y11=>⟨mk 71 [(1,.ref 0 2 0 0),(2,.ref 1 2 0 0),(3,.ref 2 2 0 0),(4,I y5)],[(Qr5 p0),(.own 2 [[nilS,nilS]]),(.own 2 [[(Qlh x2),(.acc 3 133 7 ((y11:List GElement).map Qad))]]),.tok]⟩) (fun y11 h=>?_) ?_
    ·subst hk_k12
     exact wxz1<|thn<|arm (mto (n:=71) [(1,.ref 0 2 0 0),(2,.ref 1 2 0 0),(3,.ref 2 2 0 0),(4,(I (w64 (y5+1))))] [0,1,2,3] [(Qr5 p0),(.own 2 [[nilS,nilS]]),(.own 2 [[(Qlh x2),(.acc 3 133 7 ((y11:List GElement).map Qad))]]),.tok] hφ0 (prr (prr (prr (pw pn)))) (qb (lc (rnd Qai) (lc (rnd Qab) ln)) (qb (lcc ln) (qb (lc (rnd Qai) (lc (.rn (Qaw rfl (Qas Qab _))) ln)) (qc .tok qn))))) (ih (w64 (y5+1),y11) h)
    ·skip
     refine Qaj ?_
     obtain ⟨x13,hg14,h⟩:=bno h
     obtain ⟨hi15,hj16⟩:=gsm hg14
     refine wx tbk [(3,rp [(.tmp 20,(Zkb p0)),(.tmp 21,I y5)] (.dptr (Qad (x13)) 0))] ⟨aid rfl Tryz.underlying24 ti59 rfl rfl hi15 (mgt Qad hj16) rfl,tv⟩ ?_
     obtain ⟨ha17,h⟩:=cko h
     refine wxd tbk [(10,⟨[],[(5,.unused)],Q9f,[(5,.tok)],false⟩),(13,⟨[(.tmp 34,Q9f),(.tmp 36,(Q9d x13))],[(5,.tok),(6,.unused)],(Qqv x13),[(5,.dead),(6,.tok)],false⟩),(14,rp [(.tmp 25,(K .u8 (x13.Kind))),(.tmp 27,I x13.Level),(.tmp 29,I x13.Amount),(.tmp 31,I x13.Wide),(.tmp 33,I x13.Narrow),(.tmp 37,(Qqv x13))] (.agg [(K .u8 (x13.Kind)),nilS,I x13.Level,I x13.Amount,I x13.Wide,I x13.Narrow,(Qqv x13)]))] ⟨Qkp rfl Tryz.underlying27 ti3 tz3,Qdj rfl Tryz.underlying27 te3 (Base.acc _ _) rfl rfl (Qmq Qal Qjf _) (Qf4 Qal ha17) (Qf3 Qal ha17 (by decide)) (Qf2 Qal) rfl rfl,Qaz (vs:=[(K .u8 (x13.Kind)),I x13.Level,I x13.Amount,I x13.Wide,I x13.Narrow,(Qqv x13)]) rfl Zf5 Q22 rfl (by rfl) rfl,tv⟩ ?_
     obtain ⟨k21,hk_k21,h⟩:=jko h
     refine wjn (τ:=(List GElement)×(List GPort)×(List Int)) (fun t=>k21 t=some r) (fun ⟨y18,y19,y20⟩=>⟨mk 71 [(1,.ref 0 2 0 0),(2,.ref 1 2 0 0),(3,.ref 2 2 0 0),(4,I y5),(6,.ref 3 7 0 0)],[(Qr5 p0),(.own 2 [[nilS,nilS]]),(.own 2 [[(Qlh x2),(.acc 4 133 7 ((y18:List GElement).map Qad))]]),(.own 7 [[(K .u8 (x13.Kind)),(.acc 5 120 2 ((y19:List GPort).map Qap)),I x13.Level,I x13.Amount,I x13.Wide,I x13.Narrow,(Q9e y20)]]),.tok,.tok,.tok]⟩) (fun t h=>?_) ?_
     ·subst hk_k21
      obtain ⟨y18,y19,y20⟩:=t
      obtain ⟨ha22,h⟩:=cko h
      refine wx1 tbk [(3,rp [(.tmp 66,(.agg [(K .u8 (x13.Kind)),(.acc 5 120 2 ((y19:List GPort).map Qap)),I x13.Level,I x13.Amount,I x13.Wide,I x13.Narrow,(Q9e y20)]))] (Q9b x13 y19 y20)),(4,⟨[(.tmp 65,(.acc 4 133 7 ((y18:List GElement).map Qad))),(.tmp 67,(Q9b x13 y19 y20))],[(4,.tok),(7,.unused)],(.acc 7 133 7 ((y18++([(⟨x13.Kind,y19,x13.Level,x13.Amount,x13.Wide,x13.Narrow,y20⟩:GElement)]):List GElement).map Qad)),[(4,.dead),(7,.tok)],false⟩)] ⟨awk (rd':=[(.tmp 66,(Q9c x13 y19 y20))]) ⟨rfl,(Less.agg ⟨lrf,Less.acc,lrf,lrf,lrf,lrf,Less.acc,tv⟩),tv⟩ (Qbe (vs:=[(Q9c x13 y19 y20)]) rfl Tryz.underlying40 Qk0 Q22 rfl (by decide) rfl (by decide) (by rfl) (by rfl) (by rfl) rfl),Qdj rfl Tryz.underlying40 Zrb (Base.acc _ _) rfl rfl (by rfl) (Qf4 Qad ha22) (Qf3 Qad ha22 (by decide)) (Qf2 Qad) rfl rfl,tv⟩<|bln<|thn ?_
      exact ⟨(y18++([(⟨x13.Kind,y19,x13.Level,x13.Amount,x13.Wide,x13.Narrow,y20⟩:GElement)])),h,(mto (n:=71) [(1,.ref 0 2 0 0),(2,.ref 1 2 0 0),(3,.ref 2 2 0 0),(4,I y5)] [0,1,2,7] [(Qr5 p0),(.own 2 [[nilS,nilS]]),(.own 2 [[(Qlh x2),(.acc 7 133 7 ((y18++([(⟨x13.Kind,y19,x13.Level,x13.Amount,x13.Wide,x13.Narrow,y20⟩:GElement)]):List GElement).map Qad))]]),.tok] hφ0 (prr (prr (prr (pw pn)))) (qb (lc (rnd Qai) (lc (rnd Qab) ln)) (qb (lcc ln) (qb (lc (rnd Qai) (lc (.rn (Qaw rfl (Qas Qab _))) ln)) (qc .tok qn)))))⟩
     ·skip
      refine wxz<|Qaj ?_
      refine wmr (Mor.trans (Qln (n:=8) (ty:=120) (m:=2) (q:=7) (mq:=7) (c:=[(K .u8 (x13.Kind)),nilS,I x13.Level,I x13.Amount,I x13.Wide,I x13.Narrow,(Qqv x13)]) 1 (by kernel_rfl) (by kernel_rfl) (by kernel_rfl) (by decide)) (mto (n:=71) (l':=[(1,.ref 0 2 0 0),(2,.ref 1 2 0 0),(3,.ref 2 2 0 0),(4,I y5),(5,.ref 3 7 0 0),(6,.ref 4 7 0 0),(7,I 0)]) (own':=[(Qr5 p0),(.own 2 [[nilS,nilS]]),(.own 2 [[(Qlh x2),(.acc 5 133 7 ((y6:List GElement).map Qad))]]),(Qwu x13),(.own 7 [[(K .u8 (x13.Kind)),Zj9,I x13.Level,I x13.Amount,I x13.Wide,I x13.Narrow,(.acc 7 3 1 (((([]:List Int)++x13.Weights):List Int).map Qal))]]),.tok,.tok,.tok]) [(1,.ref 0 2 0 0),(2,.ref 1 2 0 0),(3,.ref 2 2 0 0),(4,I y5),(5,.ref 4 7 0 0),(6,.ref 7 7 0 0),(7,I 0)] [0,1,2,4,7,3,8,6] [(Qr5 p0),(.own 2 [[nilS,nilS]]),(.own 2 [[(Qlh x2),(Q14 y6)]]),(Qwu x13),(.own 7 [[(K .u8 (x13.Kind)),Zka,I x13.Level,I x13.Amount,I x13.Wide,I x13.Narrow,(Qqv x13)]]),.tok,.tok,.tok] hφ0 (prr (prr (prr (pw (prr (prr (pw pn))))))) (qb (lc (rnd Qai) (lc (rnd Qab) ln)) (qb (lcc ln) (qb (lc (rnd Qai) (lc (.rn (Qaw rfl (Qas Qab _))) ln)) (qb (lc rwl (lc (rnd Qay) (lcc (lcc (lc (rnd Qae) ln))))) (qb (lc rwl (lc (.rn (Qaw rfl (Qas Qay _))) (lcc (lcc (lc (.rn (Qaw rfl (Qas Qae _))) ln))))) (qc .tok (qc .tok (qc .tok qn)))))))))) ?_
      refine Qbt (τ:=Int×(List GElement)×(List GPort)×(List Int)) (fun n t=>Qfa N x13 k21 n t.1 t.2.1 t.2.2.1 t.2.2.2=some r) (fun ⟨y23,y24,y25,y26⟩=>⟨mk 71 [(1,.ref 0 2 0 0),(2,.ref 1 2 0 0),(3,.ref 2 2 0 0),(4,I y5),(5,.ref 3 7 0 0),(6,.ref 4 7 0 0),(7,I y23)],[(Qr5 p0),(.own 2 [[nilS,nilS]]),(.own 2 [[(Qlh x2),(Q12 y24)]]),(Qwu x13),(Q89 x13 y25 y26),.tok,.tok,.tok]⟩) (fun t h=>by rw [Qfa] at h; cases h) (fun n31 ih t h=>?_) N (0,y6,[],([]:List Int)++x13.Weights) h
      obtain ⟨y23,y24,y25,y26⟩:=t
      rw [Qfa] at h
      skip
      refine wsq<|wx tbk [(3,rp [(.tmp 41,(Qwv x13))] (I ((x13.From.length:Int))))] ⟨alm (c:=Qap) (l:=x13.From) (aln rfl Tryz.underlying57 rfl),tv⟩ ?_
      refine bfe h (fun hc32 h=>?_) fun hc32 h=>?_
      ·refine wft hc32<|Qan<|thn<|wsq<|Qaj ?_
       obtain ⟨x33,hg34,h⟩:=bno h
       obtain ⟨hi35,hj36⟩:=gsm hg34
       obtain ⟨ha37,h⟩:=cko h
       refine wy1 tbk [(5,rp [(.tmp 49,(Qwv x13)),(.tmp 50,I y23)] (.dptr (Qap (x33)) 0)),(11,rp [(.tmp 55,(Qwv x13)),(.tmp 56,I y23)] (.dptr (Qap (x33)) 0)),(14,rp [(.tmp 53,I x33.Element),(.tmp 59,I x33.Outlet)] (Q11 x33)),(15,rp [(.tmp 60,(Q11 x33))] (.dat 2 (([x33]:List GPort).map Qap))),(16,⟨[(.tmp 47,(.acc 6 120 2 ((y25:List GPort).map Qap))),(.tmp 61,(.dat 2 (([x33]:List GPort).map Qap)))],[(6,.tok),(8,.unused)],(.acc 8 120 2 ((y25++([x33]):List GPort).map Qap)),[(6,.dead),(8,.tok)],false⟩)] ⟨aid rfl Tryz.underlying57 ti61 rfl rfl hi35 (mgt Qap hj36) rfl,aid rfl Tryz.underlying57 ti61 rfl rfl hi35 (mgt Qap hj36) rfl,Qaz (vs:=[I x33.Element,I x33.Outlet]) rfl Zb2 Qu8 rfl (by rfl) rfl,Qbe (vs:=[(Q11 x33)]) rfl Tryz.underlying116 Qq3 Qu8 rfl (by decide) rfl (by decide) (by rfl) (by rfl) (by rfl) rfl,Qdj rfl Tryz.underlying116 Zpv (Base.acc _ _) rfl rfl (by rfl) (Qf4 Qap ha37) (Qf3 Qap ha37 (by decide)) (Qf2 Qap) rfl rfl,tv⟩<|bln<|thn<|wxz1<|thn ?_
       exact arm (mto (n:=71) [(1,.ref 0 2 0 0),(2,.ref 1 2 0 0),(3,.ref 2 2 0 0),(4,I y5),(5,.ref 3 7 0 0),(6,.ref 4 7 0 0),(7,(I (w64 (y23+1))))] [0,1,2,3,4,5,8,7] [(Qr5 p0),(.own 2 [[nilS,nilS]]),(.own 2 [[(Qlh x2),(Q12 y24)]]),(Qwu x13),(.own 7 [[(K .u8 (x13.Kind)),(.acc 8 120 2 ((y25++([x33]):List GPort).map Qap)),I x13.Level,I x13.Amount,I x13.Wide,I x13.Narrow,(Q9a y26)]]),.tok,.tok,.tok] hφ0 (prr (prr (prr (pw (prr (prr (pw pn))))))) (qb (lc (rnd Qai) (lc (rnd Qab) ln)) (qb (lcc ln) (qb (lc (rnd Qai) (lc (.rn (Qaw rfl (Qas Qab _))) ln)) (qb (lc rwl (lc (rnd Qay) (lcc (lcc (lc (rnd Qae) ln))))) (qb (lc rwl (lc (.rn (Qaw rfl (Qas Qay _))) (lcc (lcc (lc (.rn (Qaw rfl (Qas Qae _))) ln))))) (qc .tok (qc .tok (qc .tok qn))))))))) (ih (w64 (y23+1),y24,y25++([x33]),y26) h)
      ·exact wfn hc32<|Qbd<|Qax<|Qax<|Qbc rfl<|thn<|⟨(y24,y25,y26),h,(mto (n:=71) [(1,.ref 0 2 0 0),(2,.ref 1 2 0 0),(3,.ref 2 2 0 0),(4,I y5),(6,.ref 4 7 0 0)] [0,1,2,4,5,6,7] [(Qr5 p0),(.own 2 [[nilS,nilS]]),(.own 2 [[(Qlh x2),(Q12 y24)]]),(Q89 x13 y25 y26),.tok,.tok,.tok] hφ0 (prr (prr (prr (pw (prr pn))))) (qb (lc (rnd Qai) (lc (rnd Qab) ln)) (qb (lcc ln) (qb (lc (rnd Qai) (lc (.rn (Qaw rfl (Qas Qab _))) ln)) (qb (lc rwl (lc (.rn (Qaw rfl (Qas Qay _))) (lcc (lcc (lc (.rn (Qaw rfl (Qas Qae _))) ln))))) (qc .tok (qc .tok (qc .tok qn))))))))⟩
   ·exact wfn hc10<|Qbd<|Qax<|Qax<|Qbc rfl<|thn<|⟨(y6),h,(mto (n:=71) [(2,.ref 1 2 0 0),(3,.ref 2 2 0 0)] [1,2,3] [(.own 2 [[nilS,nilS]]),(.own 2 [[(Qlh x2),(Q14 y6)]]),.tok] hφ0 (prr (prr pn)) (qb (lcc ln) (qb (lc (rnd Qai) (lc (.rn (Qaw rfl (Qas Qab _))) ln)) (qc .tok qn))))⟩
def Qjg (_N:Nat) (p0:(List Int)):Option (List Int):=
  chk (decide ((([]:List Int).length+p0.length) * 8≤140737488355328))<|
  some (([]:List Int)++p0)
def Zok:AV:=.acc 0 3 1 ((([]:List Int):List Int).map Qal)
def Zoj (p0:(List Int)):AV:=.acc 1 3 1 ((([]:List Int)++p0:List Int).map Qal)
theorem Qoq (N:Nat) (p0:(List Int)) (r:(List Int)) (h:Qjg N p0=some r):Spec Tryz.prog 18 [(.dat 1 (p0.map Qal))] [] (.dat 1 (r.map Qal)) []:=by
  refine Qah Tryz.func18 rfl 0 (nle rfl) (fun X φ0 w0 hφ0 hd0=>?_)
  unfold Qjg at h
  refine wxz ?_
  obtain ⟨ha1,h⟩:=cko h
  refine wx tbk [(0,⟨[],[(0,.unused)],Zok,[(0,.tok)],false⟩),(2,⟨[(.tmp 3,Zok),(.tmp 4,(.dat 1 ((p0:List Int).map Qal)))],[(0,.tok),(1,.unused)],(Zoj p0),[(0,.dead),(1,.tok)],false⟩)] ⟨Qkp rfl Tryz.underlying27 ti3 tz3,Qdj rfl Tryz.underlying27 te3 (Base.acc _ _) rfl rfl (Qmq Qal Qjf _) (Qf4 Qal ha1) (Qf3 Qal ha1 (by decide)) (Qf2 Qal) rfl rfl,tv⟩<|Qaf ?_
  obtain rfl:=osi h
  exact fend ⟨[(.dat 1 ((([]:List Int)++p0:List Int).map Qal))],⟨Qd2 (v:=(Zoj p0)) (rot) Less.acc,tv⟩,rfl⟩ (nld Qae _)
def Qfc (N:Nat) (p0:GNet) (k1:Unit→Option Bool):Nat→Int→Option Bool
  | 0,_=>none
  | n6+1,y4=>
    bif (decide (y4<(p0.Elements.length:Int))) then
     (getI p0.Elements y4).bind fun x8=>
     bif (decide ((x8.From.length:Int)>25)) then
      some false
     else
      bif (decide ((x8.Weights.length:Int)>25)) then
       some false
      else
       Qfc N p0 k1 n6 (w64 (y4+1))
    else
     k1 ()
def Qkt (N:Nat) (p0:GNet) (p1:(List GStream)):Option Bool:=
  Qbb (fun _=>
    bif (decide ((p0.Elements.length:Int)≤18)) then
     bif (decide ((p0.Table.length:Int)≤25)) then
      some (decide ((p1.length:Int)≤25))
     else
      some false
    else
     some false) fun k1:Unit→Option Bool=>
  Qfc N p0 k1 N 0
def Q10 (p1:(List GStream)):AV:=.dat 4 ((p1:List GStream).map Qaa)
def Zoi (p0:GNet):AV:=.dat 5 ((p0.Table:List GRow).map Qa4)
def Q88 (p0:GNet):AV:=.dat 7 ((p0.Elements:List GElement).map Qad)
def Q6t (p0:GNet):Slot:=.own 2 [[(Zoi p0),(Q88 p0)]]
def Q87 (p0:GNet):List (Nat×Rec):=[(2,rp [((.tmp 32),(Q88 p0))] (I ((p0.Elements.length:Int))))]
def Q86 (p0):=hcat (Q87 p0) [(4,rp [((.tmp 34),(B ((decide ((p0.Elements.length:Int)≤18)))))] (B (true))),(7,rp [((.tmp 35),(B (true))),((.tmp 37),(Zoi p0))] (I ((p0.Table.length:Int))))]
def Q85 (p0:GNet) (y4:Int) (x8:GElement):List (Nat×Rec):=[(3,rp [((.tmp 14),(Q88 p0)),((.tmp 15),(I (y4)))] (.dptr (Qad (x8)) 0)),(6,rp [((.tmp 18),(.dat 2 ((x8.From:List GPort).map Qap)))] (I ((x8.From.length:Int))))]
theorem Qyg (N:Nat) (p0:GNet) (p1:(List GStream)) (r:Bool) (h:Qkt N p0 p1=some r):Spec Tryz.prog 14 [(.agg (Qhz p0)),(.dat 4 (p1.map Qaa))] [] (B r) []:=by
  refine Qah Tryz.func14 rfl 0 (nle rfl) (fun X φ0 w0 hφ0 hd0=>?_)
  unfold Qkt at h
  refine wxz ?_
  obtain ⟨k1,hk_k1,h⟩:=jko h
  refine wjn (τ:=Unit) (fun t=>k1 t=some r) (fun _=>⟨mk 46 [(1,(Q10 p1)),(2,.ref 0 2 0 0)],[(Q6t p0)]⟩) (fun t h=>?_) ?_
  ·subst hk_k1
   refine hpre (A:=(Q87 p0)) ⟨alm (c:=Qad) (l:=p0.Elements) (aln rfl Tryz.underlying24 rfl),tv⟩ fun q1_=>?_
   refine bfe h (fun hb2 h=>?_) fun hb2 h=>?_
   ·refine hpre (A:=(Q86 p0)) (hap q1_ ⟨asb hb2 (amv rfl),ag_ (alm (c:=Qa4) (l:=p0.Table) (aln rfl Tryz.underlying23 rfl)),tv⟩) fun q2_=>?_
    refine bfe h (fun hb3 h=>?_) fun hb3 h=>?_
    ·refine wx tbk (hcat (Q86 p0) [(10,rp [(.tmp 40,(B ((decide ((p0.Table.length:Int)≤25)))))] (B true)),(12,rp [(.tmp 41,B true),(.tmp 42,(Q10 p1))] (I ((p1.length:Int))))]) (hap q2_ ⟨asb hb3 (amv rfl),ag_ (alm (c:=Qaa) (l:=p1) (aln rfl Tryz.underlying28 rfl)),tv⟩)<|Qaf ?_
     obtain rfl:=osi h
     exact fend ⟨[(B ((decide ((p1.length:Int)≤25))))],⟨rot,tv⟩,rfl⟩ nll
    ·exact wx tbk (hcat (Q86 p0) [(10,rp [(.tmp 40,(B ((decide ((p0.Table.length:Int)≤25)))))] (B false))]) (hap q2_ ⟨asb hb3 (amv rfl),tv⟩)<|Qaf<|frb h
   ·exact wx tbk (hcat (Q87 p0) [(4,rp [(.tmp 34,(B ((decide ((p0.Elements.length:Int)≤18)))))] (B false))]) (hap q1_ ⟨asb hb2 (amv rfl),tv⟩)<|Qaf<|frb h
  ·skip
   refine wxz<|Qaj ?_
   refine wmr (mto (n:=46) (l':=[(1,(Q10 p1)),(2,.ref 0 2 0 0),(5,I 0)]) (own':=[(Q6t p0)]) [(1,(Q10 p1)),(2,.ref 0 2 0 0),(5,I 0)] [0] [(Q6t p0)] hφ0 (pc (rnd Qac) (prr (pw pn))) (qb (lc (rnd Qai) (lc (rnd Qab) ln)) qn)) ?_
   refine Qbt (τ:=Int) (fun n t=>Qfc N p0 k1 n t=some r) (fun y4=>⟨mk 46 [(1,(Q10 p1)),(2,.ref 0 2 0 0),(5,I y4)],[(Q6t p0)]⟩) (fun t h=>by rw [Qfc] at h; cases h) (fun n6 ih y4 h=>?_) N (0) h
   rw [Qfc] at h
   skip
   refine wsq<|wx tbk [(3,rp [(.tmp 8,(Q88 p0))] (I ((p0.Elements.length:Int))))] ⟨alm (c:=Qad) (l:=p0.Elements) (aln rfl Tryz.underlying24 rfl),tv⟩ ?_
   refine bfe h (fun hc7 h=>?_) fun hc7 h=>?_
   ·refine wft hc7<|Qan<|thn<|wsq<|Qaj ?_
    obtain ⟨x8,hg9,h⟩:=bno h
    obtain ⟨hi10,hj11⟩:=gsm hg9
    refine hpre (A:=(Q85 p0 y4 x8)) ⟨aid rfl Tryz.underlying24 ti59 rfl rfl hi10 (mgt Qad hj11) rfl,alm (c:=Qap) (l:=x8.From) (aln rfl Tryz.underlying57 rfl),tv⟩ fun q3_=>?_
    refine bfe h (fun hb12 h=>?_) fun hb12 h=>?_
    ·exact wx tbk (hcat (Q85 p0 y4 x8) [(8,rp [(.tmp 20,(B ((decide ((x8.From.length:Int)>25)))))] (B true))]) (hap q3_ ⟨asb hb12 (amv rfl),tv⟩)<|wtr<|wxz<|Qaf<|Qaq<|Qag<|Qag<|Qaq<|Qag<|frb h
    ·refine wx tbk (hcat (Q85 p0 y4 x8) [(8,rp [(.tmp 20,(B ((decide ((x8.From.length:Int)>25)))))] (B false)),(12,rp [(.tmp 21,B false),(.tmp 23,(Q88 p0)),(.tmp 24,I y4)] (.dptr (Qad (x8)) 0)),(15,rp [(.tmp 21,B false),(.tmp 27,(.dat 1 ((x8.Weights:List Int).map Qal)))] (I ((x8.Weights.length:Int))))]) (hap q3_ ⟨asb hb12 (amv rfl),ag_ (aid rfl Tryz.underlying24 ti59 rfl rfl hi10 (mgt Qad hj11) rfl),ag_ (alm (c:=Qal) (l:=x8.Weights) (aln rfl Tryz.underlying27 rfl)),tv⟩) ?_
     refine bfe h (fun hc13 h=>?_) fun hc13 h=>?_
     ·exact wft hc13<|wxz<|Qaf<|Qaq<|Qag<|Qag<|Qaq<|Qag<|frb h
     ·exact wfn hc13<|Qan<|bln<|thn<|wxz1<|thn<|arm (mto (n:=46) [(1,(Q10 p1)),(2,.ref 0 2 0 0),(5,(I (w64 (y4+1))))] [0] [(Q6t p0)] hφ0 (pc (rnd Qac) (prr (pw pn))) (qb (lc (rnd Qai) (lc (rnd Qab) ln)) qn)) (ih (w64 (y4+1)) h)
   ·exact wfn hc7<|Qbd<|Qax<|Qax<|Qbc rfl<|thn<|⟨(),h,(mto (n:=46) [(1,(Q10 p1)),(2,.ref 0 2 0 0)] [0] [(Q6t p0)] hφ0 (pc (rnd Qac) (prr pn)) (qb (lc (rnd Qai) (lc (rnd Qab) ln)) qn))⟩
def Qco (N:Nat) (p0:(List Int)) (k2:Int→Option Bool):Nat→Int→Int→Option Bool
  | 0,_,_=>none
  | n8+1,y4,y5=>
    bif (decide (y5<(p0.length:Int))) then
     (getI p0 y5).bind fun x10=>
     (Qdr N x10 0 1000).bind fun x15=>
     bif (!x15) then
      some false
     else
      Qco N p0 k2 n8 (w64 (y4+x10)) (w64 (y5+1))
    else
     k2 (y4)
def Qft (N:Nat) (p0:(List Int)):Option Bool:=
  Qbb (fun y1=>
    bif (decide ((p0.length:Int)≤20)) then
     some (decide (y1>0))
    else
     some false) fun k2:Int→Option Bool=>
  Qco N p0 k2 N 0 0
def Qne (p0:(List Int)):AV:=.dat 1 ((p0:List Int).map Qal)
theorem Qm5 (N:Nat) (p0:(List Int)) (r:Bool) (h:Qft N p0=some r):Spec Tryz.prog 107 [(.dat 1 (p0.map Qal))] [] (B r) []:=by
  refine Qah Tryz.func107 rfl 0 (nle rfl) (fun X φ0 w0 hφ0 hd0=>?_)
  unfold Qft at h
  refine wxz<|wxz ?_
  obtain ⟨k2,hk_k2,h⟩:=jko h
  refine wjn (τ:=Int) (fun t=>k2 t=some r) (fun y1=>⟨mk 30 [(0,(Qne p0)),(3,I y1)],[]⟩) (fun y1 h=>?_) ?_
  ·subst hk_k2
   refine bfe h (fun hb3 h=>?_) fun hb3 h=>?_
   ·refine wx tbk [(1,rp [(.tmp 23,(Qne p0))] (I ((p0.length:Int)))),(3,rp [(.tmp 25,(B ((decide ((p0.length:Int)≤20)))))] (B true))] ⟨alm (c:=Qal) (l:=p0) (aln rfl Tryz.underlying27 rfl),asb hb3 (amv rfl),tv⟩<|Qaf ?_
    obtain rfl:=osi h
    exact fend ⟨[(B ((decide (y1>0))))],⟨rot,tv⟩,rfl⟩ nll
   ·exact wx tbk [(1,rp [(.tmp 23,(Qne p0))] (I ((p0.length:Int)))),(3,rp [(.tmp 25,(B ((decide ((p0.length:Int)≤20)))))] (B false))] ⟨alm (c:=Qal) (l:=p0) (aln rfl Tryz.underlying27 rfl),asb hb3 (amv rfl),tv⟩<|Qaf<|frb h
  ·skip
   refine wxz<|Qaj ?_
   refine wmr (mto (n:=30) (l':=[(0,(Qne p0)),(3,I 0),(4,I 0)]) (own':=[]) [(0,(Qne p0)),(3,I 0),(4,I 0)] [] [] hφ0 (pc (rnd Qae) (pw (pw pn))) qn) ?_
   refine Qbt (τ:=Int×Int) (fun n t=>Qco N p0 k2 n t.1 t.2=some r) (fun ⟨y4,y5⟩=>⟨mk 30 [(0,(Qne p0)),(3,I y4),(4,I y5)],[]⟩) (fun t h=>by rw [Qco] at h; cases h) (fun n8 ih t h=>?_) N (0,0) h
   obtain ⟨y4,y5⟩:=t
   rw [Qco] at h
   skip
   refine wsq<|wx tbk [(2,rp [(.tmp 6,(Qne p0))] (I ((p0.length:Int))))] ⟨alm (c:=Qal) (l:=p0) (aln rfl Tryz.underlying27 rfl),tv⟩ ?_
   refine bfe h (fun hc9 h=>?_) fun hc9 h=>?_
   ·refine wft hc9<|Qan<|thn<|wsq<|Qaj<|wsq ?_
    obtain ⟨x10,hg11,h⟩:=bno h
    obtain ⟨hi12,hj13⟩:=gsm hg11
    obtain ⟨x15,hf14,h⟩:=bno h
    refine wx tbk [(2,rp [(.tmp 11,(Qne p0)),(.tmp 12,I y5)] (.dptr (Qal (x10)) 0)),(4,rp [fu 25,(.tmp 14,I x10),ci 0,ci 1000] (B x15))] ⟨aid rfl Tryz.underlying27 ti3 rfl rfl hi12 (mgt Qal hj13) rfl,apv Qhs (Qcz N x10 0 1000 _ hf14) (nlcc (nlc nll nl0)) nll,tv⟩ ?_
    refine bfe h (fun hc16 h=>?_) fun hc16 h=>?_
    ·exact wft hc16<|wxz<|Qaf<|Qag<|Qaq<|Qag<|Qag<|Qaq<|Qag<|frb h
    ·refine wfn hc16<|Qan<|thn ?_
     exact wx1 tbk [(3,rp [(.tmp 18,(Qne p0)),(.tmp 19,I y5)] (.dptr (Qal (x10)) 0))] ⟨aid rfl Tryz.underlying27 ti3 rfl rfl hi12 (mgt Qal hj13) rfl,tv⟩<|bln<|thn<|wxz1<|thn<|arm (mto (n:=30) [(0,(Qne p0)),(3,(I (w64 (y4+x10)))),(4,(I (w64 (y5+1))))] [] [] hφ0 (pc (rnd Qae) (pw (pw pn))) qn) (ih (w64 (y4+x10),w64 (y5+1)) h)
   ·exact wfn hc9<|Qbd<|Qax<|Qax<|Qbc rfl<|thn<|⟨(y4),h,(mto (n:=30) [(0,(Qne p0)),(3,I y4)] [] [] hφ0 (pc (rnd Qae) (pw pn)) qn)⟩
def Qj3 (N:Nat) (p0:GElement):Option Bool:=
  Qbb (fun _=>
    Qbb (fun ⟨y2,y3⟩=>
      Qbb (fun y5=>
        Qbb (fun y7=>
          Qbb (fun y9=>
            Qbb (fun _=>
              bif (p0.Kind==5) then
               (Qft N p0.Weights).bind fun x14=>
               some x14
              else
               some ((p0.Weights.length:Int)==0)) fun k11:Unit→Option Bool=>
            (Qdr N (p0.From.length:Int) y2 y5).bind fun x16=>
            bif (!x16) then
             some false
            else
             (Qdr N p0.Amount 0 y9).bind fun x19=>
             bif (!x19) then
              some false
             else
              k11 ()) fun k10:Int→Option Bool=>
          bif (p0.Kind==4) then
           k10 (1000)
          else
           k10 (y7)) fun k8:Int→Option Bool=>
        bif (p0.Kind==3) then
         k8 (1000000000)
        else
         k8 (0)) fun k6:Int→Option Bool=>
      bif (p0.Kind==2) then
       k6 (6)
      else
       k6 (y3)) fun k4:Int×Int→Option Bool=>
    bif (p0.Kind==1) then
     k4 (0,0)
    else
     k4 (1,1)) fun k1:Unit→Option Bool=>
  bif (decide (p0.Kind<1)) then
   some false
  else
   bif (decide (p0.Kind>6)) then
    some false
   else
    (Qdr N p0.Wide 0 1000000).bind fun x28=>
    bif (!x28) then
     some false
    else
     (Qdr N p0.Narrow 1 1000000000).bind fun x31=>
     bif (!x31) then
      some false
     else
      k1 ()
def Zjt (p0:GElement):AV:=.dat 2 ((p0.From:List GPort).map Qap)
def Zbv (p0:GElement):AV:=.dat 1 ((p0.Weights:List Int).map Qal)
def Qkl (p0:GElement):Slot:=.own 7 [[(K .u8 (p0.Kind)),(Zjt p0),(I (p0.Level)),(I (p0.Amount)),(I (p0.Wide)),(I (p0.Narrow)),(Zbv p0)]]
def Zbu (p0:GElement) (y2:Int) (y5:Int) (x16:Bool):List (Nat×Rec):=[(2,rp [((.tmp 39),(Zjt p0))] (I ((p0.From.length:Int)))),(5,rp [fu 25,((.tmp 40),(I ((p0.From.length:Int)))),((.tmp 41),(I (y2))),((.tmp 42),(I (y5)))] (B (x16)))]
def Zbt (p0:GElement):List (Nat×Rec):=[(3,rp [((.tmp 8),(B ((decide (p0.Kind<1)))))] (B (false)))]
def Zbs (p0) (x28:Bool):=hcat (Zbt p0) [(8,rp [((.tmp 13),(B ((decide (p0.Kind>6)))))] (B (false))),(11,rp [((.tmp 14),(B (false))),fu 25,((.tmp 16),(I (p0.Wide))),ci 0,ci 1000000] (B (x28)))]
theorem Qtn (N:Nat) (p0:GElement) (r:Bool) (h:Qj3 N p0=some r):Spec Tryz.prog 70 [(.agg (Qad p0))] [] (B r) []:=by
  refine Qah Tryz.func70 rfl 0 (nle rfl) (fun X φ0 w0 hφ0 hd0=>?_)
  unfold Qj3 at h
  refine wxz ?_
  obtain ⟨k1,hk_k1,h⟩:=jko h
  refine wjn (τ:=Unit) (fun t=>k1 t=some r) (fun _=>⟨mk 62 [(1,.ref 0 7 0 0)],[(Qkl p0)]⟩) (fun t h=>?_) ?_
  ·subst hk_k1
   refine wxz ?_
   obtain ⟨k4,hk_k4,h⟩:=jko h
   refine wjn (τ:=Int×Int) (fun t=>k4 t=some r) (fun ⟨y2,y3⟩=>⟨mk 62 [(1,.ref 0 7 0 0),(3,I y2),(4,I y3),(5,I 0)],[(Qkl p0)]⟩) (fun t h=>?_) ?_
   ·subst hk_k4
    obtain ⟨y2,y3⟩:=t
    obtain ⟨k6,hk_k6,h⟩:=jko h
    refine wjn (τ:=Int) (fun t=>k6 t=some r) (fun y5=>⟨mk 62 [(1,.ref 0 7 0 0),(3,I y2),(4,I y5),(5,I 0)],[(Qkl p0)]⟩) (fun y5 h=>?_) ?_
    ·subst hk_k6
     obtain ⟨k8,hk_k8,h⟩:=jko h
     refine wjn (τ:=Int) (fun t=>k8 t=some r) (fun y7=>⟨mk 62 [(1,.ref 0 7 0 0),(3,I y2),(4,I y5),(5,I y7)],[(Qkl p0)]⟩) (fun y7 h=>?_) ?_
     ·subst hk_k8
      obtain ⟨k10,hk_k10,h⟩:=jko h
      refine wjn (τ:=Int) (fun t=>k10 t=some r) (fun y9=>⟨mk 62 [(1,.ref 0 7 0 0),(3,I y2),(4,I y5),(5,I y9)],[(Qkl p0)]⟩) (fun y9 h=>?_) ?_
      ·subst hk_k10
       obtain ⟨k11,hk_k11,h⟩:=jko h
       refine wjn (τ:=Unit) (fun t=>k11 t=some r) (fun _=>⟨mk 62 [(1,.ref 0 7 0 0)],[(Qkl p0)]⟩) (fun t h=>?_) ?_
       ·subst hk_k11
        refine wsq<|wxz ?_
        refine bfe h (fun hc12 h=>?_) fun hc12 h=>?_
        ·refine wft hc12 ?_
         obtain ⟨x14,hf13,h⟩:=bno h
         exact wx tbk [(2,rp [fu 107,(.tmp 56,(Zbv p0))] (B x14))] ⟨apv Zh9 (Qm5 N p0.Weights _ hf13) (nlc (nld Qae _) nl0) nll,tv⟩<|Qaf<|Qag<|frb h
        ·refine wfn hc12<|Qan<|thn ?_
         refine wx tbk [(2,rp [(.tmp 59,(Zbv p0))] (I ((p0.Weights.length:Int))))] ⟨alm (c:=Qal) (l:=p0.Weights) (aln rfl Tryz.underlying27 rfl),tv⟩<|Qaf ?_
         obtain rfl:=osi h
         exact fend ⟨[(B (((p0.Weights.length:Int)==0)))],⟨rot,tv⟩,rfl⟩ nll
       ·skip
        obtain ⟨x16,hf15,h⟩:=bno h
        refine hpre (A:=(Zbu p0 y2 y5 x16)) ⟨alm (c:=Qap) (l:=p0.From) (aln rfl Tryz.underlying57 rfl),apv Qhs (Qcz N (p0.From.length:Int) y2 y5 _ hf15) (nlcc (nlc nll nl0)) nll,tv⟩ fun q1_=>?_
        refine bfe h (fun hb17 h=>?_) fun hb17 h=>?_
        ·exact wx tbk (hcat (Zbu p0 y2 y5 x16) [(7,rp [(.tmp 44,(B ((!x16))))] (B true))]) (hap q1_ ⟨asb hb17 (amv rfl),tv⟩)<|wtr<|wxz<|Qaf<|Qag<|frb h
        ·obtain ⟨x19,hf18,h⟩:=bno h
         refine wx tbk (hcat (Zbu p0 y2 y5 x16) [(7,rp [(.tmp 44,(B ((!x16))))] (B false)),(11,rp [(.tmp 45,B false),fu 25,(.tmp 47,I p0.Amount),ci 0,(.tmp 48,I y9)] (B x19))]) (hap q1_ ⟨asb hb17 (amv rfl),ag_ (apv Qhs (Qcz N p0.Amount 0 y9 _ hf18) (nlcc (nlc nll nl0)) nll),tv⟩) ?_
         refine bfe h (fun hc20 h=>?_) fun hc20 h=>?_
         ·exact wft hc20<|wxz<|Qaf<|Qag<|frb h
         ·exact wfn hc20<|Qan<|thn<|⟨(),h,(mto (n:=62) [(1,.ref 0 7 0 0)] [0] [(Qkl p0)] hφ0 (prr pn) (qb (lc rwl (lc (rnd Qay) (lcc (lcc (lc (rnd Qae) ln))))) qn))⟩
      ·skip
       refine wxz ?_
       refine bfe h (fun hc21 h=>?_) fun hc21 h=>?_
       ·exact wft hc21<|wxz1<|thn<|⟨(1000),h,(mto (n:=62) [(1,.ref 0 7 0 0),(3,I y2),(4,I y5),(5,I 1000)] [0] [(Qkl p0)] hφ0 (prr (pw (pw (pw pn)))) (qb (lc rwl (lc (rnd Qay) (lcc (lcc (lc (rnd Qae) ln))))) qn))⟩
       ·exact wfn hc21<|Qan<|thn<|⟨(y7),h,(mto (n:=62) [(1,.ref 0 7 0 0),(3,I y2),(4,I y5),(5,I y7)] [0] [(Qkl p0)] hφ0 (prr (pw (pw (pw pn)))) (qb (lc rwl (lc (rnd Qay) (lcc (lcc (lc (rnd Qae) ln))))) qn))⟩
     ·skip
      refine wxz ?_
      refine bfe h (fun hc22 h=>?_) fun hc22 h=>?_
      ·exact wft hc22<|wxz1<|thn<|⟨(1000000000),h,(mto (n:=62) [(1,.ref 0 7 0 0),(3,I y2),(4,I y5),(5,I 1000000000)] [0] [(Qkl p0)] hφ0 (prr (pw (pw (pw pn)))) (qb (lc rwl (lc (rnd Qay) (lcc (lcc (lc (rnd Qae) ln))))) qn))⟩
      ·exact wfn hc22<|Qan<|thn<|⟨(0),h,(mto (n:=62) [(1,.ref 0 7 0 0),(3,I y2),(4,I y5),(5,I 0)] [0] [(Qkl p0)] hφ0 (prr (pw (pw (pw pn)))) (qb (lc rwl (lc (rnd Qay) (lcc (lcc (lc (rnd Qae) ln))))) qn))⟩
    ·skip
     refine wxz ?_
     refine bfe h (fun hc23 h=>?_) fun hc23 h=>?_
     ·exact wft hc23<|wxz1<|thn<|⟨(6),h,(mto (n:=62) [(1,.ref 0 7 0 0),(3,I y2),(4,I 6),(5,I 0)] [0] [(Qkl p0)] hφ0 (prr (pw (pw (pw pn)))) (qb (lc rwl (lc (rnd Qay) (lcc (lcc (lc (rnd Qae) ln))))) qn))⟩
     ·exact wfn hc23<|Qan<|thn<|⟨(y3),h,(mto (n:=62) [(1,.ref 0 7 0 0),(3,I y2),(4,I y3),(5,I 0)] [0] [(Qkl p0)] hφ0 (prr (pw (pw (pw pn)))) (qb (lc rwl (lc (rnd Qay) (lcc (lcc (lc (rnd Qae) ln))))) qn))⟩
   ·skip
    refine wxz ?_
    refine bfe h (fun hc24 h=>?_) fun hc24 h=>?_
    ·exact wft hc24<|wxz1<|thn<|⟨(0,0),h,(mto (n:=62) [(1,.ref 0 7 0 0),(3,I 0),(4,I 0),(5,I 0)] [0] [(Qkl p0)] hφ0 (prr (pw (pw (pw pn)))) (qb (lc rwl (lc (rnd Qay) (lcc (lcc (lc (rnd Qae) ln))))) qn))⟩
    ·exact wfn hc24<|Qan<|thn<|⟨(1,1),h,(mto (n:=62) [(1,.ref 0 7 0 0),(3,I 1),(4,I 1),(5,I 0)] [0] [(Qkl p0)] hφ0 (prr (pw (pw (pw pn)))) (qb (lc rwl (lc (rnd Qay) (lcc (lcc (lc (rnd Qae) ln))))) qn))⟩
  ·skip
   refine bfe h (fun hb25 h=>?_) fun hb25 h=>?_
   ·exact wx tbk [(3,rp [(.tmp 8,(B ((decide (p0.Kind<1)))))] (B true))] ⟨asb hb25 (amv rfl),tv⟩<|wtr<|wxz<|Qaf<|Qag<|frb h
   ·refine hpre (A:=(Zbt p0)) ⟨asb hb25 (amv rfl),tv⟩ fun q2_=>?_
    refine bfe h (fun hb26 h=>?_) fun hb26 h=>?_
    ·exact wx tbk (hcat (Zbt p0) [(8,rp [(.tmp 13,(B ((decide (p0.Kind>6)))))] (B true))]) (hap q2_ ⟨asb hb26 (amv rfl),tv⟩)<|wtr<|wxz<|Qaf<|Qag<|frb h
    ·obtain ⟨x28,hf27,h⟩:=bno h
     refine hpre (A:=(Zbs p0 x28)) (hap q2_ ⟨asb hb26 (amv rfl),ag_ (apv Qhs (Qcz N p0.Wide 0 1000000 _ hf27) (nlcc (nlc nll nl0)) nll),tv⟩) fun q3_=>?_
     refine bfe h (fun hb29 h=>?_) fun hb29 h=>?_
     ·exact wx tbk (hcat (Zbs p0 x28) [(14,rp [(.tmp 19,(B ((!x28))))] (B true))]) (hap q3_ ⟨asb hb29 (amv rfl),tv⟩)<|wtr<|wxz<|Qaf<|Qag<|frb h
     ·obtain ⟨x31,hf30,h⟩:=bno h
      refine wx tbk (hcat (Zbs p0 x28) [(14,rp [(.tmp 19,(B ((!x28))))] (B false)),(17,rp [(.tmp 20,B false),fu 25,(.tmp 22,I p0.Narrow),ci 1,ci 1000000000] (B x31))]) (hap q3_ ⟨asb hb29 (amv rfl),ag_ (apv Qhs (Qcz N p0.Narrow 1 1000000000 _ hf30) (nlcc (nlc nll nl0)) nll),tv⟩) ?_
      refine bfe h (fun hc32 h=>?_) fun hc32 h=>?_
      ·exact wft hc32<|wxz<|Qaf<|Qag<|frb h
      ·exact wfn hc32<|Qan<|thn<|⟨(),h,(mto (n:=62) [(1,.ref 0 7 0 0)] [0] [(Qkl p0)] hφ0 (prr pn) (qb (lc rwl (lc (rnd Qay) (lcc (lcc (lc (rnd Qae) ln))))) qn))⟩
def Qhe (_N:Nat) (p0:GElement):Option Int:=
  bif (p0.Kind==4) then
   some 2
  else
   bif (p0.Kind==5) then
    (some (p0.Weights.length:Int)).bind fun x3=>
    some x3
   else
    some 1
def Zpl (p0:GElement):AV:=.dat 1 ((p0.Weights:List Int).map Qal)
theorem Ql2 (N:Nat) (p0:GElement) (r:Int) (h:Qhe N p0=some r):Spec Tryz.prog 71 [(.agg (Qad p0))] [] (I r) []:=by
  refine Qah Tryz.func71 rfl 0 (nle rfl) (fun X φ0 w0 hφ0 hd0=>?_)
  unfold Qhe at h
  refine wxz<|wsq<|wxz ?_
  refine bfe h (fun hc1 h=>?_) fun hc1 h=>?_
  ·refine wft hc1<|wxz<|Qaf<|Qag ?_
   obtain rfl:=osi h
   exact fend ⟨[I 2],⟨rot,tv⟩,rfl⟩ nll
  ·refine wfn hc1<|Qan<|thn<|wsq<|wxz ?_
   refine bfe h (fun hc2 h=>?_) fun hc2 h=>?_
   ·refine wft hc2 ?_
    obtain ⟨x3,hl4,h⟩:=bno h
    refine wx tbk [(2,rp [(.tmp 10,(Zpl p0))] (I ((p0.Weights.length:Int)))),(3,rp [(.tmp 11,(I ((p0.Weights.length:Int))))] (I x3))] ⟨alm (c:=Qal) (l:=p0.Weights) (aln rfl Tryz.underlying27 rfl),Qhj hl4 (aas rfl),tv⟩<|Qaf<|Qag ?_
    obtain rfl:=osi h
    exact fend ⟨[I x3],⟨rot,tv⟩,rfl⟩ nll
   ·refine wfn hc2<|Qan<|thn<|wxz<|Qaf ?_
    obtain rfl:=osi h
    exact fend ⟨[I 1],⟨rot,tv⟩,rfl⟩ nll
def Qeh (N:Nat) (p0:(List GPort)) (k1:Unit→Option Bool) (p1:GPort):Nat→Int→Option Bool
  | 0,_=>none
  | n4+1,y2=>
    bif (decide (y2<(p0.length:Int))) then
     (getI p0 y2).bind fun x6=>
     bif (([x6.Element,x6.Outlet]:List Int)==[p1.Element,p1.Outlet]) then
      some true
     else
      Qeh N p0 k1 p1 n4 (w64 (y2+1))
    else
     k1 ()
def Qig (N:Nat) (p0:(List GPort)) (p1:GPort):Option Bool:=
  Qbb (fun _=>
    some false) fun k1:Unit→Option Bool=>
  Qeh N p0 k1 p1 N 0
def Qvt (p0:(List GPort)):AV:=.dat 2 ((p0:List GPort).map Qap)
def Q5h (p1:GPort):Slot:=.own 2 [[(I (p1.Element)),(I (p1.Outlet))]]
theorem Qnk (N:Nat) (p0:(List GPort)) (p1:GPort) (r:Bool) (h:Qig N p0 p1=some r):Spec Tryz.prog 72 [(.dat 2 (p0.map Qap)),(.agg (Qap p1))] [] (B r) []:=by
  refine Qah Tryz.func72 rfl 0 (nle rfl) (fun X φ0 w0 hφ0 hd0=>?_)
  unfold Qig at h
  refine wxz ?_
  obtain ⟨k1,hk_k1,h⟩:=jko h
  refine wjn (τ:=Unit) (fun t=>k1 t=some r) (fun _=>⟨mk 18 [],[]⟩) (fun t h=>?_) ?_
  ·subst hk_k1
   exact wxz<|Qaf<|frb h
  ·skip
   refine wxz<|Qaj ?_
   refine wmr (mto (n:=18) (l':=[(0,(Qvt p0)),(3,.ref 0 2 0 0),(5,I 0)]) (own':=[(Q5h p1)]) [(0,(Qvt p0)),(3,.ref 0 2 0 0),(5,I 0)] [0] [(Q5h p1)] hφ0 (pc (rnd Qay) (prr (pw pn))) (qb (lcc ln) qn)) ?_
   refine Qbt (τ:=Int) (fun n t=>Qeh N p0 k1 p1 n t=some r) (fun y2=>⟨mk 18 [(0,(Qvt p0)),(3,.ref 0 2 0 0),(5,I y2)],[(Q5h p1)]⟩) (fun t h=>by rw [Qeh] at h; cases h) (fun n4 ih y2 h=>?_) N (0) h
   rw [Qeh] at h
   skip
   refine wsq<|wx tbk [(2,rp [(.tmp 7,(Qvt p0))] (I ((p0.length:Int))))] ⟨alm (c:=Qap) (l:=p0) (aln rfl Tryz.underlying57 rfl),tv⟩ ?_
   refine bfe h (fun hc5 h=>?_) fun hc5 h=>?_
   ·refine wft hc5<|Qan<|thn<|wsq<|Qaj ?_
    obtain ⟨x6,hg7,h⟩:=bno h
    obtain ⟨hi8,hj9⟩:=gsm hg7
    refine wxd tbk [(2,rp [(.tmp 12,(Qvt p0)),(.tmp 13,I y2)] (.dptr (Qap (x6)) 0)),(5,rp [(.tmp 15,(.agg [I x6.Element,I x6.Outlet])),(.tmp 16,(.agg [I p1.Element,I p1.Outlet]))] (B ((([x6.Element,x6.Outlet]:List Int)==[p1.Element,p1.Outlet]))))] ⟨aid rfl Tryz.underlying57 ti61 rfl rfl hi8 (mgt Qap hj9) rfl,Qjb (ls:=[x6.Element,x6.Outlet]) (ks:=[p1.Element,p1.Outlet]) rfl rfl Zrr (by kernel_rfl) rfl rfl,tv⟩ ?_
    refine bfe h (fun hc10 h=>?_) fun hc10 h=>?_
    ·exact wft hc10<|wxz<|Qaf<|Qaq<|Qag<|Qag<|Qaq<|Qag<|frb h
    ·exact wfn hc10<|Qan<|bln<|thn<|wxz1<|thn<|arm (mto (n:=18) [(0,(Qvt p0)),(3,.ref 0 2 0 0),(5,(I (w64 (y2+1))))] [0] [(Q5h p1)] hφ0 (pc (rnd Qay) (prr (pw pn))) (qb (lcc ln) qn)) (ih (w64 (y2+1)) h)
   ·exact wfn hc5<|Qbd<|Qax<|Qax<|Qbc rfl<|thn<|⟨(),h,(mto (n:=18) [] [] [] hφ0 pn qn)⟩
def Qei (N:Nat) (p0:GNet) (y4:Int) (k10:(List GPort)→Option Bool) (x11:GElement):Nat→(List GPort)→Int→Option Bool
  | 0,_,_=>none
  | n21+1,y17,y18=>
    bif (decide (y18<(x11.From.length:Int))) then
     (getI x11.From y18).bind fun x23=>
     (Qdr N x23.Element 0 (w64 (y4 - 1))).bind fun x28=>
     bif (!x28) then
      some false
     else
      (getI p0.Elements x23.Element).bind fun x30=>
      (Qhe N x30).bind fun x35=>
      (Qdr N x23.Outlet 0 (w64 (x35 - 1))).bind fun x37=>
      bif (!x37) then
       some false
      else
       bif (decide (x11.Level>x30.Level)) then
        some false
       else
        (Qig N y17 x23).bind fun x41=>
        bif x41 then
         some false
        else
         chk (decide ((y17.length+([x23]).length) * 16≤140737488355328))<|
         Qei N p0 y4 k10 x11 n21 (y17++([x23])) (w64 (y18+1))
    else
     k10 (y17)
def Qdn (N:Nat) (p0:GNet) (k2:Unit→Option Bool):Nat→(List GPort)→Int→Option Bool
  | 0,_,_=>none
  | n7+1,y3,y4=>
    bif (decide (y4<(p0.Elements.length:Int))) then
     Qbb (fun y9=>
       Qdn N p0 k2 n7 y9 (w64 (y4+1))) fun k10:(List GPort)→Option Bool=>
     (getI p0.Elements y4).bind fun x11=>
     Qbb (fun y15=>
       Qei N p0 y4 k10 x11 N y15 0) fun k16:(List GPort)→Option Bool=>
     (Qj3 N x11).bind fun x45=>
     bif (!x45) then
      some false
     else
      (Qdr N x11.Level 0 (w64 ((p0.Table.length:Int) - 1))).bind fun x48=>
      bif (!x48) then
       some false
      else
       k16 (y3)
    else
     k2 ()
def Qj5 (N:Nat) (p0:GNet):Option Bool:=
  Qbb (fun _=>
    Qbb (fun _=>
      some true) fun k2:Unit→Option Bool=>
    Qdn N p0 k2 N ([]) 0) fun k1:Unit→Option Bool=>
  (Qj7 N p0.Table).bind fun x51=>
  bif (!x51) then
   some false
  else
   bif (decide ((p0.Elements.length:Int)<1)) then
    some false
   else
    bif (decide ((p0.Elements.length:Int)>16)) then
     some false
    else
     k1 ()
def Zj8 (p0:GNet):AV:=.dat 5 ((p0.Table:List GRow).map Qa4)
def Q1z (p0:GNet):AV:=.dat 7 ((p0.Elements:List GElement).map Qad)
def Qph (p0:GNet):Slot:=.own 2 [[(Zj8 p0),(Q1z p0)]]
def Q1y (y15:(List GPort)):AV:=.acc 1 61 2 ((y15:List GPort).map Qap)
def Qwt (x11:GElement):AV:=.dat 2 ((x11.From:List GPort).map Qap)
def Qqu (x11:GElement):Slot:=.own 7 [[(K .u8 (x11.Kind)),(Qwt x11),(I (x11.Level)),(I (x11.Amount)),(I (x11.Wide)),(I (x11.Narrow)),(.dat 1 ((x11.Weights:List Int).map Qal))]]
def Qws (y17:(List GPort)):AV:=.acc 1 61 2 ((y17:List GPort).map Qap)
def Q1x (x23:GPort) (y4:Int) (x28:Bool):List (Nat×Rec):=[(4,rp [fu 25,((.tmp 62),(I (x23.Element))),ci 0,((.tmp 64),(I (w64 (y4 - 1))))] (B (x28)))]
def Zj6 (x30:GElement):AV:=.agg [(K .u8 (x30.Kind)),(.dat 2 ((x30.From:List GPort).map Qap)),(I (x30.Level)),(I (x30.Amount)),(I (x30.Wide)),(I (x30.Narrow)),(.dat 1 ((x30.Weights:List Int).map Qal))]
def Q1w (x23) (y4) (x28) (p0:GNet) (x30:GElement) (x35:Int) (x37:Bool):=hcat (Q1x x23 y4 x28) [(6,rp [((.tmp 66),(B ((!x28))))] (B (false))),(13,rp [((.tmp 67),(B (false))),((.tmp 71),(Q1z p0)),((.tmp 73),(I (x23.Element)))] (.dptr (Qad (x30)) 0)),(15,rp [((.tmp 67),(B (false))),fu 71,((.tmp 75),(Zj6 x30))] (I (x35))),(17,rp [((.tmp 67),(B (false))),fu 25,((.tmp 69),(I (x23.Outlet))),ci 0,((.tmp 77),(I (w64 (x35 - 1))))] (B (x37)))]
def Q1v (x23) (y4) (x28) (p0) (x30) (x35) (x37):=hcat (Q1w x23 y4 x28 p0 x30 x35 x37) [(20,rp [((.tmp 80),(B ((!x37))))] (B (false))),(27,rp [((.tmp 81),(B (false))),((.tmp 85),(Q1z p0)),((.tmp 87),(I (x23.Element)))] (.dptr (Qad (x30)) 0))]
def Qwr (x23:GPort):AV:=.agg [(I (x23.Element)),(I (x23.Outlet))]
def Zj7 (x11:GElement):AV:=.agg [(K .u8 (x11.Kind)),(Qwt x11),(I (x11.Level)),(I (x11.Amount)),(I (x11.Wide)),(I (x11.Narrow)),(.dat 1 ((x11.Weights:List Int).map Qal))]
def Q1u (x11:GElement) (x45:Bool):List (Nat×Rec):=[(1,rp [fu 70,((.tmp 36),(Zj7 x11))] (B (x45)))]
def Q1t (p0:GNet) (x51:Bool):List (Nat×Rec):=[(2,rp [fu 69,((.tmp 9),(Zj8 p0))] (B (x51)))]
def Q1s (p0) (x51):=hcat (Q1t p0 x51) [(4,rp [((.tmp 11),(B ((!x51))))] (B (false))),(7,rp [((.tmp 12),(B (false))),((.tmp 14),(Q1z p0))] (I ((p0.Elements.length:Int))))]
theorem Qtp (N:Nat) (p0:GNet) (r:Bool) (h:Qj5 N p0=some r):Spec Tryz.prog 28 [(.agg (Qhz p0))] [] (B r) []:=by
  refine Qah Tryz.func28 rfl 0 (nle rfl) (fun X φ0 w0 hφ0 hd0=>?_)
  unfold Qj5 at h
  refine wxz ?_
  obtain ⟨k1,hk_k1,h⟩:=jko h
  refine wjn (τ:=Unit) (fun t=>k1 t=some r) (fun _=>⟨mk 102 [(1,.ref 0 2 0 0)],[(Qph p0)]⟩) (fun t h=>?_) ?_
  ·subst hk_k1
   refine wxz ?_
   obtain ⟨k2,hk_k2,h⟩:=jko h
   refine wjn (τ:=Unit) (fun t=>k2 t=some r) (fun _=>⟨mk 102 [],[]⟩) (fun t h=>?_) ?_
   ·subst hk_k2
    exact wxz<|Qaf<|frb h
   ·skip
    refine wxz<|Qaj ?_
    refine wmr (Mor.trans (Qlu 1 61 2 3 (by kernel_rfl) (by kernel_rfl)) (mto (n:=102) (l':=[(1,.ref 0 2 0 0),(3,(.acc 1 61 2 ((([]):List GPort).map Qap))),(4,I 0)]) (own':=[(Qph p0),.tok]) [(1,.ref 0 2 0 0),(3,(.acc 1 61 2 (([]:List GPort).map Qap))),(4,I 0)] [0,1] [(Qph p0),.tok] hφ0 (prr (pc (.rn (Qaw rfl (Qas Qay _))) (pw pn))) (qb (lc (rnd Qai) (lc (rnd Qab) ln)) (qc .tok qn)))) ?_
    refine Qbt (τ:=(List GPort)×Int) (fun n t=>Qdn N p0 k2 n t.1 t.2=some r) (fun ⟨y3,y4⟩=>⟨mk 102 [(1,.ref 0 2 0 0),(3,(.acc 1 61 2 ((y3:List GPort).map Qap))),(4,I y4)],[(Qph p0),.tok]⟩) (fun t h=>by rw [Qdn] at h; cases h) (fun n7 ih t h=>?_) N ([],0) h
    obtain ⟨y3,y4⟩:=t
    rw [Qdn] at h
    skip
    refine wsq<|wx tbk [(3,rp [(.tmp 26,(Q1z p0))] (I ((p0.Elements.length:Int))))] ⟨alm (c:=Qad) (l:=p0.Elements) (aln rfl Tryz.underlying24 rfl),tv⟩ ?_
    refine bfe h (fun hc8 h=>?_) fun hc8 h=>?_
    ·refine wft hc8<|Qan<|thn ?_
     obtain ⟨k10,hk_k10,h⟩:=jko h
     refine wjn (τ:=(List GPort)) (fun t=>k10 t=some r) (fun y9=>⟨mk 102 [(1,.ref 0 2 0 0),(3,(.acc 1 61 2 ((y9:List GPort).map Qap))),(4,I y4)],[(Qph p0),.tok]⟩) (fun y9 h=>?_) ?_
     ·subst hk_k10
      exact wxz1<|thn<|arm (mto (n:=102) [(1,.ref 0 2 0 0),(3,(.acc 1 61 2 ((y9:List GPort).map Qap))),(4,(I (w64 (y4+1))))] [0,1] [(Qph p0),.tok] hφ0 (prr (pc (.rn (Qaw rfl (Qas Qay _))) (pw pn))) (qb (lc (rnd Qai) (lc (rnd Qab) ln)) (qc .tok qn))) (ih (y9,w64 (y4+1)) h)
     ·skip
      refine Qaj ?_
      obtain ⟨x11,hg12,h⟩:=bno h
      obtain ⟨hi13,hj14⟩:=gsm hg12
      refine wx tbk [(3,rp [(.tmp 32,(Q1z p0)),(.tmp 33,I y4)] (.dptr (Qad (x11)) 0))] ⟨aid rfl Tryz.underlying24 ti59 rfl rfl hi13 (mgt Qad hj14) rfl,tv⟩ ?_
      obtain ⟨k16,hk_k16,h⟩:=jko h
      refine wjn (τ:=(List GPort)) (fun t=>k16 t=some r) (fun y15=>⟨mk 102 [(1,.ref 0 2 0 0),(3,(Q1y y15)),(4,I y4),(5,.ref 2 7 0 0)],[(Qph p0),.tok,(Qqu x11)]⟩) (fun y15 h=>?_) ?_
      ·subst hk_k16
       refine wxz<|Qaj ?_
       refine wmr (mto (n:=102) (l':=[(1,.ref 0 2 0 0),(3,(Q1y y15)),(4,I y4),(5,.ref 2 7 0 0),(6,I 0)]) (own':=[(Qph p0),.tok,(Qqu x11)]) [(1,.ref 0 2 0 0),(3,(Q1y y15)),(4,I y4),(5,.ref 2 7 0 0),(6,I 0)] [0,1,2] [(Qph p0),.tok,(Qqu x11)] hφ0 (prr (pc (.rn (Qaw rfl (Qas Qay _))) (pw (prr (pw pn))))) (qb (lc (rnd Qai) (lc (rnd Qab) ln)) (qc .tok (qb (lc rwl (lc (rnd Qay) (lcc (lcc (lc (rnd Qae) ln))))) qn)))) ?_
       refine Qbt (τ:=(List GPort)×Int) (fun n t=>Qei N p0 y4 k10 x11 n t.1 t.2=some r) (fun ⟨y17,y18⟩=>⟨mk 102 [(1,.ref 0 2 0 0),(3,(Qws y17)),(4,I y4),(5,.ref 2 7 0 0),(6,I y18)],[(Qph p0),.tok,(Qqu x11)]⟩) (fun t h=>by rw [Qei] at h; cases h) (fun n21 ih t h=>?_) N (y15,0) h
       obtain ⟨y17,y18⟩:=t
       rw [Qei] at h
       skip
       refine wsq<|wx tbk [(3,rp [(.tmp 51,(Qwt x11))] (I ((x11.From.length:Int))))] ⟨alm (c:=Qap) (l:=x11.From) (aln rfl Tryz.underlying57 rfl),tv⟩ ?_
       refine bfe h (fun hc22 h=>?_) fun hc22 h=>?_
       ·refine wft hc22<|Qan<|thn<|wsq<|Qaj ?_
        obtain ⟨x23,hg24,h⟩:=bno h
        obtain ⟨hi25,hj26⟩:=gsm hg24
        refine wx tbk [(3,rp [(.tmp 57,(Qwt x11)),(.tmp 58,I y18)] (.dptr (Qap (x23)) 0))] ⟨aid rfl Tryz.underlying57 ti61 rfl rfl hi25 (mgt Qap hj26) rfl,tv⟩<|wsq ?_
        obtain ⟨x28,hf27,h⟩:=bno h
        refine hpre (A:=(Q1x x23 y4 x28)) ⟨apv Qhs (Qcz N x23.Element 0 (w64 (y4 - 1)) _ hf27) (nlcc (nlc nll nl0)) nll,tv⟩ fun q1_=>?_
        refine bfe h (fun hb29 h=>?_) fun hb29 h=>?_
        ·refine wxd tbk (hcat (Q1x x23 y4 x28) [(6,rp [(.tmp 66,(B ((!x28))))] (B true))]) (hap q1_ ⟨asb hb29 (amv rfl),tv⟩)<|wtr<|wxz<|Qaf<|Qag<|Qaq<|Qag<|Qag<|Qaq<|Qaq ?_
         exact Qag<|Qag<|Qaq<|Qag<|frb h
        ·obtain ⟨x30,hg31,h⟩:=bno h
         obtain ⟨hi32,hj33⟩:=gsm hg31
         obtain ⟨x35,hf34,h⟩:=bno h
         obtain ⟨x37,hf36,h⟩:=bno h
         refine hpre (A:=(Q1w x23 y4 x28 p0 x30 x35 x37)) (hap q1_ ⟨asb hb29 (amv rfl),ag_ (aid rfl Tryz.underlying24 ti59 rfl rfl hi32 (mgt Qad hj33) rfl),ag_ (apv Zdy (Ql2 N x30 _ hf34) (nlc (NLt.agg _ (nlc nll (nlc (nld Qay _) (nlcc (nlcc (nlc (nld Qae _) nl0)))))) nl0) nll),ag_ (apv Qhs (Qcz N x23.Outlet 0 (w64 (x35 - 1)) _ hf36) (nlcc (nlc nll nl0)) nll),tv⟩) fun q2_=>?_
         refine bfe h (fun hb38 h=>?_) fun hb38 h=>?_
         ·refine wxd tbk (hcat (Q1w x23 y4 x28 p0 x30 x35 x37) [(20,rp [(.tmp 80,(B ((!x37))))] (B true))]) (hap q2_ ⟨asb hb38 (amv rfl),tv⟩)<|wtr<|wxz<|Qaf<|Qag<|Qaq<|Qag<|Qag<|Qaq<|Qaq ?_
          exact Qag<|Qag<|Qaq<|Qag<|frb h
         ·refine hpre (A:=(Q1v x23 y4 x28 p0 x30 x35 x37)) (hap q2_ ⟨asb hb38 (amv rfl),ag_ (aid rfl Tryz.underlying24 ti59 rfl rfl hi32 (mgt Qad hj33) rfl),tv⟩) fun q3_=>?_
          refine bfe h (fun hb39 h=>?_) fun hb39 h=>?_
          ·refine wxd tbk (hcat (Q1v x23 y4 x28 p0 x30 x35 x37) [(32,rp [(.tmp 92,(B ((decide (x11.Level>x30.Level)))))] (B true))]) (hap q3_ ⟨asb hb39 (amv rfl),tv⟩)<|wtr<|wxz<|Qaf<|Qag<|Qaq<|Qag<|Qag<|Qaq<|Qaq ?_
           exact Qag<|Qag<|Qaq<|Qag<|frb h
          ·obtain ⟨x41,hf40,h⟩:=bno h
           refine wxd tbk (hcat (Q1v x23 y4 x28 p0 x30 x35 x37) [(32,rp [(.tmp 92,(B ((decide (x11.Level>x30.Level)))))] (B false)),(35,rp [(.tmp 93,B false),fu 72,(.tmp 94,(Qws y17)),(.tmp 95,(Qwr x23))] (B x41))]) (hap q3_ ⟨asb hb39 (amv rfl),ag_ (awk (rd':=(.func 72,(.fn (.func 72) [] []))::[(.tmp 94,(.dat 2 ((y17:List GPort).map Qap))),(.tmp 95,(Qwr x23))]) ⟨rfl,lrf,rfl,Less.acc,rfl,lrf,tv⟩ (apv Zdx (Qnk N y17 x23 _ hf40) (nlc (nld Qay _) (nlc (NLt.agg _ (nlcc nl0)) nl0)) nll)),tv⟩) ?_
           refine bfe h (fun hc42 h=>?_) fun hc42 h=>?_
           ·refine wft hc42<|wxz<|Qaf<|Qag<|Qaq<|Qag<|Qag<|Qaq<|Qaq<|Qag ?_
            exact Qag<|Qaq<|Qag<|frb h
           ·refine wfn hc42<|Qan<|thn ?_
            obtain ⟨ha43,h⟩:=cko h
            refine wx1 tbk [(2,rp [(.tmp 99,(Qwr x23))] (.dat 2 (([x23]:List GPort).map Qap))),(3,⟨[(.tmp 98,(Qws y17)),(.tmp 100,(.dat 2 (([x23]:List GPort).map Qap)))],[(1,.tok),(4,.unused)],(.acc 4 61 2 ((y17++([x23]):List GPort).map Qap)),[(1,.dead),(4,.tok)],false⟩)] ⟨Qbe (vs:=[(Qwr x23)]) rfl Tryz.underlying57 ti61 tz61 rfl (by decide) rfl (by decide) (by rfl) (by rfl) (by rfl) rfl,Qdj rfl Tryz.underlying57 te61 (Base.acc _ _) rfl rfl (by rfl) (Qf4 Qap ha43) (Qf3 Qap ha43 (by decide)) (Qf2 Qap) rfl rfl,tv⟩<|bln<|thn<|wxz1<|thn ?_
            exact arm (mto (n:=102) [(1,.ref 0 2 0 0),(3,(.acc 4 61 2 ((y17++([x23]):List GPort).map Qap))),(4,I y4),(5,.ref 2 7 0 0),(6,(I (w64 (y18+1))))] [0,4,2] [(Qph p0),.tok,(Qqu x11)] hφ0 (prr (pc (.rn (Qaw rfl (Qas Qay _))) (pw (prr (pw pn))))) (qb (lc (rnd Qai) (lc (rnd Qab) ln)) (qc .tok (qb (lc rwl (lc (rnd Qay) (lcc (lcc (lc (rnd Qae) ln))))) qn)))) (ih (y17++([x23]),w64 (y18+1)) h)
       ·exact wfn hc22<|Qbd<|Qax<|Qax<|Qbc rfl<|bln<|thn<|⟨(y17),h,(mto (n:=102) [(1,.ref 0 2 0 0),(3,(Qws y17)),(4,I y4)] [0,1] [(Qph p0),.tok] hφ0 (prr (pc (.rn (Qaw rfl (Qas Qay _))) (pw pn))) (qb (lc (rnd Qai) (lc (rnd Qab) ln)) (qc .tok qn)))⟩
      ·skip
       obtain ⟨x45,hf44,h⟩:=bno h
       refine hpre (A:=(Q1u x11 x45)) ⟨apv Znk (Qtn N x11 _ hf44) (nlc (NLt.agg _ (nlc nll (nlc (nld Qay _) (nlcc (nlcc (nlc (nld Qae _) nl0)))))) nl0) nll,tv⟩ fun q4_=>?_
       refine bfe h (fun hb46 h=>?_) fun hb46 h=>?_
       ·refine wx tbk (hcat (Q1u x11 x45) [(3,rp [(.tmp 38,(B ((!x45))))] (B true))]) (hap q4_ ⟨asb hb46 (amv rfl),tv⟩)<|wtr<|wxz<|Qaf<|Qag<|Qaq<|Qag<|Qag<|Qaq<|Qag ?_
        exact frb h
       ·obtain ⟨x48,hf47,h⟩:=bno h
        refine wx tbk (hcat (Q1u x11 x45) [(3,rp [(.tmp 38,(B ((!x45))))] (B false)),(8,rp [(.tmp 39,B false),(.tmp 43,(Zj8 p0))] (I ((p0.Table.length:Int)))),(10,rp [(.tmp 39,B false),fu 25,(.tmp 41,I x11.Level),ci 0,(.tmp 45,(I (w64 ((p0.Table.length:Int) - 1))))] (B x48))]) (hap q4_ ⟨asb hb46 (amv rfl),ag_ (alm (c:=Qa4) (l:=p0.Table) (aln rfl Tryz.underlying23 rfl)),ag_ (apv Qhs (Qcz N x11.Level 0 (w64 ((p0.Table.length:Int) - 1)) _ hf47) (nlcc (nlc nll nl0)) nll),tv⟩) ?_
        refine bfe h (fun hc49 h=>?_) fun hc49 h=>?_
        ·exact wft hc49<|wxz<|Qaf<|Qag<|Qaq<|Qag<|Qag<|Qaq<|Qag<|frb h
        ·exact wfn hc49<|Qan<|thn<|⟨(y3),h,(mto (n:=102) [(1,.ref 0 2 0 0),(3,(.acc 1 61 2 ((y3:List GPort).map Qap))),(4,I y4),(5,.ref 2 7 0 0)] [0,1,2] [(Qph p0),.tok,(Qqu x11)] hφ0 (prr (pc (.rn (Qaw rfl (Qas Qay _))) (pw (prr pn)))) (qb (lc (rnd Qai) (lc (rnd Qab) ln)) (qc .tok (qb (lc rwl (lc (rnd Qay) (lcc (lcc (lc (rnd Qae) ln))))) qn))))⟩
    ·exact wfn hc8<|Qbd<|Qax<|Qax<|Qbc rfl<|thn<|⟨(),h,(mto (n:=102) [] [] [] hφ0 pn qn)⟩
  ·skip
   obtain ⟨x51,hf50,h⟩:=bno h
   refine hpre (A:=(Q1t p0 x51)) ⟨apv Znl (Qtr N p0.Table _ hf50) (nlc (nld Qai _) nl0) nll,tv⟩ fun q5_=>?_
   refine bfe h (fun hb52 h=>?_) fun hb52 h=>?_
   ·exact wx tbk (hcat (Q1t p0 x51) [(4,rp [(.tmp 11,(B ((!x51))))] (B true))]) (hap q5_ ⟨asb hb52 (amv rfl),tv⟩)<|wtr<|wxz<|Qaf<|Qag<|frb h
   ·refine hpre (A:=(Q1s p0 x51)) (hap q5_ ⟨asb hb52 (amv rfl),ag_ (alm (c:=Qad) (l:=p0.Elements) (aln rfl Tryz.underlying24 rfl)),tv⟩) fun q6_=>?_
    refine bfe h (fun hb53 h=>?_) fun hb53 h=>?_
    ·exact wx tbk (hcat (Q1s p0 x51) [(10,rp [(.tmp 17,(B ((decide ((p0.Elements.length:Int)<1)))))] (B true))]) (hap q6_ ⟨asb hb53 (amv rfl),tv⟩)<|wtr<|wxz<|Qaf<|Qag<|frb h
    ·refine wx tbk (hcat (Q1s p0 x51) [(10,rp [(.tmp 17,(B ((decide ((p0.Elements.length:Int)<1)))))] (B false)),(13,rp [(.tmp 18,B false),(.tmp 20,(Q1z p0))] (I ((p0.Elements.length:Int))))]) (hap q6_ ⟨asb hb53 (amv rfl),ag_ (alm (c:=Qad) (l:=p0.Elements) (aln rfl Tryz.underlying24 rfl)),tv⟩) ?_
     refine bfe h (fun hc54 h=>?_) fun hc54 h=>?_
     ·exact wft hc54<|wxz<|Qaf<|Qag<|frb h
     ·exact wfn hc54<|Qan<|thn<|⟨(),h,(mto (n:=102) [(1,.ref 0 2 0 0)] [0] [(Qph p0)] hφ0 (prr pn) (qb (lc (rnd Qai) (lc (rnd Qab) ln)) qn))⟩
def Qc2 (N:Nat) (k1:Unit→Option Bool) (p1:(List Int)):Nat→Int→Option Bool
  | 0,_=>none
  | n4+1,y2=>
    bif (decide (y2<(p1.length:Int))) then
     (getI p1 y2).bind fun x6=>
     (Qdr N x6 0 1000000000000).bind fun x11=>
     bif (!x11) then
      some false
     else
      Qc2 N k1 p1 n4 (w64 (y2+1))
    else
     k1 ()
def Qgw (N:Nat) (p0:GNet) (p1:(List Int)):Option Bool:=
  Qbb (fun _=>
    some ((p1.length:Int)==(p0.Elements.length:Int))) fun k1:Unit→Option Bool=>
  Qc2 N k1 p1 N 0
def Qpt (p1:(List Int)):AV:=.dat 1 ((p1:List Int).map Qal)
def Zjs (p0:GNet):AV:=.dat 7 ((p0.Elements:List GElement).map Qad)
def Qvs (p0:GNet):Slot:=.own 2 [[(.dat 5 ((p0.Table:List GRow).map Qa4)),(Zjs p0)]]
theorem Qof (N:Nat) (p0:GNet) (p1:(List Int)) (r:Bool) (h:Qgw N p0 p1=some r):Spec Tryz.prog 33 [(.agg (Qhz p0)),(.dat 1 (p1.map Qal))] [] (B r) []:=by
  refine Qah Tryz.func33 rfl 0 (nle rfl) (fun X φ0 w0 hφ0 hd0=>?_)
  unfold Qgw at h
  refine wxz ?_
  obtain ⟨k1,hk_k1,h⟩:=jko h
  refine wjn (τ:=Unit) (fun t=>k1 t=some r) (fun _=>⟨mk 24 [(1,(Qpt p1)),(2,.ref 0 2 0 0)],[(Qvs p0)]⟩) (fun t h=>?_) ?_
  ·subst hk_k1
   refine wx tbk [(1,rp [(.tmp 18,(Qpt p1))] (I ((p1.length:Int)))),(4,rp [(.tmp 21,(Zjs p0))] (I ((p0.Elements.length:Int))))] ⟨alm (c:=Qal) (l:=p1) (aln rfl Tryz.underlying27 rfl),alm (c:=Qad) (l:=p0.Elements) (aln rfl Tryz.underlying24 rfl),tv⟩<|Qaf ?_
   obtain rfl:=osi h
   exact fend ⟨[(B (((p1.length:Int)==(p0.Elements.length:Int))))],⟨rot,tv⟩,rfl⟩ nll
  ·skip
   refine wxz<|Qaj ?_
   refine wmr (mto (n:=24) (l':=[(1,(Qpt p1)),(2,.ref 0 2 0 0),(5,I 0)]) (own':=[(Qvs p0)]) [(1,(Qpt p1)),(2,.ref 0 2 0 0),(5,I 0)] [0] [(Qvs p0)] hφ0 (pc (rnd Qae) (prr (pw pn))) (qb (lc (rnd Qai) (lc (rnd Qab) ln)) qn)) ?_
   refine Qbt (τ:=Int) (fun n t=>Qc2 N k1 p1 n t=some r) (fun y2=>⟨mk 24 [(1,(Qpt p1)),(2,.ref 0 2 0 0),(5,I y2)],[(Qvs p0)]⟩) (fun t h=>by rw [Qc2] at h; cases h) (fun n4 ih y2 h=>?_) N (0) h
   rw [Qc2] at h
   skip
   refine wsq<|wx tbk [(2,rp [(.tmp 7,(Qpt p1))] (I ((p1.length:Int))))] ⟨alm (c:=Qal) (l:=p1) (aln rfl Tryz.underlying27 rfl),tv⟩ ?_
   refine bfe h (fun hc5 h=>?_) fun hc5 h=>?_
   ·refine wft hc5<|Qan<|thn<|wsq<|Qaj ?_
    obtain ⟨x6,hg7,h⟩:=bno h
    obtain ⟨hi8,hj9⟩:=gsm hg7
    obtain ⟨x11,hf10,h⟩:=bno h
    refine wx tbk [(2,rp [(.tmp 12,(Qpt p1)),(.tmp 13,I y2)] (.dptr (Qal (x6)) 0)),(4,rp [fu 25,(.tmp 15,I x6),ci 0,ci 1000000000000] (B x11))] ⟨aid rfl Tryz.underlying27 ti3 rfl rfl hi8 (mgt Qal hj9) rfl,apv Qhs (Qcz N x6 0 1000000000000 _ hf10) (nlcc (nlc nll nl0)) nll,tv⟩ ?_
    refine bfe h (fun hc12 h=>?_) fun hc12 h=>?_
    ·exact wft hc12<|wxz<|Qaf<|Qaq<|Qag<|Qag<|Qaq<|Qag<|frb h
    ·exact wfn hc12<|Qan<|bln<|thn<|wxz1<|thn<|arm (mto (n:=24) [(1,(Qpt p1)),(2,.ref 0 2 0 0),(5,(I (w64 (y2+1))))] [0] [(Qvs p0)] hφ0 (pc (rnd Qae) (prr (pw pn))) (qb (lc (rnd Qai) (lc (rnd Qab) ln)) qn)) (ih (w64 (y2+1)) h)
   ·exact wfn hc5<|Qbd<|Qax<|Qax<|Qbc rfl<|thn<|⟨(),h,(mto (n:=24) [(1,(Qpt p1)),(2,.ref 0 2 0 0)] [0] [(Qvs p0)] hφ0 (pc (rnd Qae) (prr pn)) (qb (lc (rnd Qai) (lc (rnd Qab) ln)) qn))⟩
def Qgf (N:Nat) (p0:GStream):Option Bool:=
  (Qdr N p0.Mass 0 1000000).bind fun x2=>
  bif x2 then
   (Qdr N p0.Heat 0 (w64 (4000 * p0.Mass))).bind fun x5=>
   bif x5 then
    (Qdr N p0.Silica 0 (w64 (10000 * p0.Mass))).bind fun x8=>
    bif x8 then
     (Qdr N p0.Gas 0 1000000000).bind fun x11=>
     some x11
    else
     some false
   else
    some false
  else
   some false
def Zbr (p0:GStream) (x2:Bool):List (Nat×Rec):=[(2,rp [fu 25,((.tmp 4),(I (p0.Mass))),ci 0,ci 1000000] (B (x2)))]
def Zbq (p0) (x2) (x5:Bool):=hcat (Zbr p0 x2) [(3,rp [((.tmp 5),(B (x2)))] (B (true))),(9,rp [((.tmp 6),(B (true))),fu 25,((.tmp 8),(I (p0.Heat))),ci 0,((.tmp 11),(I (w64 (4000 * p0.Mass))))] (B (x5)))]
def Zbp (p0) (x2) (x5) (x8:Bool):=hcat (Zbq p0 x2 x5) [(11,rp [((.tmp 13),(B (x5)))] (B (true))),(17,rp [((.tmp 14),(B (true))),fu 25,((.tmp 16),(I (p0.Silica))),ci 0,((.tmp 19),(I (w64 (10000 * p0.Mass))))] (B (x8)))]
theorem Qnn (N:Nat) (p0:GStream) (r:Bool) (h:Qgf N p0=some r):Spec Tryz.prog 121 [(.agg (Qaa p0))] [] (B r) []:=by
  refine Qah Tryz.func121 rfl 0 (nle rfl) (fun X φ0 w0 hφ0 hd0=>?_)
  unfold Qgf at h
  refine wxz ?_
  obtain ⟨x2,hf1,h⟩:=bno h
  refine hpre (A:=(Zbr p0 x2)) ⟨apv Qhs (Qcz N p0.Mass 0 1000000 _ hf1) (nlcc (nlc nll nl0)) nll,tv⟩ fun q1_=>?_
  refine bfe h (fun hb3 h=>?_) fun hb3 h=>?_
  ·obtain ⟨x5,hf4,h⟩:=bno h
   refine hpre (A:=(Zbq p0 x2 x5)) (hap q1_ ⟨asb hb3 (amv rfl),ag_ (apv Qhs (Qcz N p0.Heat 0 (w64 (4000 * p0.Mass)) _ hf4) (nlcc (nlc nll nl0)) nll),tv⟩) fun q2_=>?_
   refine bfe h (fun hb6 h=>?_) fun hb6 h=>?_
   ·obtain ⟨x8,hf7,h⟩:=bno h
    refine hpre (A:=(Zbp p0 x2 x5 x8)) (hap q2_ ⟨asb hb6 (amv rfl),ag_ (apv Qhs (Qcz N p0.Silica 0 (w64 (10000 * p0.Mass)) _ hf7) (nlcc (nlc nll nl0)) nll),tv⟩) fun q3_=>?_
    refine bfe h (fun hb9 h=>?_) fun hb9 h=>?_
    ·obtain ⟨x11,hf10,h⟩:=bno h
     exact wx tbk (hcat (Zbp p0 x2 x5 x8) [(19,rp [(.tmp 21,B x8)] (B true)),(22,rp [(.tmp 22,B true),fu 25,(.tmp 24,I p0.Gas),ci 0,ci 1000000000] (B x11))]) (hap q3_ ⟨asb hb9 (amv rfl),ag_ (apv Qhs (Qcz N p0.Gas 0 1000000000 _ hf10) (nlcc (nlc nll nl0)) nll),tv⟩)<|Qaf<|frb h
    ·exact wx tbk (hcat (Zbp p0 x2 x5 x8) [(19,rp [(.tmp 21,B x8)] (B false))]) (hap q3_ ⟨asb hb9 (amv rfl),tv⟩)<|Qaf<|frb h
   ·exact wx tbk (hcat (Zbq p0 x2 x5) [(11,rp [(.tmp 13,B x5)] (B false))]) (hap q2_ ⟨asb hb6 (amv rfl),tv⟩)<|Qaf<|frb h
  ·exact wx tbk (hcat (Zbr p0 x2) [(3,rp [(.tmp 5,B x2)] (B false))]) (hap q1_ ⟨asb hb3 (amv rfl),tv⟩)<|Qaf<|frb h
def Qko (_N:Nat) (p0:GStream):Option GStream:=
  some p0
def Zjr (p0:GStream):AV:=.agg [(I (p0.Mass)),(I (p0.Heat)),(I (p0.Silica)),(I (p0.Gas))]
theorem Qsf (N:Nat) (p0:GStream) (r:GStream) (h:Qko N p0=some r):Spec Tryz.prog 60 [(.agg (Qaa p0))] [] (.agg (Qaa r)) []:=by
  refine Qah Tryz.func60 rfl 0 (nle rfl) (fun X φ0 w0 hφ0 hd0=>?_)
  unfold Qko at h
  refine wxz<|wx tbk [(8,rp [(.tmp 4,I p0.Mass),(.tmp 6,I p0.Heat),(.tmp 8,I p0.Silica),(.tmp 10,I p0.Gas)] (Zjr p0))] ⟨Qaz (vs:=[I p0.Mass,I p0.Heat,I p0.Silica,I p0.Gas]) rfl ts63 tz63 rfl (by rfl) rfl,tv⟩<|Qaf ?_
  obtain rfl:=osi h
  exact fend ⟨[(Zjr p0)],⟨Qbj (n:=1) (m:=4) (j:=0) (i:=0) (xs:=[[I p0.Mass,I p0.Heat,I p0.Silica,I p0.Gas]]) (by kernel_rfl) (by kernel_rfl) ti63 (by decide) rfl (nle rfl) rfl,tv⟩,rfl⟩ (NLt.agg _ (nlcc (nlcc nl0)))
def Qdm (N:Nat) (p0:(List GStream)) (k2:(List GStream)→Option (List GStream)):Nat→(List GStream)→Int→Option (List GStream)
  | 0,_,_=>none
  | n7+1,y3,y4=>
    bif (decide (y4<(p0.length:Int))) then
     (getI p0 y4).bind fun x9=>
     (Qko N x9).bind fun x14=>
     chk (decide ((y3.length+([x14]).length) * 32≤140737488355328))<|
     Qdm N p0 k2 n7 (y3++([x14])) (w64 (y4+1))
    else
     k2 (y3)
def Qhf (N:Nat) (p0:(List GStream)):Option (List GStream):=
  Qbb (fun y1=>
    some y1) fun k2:(List GStream)→Option (List GStream)=>
  Qdm N p0 k2 N ([]) 0
def Qvr (p0:(List GStream)):AV:=.dat 4 ((p0:List GStream).map Qaa)
def Q2w (y3:(List GStream)):AV:=.acc 0 63 4 ((y3:List GStream).map Qaa)
def Zpk (x9:GStream):AV:=.agg [(I (x9.Mass)),(I (x9.Heat)),(I (x9.Silica)),(I (x9.Gas))]
def Q2v (x14:GStream):AV:=.agg [(I (x14.Mass)),(I (x14.Heat)),(I (x14.Silica)),(I (x14.Gas))]
theorem Qma (N:Nat) (p0:(List GStream)) (r:(List GStream)) (h:Qhf N p0=some r):Spec Tryz.prog 19 [(.dat 4 (p0.map Qaa))] [] (.dat 4 (r.map Qaa)) []:=by
  refine Qah Tryz.func19 rfl 0 (nle rfl) (fun X φ0 w0 hφ0 hd0=>?_)
  unfold Qhf at h
  refine wxz<|wxz ?_
  obtain ⟨k2,hk_k2,h⟩:=jko h
  refine wjn (τ:=(List GStream)) (fun t=>k2 t=some r) (fun y1=>⟨mk 20 [(3,(.acc 0 63 4 ((y1:List GStream).map Qaa)))],[.tok]⟩) (fun y1 h=>?_) ?_
  ·subst hk_k2
   refine wxz<|Qaf ?_
   obtain rfl:=osi h
   exact fend ⟨[(.dat 4 ((y1:List GStream).map Qaa))],⟨Qd2 (v:=(.acc 0 63 4 ((y1:List GStream).map Qaa))) (rot) Less.acc,tv⟩,rfl⟩ (nld Qac _)
  ·skip
   refine wxz<|Qaj ?_
   refine wmr (Mor.trans (Qlu 0 63 4 3 (by kernel_rfl) (by kernel_rfl)) (mto (n:=20) (l':=[(0,(Qvr p0)),(3,(.acc 0 63 4 ((([]):List GStream).map Qaa))),(4,I 0)]) (own':=[.tok]) [(0,(Qvr p0)),(3,(.acc 0 63 4 (([]:List GStream).map Qaa))),(4,I 0)] [0] [.tok] hφ0 (pc (rnd Qac) (pc (.rn (Qaw rfl (Qas Qac _))) (pw pn))) (qc .tok qn))) ?_
   refine Qbt (τ:=(List GStream)×Int) (fun n t=>Qdm N p0 k2 n t.1 t.2=some r) (fun ⟨y3,y4⟩=>⟨mk 20 [(0,(Qvr p0)),(3,(Q2w y3)),(4,I y4)],[.tok]⟩) (fun t h=>by rw [Qdm] at h; cases h) (fun n7 ih t h=>?_) N ([],0) h
   obtain ⟨y3,y4⟩:=t
   rw [Qdm] at h
   skip
   refine wsq<|wx tbk [(2,rp [(.tmp 6,(Qvr p0))] (I ((p0.length:Int))))] ⟨alm (c:=Qaa) (l:=p0) (aln rfl Tryz.underlying28 rfl),tv⟩ ?_
   refine bfe h (fun hc8 h=>?_) fun hc8 h=>?_
   ·refine wft hc8<|Qan<|thn<|wsq<|Qaj ?_
    obtain ⟨x9,hg10,h⟩:=bno h
    obtain ⟨hi11,hj12⟩:=gsm hg10
    obtain ⟨x14,hf13,h⟩:=bno h
    obtain ⟨ha15,h⟩:=cko h
    refine wx1 tbk [(3,rp [(.tmp 12,(Qvr p0)),(.tmp 13,I y4)] (.dptr (Qaa (x9)) 0)),(5,rp [fu 60,(.tmp 15,(Zpk x9))] (Q2v x14)),(6,rp [(.tmp 16,(Q2v x14))] (.dat 4 (([x14]:List GStream).map Qaa))),(7,⟨[(.tmp 11,(Q2w y3)),(.tmp 17,(.dat 4 (([x14]:List GStream).map Qaa)))],[(0,.tok),(1,.unused)],(.acc 1 63 4 ((y3++([x14]):List GStream).map Qaa)),[(0,.dead),(1,.tok)],false⟩)] ⟨aid rfl Tryz.underlying28 ti89 rfl rfl hi11 (mgt Qaa hj12) rfl,apv Znp (Qsf N x9 _ hf13) (nlc (NLt.agg _ (nlcc (nlcc nl0))) nl0) (NLt.agg _ (nlcc (nlcc nl0))),Qbe (vs:=[(Q2v x14)]) rfl Tryz.underlying45 ti63 tz63 rfl (by decide) rfl (by decide) (by rfl) (by rfl) (by rfl) rfl,Qdj rfl Tryz.underlying45 te63 (Base.acc _ _) rfl rfl (by rfl) (Qf4 Qaa ha15) (Qf3 Qaa ha15 (by decide)) (Qf2 Qaa) rfl rfl,tv⟩<|bln<|thn<|wxz1<|thn ?_
    exact arm (mto (n:=20) [(0,(Qvr p0)),(3,(.acc 1 63 4 ((y3++([x14]):List GStream).map Qaa))),(4,(I (w64 (y4+1))))] [1] [.tok] hφ0 (pc (rnd Qac) (pc (.rn (Qaw rfl (Qas Qac _))) (pw pn))) (qc .tok qn)) (ih (y3++([x14]),w64 (y4+1)) h)
   ·exact wfn hc8<|Qbd<|Qax<|Qax<|Qbc rfl<|thn<|⟨(y3),h,(mto (n:=20) [(3,(Q2w y3))] [0] [.tok] hφ0 (pc (.rn (Qaw rfl (Qas Qac _))) pn) (qc .tok qn))⟩
def Qdz (N:Nat) (x2:(GTick×Int×Int)) (k11:Int×Int×Int×Int×(List GStream)→Option (GStream×GStream×GLost×Int)):Nat→Int→Int→Int→Int→Int→(List GStream)→Option (GStream×GStream×GLost×Int)
  | 0,_,_,_,_,_,_=>none
  | n28+1,y16,y17,y18,y19,y20,y21=>
    bif (decide (y16<(x2.1.Lost.length:Int))) then
     (getI x2.1.Lost y16).bind fun x30=>
     Qdz N x2 k11 n28 (w64 (y16+1)) (w64 (y17+x30.Heat)) (w64 (y18+x30.Silica)) (w64 (y19+x30.Gas)) (w64 (y20+x30.Scale)) y21
    else
     k11 (y17,y18,y19,y20,y21)
def Qc6 (N:Nat) (x2:(GTick×Int×Int)) (k5:(List GStream)→Option (GStream×GStream×GLost×Int)):(List GPort)→(List GStream)→Option (GStream×GStream×GLost×Int)
  | [],y38=>
    k5 (y38)
  | x41::q42,y38=>
    (getI x2.1.Out x41.Element).bind fun x50=>
    (getI x50 x41.Outlet).bind fun x54=>
    chk (decide ((y38.length+([x54]).length) * 32≤140737488355328))<|
    Qc6 N x2 k5 q42 (y38++([x54]))
def Qi3 (N:Nat) (p0:GNet) (p1:(List Int)) (p2:(List GStream)):Option (GStream×GStream×GLost×Int):=
  (Qmo N p0 p1 p2).bind fun x2=>
  bif (x2.2.2 != 0) then
   some ((⟨0,0,0,0⟩:GStream),(⟨0,0,0,0⟩:GStream),(⟨0,0,0,0⟩:GLost),x2.2.2)
  else
   Qbb (fun y4=>
     Qbb (fun ⟨y6,y7,y8,y9,y10⟩=>
       (Qen N p2).bind fun x13=>
       (Qen N y10).bind fun x15=>
       some (x13,x15,(⟨y6,y7,y8,y9⟩:GLost),0)) fun k11:Int×Int×Int×Int×(List GStream)→Option (GStream×GStream×GLost×Int)=>
     Qdz N x2 k11 N 0 0 0 0 0 y4) fun k5:(List GStream)→Option (GStream×GStream×GLost×Int)=>
   (Qf6 N p0).bind fun x35=>
   (Qf5 N p0.Table p0.Elements x35).bind fun q36=>
   Qc6 N x2 k5 q36 ([])
def Zjq (p0:GNet):AV:=.dat 7 ((p0.Elements:List GElement).map Qad)
def Zbn (p0:GNet):AV:=.agg [(.dat 5 ((p0.Table:List GRow).map Qa4)),(Zjq p0)]
def Qm1 (p2:(List GStream)):AV:=.dat 4 ((p2:List GStream).map Qaa)
def Zbl (x2:(GTick×Int×Int)):AV:=.dat 1 ((x2.1.Out:List (List GStream)).map Qak)
def Qrv (x2:(GTick×Int×Int)):AV:=.dat 4 ((x2.1.Lost:List GLost).map Qa0)
def Q2u:AV:=.agg [(I (0)),(I (0)),(I (0)),(I (0))]
def Qey:Slot:=.own 4 [[(I (0)),(I (0)),(I (0)),(I (0))]]
def Qoz (x2:(GTick×Int×Int)):Slot:=.own 3 [[(Zbl x2),(Qrv x2),(.dat 1 ((x2.1.State:List Int).map Qal))]]
def Zbo (x13:GStream):AV:=.agg [(I (x13.Mass)),(I (x13.Heat)),(I (x13.Silica)),(I (x13.Gas))]
def Zbm (x15:GStream):AV:=.agg [(I (x15.Mass)),(I (x15.Heat)),(I (x15.Silica)),(I (x15.Gas))]
def Q2s (y21:(List GStream)):AV:=.acc 4 63 4 ((y21:List GStream).map Qaa)
def Q2t:AV:=.fn (.func 110) [] [(.ref 6 2 (0) 0),(.ref 7 1 (0) 0)]
def Qzx (p0:GNet):Slot:=.own 2 [[(.dat 5 ((p0.Table:List GRow).map Qa4)),(Zjq p0)]]
def Q2r (y38:(List GStream)):AV:=.acc 8 63 4 ((y38:List GStream).map Qaa)
def Q5g (x54:GStream):AV:=.agg [(I (x54.Mass)),(I (x54.Heat)),(I (x54.Silica)),(I (x54.Gas))]
theorem Qse (N:Nat) (p0:GNet) (p1:(List Int)) (p2:(List GStream)) (r:(GStream×GStream×GLost×Int)) (h:Qi3 N p0 p1 p2=some r):Spec Tryz.prog 34 [(.agg (Qhz p0)),(.dat 1 (p1.map Qal)),(.dat 4 (p2.map Qaa))] [] (.tup [(.agg (Qaa r.1)),(.agg (Qaa r.2.1)),(.agg (Qa0 r.2.2.1)),(I r.2.2.2)]) []:=by
  refine Qah Tryz.func34 rfl 0 (nle rfl) (fun X φ0 w0 hφ0 hd0=>?_)
  unfold Qi3 at h
  refine wxz ?_
  obtain ⟨x2,hf1,h⟩:=bno h
  refine wx tbk [(3,rp [fu 16,(.tmp 17,(Zbn p0)),(.tmp 18,(.dat 1 ((p1:List Int).map Qal))),(.tmp 19,(Qm1 p2))] (.tup [(.agg [(Zbl x2),(Qrv x2),(.dat 1 ((x2.1.State:List Int).map Qal))]),I x2.2.1,I x2.2.2]))] ⟨apv Q3s (Qo7 N p0 p1 p2 _ hf1) (nlc (NLt.agg _ (nlc (nld Qai _) (nlc (nld Qab _) nl0))) (nlc (nld Qae _) (nlc (nld Qac _) nl0))) (NLt.tup _ (nlc (NLt.agg _ (nlc (nld Qam _) (nlc (nld Qau _) (nlc (nld Qae _) nl0)))) (nlcc nl0))),tv⟩<|wsq<|wxz ?_
  refine bfe h (fun hc3 h=>?_) fun hc3 h=>?_
  ·refine wft hc3<|wxe<|Qaf<|Qag ?_
   obtain rfl:=osi h
   exact fend ⟨[Q2u,Q2u,Q2u,I x2.2.2],⟨Qbj (n:=1) (m:=4) (j:=0) (i:=0) (xs:=[[I 0,I 0,I 0,I 0]]) (by kernel_rfl) (by kernel_rfl) ti63 (by decide) rfl (nle rfl) rfl,Qbj (n:=2) (m:=4) (j:=0) (i:=0) (xs:=[[I 0,I 0,I 0,I 0]]) (by kernel_rfl) (by kernel_rfl) ti63 (by decide) rfl (nle rfl) rfl,Qbj (n:=3) (m:=4) (j:=0) (i:=0) (xs:=[[I 0,I 0,I 0,I 0]]) (by kernel_rfl) (by kernel_rfl) ti82 (by decide) rfl (nle rfl) rfl,rot,tv⟩,rfl⟩ (NLt.tup _ (nlc (NLt.agg _ (nlcc (nlcc nl0))) (nlc (NLt.agg _ (nlcc (nlcc nl0))) (nlc (NLt.agg _ (nlcc (nlcc nl0))) (nlc nll nl0)))))
  ·refine wfn hc3<|Qan<|thn<|wxz ?_
   obtain ⟨k5,hk_k5,h⟩:=jko h
   refine wjn (τ:=(List GStream)) (fun t=>k5 t=some r) (fun y4=>⟨mk 80 [(2,(Qm1 p2)),(6,.ref 0 4 0 0),(7,.ref 1 4 0 0),(8,.ref 2 4 0 0),(10,.ref 3 3 0 0),(12,.ref 4 1 0 0)],[Qey,Qey,Qey,(Qoz x2),(.own 1 [[(.acc 5 63 4 ((y4:List GStream).map Qaa))]]),.tok]⟩) (fun y4 h=>?_) ?_
   ·subst hk_k5
    obtain ⟨k11,hk_k11,h⟩:=jko h
    refine wjn (τ:=Int×Int×Int×Int×(List GStream)) (fun t=>k11 t=some r) (fun ⟨y6,y7,y8,y9,y10⟩=>⟨mk 80 [(2,(Qm1 p2)),(6,.ref 0 4 0 0),(7,.ref 1 4 0 0),(8,.ref 2 4 0 0),(12,.ref 3 1 0 0)],[Qey,Qey,(.own 4 [[I y6,I y7,I y8,I y9]]),(.own 1 [[(.acc 4 63 4 ((y10:List GStream).map Qaa))]]),.tok]⟩) (fun t h=>?_) ?_
    ·subst hk_k11
     obtain ⟨y6,y7,y8,y9,y10⟩:=t
     obtain ⟨x13,hf12,h⟩:=bno h
     obtain ⟨x15,hf14,h⟩:=bno h
     refine wxd tbk [(1,rp [fu 76,(.tmp 75,(Qm1 p2))] (Zbo x13)),(3,rp [fu 76,(.tmp 77,(.acc 4 63 4 ((y10:List GStream).map Qaa)))] (Zbm x15))] ⟨apv Quk (Qh6 N p2 _ hf12) (nlc (nld Qac _) nl0) (NLt.agg _ (nlcc (nlcc nl0))),awk (rd':=(.func 76,(.fn (.func 76) [] []))::[(.tmp 77,(.dat 4 ((y10:List GStream).map Qaa)))]) ⟨rfl,lrf,rfl,Less.acc,tv⟩ (apv Quk (Qh6 N y10 _ hf14) (nlc (nld Qac _) nl0) (NLt.agg _ (nlcc (nlcc nl0)))),tv⟩<|Qaf ?_
     obtain rfl:=osi h
     exact fend ⟨[(Zbo x13),(Zbm x15),(.agg [I y6,I y7,I y8,I y9]),I 0],⟨Qbj (n:=0) (m:=4) (j:=0) (i:=0) (xs:=[[I x13.Mass,I x13.Heat,I x13.Silica,I x13.Gas]]) (by kernel_rfl) (by kernel_rfl) ti63 (by decide) rfl (nle rfl) rfl,Qbj (n:=1) (m:=4) (j:=0) (i:=0) (xs:=[[I x15.Mass,I x15.Heat,I x15.Silica,I x15.Gas]]) (by kernel_rfl) (by kernel_rfl) ti63 (by decide) rfl (nle rfl) rfl,Qbj (n:=2) (m:=4) (j:=0) (i:=0) (xs:=[[I y6,I y7,I y8,I y9]]) (by kernel_rfl) (by kernel_rfl) ti82 (by decide) rfl (nle rfl) rfl,rot,tv⟩,rfl⟩ (NLt.tup _ (nlc (NLt.agg _ (nlcc (nlcc nl0))) (nlc (NLt.agg _ (nlcc (nlcc nl0))) (nlc (NLt.agg _ (nlcc (nlcc nl0))) (nlc nll nl0)))))
    ·skip
     refine wx tbk [(2,rp [(.tmp 47,(Qrv x2))] (I ((x2.1.Lost.length:Int))))] ⟨alm (c:=Qa0) (l:=x2.1.Lost) (aln rfl Tryz.underlying32 rfl),tv⟩<|Qaj ?_
     refine wmr (mto (n:=80) (l':=[(2,(Qm1 p2)),(6,.ref 0 4 0 0),(7,.ref 1 4 0 0),(8,.ref 2 4 0 0),(12,.ref 3 1 0 0),(47,(Qrv x2)),(48,(I ((x2.1.Lost.length:Int)))),(49,I 0)]) (own':=[Qey,Qey,Qey,(.own 1 [[(.acc 4 63 4 ((y4:List GStream).map Qaa))]]),.tok]) [(2,(Qm1 p2)),(6,.ref 0 4 0 0),(7,.ref 1 4 0 0),(8,.ref 2 4 0 0),(12,.ref 4 1 0 0),(47,(Qrv x2)),(48,(I ((x2.1.Lost.length:Int)))),(49,I 0)] [0,1,2,4,5] [Qey,Qey,Qey,(.own 1 [[(.acc 5 63 4 ((y4:List GStream).map Qaa))]]),.tok] hφ0 (pc (rnd Qac) (prr (prr (prr (prr (pc (rnd Qau) (pw (pw pn)))))))) (qb (lcc (lcc ln)) (qb (lcc (lcc ln)) (qb (lcc (lcc ln)) (qb (lc (.rn (Qaw rfl (Qas Qac _))) ln) (qc .tok qn)))))) ?_
     refine Qbt (τ:=Int×Int×Int×Int×Int×(List GStream)) (fun n t=>Qdz N x2 k11 n t.1 t.2.1 t.2.2.1 t.2.2.2.1 t.2.2.2.2.1 t.2.2.2.2.2=some r) (fun ⟨y16,y17,y18,y19,y20,y21⟩=>⟨mk 80 [(2,(Qm1 p2)),(6,.ref 0 4 0 0),(7,.ref 1 4 0 0),(8,.ref 2 4 0 0),(12,.ref 3 1 0 0),(47,(Qrv x2)),(48,(I ((x2.1.Lost.length:Int)))),(49,I y16)],[Qey,Qey,(.own 4 [[I y17,I y18,I y19,I y20]]),(.own 1 [[(Q2s y21)]]),.tok]⟩) (fun t h=>by rw [Qdz] at h; cases h) (fun n28 ih t h=>?_) N (0,0,0,0,0,y4) h
     obtain ⟨y16,y17,y18,y19,y20,y21⟩:=t
     rw [Qdz] at h
     skip
     refine wxz<|wsq ?_
     refine bfe h (fun hc29 h=>?_) fun hc29 h=>?_
     ·refine wft hc29<|Qan<|thn<|wsq<|Qaj ?_
      obtain ⟨x30,hg31,h⟩:=bno h
      obtain ⟨hi32,hj33⟩:=gsm hg31
      refine wx tbk [(0,rp [(.tmp 47,(Qrv x2)),(.tmp 49,I y16)] (.dptr (Qa0 (x30)) 0))] ⟨aid rfl Tryz.underlying32 ti82 rfl rfl hi32 (mgt Qa0 hj33) rfl,tv⟩ ?_
      refine wx1 tbk [(20,rp [(.tmp 57,(I (w64 (y17+x30.Heat)))),(.tmp 62,(I (w64 (y18+x30.Silica)))),(.tmp 67,(I (w64 (y19+x30.Gas)))),(.tmp 72,(I (w64 (y20+x30.Scale))))] (.agg [(I (w64 (y17+x30.Heat))),(I (w64 (y18+x30.Silica))),(I (w64 (y19+x30.Gas))),(I (w64 (y20+x30.Scale)))]))] ⟨Qaz (vs:=[(I (w64 (y17+x30.Heat))),(I (w64 (y18+x30.Silica))),(I (w64 (y19+x30.Gas))),(I (w64 (y20+x30.Scale)))]) rfl ts82 tz82 rfl (by rfl) rfl,tv⟩<|bln<|thn<|wxz1<|thn ?_
      exact arm (mto (n:=80) [(2,(Qm1 p2)),(6,.ref 0 4 0 0),(7,.ref 1 4 0 0),(8,.ref 2 4 0 0),(12,.ref 3 1 0 0),(47,(Qrv x2)),(48,(I ((x2.1.Lost.length:Int)))),(49,(I (w64 (y16+1))))] [0,1,2,3,4] [Qey,Qey,(.own 4 [[(I (w64 (y17+x30.Heat))),(I (w64 (y18+x30.Silica))),(I (w64 (y19+x30.Gas))),(I (w64 (y20+x30.Scale)))]]),(.own 1 [[(Q2s y21)]]),.tok] hφ0 (pc (rnd Qac) (prr (prr (prr (prr (pc (rnd Qau) (pw (pw pn)))))))) (qb (lcc (lcc ln)) (qb (lcc (lcc ln)) (qb (lcc (lcc ln)) (qb (lc (.rn (Qaw rfl (Qas Qac _))) ln) (qc .tok qn)))))) (ih (w64 (y16+1),w64 (y17+x30.Heat),w64 (y18+x30.Silica),w64 (y19+x30.Gas),w64 (y20+x30.Scale),y21) h)
     ·exact wfn hc29<|Qbd<|Qax<|Qax<|Qbc rfl<|thn<|⟨(y17,y18,y19,y20,y21),h,(mto (n:=80) [(2,(Qm1 p2)),(6,.ref 0 4 0 0),(7,.ref 1 4 0 0),(8,.ref 2 4 0 0),(12,.ref 3 1 0 0)] [0,1,2,3,4] [Qey,Qey,(.own 4 [[I y17,I y18,I y19,I y20]]),(.own 1 [[(Q2s y21)]]),.tok] hφ0 (pc (rnd Qac) (prr (prr (prr (prr pn))))) (qb (lcc (lcc ln)) (qb (lcc (lcc ln)) (qb (lcc (lcc ln)) (qb (lc (.rn (Qaw rfl (Qas Qac _))) ln) (qc .tok qn))))))⟩
   ·skip
    obtain ⟨x35,hf34,h⟩:=bno h
    refine wx tbk [(1,⟨[fu 75,(.tmp 30,(Zbn p0))],[(6,.unused),(7,.unused),(8,.unused)],Q2t,[(6,(Qzx p0)),(7,(.own 1 [[(.mp 8)]])),(8,(Qdc x35))],false⟩)] ⟨Qav (first:=[]) (cap:=[]) (vs:=[(Zbn p0)]) (σr:=[]) (σr':=[(Qzx p0),(.own 1 [[(.mp 8)]]),(Qdc x35)]) (res':=Q2t) [6,7,8] rfl Zdv (Qlb N p0 _ hf34) rfl (Qbv (rnc (.plain _ (NLt.agg _ (nlc (nld Qai _) (nlc (nld Qab _) nl0)))) rn0)) Qat (slc (Qar (rnc (pld Qai) (rnc (pld Qab) rn0))) (slc (Qar (rnc (Q5n rfl) rn0)) (slc Qn2 Qat))) (Qbp rn0 (rnc (Qbr rfl) (rnc (Qbr rfl) rn0))) rfl rfl rfl,tv⟩<|Qaj ?_
    obtain ⟨q36,hL37,h⟩:=bno h
    refine wmr (mto (n:=80) (l':=[(2,(Qm1 p2)),(6,.ref 0 4 0 0),(7,.ref 1 4 0 0),(8,.ref 2 4 0 0),(10,.ref 3 3 0 0),(12,.ref 4 1 0 0),(31,(.fn (.func 110) [] [.ref 5 2 0 0,.ref 6 1 0 0]))]) (own':=[Qey,Qey,Qey,(Qoz x2),(.own 1 [[nilS]]),(Qzx p0),(.own 1 [[(.mp 7)]]),(Qdc x35)]) [(2,(Qm1 p2)),(6,.ref 1 4 0 0),(7,.ref 2 4 0 0),(8,.ref 3 4 0 0),(10,.ref 4 3 0 0),(12,.ref 5 1 0 0),(31,Q2t)] [1,2,3,4,5,6,7,8] [Qey,Qey,Qey,(Qoz x2),(.own 1 [[nilS]]),(Qzx p0),(.own 1 [[(.mp 8)]]),(Qdc x35)] hφ0 (pc (rnd Qac) (prr (prr (prr (prr (prr (pc (.rn (Qbp rn0 (rnc (rqr rfl) (rnc (rqr rfl) rn0)))) pn))))))) (qb (lcc (lcc ln)) (qb (lcc (lcc ln)) (qb (lcc (lcc ln)) (qb (lc (rnd Qam) (lc (rnd Qau) (lc (rnd Qae) ln))) (qb (lc rwl ln) (qb (lc (rnd Qai) (lc (rnd Qab) ln)) (qb (lc (.rn (Qif rfl)) ln) (qc Qe4 qn))))))))) ?_
    refine wmr (Qln (n:=8) (ty:=63) (m:=4) (q:=4) (mq:=1) (c:=[nilS]) 0 (by kernel_rfl) (by kernel_rfl) (by kernel_rfl) (by decide)) ?_
    refine Qro (τ:=((List GStream))) (kb:=8) (caps:=[.ref 5 2 0 0,.ref 6 1 0 0]) (σr:=[(Qzx p0),(.own 1 [[(.mp 7)]]),(Qdc x35)]) (encs:=fun x=>[(.agg #[(.int .i64 (x.Element)),(.int .i64 (x.Outlet))])]) (fun x=>[(.agg [I x.Element,I x.Outlet])]) [5,6,7] (fun n hn=>hφ0 n (Nat.le_trans (nle rfl) hn)) hd0 (Qla N p0.Table p0.Elements x35 _ hL37) Q6e (by kernel_rfl) (by kernel_rfl) (Qbv (rnc (Qbr rfl) (rnc (Qbr rfl) rn0))) (slc (Qar (rnc (pld Qai) (rnc (pld Qab) rn0))) (slc (Qar (rnc (Q5n rfl) rn0)) (slc Qn2 Qat))) (by kernel_rfl) (fun _=>rfl) (fun x=>⟨(Less.unlits [(.int .i64 (x.Element)),(.int .i64 (x.Outlet))]),tv⟩) (Zc2 (Qi4 (NLt.of0 (nld Qac _)) (Qi4 (NLt.ref _ _ _ _ (by decide)) (Qi4 (NLt.ref _ _ _ _ (by decide)) (Qi4 (NLt.ref _ _ _ _ (by decide)) (Qi4 (NLt.ref _ _ _ _ (by decide)) (Qi4 (NLt.ref _ _ _ _ (by decide)) (Qi4 (NLt.fn _ _ _ nl0 (nlc (NLt.ref _ _ _ _ (by decide)) (nlc (NLt.ref _ _ _ _ (by decide)) nl0))) Q3i)))))))) (fun y38=>[Qey,Qey,Qey,(Qoz x2),(.own 1 [[(Q2r y38)]]),.dead,.dead,.dead,.tok]) (fun _=>rfl) (fun _=>rfl) (fun l t=>Qc6 N x2 k5 l t=some r) ([]) h (by kernel_rfl) ?_ ?_
    ·intro l43 o44 X47 φ48 w49 hφ46 x41 q42 y38 h
     rw [Qc6] at h
     refine wxz1 ?_
     refine ⟨by kernel_rfl,fun o45=>?_⟩
     refine Qaj ?_
     obtain ⟨x50,hg51,h⟩:=bno h
     obtain ⟨hi52,hj53⟩:=gsm hg51
     obtain ⟨x54,hg55,h⟩:=bno h
     obtain ⟨hi56,hj57⟩:=gsm hg55
     obtain ⟨ha58,h⟩:=cko h
     refine wy1 tbk [(5,rp [(.tmp 35,(Zbl x2)),(.tmp 37,I x41.Element)] (.dptr (Qak (x50)) 0)),(9,rp [(.tmp 39,(.dat 4 ((x50:List GStream).map Qaa))),(.tmp 41,I x41.Outlet)] (.dptr (Qaa (x54)) 0)),(11,rp [(.tmp 43,(Q5g x54))] (.dat 4 (([x54]:List GStream).map Qaa))),(12,⟨[(.tmp 33,(Q2r y38)),(.tmp 44,(.dat 4 (([x54]:List GStream).map Qaa)))],[(8,.tok),(11,.unused)],(.acc 11 63 4 ((y38++([x54]):List GStream).map Qaa)),[(8,.dead),(11,.tok)],false⟩)] ⟨aid rfl Tryz.underlying31 ti45 rfl rfl hi52 (mgt Qak hj53) rfl,aid rfl Tryz.underlying45 ti63 rfl rfl hi56 (mgt Qaa hj57) rfl,Qbe (vs:=[(Q5g x54)]) rfl Tryz.underlying45 ti63 tz63 rfl (by decide) rfl (by decide) (by rfl) (by rfl) (by rfl) rfl,Qdj rfl Tryz.underlying45 te63 (Base.acc _ _) rfl rfl (by rfl) (Qf4 Qaa ha58) (Qf3 Qaa ha58 (by decide)) (Qf2 Qaa) rfl rfl,tv⟩<|bln ?_
     exact ⟨(y38++([x54])),h,Zcn (own':=[Qey,Qey,Qey,(Qoz x2),(.own 1 [[(.acc 8 63 4 (((y38++([x54])):List GStream).map Qaa))]]),.dead,.dead,.dead,.tok,(.far (farL l43 o45))]) [0,1,2,3,4,5,6,7,11,9] [Qey,Qey,Qey,(Qoz x2),(.own 1 [[(.acc 11 63 4 ((y38++([x54]):List GStream).map Qaa))]]),.dead,.dead,.dead,.tok,(.far (farL l43 o45))] (by kernel_rfl) (by kernel_rfl) ⟨(spb (lcc (lcc ln))),(spb (lcc (lcc ln))),(spb (lcc (lcc ln))),(spb (lc (rnd Qam) (lc (rnd Qau) (lc (rnd Qae) ln)))),(spb (lc (.rn (Qaw rfl (Qas Qac _))) ln)),.dead,.dead,.dead,.tok,.far _,tv⟩⟩
    ·intro y38 h
     rw [Qc6] at h
     exact bln<|thn<|⟨(y38),h,(mto (n:=80) [(2,(Qm1 p2)),(6,.ref 0 4 0 0),(7,.ref 1 4 0 0),(8,.ref 2 4 0 0),(10,.ref 3 3 0 0),(12,.ref 4 1 0 0)] [0,1,2,3,4,8] [Qey,Qey,Qey,(Qoz x2),(.own 1 [[(Q2r y38)]]),.tok] hφ0 (pc (rnd Qac) (prr (prr (prr (prr (prr pn)))))) (qb (lcc (lcc ln)) (qb (lcc (lcc ln)) (qb (lcc (lcc ln)) (qb (lc (rnd Qam) (lc (rnd Qau) (lc (rnd Qae) ln))) (qb (lc (.rn (Qaw rfl (Qas Qac _))) ln) (qc .tok qn)))))))⟩
def Qd3 (N:Nat) (p0:GNet) (y7:Int) (k15:(List GPort)×(List GPort)→Option (List GPort)):Nat→(List GPort)→(List GPort)→Int→Option (List GPort)
  | 0,_,_,_=>none
  | n22+1,y16,y17,y18=>
    (getI p0.Elements y7).bind fun x23=>
    (Qhe N x23).bind fun x28=>
    bif (decide (y18<x28)) then
     (Qig N y16 (⟨y7,y18⟩:GPort)).bind fun x31=>
     bif (!x31) then
      chk (decide ((y17.length+([(⟨y7,y18⟩:GPort)]).length) * 16≤140737488355328))<|
      Qd3 N p0 y7 k15 n22 y16 (y17++([(⟨y7,y18⟩:GPort)])) (w64 (y18+1))
     else
      Qd3 N p0 y7 k15 n22 y16 y17 (w64 (y18+1))
    else
     k15 (y16,y17)
def Qev (N:Nat) (p0:GNet) (k4:(List GPort)→Option (List GPort)):Nat→(List GPort)→(List GPort)→Int→Option (List GPort)
  | 0,_,_,_=>none
  | n11+1,y5,y6,y7=>
    bif (decide (y7<(p0.Elements.length:Int))) then
     Qbb (fun ⟨y13,y14⟩=>
       Qev N p0 k4 n11 y13 y14 (w64 (y7+1))) fun k15:(List GPort)×(List GPort)→Option (List GPort)=>
     Qd3 N p0 y7 k15 N y5 y6 0
    else
     k4 (y6)
def Qeu (N:Nat) (p0:GNet) (k2:(List GPort)→Option (List GPort)):Nat→(List GPort)→Int→Option (List GPort)
  | 0,_,_=>none
  | n38+1,y34,y35=>
    bif (decide (y35<(p0.Elements.length:Int))) then
     (getI p0.Elements y35).bind fun x40=>
     chk (decide ((y34.length+x40.From.length) * 16≤140737488355328))<|
     Qeu N p0 k2 n38 (y34++x40.From) (w64 (y35+1))
    else
     k2 (y34)
def Qk3 (N:Nat) (p0:GNet):Option (List GPort):=
  Qbb (fun y1=>
    Qbb (fun y3=>
      some y3) fun k4:(List GPort)→Option (List GPort)=>
    Qev N p0 k4 N y1 ([]) 0) fun k2:(List GPort)→Option (List GPort)=>
  Qeu N p0 k2 N ([]) 0
def Zbk (y1:(List GPort)):AV:=.acc 1 61 2 ((y1:List GPort).map Qap)
def Qzw (p0:GNet):AV:=.dat 7 ((p0.Elements:List GElement).map Qad)
def Qjr (p0:GNet):Slot:=.own 2 [[(.dat 5 ((p0.Table:List GRow).map Qa4)),(Qzw p0)]]
def Q2q (y5:(List GPort)):AV:=.acc 1 61 2 ((y5:List GPort).map Qap)
def Qxt (y6:(List GPort)):AV:=.acc 2 61 2 ((y6:List GPort).map Qap)
def Qps (y16:(List GPort)):AV:=.acc 1 61 2 ((y16:List GPort).map Qap)
def Qsh (y17:(List GPort)):AV:=.acc 2 61 2 ((y17:List GPort).map Qap)
def Zf0 (x23:GElement):AV:=.agg [(K .u8 (x23.Kind)),(.dat 2 ((x23.From:List GPort).map Qap)),(I (x23.Level)),(I (x23.Amount)),(I (x23.Wide)),(I (x23.Narrow)),(.dat 1 ((x23.Weights:List Int).map Qal))]
def Qnz (y7:Int) (y18:Int):AV:=.agg [(I (y7)),(I (y18))]
def Qxu (y34:(List GPort)):AV:=.acc 1 61 2 ((y34:List GPort).map Qap)
theorem Qvd (N:Nat) (p0:GNet) (r:(List GPort)) (h:Qk3 N p0=some r):Spec Tryz.prog 36 [(.agg (Qhz p0))] [] (.dat 2 (r.map Qap)) []:=by
  refine Qah Tryz.func36 rfl 0 (nle rfl) (fun X φ0 w0 hφ0 hd0=>?_)
  unfold Qk3 at h
  refine wxz<|wxz ?_
  obtain ⟨k2,hk_k2,h⟩:=jko h
  refine wjn (τ:=(List GPort)) (fun t=>k2 t=some r) (fun y1=>⟨mk 53 [(1,.ref 0 2 0 0),(3,(Zbk y1)),(4,nilS)],[(Qjr p0),.tok]⟩) (fun y1 h=>?_) ?_
  ·subst hk_k2
   obtain ⟨k4,hk_k4,h⟩:=jko h
   refine wjn (τ:=(List GPort)) (fun t=>k4 t=some r) (fun y3=>⟨mk 53 [(4,(.acc 0 61 2 ((y3:List GPort).map Qap)))],[.tok]⟩) (fun y3 h=>?_) ?_
   ·subst hk_k4
    refine wxz<|Qaf ?_
    obtain rfl:=osi h
    exact fend ⟨[(.dat 2 ((y3:List GPort).map Qap))],⟨Qd2 (v:=(.acc 0 61 2 ((y3:List GPort).map Qap))) (rot) Less.acc,tv⟩,rfl⟩ (nld Qay _)
   ·skip
    refine wxz<|Qaj ?_
    refine wmr (Mor.trans (Qlu 2 61 2 4 (by kernel_rfl) (by kernel_rfl)) (mto (n:=53) (l':=[(1,.ref 0 2 0 0),(3,(Zbk y1)),(4,(.acc 2 61 2 ((([]):List GPort).map Qap))),(6,I 0)]) (own':=[(Qjr p0),.tok,.tok]) [(1,.ref 0 2 0 0),(3,(Zbk y1)),(4,(.acc 2 61 2 (([]:List GPort).map Qap))),(6,I 0)] [0,1,2] [(Qjr p0),.tok,.tok] hφ0 (prr (pc (.rn (Qaw rfl (Qas Qay _))) (pc (.rn (Qaw rfl (Qas Qay _))) (pw pn)))) (qb (lc (rnd Qai) (lc (rnd Qab) ln)) (qc .tok (qc .tok qn))))) ?_
    refine Qbt (τ:=(List GPort)×(List GPort)×Int) (fun n t=>Qev N p0 k4 n t.1 t.2.1 t.2.2=some r) (fun ⟨y5,y6,y7⟩=>⟨mk 53 [(1,.ref 0 2 0 0),(3,(Q2q y5)),(4,(Qxt y6)),(6,I y7)],[(Qjr p0),.tok,.tok]⟩) (fun t h=>by rw [Qev] at h; cases h) (fun n11 ih t h=>?_) N (y1,[],0) h
    obtain ⟨y5,y6,y7⟩:=t
    rw [Qev] at h
    skip
    refine wsq<|wx tbk [(3,rp [(.tmp 25,(Qzw p0))] (I ((p0.Elements.length:Int))))] ⟨alm (c:=Qad) (l:=p0.Elements) (aln rfl Tryz.underlying24 rfl),tv⟩ ?_
    refine bfe h (fun hc12 h=>?_) fun hc12 h=>?_
    ·refine wft hc12<|Qan<|thn ?_
     obtain ⟨k15,hk_k15,h⟩:=jko h
     refine wjn (τ:=(List GPort)×(List GPort)) (fun t=>k15 t=some r) (fun ⟨y13,y14⟩=>⟨mk 53 [(1,.ref 0 2 0 0),(3,(.acc 1 61 2 ((y13:List GPort).map Qap))),(4,(.acc 2 61 2 ((y14:List GPort).map Qap))),(6,I y7)],[(Qjr p0),.tok,.tok]⟩) (fun t h=>?_) ?_
     ·subst hk_k15
      obtain ⟨y13,y14⟩:=t
      exact wxz1<|thn<|arm (mto (n:=53) [(1,.ref 0 2 0 0),(3,(.acc 1 61 2 ((y13:List GPort).map Qap))),(4,(.acc 2 61 2 ((y14:List GPort).map Qap))),(6,(I (w64 (y7+1))))] [0,1,2] [(Qjr p0),.tok,.tok] hφ0 (prr (pc (.rn (Qaw rfl (Qas Qay _))) (pc (.rn (Qaw rfl (Qas Qay _))) (pw pn)))) (qb (lc (rnd Qai) (lc (rnd Qab) ln)) (qc .tok (qc .tok qn)))) (ih (y13,y14,w64 (y7+1)) h)
     ·skip
      refine Qaj<|wxz<|Qaj ?_
      refine wmr (mto (n:=53) (l':=[(1,.ref 0 2 0 0),(3,(Q2q y5)),(4,(Qxt y6)),(6,I y7),(7,I 0)]) (own':=[(Qjr p0),.tok,.tok]) [(1,.ref 0 2 0 0),(3,(Q2q y5)),(4,(Qxt y6)),(6,I y7),(7,I 0)] [0,1,2] [(Qjr p0),.tok,.tok] hφ0 (prr (pc (.rn (Qaw rfl (Qas Qay _))) (pc (.rn (Qaw rfl (Qas Qay _))) (pw (pw pn))))) (qb (lc (rnd Qai) (lc (rnd Qab) ln)) (qc .tok (qc .tok qn)))) ?_
      refine Qbt (τ:=(List GPort)×(List GPort)×Int) (fun n t=>Qd3 N p0 y7 k15 n t.1 t.2.1 t.2.2=some r) (fun ⟨y16,y17,y18⟩=>⟨mk 53 [(1,.ref 0 2 0 0),(3,(Qps y16)),(4,(Qsh y17)),(6,I y7),(7,I y18)],[(Qjr p0),.tok,.tok]⟩) (fun t h=>by rw [Qd3] at h; cases h) (fun n22 ih t h=>?_) N (y5,y6,0) h
      obtain ⟨y16,y17,y18⟩:=t
      rw [Qd3] at h
      skip
      refine wsq ?_
      obtain ⟨x23,hg24,h⟩:=bno h
      obtain ⟨hi25,hj26⟩:=gsm hg24
      obtain ⟨x28,hf27,h⟩:=bno h
      refine wx tbk [(4,rp [(.tmp 32,(Qzw p0)),(.tmp 33,I y7)] (.dptr (Qad (x23)) 0)),(6,rp [fu 71,(.tmp 35,(Zf0 x23))] (I x28))] ⟨aid rfl Tryz.underlying24 ti59 rfl rfl hi25 (mgt Qad hj26) rfl,apv Zdy (Ql2 N x23 _ hf27) (nlc (NLt.agg _ (nlc nll (nlc (nld Qay _) (nlcc (nlcc (nlc (nld Qae _) nl0)))))) nl0) nll,tv⟩ ?_
      refine bfe h (fun hc29 h=>?_) fun hc29 h=>?_
      ·refine wft hc29<|Qan<|thn<|wsq<|Qaj ?_
       obtain ⟨x31,hf30,h⟩:=bno h
       refine wx tbk [(3,rp [(.tmp 41,I y7),(.tmp 42,I y18)] (Qnz y7 y18)),(4,rp [fu 72,(.tmp 40,(Qps y16)),(.tmp 43,(Qnz y7 y18))] (B x31))] ⟨Qaz (vs:=[I y7,I y18]) rfl ts61 tz61 rfl (by rfl) rfl,awk (rd':=(.func 72,(.fn (.func 72) [] []))::[(.tmp 40,(.dat 2 ((y16:List GPort).map Qap))),(.tmp 43,(Qnz y7 y18))]) ⟨rfl,lrf,rfl,Less.acc,rfl,lrf,tv⟩ (apv Zdx (Qnk N y16 (⟨y7,y18⟩:GPort) _ hf30) (nlc (nld Qay _) (nlc (NLt.agg _ (nlcc nl0)) nl0)) nll),tv⟩ ?_
       refine bfe h (fun hc32 h=>?_) fun hc32 h=>?_
       ·refine wft hc32 ?_
        obtain ⟨ha33,h⟩:=cko h
        refine wx1 tbk [(3,rp [(.tmp 47,I y7),(.tmp 48,I y18)] (Qnz y7 y18)),(4,rp [(.tmp 49,(Qnz y7 y18))] (.dat 2 (([(⟨y7,y18⟩:GPort)]:List GPort).map Qap))),(5,⟨[(.tmp 46,(Qsh y17)),(.tmp 50,(.dat 2 (([(⟨y7,y18⟩:GPort)]:List GPort).map Qap)))],[(2,.tok),(3,.unused)],(.acc 3 61 2 ((y17++([(⟨y7,y18⟩:GPort)]):List GPort).map Qap)),[(2,.dead),(3,.tok)],false⟩)] ⟨Qaz (vs:=[I y7,I y18]) rfl ts61 tz61 rfl (by rfl) rfl,Qbe (vs:=[(Qnz y7 y18)]) rfl Tryz.underlying57 ti61 tz61 rfl (by decide) rfl (by decide) (by rfl) (by rfl) (by rfl) rfl,Qdj rfl Tryz.underlying57 te61 (Base.acc _ _) rfl rfl (by rfl) (Qf4 Qap ha33) (Qf3 Qap ha33 (by decide)) (Qf2 Qap) rfl rfl,tv⟩<|bln<|thn<|wxz1<|thn ?_
        exact arm (mto (n:=53) [(1,.ref 0 2 0 0),(3,(Qps y16)),(4,(.acc 3 61 2 ((y17++([(⟨y7,y18⟩:GPort)]):List GPort).map Qap))),(6,I y7),(7,(I (w64 (y18+1))))] [0,1,3] [(Qjr p0),.tok,.tok] hφ0 (prr (pc (.rn (Qaw rfl (Qas Qay _))) (pc (.rn (Qaw rfl (Qas Qay _))) (pw (pw pn))))) (qb (lc (rnd Qai) (lc (rnd Qab) ln)) (qc .tok (qc .tok qn)))) (ih (y16,y17++([(⟨y7,y18⟩:GPort)]),w64 (y18+1)) h)
       ·exact wfn hc32<|Qan<|bln<|thn<|wxz1<|thn<|arm (mto (n:=53) [(1,.ref 0 2 0 0),(3,(Qps y16)),(4,(Qsh y17)),(6,I y7),(7,(I (w64 (y18+1))))] [0,1,2] [(Qjr p0),.tok,.tok] hφ0 (prr (pc (.rn (Qaw rfl (Qas Qay _))) (pc (.rn (Qaw rfl (Qas Qay _))) (pw (pw pn))))) (qb (lc (rnd Qai) (lc (rnd Qab) ln)) (qc .tok (qc .tok qn)))) (ih (y16,y17,w64 (y18+1)) h)
      ·exact wfn hc29<|Qbd<|Qax<|Qax<|Qbc rfl<|bln<|thn<|⟨(y16,y17),h,(mto (n:=53) [(1,.ref 0 2 0 0),(3,(Qps y16)),(4,(Qsh y17)),(6,I y7)] [0,1,2] [(Qjr p0),.tok,.tok] hφ0 (prr (pc (.rn (Qaw rfl (Qas Qay _))) (pc (.rn (Qaw rfl (Qas Qay _))) (pw pn)))) (qb (lc (rnd Qai) (lc (rnd Qab) ln)) (qc .tok (qc .tok qn))))⟩
    ·exact wfn hc12<|Qbd<|Qax<|Qax<|Qbc rfl<|thn<|⟨(y6),h,(mto (n:=53) [(4,(Qxt y6))] [2] [.tok] hφ0 (pc (.rn (Qaw rfl (Qas Qay _))) pn) (qc .tok qn))⟩
  ·skip
   refine wxz<|Qaj ?_
   refine wmr (Mor.trans (Qlu 1 61 2 3 (by kernel_rfl) (by kernel_rfl)) (mto (n:=53) (l':=[(1,.ref 0 2 0 0),(3,(.acc 1 61 2 ((([]):List GPort).map Qap))),(4,nilS),(5,I 0)]) (own':=[(Qjr p0),.tok]) [(1,.ref 0 2 0 0),(3,(.acc 1 61 2 (([]:List GPort).map Qap))),(4,nilS),(5,I 0)] [0,1] [(Qjr p0),.tok] hφ0 (prr (pc (.rn (Qaw rfl (Qas Qay _))) (pw (pw pn)))) (qb (lc (rnd Qai) (lc (rnd Qab) ln)) (qc .tok qn)))) ?_
   refine Qbt (τ:=(List GPort)×Int) (fun n t=>Qeu N p0 k2 n t.1 t.2=some r) (fun ⟨y34,y35⟩=>⟨mk 53 [(1,.ref 0 2 0 0),(3,(Qxu y34)),(4,nilS),(5,I y35)],[(Qjr p0),.tok]⟩) (fun t h=>by rw [Qeu] at h; cases h) (fun n38 ih t h=>?_) N ([],0) h
   obtain ⟨y34,y35⟩:=t
   rw [Qeu] at h
   skip
   refine wsq<|wx tbk [(3,rp [(.tmp 10,(Qzw p0))] (I ((p0.Elements.length:Int))))] ⟨alm (c:=Qad) (l:=p0.Elements) (aln rfl Tryz.underlying24 rfl),tv⟩ ?_
   refine bfe h (fun hc39 h=>?_) fun hc39 h=>?_
   ·refine wft hc39<|Qan<|thn<|wsq<|Qaj ?_
    obtain ⟨x40,hg41,h⟩:=bno h
    obtain ⟨hi42,hj43⟩:=gsm hg41
    obtain ⟨ha44,h⟩:=cko h
    refine wx1 tbk [(4,rp [(.tmp 17,(Qzw p0)),(.tmp 18,I y35)] (.dptr (Qad (x40)) 0)),(7,⟨[(.tmp 15,(Qxu y34)),(.tmp 21,(.dat 2 ((x40.From:List GPort).map Qap)))],[(1,.tok),(2,.unused)],(.acc 2 61 2 ((y34++x40.From:List GPort).map Qap)),[(1,.dead),(2,.tok)],false⟩)] ⟨aid rfl Tryz.underlying24 ti59 rfl rfl hi42 (mgt Qad hj43) rfl,Qdj rfl Tryz.underlying57 te61 (Base.acc _ _) rfl rfl (Qmq Qap Zcy _) (Qf4 Qap ha44) (Qf3 Qap ha44 (by decide)) (Qf2 Qap) rfl rfl,tv⟩<|bln<|thn<|wxz1<|thn ?_
    exact arm (mto (n:=53) [(1,.ref 0 2 0 0),(3,(.acc 2 61 2 ((y34++x40.From:List GPort).map Qap))),(4,nilS),(5,(I (w64 (y35+1))))] [0,2] [(Qjr p0),.tok] hφ0 (prr (pc (.rn (Qaw rfl (Qas Qay _))) (pw (pw pn)))) (qb (lc (rnd Qai) (lc (rnd Qab) ln)) (qc .tok qn))) (ih (y34++x40.From,w64 (y35+1)) h)
   ·exact wfn hc39<|Qbd<|Qax<|Qax<|Qbc rfl<|thn<|⟨(y34),h,(mto (n:=53) [(1,.ref 0 2 0 0),(3,(Qxu y34)),(4,nilS)] [0,1] [(Qjr p0),.tok] hφ0 (prr (pc (.rn (Qaw rfl (Qas Qay _))) (pw pn))) (qb (lc (rnd Qai) (lc (rnd Qab) ln)) (qc .tok qn)))⟩
def Qj4 (_N:Nat) (p0:GElement) (p1:Int):Option Int:=
  chk (p0.Narrow != 0)<|
  (some (if (w64 (p0.Wide - (w64 (p1.tdiv p0.Narrow))))>0 then w64 (p0.Wide - (w64 (p1.tdiv p0.Narrow))) else 0)).bind fun x2=>
  some x2
theorem Qto (N:Nat) (p0:GElement) (p1:Int) (r:Int) (h:Qj4 N p0 p1=some r):Spec Tryz.prog 62 [(.agg (Qad p0)),(I p1)] [] (I r) []:=by
  refine Qah Tryz.func62 rfl 0 (nle rfl) (fun X φ0 w0 hφ0 hd0=>?_)
  unfold Qj4 at h
  refine wxz ?_
  obtain ⟨hz1,h⟩:=cko h
  obtain ⟨x2,hl3,h⟩:=bno h
  refine wxd tbk [(5,rp [(.tmp 7,I p1),(.tmp 9,I p0.Narrow)] (I (w64 (p1.tdiv p0.Narrow)))),(7,rp [ci 0,(.tmp 11,(I (w64 (p0.Wide - (w64 (p1.tdiv p0.Narrow))))))] (I x2))] ⟨Qkd rfl (Qlf hz1),Qhj hl3 (Qmf rfl),tv⟩<|Qaf ?_
  obtain rfl:=osi h
  exact fend ⟨[I x2],⟨rot,tv⟩,rfl⟩ nll
end Go.Proofs.YtmbhnllcfmiajaaGreat
