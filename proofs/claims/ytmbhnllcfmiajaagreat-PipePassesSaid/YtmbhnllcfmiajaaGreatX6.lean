/-
  Functions of the program: what they compute, as plain functions, and that they do. No conditions.
-/
import Derived.Test.YtmbhnllcfmiajaaGreatX5
namespace Go.Proofs.YtmbhnllcfmiajaaGreat
set_option maxRecDepth 100000
set_option maxHeartbeats 4000000
open Go.RowKit
def Qdn (_N:Nat) (p0:Int) (p1:Int) (p2:Int):Option Bool:=
  bif (decide (p0≥p1)) then
   some (decide (p0≤p2))
  else
   some false
theorem Qcw (N:Nat) (p0:Int) (p1:Int) (p2:Int) (r:Bool) (h:Qdn N p0 p1 p2=some r):Spec Tryz.prog 25 [(I p0),(I p1),(I p2)] [] (B r) []:=by
  refine Qah Tryz.func25 rfl 0 (nle rfl) (fun X φ0 w0 hφ0 hd0=>?_)
  unfold Qdn at h
  refine wxz ?_
  refine bfe h (fun hb1 h=>?_) fun hb1 h=>?_
  ·refine wx tbk [(3,rp [(.tmp 9,(B ((decide (p0≥p1)))))] (B true))] ⟨asb hb1 (amv rfl),tv⟩<|Qae ?_
   obtain rfl:=osi h
   exact fend ⟨[(B ((decide (p0≤p2))))],⟨rot,tv⟩,rfl⟩ nll
  ·exact wx tbk [(3,rp [(.tmp 9,(B ((decide (p0≥p1)))))] (B false))] ⟨asb hb1 (amv rfl),tv⟩<|Qae<|frb h
def Qdk (N:Nat) (p0:(List GRow)) (k1:Unit→Option Bool):Nat→Int→Option Bool
  | 0,_=>none
  | n5+1,y3=>
    bif (decide (y3<(p0.length:Int))) then
     (getI p0 y3).bind fun x7=>
     Qbp (fun _=>
       bif (decide (y3>0)) then
        (getI p0 (w64 (y3 - 1))).bind fun x13=>
        bif (decide (x7.T≤x13.T)) then
         some false
        else
         bif (decide (x7.P≤x13.P)) then
          some false
         else
          bif (decide (x7.Liquid≤x13.Liquid)) then
           some false
          else
           bif (decide (x7.Silica<x13.Silica)) then
            some false
           else
            Qdk N p0 k1 n5 (w64 (y3+1))
       else
        Qdk N p0 k1 n5 (w64 (y3+1))) fun k11:Unit→Option Bool=>
     (Qdn N x7.T 0 400).bind fun x22=>
     bif (!x22) then
      some false
     else
      (Qdn N x7.P 1 10000).bind fun x25=>
      bif (!x25) then
       some false
      else
       (Qdn N x7.Liquid 0 4000).bind fun x28=>
       bif (!x28) then
        some false
       else
        (Qdn N x7.Silica 0 2000).bind fun x31=>
        bif (!x31) then
         some false
        else
         bif (decide (x7.Vapour≤x7.Liquid)) then
          some false
         else
          bif (decide (x7.Vapour>4000)) then
           some false
          else
           k11 ()
    else
     k1 ()
def Qiy (N:Nat) (p0:(List GRow)):Option Bool:=
  Qbp (fun _=>
    bif (decide ((p0.length:Int)≥2)) then
     some (decide ((p0.length:Int)≤20))
    else
     some false) fun k1:Unit→Option Bool=>
  Qdk N p0 k1 N 0
def Qlj (p0:(List GRow)):AV:=.dat 5 ((p0:List GRow).map Qa1)
def Zeu (x7:GRow):Slot:=.own 5 [[(I (x7.T)),(I (x7.P)),(I (x7.Liquid)),(I (x7.Vapour)),(I (x7.Silica))]]
def Q53 (y3:Int) (p0:(List GRow)) (x13:GRow):List (Nat×Rec):=[(2,rp [((.tmp 50),(B ((decide (y3>0)))))] (B (true))),(8,rp [((.tmp 51),(B (true))),((.tmp 54),(Qlj p0)),((.tmp 56),(I (w64 (y3 - 1))))] (.dptr (Qa1 (x13)) 0))]
def Q52 (y3) (p0) (x13) (x7:GRow):=hcat (Q53 y3 p0 x13) [(12,rp [((.tmp 51),(B (true))),((.tmp 60),(B ((decide (x7.T≤x13.T)))))] (B (false))),(18,rp [((.tmp 61),(B (false))),((.tmp 64),(Qlj p0)),((.tmp 66),(I (w64 (y3 - 1))))] (.dptr (Qa1 (x13)) 0))]
def Q51 (y3) (p0) (x13) (x7):=hcat (Q52 y3 p0 x13 x7) [(23,rp [((.tmp 51),(B (true))),((.tmp 71),(B ((decide (x7.P≤x13.P)))))] (B (false))),(29,rp [((.tmp 72),(B (false))),((.tmp 75),(Qlj p0)),((.tmp 77),(I (w64 (y3 - 1))))] (.dptr (Qa1 (x13)) 0))]
def Q50 (x7:GRow) (x22:Bool):List (Nat×Rec):=[(2,rp [fu 25,((.tmp 16),(I (x7.T))),ci 0,ci 400] (B (x22)))]
def Q5z (x7) (x22) (x25:Bool):=hcat (Q50 x7 x22) [(4,rp [((.tmp 18),(B ((!x22))))] (B (false))),(7,rp [((.tmp 19),(B (false))),fu 25,((.tmp 21),(I (x7.P))),ci 1,ci 10000] (B (x25)))]
def Q5y (x7) (x22) (x25) (x28:Bool):=hcat (Q5z x7 x22 x25) [(10,rp [((.tmp 24),(B ((!x25))))] (B (false))),(13,rp [((.tmp 25),(B (false))),fu 25,((.tmp 27),(I (x7.Liquid))),ci 0,ci 4000] (B (x28)))]
def Q0t (x7) (x22) (x25) (x28) (x31:Bool):=hcat (Q5y x7 x22 x25 x28) [(16,rp [((.tmp 30),(B ((!x28))))] (B (false))),(19,rp [((.tmp 31),(B (false))),fu 25,((.tmp 33),(I (x7.Silica))),ci 0,ci 2000] (B (x31)))]
theorem Qrf (N:Nat) (p0:(List GRow)) (r:Bool) (h:Qiy N p0=some r):Spec Tryz.prog 69 [(.dat 5 (p0.map Qa1))] [] (B r) []:=by
  refine Qah Tryz.func69 rfl 0 (nle rfl) (fun X φ0 w0 hφ0 hd0=>?_)
  unfold Qiy at h
  refine wxz ?_
  obtain ⟨k1,hk_k1,h⟩:=jko h
  refine wjn (τ:=Unit) (fun t=>k1 t=some r) (fun _=>⟨mk 103 [(0,(Qlj p0))],[]⟩) (fun t h=>?_) ?_
  ·subst hk_k1
   refine bfe h (fun hb2 h=>?_) fun hb2 h=>?_
   ·refine wx tbk [(1,rp [(.tmp 95,(Qlj p0))] (I ((p0.length:Int)))),(3,rp [(.tmp 97,(B ((decide ((p0.length:Int)≥2)))))] (B true)),(5,rp [(.tmp 98,B true),(.tmp 99,(Qlj p0))] (I ((p0.length:Int))))] ⟨alm (c:=Qa1) (l:=p0) (aln rfl Tryz.underlying23 rfl),asb hb2 (amv rfl),ag_ (alm (c:=Qa1) (l:=p0) (aln rfl Tryz.underlying23 rfl)),tv⟩<|Qae ?_
    obtain rfl:=osi h
    exact fend ⟨[(B ((decide ((p0.length:Int)≤20))))],⟨rot,tv⟩,rfl⟩ nll
   ·exact wx tbk [(1,rp [(.tmp 95,(Qlj p0))] (I ((p0.length:Int)))),(3,rp [(.tmp 97,(B ((decide ((p0.length:Int)≥2)))))] (B false))] ⟨alm (c:=Qa1) (l:=p0) (aln rfl Tryz.underlying23 rfl),asb hb2 (amv rfl),tv⟩<|Qae<|frb h
  ·skip
   refine wxz<|Qaj ?_
   refine wmr (mto (n:=103) (l':=[(0,(Qlj p0)),(3,I 0)]) (own':=[]) [(0,(Qlj p0)),(3,I 0)] [] [] hφ0 (pc (rnd Qai) (pw pn)) qn) ?_
   refine Qcb (τ:=Int) (fun n t=>Qdk N p0 k1 n t=some r) (fun y3=>⟨mk 103 [(0,(Qlj p0)),(3,I y3)],[]⟩) (fun t h=>by rw [Qdk] at h; cases h) (fun n5 ih y3 h=>?_) N (0) h
   rw [Qdk] at h
   skip
   refine wsq<|wx tbk [(2,rp [(.tmp 6,(Qlj p0))] (I ((p0.length:Int))))] ⟨alm (c:=Qa1) (l:=p0) (aln rfl Tryz.underlying23 rfl),tv⟩ ?_
   refine bfe h (fun hc6 h=>?_) fun hc6 h=>?_
   ·refine wft hc6<|Qan<|thn<|wsq<|Qaj ?_
    obtain ⟨x7,hg8,h⟩:=bno h
    obtain ⟨hi9,hj10⟩:=gsm hg8
    refine wx tbk [(2,rp [(.tmp 11,(Qlj p0)),(.tmp 12,I y3)] (.dptr (Qa1 (x7)) 0))] ⟨aid rfl Tryz.underlying23 Qq3 rfl rfl hi9 (mgt Qa1 hj10) rfl,tv⟩ ?_
    obtain ⟨k11,hk_k11,h⟩:=jko h
    refine wjn (τ:=Unit) (fun t=>k11 t=some r) (fun _=>⟨mk 103 [(0,(Qlj p0)),(3,I y3),(4,.ref 0 5 0 0)],[(Zeu x7)]⟩) (fun t h=>?_) ?_
    ·subst hk_k11
     refine bfe h (fun hb12 h=>?_) fun hb12 h=>?_
     ·obtain ⟨x13,hg14,h⟩:=bno h
      obtain ⟨hi15,hj16⟩:=gsm hg14
      refine hpre (A:=(Q53 y3 p0 x13)) ⟨asb hb12 (amv rfl),ag_ (aid rfl Tryz.underlying23 Qq3 rfl rfl hi15 (mgt Qa1 hj16) rfl),tv⟩ fun q1_=>?_
      refine bfe h (fun hb17 h=>?_) fun hb17 h=>?_
      ·exact wxd tbk (hcat (Q53 y3 p0 x13) [(12,rp [(.tmp 51,B true),(.tmp 60,(B ((decide (x7.T≤x13.T)))))] (B true))]) (hap q1_ ⟨asb hb17 (ag_ (amv rfl)),tv⟩)<|wtr<|wxz<|Qae<|Qap<|Qag<|Qag<|Qap<|Qag<|frb h
      ·refine hpre (A:=(Q52 y3 p0 x13 x7)) (hap q1_ ⟨asb hb17 (ag_ (amv rfl)),ag_ (aid rfl Tryz.underlying23 Qq3 rfl rfl hi15 (mgt Qa1 hj16) rfl),tv⟩) fun q2_=>?_
       refine bfe h (fun hb18 h=>?_) fun hb18 h=>?_
       ·exact wxd tbk (hcat (Q52 y3 p0 x13 x7) [(23,rp [(.tmp 51,B true),(.tmp 71,(B ((decide (x7.P≤x13.P)))))] (B true))]) (hap q2_ ⟨asb hb18 (ag_ (amv rfl)),tv⟩)<|wtr<|wxz<|Qae<|Qap<|Qag<|Qag<|Qap<|Qag<|frb h
       ·refine hpre (A:=(Q51 y3 p0 x13 x7)) (hap q2_ ⟨asb hb18 (ag_ (amv rfl)),ag_ (aid rfl Tryz.underlying23 Qq3 rfl rfl hi15 (mgt Qa1 hj16) rfl),tv⟩) fun q3_=>?_
        refine bfe h (fun hb19 h=>?_) fun hb19 h=>?_
        ·exact wxd tbk (hcat (Q51 y3 p0 x13 x7) [(34,rp [(.tmp 51,B true),(.tmp 82,(B ((decide (x7.Liquid≤x13.Liquid)))))] (B true))]) (hap q3_ ⟨asb hb19 (ag_ (amv rfl)),tv⟩)<|wtr<|wxz<|Qae<|Qap<|Qag<|Qag<|Qap<|Qag<|frb h
        ·refine wxd tbk (hcat (Q51 y3 p0 x13 x7) [(34,rp [(.tmp 51,B true),(.tmp 82,(B ((decide (x7.Liquid≤x13.Liquid)))))] (B false)),(40,rp [(.tmp 83,B false),(.tmp 86,(Qlj p0)),(.tmp 88,(I (w64 (y3 - 1))))] (.dptr (Qa1 (x13)) 0))]) (hap q3_ ⟨asb hb19 (ag_ (amv rfl)),ag_ (aid rfl Tryz.underlying23 Qq3 rfl rfl hi15 (mgt Qa1 hj16) rfl),tv⟩) ?_
         refine bfe h (fun hc20 h=>?_) fun hc20 h=>?_
         ·exact wft hc20<|wxz<|Qae<|Qap<|Qag<|Qag<|Qap<|Qag<|frb h
         ·exact wfn hc20<|Qan<|bln<|thn<|wxz1<|thn<|arm (mto (n:=103) [(0,(Qlj p0)),(3,(I (w64 (y3+1))))] [] [] hφ0 (pc (rnd Qai) (pw pn)) qn) (ih (w64 (y3+1)) h)
     ·exact wxd tbk [(2,rp [(.tmp 50,(B ((decide (y3>0)))))] (B false))] ⟨asb hb12 (amv rfl),tv⟩<|wfa<|Qan<|bln<|thn<|wxz1<|thn<|arm (mto (n:=103) [(0,(Qlj p0)),(3,(I (w64 (y3+1))))] [] [] hφ0 (pc (rnd Qai) (pw pn)) qn) (ih (w64 (y3+1)) h)
    ·skip
     obtain ⟨x22,hf21,h⟩:=bno h
     refine hpre (A:=(Q50 x7 x22)) ⟨apv Qgw (Qcw N x7.T 0 400 _ hf21) (nlcc (nlc nll nl0)) nll,tv⟩ fun q4_=>?_
     refine bfe h (fun hb23 h=>?_) fun hb23 h=>?_
     ·refine wx tbk (hcat (Q50 x7 x22) [(4,rp [(.tmp 18,(B ((!x22))))] (B true))]) (hap q4_ ⟨asb hb23 (amv rfl),tv⟩)<|wtr<|wxz<|Qae<|Qag<|Qap<|Qag<|Qag<|Qap<|Qag ?_
      exact frb h
     ·obtain ⟨x25,hf24,h⟩:=bno h
      refine hpre (A:=(Q5z x7 x22 x25)) (hap q4_ ⟨asb hb23 (amv rfl),ag_ (apv Qgw (Qcw N x7.P 1 10000 _ hf24) (nlcc (nlc nll nl0)) nll),tv⟩) fun q5_=>?_
      refine bfe h (fun hb26 h=>?_) fun hb26 h=>?_
      ·refine wx tbk (hcat (Q5z x7 x22 x25) [(10,rp [(.tmp 24,(B ((!x25))))] (B true))]) (hap q5_ ⟨asb hb26 (amv rfl),tv⟩)<|wtr<|wxz<|Qae<|Qag<|Qap<|Qag<|Qag<|Qap<|Qag ?_
       exact frb h
      ·obtain ⟨x28,hf27,h⟩:=bno h
       refine hpre (A:=(Q5y x7 x22 x25 x28)) (hap q5_ ⟨asb hb26 (amv rfl),ag_ (apv Qgw (Qcw N x7.Liquid 0 4000 _ hf27) (nlcc (nlc nll nl0)) nll),tv⟩) fun q6_=>?_
       refine bfe h (fun hb29 h=>?_) fun hb29 h=>?_
       ·refine wx tbk (hcat (Q5y x7 x22 x25 x28) [(16,rp [(.tmp 30,(B ((!x28))))] (B true))]) (hap q6_ ⟨asb hb29 (amv rfl),tv⟩)<|wtr<|wxz<|Qae<|Qag<|Qap<|Qag<|Qag<|Qap<|Qag ?_
        exact frb h
       ·obtain ⟨x31,hf30,h⟩:=bno h
        refine hpre (A:=(Q0t x7 x22 x25 x28 x31)) (hap q6_ ⟨asb hb29 (amv rfl),ag_ (apv Qgw (Qcw N x7.Silica 0 2000 _ hf30) (nlcc (nlc nll nl0)) nll),tv⟩) fun q7_=>?_
        refine bfe h (fun hb32 h=>?_) fun hb32 h=>?_
        ·refine wx tbk (hcat (Q0t x7 x22 x25 x28 x31) [(22,rp [(.tmp 36,(B ((!x31))))] (B true))]) (hap q7_ ⟨asb hb32 (amv rfl),tv⟩)<|wtr<|wxz<|Qae<|Qag<|Qap<|Qag<|Qag<|Qap<|Qag ?_
         exact frb h
        ·refine bfe h (fun hb33 h=>?_) fun hb33 h=>?_
         ·refine wx tbk (hcat (Q0t x7 x22 x25 x28 x31) [(22,rp [(.tmp 36,(B ((!x31))))] (B false)),(29,rp [(.tmp 43,(B ((decide (x7.Vapour≤x7.Liquid)))))] (B true))]) (hap q7_ ⟨asb hb32 (amv rfl),asb hb33 (amv rfl),tv⟩)<|wtr<|wxz<|Qae<|Qag<|Qap<|Qag<|Qag<|Qap<|Qag ?_
          exact frb h
         ·refine wx tbk (hcat (Q0t x7 x22 x25 x28 x31) [(22,rp [(.tmp 36,(B ((!x31))))] (B false)),(29,rp [(.tmp 43,(B ((decide (x7.Vapour≤x7.Liquid)))))] (B false))]) (hap q7_ ⟨asb hb32 (amv rfl),asb hb33 (amv rfl),tv⟩) ?_
          refine bfe h (fun hc34 h=>?_) fun hc34 h=>?_
          ·exact wft hc34<|wxz<|Qae<|Qag<|Qap<|Qag<|Qag<|Qap<|Qag<|frb h
          ·exact wfn hc34<|Qan<|thn<|⟨(),h,(mto (n:=103) [(0,(Qlj p0)),(3,I y3),(4,.ref 0 5 0 0)] [0] [(Zeu x7)] hφ0 (pc (rnd Qai) (pw (prr pn))) (qb (lcc (lcc (lc rwl ln))) qn))⟩
   ·exact wfn hc6<|Qbi<|Qax<|Qax<|Qbh rfl<|thn<|⟨(),h,(mto (n:=103) [(0,(Qlj p0))] [] [] hφ0 (pc (rnd Qai) pn) qn)⟩
def Qd8 (N:Nat) (p0:(List GRow)) (k2:(List GRow)→Option (List GRow)):Nat→(List GRow)→Int→Option (List GRow)
  | 0,_,_=>none
  | n7+1,y3,y4=>
    bif (decide (y4<(p0.length:Int))) then
     (getI p0 y4).bind fun x9=>
     chk (decide ((y3.length+([x9]).length) * 40≤140737488355328))<|
     Qd8 N p0 k2 n7 (y3++([x9])) (w64 (y4+1))
    else
     k2 (y3)
def Qi4 (N:Nat) (p0:(List GRow)):Option (List GRow):=
  Qbp (fun y1=>
    some y1) fun k2:(List GRow)→Option (List GRow)=>
  Qd8 N p0 k2 N ([]) 0
def Qst (p0:(List GRow)):AV:=.dat 5 ((p0:List GRow).map Qa1)
def Q5x (y3:(List GRow)):AV:=.acc 0 160 5 ((y3:List GRow).map Qa1)
def Q5w (x9:GRow):AV:=.agg [(I (x9.T)),(I (x9.P)),(I (x9.Liquid)),(I (x9.Vapour)),(I (x9.Silica))]
theorem Qru (N:Nat) (p0:(List GRow)) (r:(List GRow)) (h:Qi4 N p0=some r):Spec Tryz.prog 59 [(.dat 5 (p0.map Qa1))] [] (.dat 5 (r.map Qa1)) []:=by
  refine Qah Tryz.func59 rfl 0 (nle rfl) (fun X φ0 w0 hφ0 hd0=>?_)
  unfold Qi4 at h
  refine wxz<|wxz ?_
  obtain ⟨k2,hk_k2,h⟩:=jko h
  refine wjn (τ:=(List GRow)) (fun t=>k2 t=some r) (fun y1=>⟨mk 41 [(3,(.acc 0 160 5 ((y1:List GRow).map Qa1)))],[.tok]⟩) (fun y1 h=>?_) ?_
  ·subst hk_k2
   refine wxz<|Qae ?_
   obtain rfl:=osi h
   exact fend ⟨[(.dat 5 ((y1:List GRow).map Qa1))],⟨Qgn (v:=(.acc 0 160 5 ((y1:List GRow).map Qa1))) (rot) Less.acc,tv⟩,rfl⟩ (nld Qai _)
  ·skip
   refine wxz<|Qaj ?_
   refine wmr (Mor.trans (Qrq 0 160 5 3 (by kernel_rfl) (by kernel_rfl)) (mto (n:=41) (l':=[(0,(Qst p0)),(3,(.acc 0 160 5 ((([]):List GRow).map Qa1))),(4,I 0)]) (own':=[.tok]) [(0,(Qst p0)),(3,(.acc 0 160 5 (([]:List GRow).map Qa1))),(4,I 0)] [0] [.tok] hφ0 (pc (rnd Qai) (pc (.rn (Qbw rfl (Qbk Qai _))) (pw pn))) (qc .tok qn))) ?_
   refine Qcb (τ:=(List GRow)×Int) (fun n t=>Qd8 N p0 k2 n t.1 t.2=some r) (fun ⟨y3,y4⟩=>⟨mk 41 [(0,(Qst p0)),(3,(Q5x y3)),(4,I y4)],[.tok]⟩) (fun t h=>by rw [Qd8] at h; cases h) (fun n7 ih t h=>?_) N ([],0) h
   obtain ⟨y3,y4⟩:=t
   rw [Qd8] at h
   skip
   refine wsq<|wx tbk [(2,rp [(.tmp 6,(Qst p0))] (I ((p0.length:Int))))] ⟨alm (c:=Qa1) (l:=p0) (aln rfl Tryz.underlying23 rfl),tv⟩ ?_
   refine bfe h (fun hc8 h=>?_) fun hc8 h=>?_
   ·refine wft hc8<|Qan<|thn<|wsq<|Qaj ?_
    obtain ⟨x9,hg10,h⟩:=bno h
    obtain ⟨hi11,hj12⟩:=gsm hg10
    obtain ⟨ha13,h⟩:=cko h
    refine wy1 tbk [(3,rp [(.tmp 12,(Qst p0)),(.tmp 13,I y4)] (.dptr (Qa1 (x9)) 0)),(8,rp [(.tmp 17,(Qst p0)),(.tmp 18,I y4)] (.dptr (Qa1 (x9)) 0)),(13,rp [(.tmp 22,(Qst p0)),(.tmp 23,I y4)] (.dptr (Qa1 (x9)) 0)),(18,rp [(.tmp 27,(Qst p0)),(.tmp 28,I y4)] (.dptr (Qa1 (x9)) 0)),(23,rp [(.tmp 32,(Qst p0)),(.tmp 33,I y4)] (.dptr (Qa1 (x9)) 0)),(26,rp [(.tmp 16,I x9.T),(.tmp 21,I x9.P),(.tmp 26,I x9.Liquid),(.tmp 31,I x9.Vapour),(.tmp 36,I x9.Silica)] (Q5w x9)),(27,rp [(.tmp 37,(Q5w x9))] (.dat 5 (([x9]:List GRow).map Qa1))),(28,⟨[(.tmp 11,(Q5x y3)),(.tmp 38,(.dat 5 (([x9]:List GRow).map Qa1)))],[(0,.tok),(1,.unused)],(.acc 1 160 5 ((y3++([x9]):List GRow).map Qa1)),[(0,.dead),(1,.tok)],false⟩)] ⟨aid rfl Tryz.underlying23 Qq3 rfl rfl hi11 (mgt Qa1 hj12) rfl,aid rfl Tryz.underlying23 Qq3 rfl rfl hi11 (mgt Qa1 hj12) rfl,aid rfl Tryz.underlying23 Qq3 rfl rfl hi11 (mgt Qa1 hj12) rfl,aid rfl Tryz.underlying23 Qq3 rfl rfl hi11 (mgt Qa1 hj12) rfl,aid rfl Tryz.underlying23 Qq3 rfl rfl hi11 (mgt Qa1 hj12) rfl,Qa2 (vs:=[I x9.T,I x9.P,I x9.Liquid,I x9.Vapour,I x9.Silica]) rfl Zbw Qzc rfl (by rfl) rfl,Qbo (vs:=[(Q5w x9)]) rfl Tryz.underlying39 Qsx Qzc rfl (by decide) rfl (by decide) (by rfl) (by rfl) (by rfl) rfl,Qer rfl Tryz.underlying39 Znf (Base.acc _ _) rfl rfl (by rfl) (Qg0 Qa1 ha13) (Qgz Qa1 ha13 (by decide)) (Qgy Qa1) rfl rfl,tv⟩<|bln<|thn<|wxz1<|thn ?_
    exact arm (mto (n:=41) [(0,(Qst p0)),(3,(.acc 1 160 5 ((y3++([x9]):List GRow).map Qa1))),(4,(I (w64 (y4+1))))] [1] [.tok] hφ0 (pc (rnd Qai) (pc (.rn (Qbw rfl (Qbk Qai _))) (pw pn))) (qc .tok qn)) (ih (y3++([x9]),w64 (y4+1)) h)
   ·exact wfn hc8<|Qbi<|Qax<|Qax<|Qbh rfl<|thn<|⟨(y3),h,(mto (n:=41) [(3,(Q5x y3))] [0] [.tok] hφ0 (pc (.rn (Qbw rfl (Qbk Qai _))) pn) (qc .tok qn))⟩
def Qez (N:Nat) (x13:GElement) (k21:(List GElement)×(List GPort)×(List Int)→Option GNet):Nat→Int→(List GElement)→(List GPort)→(List Int)→Option GNet
  | 0,_,_,_,_=>none
  | n31+1,y23,y24,y25,y26=>
    bif (decide (y23<(x13.From.length:Int))) then
     (getI x13.From y23).bind fun x33=>
     chk (decide ((y25.length+([x33]).length) * 16≤140737488355328))<|
     Qez N x13 k21 n31 (w64 (y23+1)) y24 (y25++([x33])) y26
    else
     k21 (y24,y25,y26)
def Qe0 (N:Nat) (p0:GNet) (k4:(List GElement)→Option GNet):Nat→Int→(List GElement)→Option GNet
  | 0,_,_=>none
  | n9+1,y5,y6=>
    bif (decide (y5<(p0.Elements.length:Int))) then
     Qbp (fun y11=>
       Qe0 N p0 k4 n9 (w64 (y5+1)) y11) fun k12:(List GElement)→Option GNet=>
     (getI p0.Elements y5).bind fun x13=>
     chk (decide ((([]:List Int).length+x13.Weights.length) * 8≤140737488355328))<|
     Qbp (fun ⟨y18,y19,y20⟩=>
       chk (decide ((y18.length+([(⟨x13.Kind,y19,x13.Level,x13.Amount,x13.Wide,x13.Narrow,y20⟩:GElement)]).length) * 88≤140737488355328))<|
       k12 (y18++([(⟨x13.Kind,y19,x13.Level,x13.Amount,x13.Wide,x13.Narrow,y20⟩:GElement)]))) fun k21:(List GElement)×(List GPort)×(List Int)→Option GNet=>
     Qez N x13 k21 N 0 y6 ([]) (([]:List Int)++x13.Weights)
    else
     k4 (y6)
def Qjn (N:Nat) (p0:GNet):Option GNet:=
  (Qi4 N p0.Table).bind fun x2=>
  Qbp (fun y3=>
    some (⟨x2,y3⟩:GNet)) fun k4:(List GElement)→Option GNet=>
  Qe0 N p0 k4 N 0 ([])
def Zkn (p0:GNet):AV:=.dat 5 ((p0.Table:List GRow).map Qa1)
def Qj6 (x2:(List GRow)):AV:=.dat 5 ((x2:List GRow).map Qa1)
def Qyp (y3:(List GElement)):AV:=.acc 2 133 7 ((y3:List GElement).map Qab)
def Zf9 (p0:GNet):AV:=.dat 7 ((p0.Elements:List GElement).map Qab)
def Qp3 (p0:GNet):Slot:=.own 2 [[(Zkn p0),(Zf9 p0)]]
def Qyq (y6:(List GElement)):AV:=.acc 3 133 7 ((y6:List GElement).map Qab)
def Q5v:AV:=.acc 5 3 1 ((([]:List Int):List Int).map Qak)
def Q5t (x13:GElement):AV:=.dat 1 ((x13.Weights:List Int).map Qak)
def Qot (x13:GElement):AV:=.acc 6 3 1 ((([]:List Int)++x13.Weights:List Int).map Qak)
def Q5u (y20:(List Int)):AV:=.acc 6 3 1 ((y20:List Int).map Qak)
def Q5r (x13:GElement) (y19:(List GPort)) (y20:(List Int)):AV:=.dat 7 (([(⟨x13.Kind,y19,x13.Level,x13.Amount,x13.Wide,x13.Narrow,y20⟩:GElement)]:List GElement).map Qab)
def Q5s (x13:GElement) (y19:(List GPort)) (y20:(List Int)):AV:=.agg [(K .u8 (x13.Kind)),(.dat 2 ((y19:List GPort).map Qar)),(I (x13.Level)),(I (x13.Amount)),(I (x13.Wide)),(I (x13.Narrow)),(.dat 1 ((y20:List Int).map Qak))]
def Que (x13:GElement):AV:=.dat 2 ((x13.From:List GPort).map Qar)
def Qud (x13:GElement):Slot:=.own 7 [[(K .u8 (x13.Kind)),(Que x13),(I (x13.Level)),(I (x13.Amount)),(I (x13.Wide)),(I (x13.Narrow)),(Q5t x13)]]
def Zf7:AV:=.acc 6 120 2 ((([]):List GPort).map Qar)
def Zf8:AV:=.acc 8 120 2 (([]:List GPort).map Qar)
def Qyo (y24:(List GElement)):AV:=.acc 5 133 7 ((y24:List GElement).map Qab)
def Q5q (y26:(List Int)):AV:=.acc 7 3 1 ((y26:List Int).map Qak)
def Q5p (x13:GElement) (y25:(List GPort)) (y26:(List Int)):Slot:=.own 7 [[(K .u8 (x13.Kind)),(.acc 6 120 2 ((y25:List GPort).map Qar)),(I (x13.Level)),(I (x13.Amount)),(I (x13.Wide)),(I (x13.Narrow)),(Q5q y26)]]
def Qyn (x33:GPort):AV:=.agg [(I (x33.Element)),(I (x33.Outlet))]
theorem Qoc (N:Nat) (p0:GNet) (r:GNet) (h:Qjn N p0=some r):Spec Tryz.prog 17 [(.agg (Qh9 p0))] [] (.agg (Qh9 r)) []:=by
  refine Qah Tryz.func17 rfl 0 (nle rfl) (fun X φ0 w0 hφ0 hd0=>?_)
  unfold Qjn at h
  refine wxz ?_
  obtain ⟨x2,hf1,h⟩:=bno h
  refine wx tbk [(2,rp [fu 59,(.tmp 9,(Zkn p0))] (Qj6 x2)),(3,rp [(.tmp 10,(Qj6 x2))] (.agg [(Qj6 x2),nilS]))] ⟨apv Zjy (Qru N p0.Table _ hf1) (nlc (nld Qai _) nl0) (nld Qai _),Qa2 (vs:=[(Qj6 x2)]) rfl ts42 tz42 rfl (by rfl) rfl,tv⟩ ?_
  obtain ⟨k4,hk_k4,h⟩:=jko h
  refine wjn (τ:=(List GElement)) (fun t=>k4 t=some r) (fun y3=>⟨mk 71 [(2,.ref 0 2 0 0),(3,.ref 1 2 0 0)],[(.own 2 [[nilS,nilS]]),(.own 2 [[(Qj6 x2),(Qyp y3)]]),.tok]⟩) (fun y3 h=>?_) ?_
  ·subst hk_k4
   refine wxz<|Qae ?_
   obtain rfl:=osi h
   exact fend ⟨[(.agg [(Qj6 x2),(.dat 7 ((y3:List GElement).map Qab))])],⟨Qgn (v:=(.agg [(Qj6 x2),(Qyp y3)])) (Qcc (n:=0) (m:=2) (j:=0) (i:=0) (xs:=[[(Qj6 x2),(Qyp y3)]]) (by kernel_rfl) (by kernel_rfl) ti42 (by decide) rfl (nle rfl) rfl) (Less.agg ⟨lrf,Less.acc,tv⟩),tv⟩,rfl⟩ (NLt.agg _ (nlc (nld Qai _) (nlc (nld Qaa _) nl0)))
  ·skip
   refine wxz<|Qaj ?_
   refine wmr (Mor.trans (Qn7 (n:=3) (ty:=133) (m:=7) (q:=2) (mq:=2) (c:=[(Qj6 x2),nilS]) 1 (by kernel_rfl) (by kernel_rfl) (by kernel_rfl) (by decide)) (mto (n:=71) (l':=[(1,.ref 0 2 0 0),(2,.ref 1 2 0 0),(3,.ref 2 2 0 0),(4,I 0)]) (own':=[(Qp3 p0),(.own 2 [[nilS,nilS]]),(.own 2 [[(Qj6 x2),(.acc 3 133 7 ((([]):List GElement).map Qab))]]),.tok]) [(1,.ref 0 2 0 0),(2,.ref 1 2 0 0),(3,.ref 2 2 0 0),(4,I 0)] [0,1,2,3] [(Qp3 p0),(.own 2 [[nilS,nilS]]),(.own 2 [[(Qj6 x2),(.acc 3 133 7 (([]:List GElement).map Qab))]]),.tok] hφ0 (prr (prr (prr (pw pn)))) (qb (lc (rnd Qai) (lc (rnd Qaa) ln)) (qb (lcc ln) (qb (lc (rnd Qai) (lc (.rn (Qbw rfl (Qbk Qaa _))) ln)) (qc .tok qn)))))) ?_
   refine Qcb (τ:=Int×(List GElement)) (fun n t=>Qe0 N p0 k4 n t.1 t.2=some r) (fun ⟨y5,y6⟩=>⟨mk 71 [(1,.ref 0 2 0 0),(2,.ref 1 2 0 0),(3,.ref 2 2 0 0),(4,I y5)],[(Qp3 p0),(.own 2 [[nilS,nilS]]),(.own 2 [[(Qj6 x2),(Qyq y6)]]),.tok]⟩) (fun t h=>by rw [Qe0] at h; cases h) (fun n9 ih t h=>?_) N (0,[]) h
   obtain ⟨y5,y6⟩:=t
   rw [Qe0] at h
   skip
   refine wsq<|wx tbk [(3,rp [(.tmp 14,(Zf9 p0))] (I ((p0.Elements.length:Int))))] ⟨alm (c:=Qab) (l:=p0.Elements) (aln rfl Tryz.underlying24 rfl),tv⟩ ?_
   refine bfe h (fun hc10 h=>?_) fun hc10 h=>?_
   ·refine wft hc10<|Qan<|thn ?_
    obtain ⟨k12,hk_k12,h⟩:=jko h
    refine wjn (τ:=(List GElement)) (fun t=>k12 t=some r) (fun y11=>⟨mk 71 [(1,.ref 0 2 0 0),(2,.ref 1 2 0 0),(3,.ref 2 2 0 0),(4,I y5)],[(Qp3 p0),(.own 2 [[nilS,nilS]]),(.own 2 [[(Qj6 x2),(.acc 3 133 7 ((y11:List GElement).map Qab))]]),.tok]⟩) (fun y11 h=>?_) ?_
    ·subst hk_k12
     exact wxz1<|thn<|arm (mto (n:=71) [(1,.ref 0 2 0 0),(2,.ref 1 2 0 0),(3,.ref 2 2 0 0),(4,(I (w64 (y5+1))))] [0,1,2,3] [(Qp3 p0),(.own 2 [[nilS,nilS]]),(.own 2 [[(Qj6 x2),(.acc 3 133 7 ((y11:List GElement).map Qab))]]),.tok] hφ0 (prr (prr (prr (pw pn)))) (qb (lc (rnd Qai) (lc (rnd Qaa) ln)) (qb (lcc ln) (qb (lc (rnd Qai) (lc (.rn (Qbw rfl (Qbk Qaa _))) ln)) (qc .tok qn))))) (ih (w64 (y5+1),y11) h)
    ·skip
     refine Qaj ?_
     obtain ⟨x13,hg14,h⟩:=bno h
     obtain ⟨hi15,hj16⟩:=gsm hg14
     refine wx tbk [(3,rp [(.tmp 20,(Zf9 p0)),(.tmp 21,I y5)] (.dptr (Qab (x13)) 0))] ⟨aid rfl Tryz.underlying24 ti59 rfl rfl hi15 (mgt Qab hj16) rfl,tv⟩ ?_
     obtain ⟨ha17,h⟩:=cko h
     refine wxd tbk [(10,⟨[],[(5,.unused)],Q5v,[(5,.tok)],false⟩),(13,⟨[(.tmp 34,Q5v),(.tmp 36,(Q5t x13))],[(5,.tok),(6,.unused)],(Qot x13),[(5,.dead),(6,.tok)],false⟩),(14,rp [(.tmp 25,(K .u8 (x13.Kind))),(.tmp 27,I x13.Level),(.tmp 29,I x13.Amount),(.tmp 31,I x13.Wide),(.tmp 33,I x13.Narrow),(.tmp 37,(Qot x13))] (.agg [(K .u8 (x13.Kind)),nilS,I x13.Level,I x13.Amount,I x13.Wide,I x13.Narrow,(Qot x13)]))] ⟨Qh6 rfl Tryz.underlying27 ti3 tz3,Qer rfl Tryz.underlying27 te3 (Base.acc _ _) rfl rfl (Ql9 Qak Qpb _) (Qg0 Qak ha17) (Qgz Qak ha17 (by decide)) (Qgy Qak) rfl rfl,Qa2 (vs:=[(K .u8 (x13.Kind)),I x13.Level,I x13.Amount,I x13.Wide,I x13.Narrow,(Qot x13)]) rfl Zbx Qzd rfl (by rfl) rfl,tv⟩ ?_
     obtain ⟨k21,hk_k21,h⟩:=jko h
     refine wjn (τ:=(List GElement)×(List GPort)×(List Int)) (fun t=>k21 t=some r) (fun ⟨y18,y19,y20⟩=>⟨mk 71 [(1,.ref 0 2 0 0),(2,.ref 1 2 0 0),(3,.ref 2 2 0 0),(4,I y5),(6,.ref 3 7 0 0)],[(Qp3 p0),(.own 2 [[nilS,nilS]]),(.own 2 [[(Qj6 x2),(.acc 4 133 7 ((y18:List GElement).map Qab))]]),(.own 7 [[(K .u8 (x13.Kind)),(.acc 5 120 2 ((y19:List GPort).map Qar)),I x13.Level,I x13.Amount,I x13.Wide,I x13.Narrow,(Q5u y20)]]),.tok,.tok,.tok]⟩) (fun t h=>?_) ?_
     ·subst hk_k21
      obtain ⟨y18,y19,y20⟩:=t
      obtain ⟨ha22,h⟩:=cko h
      refine wx1 tbk [(3,rp [(.tmp 66,(.agg [(K .u8 (x13.Kind)),(.acc 5 120 2 ((y19:List GPort).map Qar)),I x13.Level,I x13.Amount,I x13.Wide,I x13.Narrow,(Q5u y20)]))] (Q5r x13 y19 y20)),(4,⟨[(.tmp 65,(.acc 4 133 7 ((y18:List GElement).map Qab))),(.tmp 67,(Q5r x13 y19 y20))],[(4,.tok),(7,.unused)],(.acc 7 133 7 ((y18++([(⟨x13.Kind,y19,x13.Level,x13.Amount,x13.Wide,x13.Narrow,y20⟩:GElement)]):List GElement).map Qab)),[(4,.dead),(7,.tok)],false⟩)] ⟨awk (rd':=[(.tmp 66,(Q5s x13 y19 y20))]) ⟨rfl,(Less.agg ⟨lrf,Less.acc,lrf,lrf,lrf,lrf,Less.acc,tv⟩),tv⟩ (Qbo (vs:=[(Q5s x13 y19 y20)]) rfl Tryz.underlying40 Qju Qzd rfl (by decide) rfl (by decide) (by rfl) (by rfl) (by rfl) rfl),Qer rfl Tryz.underlying40 Zng (Base.acc _ _) rfl rfl (by rfl) (Qg0 Qab ha22) (Qgz Qab ha22 (by decide)) (Qgy Qab) rfl rfl,tv⟩<|bln<|thn ?_
      exact ⟨(y18++([(⟨x13.Kind,y19,x13.Level,x13.Amount,x13.Wide,x13.Narrow,y20⟩:GElement)])),h,(mto (n:=71) [(1,.ref 0 2 0 0),(2,.ref 1 2 0 0),(3,.ref 2 2 0 0),(4,I y5)] [0,1,2,7] [(Qp3 p0),(.own 2 [[nilS,nilS]]),(.own 2 [[(Qj6 x2),(.acc 7 133 7 ((y18++([(⟨x13.Kind,y19,x13.Level,x13.Amount,x13.Wide,x13.Narrow,y20⟩:GElement)]):List GElement).map Qab))]]),.tok] hφ0 (prr (prr (prr (pw pn)))) (qb (lc (rnd Qai) (lc (rnd Qaa) ln)) (qb (lcc ln) (qb (lc (rnd Qai) (lc (.rn (Qbw rfl (Qbk Qaa _))) ln)) (qc .tok qn)))))⟩
     ·skip
      refine wxz<|Qaj ?_
      refine wmr (Mor.trans (Qn7 (n:=8) (ty:=120) (m:=2) (q:=7) (mq:=7) (c:=[(K .u8 (x13.Kind)),nilS,I x13.Level,I x13.Amount,I x13.Wide,I x13.Narrow,(Qot x13)]) 1 (by kernel_rfl) (by kernel_rfl) (by kernel_rfl) (by decide)) (mto (n:=71) (l':=[(1,.ref 0 2 0 0),(2,.ref 1 2 0 0),(3,.ref 2 2 0 0),(4,I y5),(5,.ref 3 7 0 0),(6,.ref 4 7 0 0),(7,I 0)]) (own':=[(Qp3 p0),(.own 2 [[nilS,nilS]]),(.own 2 [[(Qj6 x2),(.acc 5 133 7 ((y6:List GElement).map Qab))]]),(Qud x13),(.own 7 [[(K .u8 (x13.Kind)),Zf7,I x13.Level,I x13.Amount,I x13.Wide,I x13.Narrow,(.acc 7 3 1 (((([]:List Int)++x13.Weights):List Int).map Qak))]]),.tok,.tok,.tok]) [(1,.ref 0 2 0 0),(2,.ref 1 2 0 0),(3,.ref 2 2 0 0),(4,I y5),(5,.ref 4 7 0 0),(6,.ref 7 7 0 0),(7,I 0)] [0,1,2,4,7,3,8,6] [(Qp3 p0),(.own 2 [[nilS,nilS]]),(.own 2 [[(Qj6 x2),(Qyq y6)]]),(Qud x13),(.own 7 [[(K .u8 (x13.Kind)),Zf8,I x13.Level,I x13.Amount,I x13.Wide,I x13.Narrow,(Qot x13)]]),.tok,.tok,.tok] hφ0 (prr (prr (prr (pw (prr (prr (pw pn))))))) (qb (lc (rnd Qai) (lc (rnd Qaa) ln)) (qb (lcc ln) (qb (lc (rnd Qai) (lc (.rn (Qbw rfl (Qbk Qaa _))) ln)) (qb (lc rwl (lc (rnd Qav) (lcc (lcc (lc (rnd Qaf) ln))))) (qb (lc rwl (lc (.rn (Qbw rfl (Qbk Qav _))) (lcc (lcc (lc (.rn (Qbw rfl (Qbk Qaf _))) ln))))) (qc .tok (qc .tok (qc .tok qn)))))))))) ?_
      refine Qcb (τ:=Int×(List GElement)×(List GPort)×(List Int)) (fun n t=>Qez N x13 k21 n t.1 t.2.1 t.2.2.1 t.2.2.2=some r) (fun ⟨y23,y24,y25,y26⟩=>⟨mk 71 [(1,.ref 0 2 0 0),(2,.ref 1 2 0 0),(3,.ref 2 2 0 0),(4,I y5),(5,.ref 3 7 0 0),(6,.ref 4 7 0 0),(7,I y23)],[(Qp3 p0),(.own 2 [[nilS,nilS]]),(.own 2 [[(Qj6 x2),(Qyo y24)]]),(Qud x13),(Q5p x13 y25 y26),.tok,.tok,.tok]⟩) (fun t h=>by rw [Qez] at h; cases h) (fun n31 ih t h=>?_) N (0,y6,[],([]:List Int)++x13.Weights) h
      obtain ⟨y23,y24,y25,y26⟩:=t
      rw [Qez] at h
      skip
      refine wsq<|wx tbk [(3,rp [(.tmp 41,(Que x13))] (I ((x13.From.length:Int))))] ⟨alm (c:=Qar) (l:=x13.From) (aln rfl Tryz.underlying57 rfl),tv⟩ ?_
      refine bfe h (fun hc32 h=>?_) fun hc32 h=>?_
      ·refine wft hc32<|Qan<|thn<|wsq<|Qaj ?_
       obtain ⟨x33,hg34,h⟩:=bno h
       obtain ⟨hi35,hj36⟩:=gsm hg34
       obtain ⟨ha37,h⟩:=cko h
       refine wy1 tbk [(5,rp [(.tmp 49,(Que x13)),(.tmp 50,I y23)] (.dptr (Qar (x33)) 0)),(11,rp [(.tmp 55,(Que x13)),(.tmp 56,I y23)] (.dptr (Qar (x33)) 0)),(14,rp [(.tmp 53,I x33.Element),(.tmp 59,I x33.Outlet)] (Qyn x33)),(15,rp [(.tmp 60,(Qyn x33))] (.dat 2 (([x33]:List GPort).map Qar))),(16,⟨[(.tmp 47,(.acc 6 120 2 ((y25:List GPort).map Qar))),(.tmp 61,(.dat 2 (([x33]:List GPort).map Qar)))],[(6,.tok),(8,.unused)],(.acc 8 120 2 ((y25++([x33]):List GPort).map Qar)),[(6,.dead),(8,.tok)],false⟩)] ⟨aid rfl Tryz.underlying57 ti61 rfl rfl hi35 (mgt Qar hj36) rfl,aid rfl Tryz.underlying57 ti61 rfl rfl hi35 (mgt Qar hj36) rfl,Qa2 (vs:=[I x33.Element,I x33.Outlet]) rfl Q72 Qsu rfl (by rfl) rfl,Qbo (vs:=[(Qyn x33)]) rfl Tryz.underlying116 Qo1 Qsu rfl (by decide) rfl (by decide) (by rfl) (by rfl) (by rfl) rfl,Qer rfl Tryz.underlying116 Zlv (Base.acc _ _) rfl rfl (by rfl) (Qg0 Qar ha37) (Qgz Qar ha37 (by decide)) (Qgy Qar) rfl rfl,tv⟩<|bln<|thn<|wxz1<|thn ?_
       exact arm (mto (n:=71) [(1,.ref 0 2 0 0),(2,.ref 1 2 0 0),(3,.ref 2 2 0 0),(4,I y5),(5,.ref 3 7 0 0),(6,.ref 4 7 0 0),(7,(I (w64 (y23+1))))] [0,1,2,3,4,5,8,7] [(Qp3 p0),(.own 2 [[nilS,nilS]]),(.own 2 [[(Qj6 x2),(Qyo y24)]]),(Qud x13),(.own 7 [[(K .u8 (x13.Kind)),(.acc 8 120 2 ((y25++([x33]):List GPort).map Qar)),I x13.Level,I x13.Amount,I x13.Wide,I x13.Narrow,(Q5q y26)]]),.tok,.tok,.tok] hφ0 (prr (prr (prr (pw (prr (prr (pw pn))))))) (qb (lc (rnd Qai) (lc (rnd Qaa) ln)) (qb (lcc ln) (qb (lc (rnd Qai) (lc (.rn (Qbw rfl (Qbk Qaa _))) ln)) (qb (lc rwl (lc (rnd Qav) (lcc (lcc (lc (rnd Qaf) ln))))) (qb (lc rwl (lc (.rn (Qbw rfl (Qbk Qav _))) (lcc (lcc (lc (.rn (Qbw rfl (Qbk Qaf _))) ln))))) (qc .tok (qc .tok (qc .tok qn))))))))) (ih (w64 (y23+1),y24,y25++([x33]),y26) h)
      ·exact wfn hc32<|Qbi<|Qax<|Qax<|Qbh rfl<|thn<|⟨(y24,y25,y26),h,(mto (n:=71) [(1,.ref 0 2 0 0),(2,.ref 1 2 0 0),(3,.ref 2 2 0 0),(4,I y5),(6,.ref 4 7 0 0)] [0,1,2,4,5,6,7] [(Qp3 p0),(.own 2 [[nilS,nilS]]),(.own 2 [[(Qj6 x2),(Qyo y24)]]),(Q5p x13 y25 y26),.tok,.tok,.tok] hφ0 (prr (prr (prr (pw (prr pn))))) (qb (lc (rnd Qai) (lc (rnd Qaa) ln)) (qb (lcc ln) (qb (lc (rnd Qai) (lc (.rn (Qbw rfl (Qbk Qaa _))) ln)) (qb (lc rwl (lc (.rn (Qbw rfl (Qbk Qav _))) (lcc (lcc (lc (.rn (Qbw rfl (Qbk Qaf _))) ln))))) (qc .tok (qc .tok (qc .tok qn))))))))⟩
   ·exact wfn hc10<|Qbi<|Qax<|Qax<|Qbh rfl<|thn<|⟨(y6),h,(mto (n:=71) [(2,.ref 1 2 0 0),(3,.ref 2 2 0 0)] [1,2,3] [(.own 2 [[nilS,nilS]]),(.own 2 [[(Qj6 x2),(Qyq y6)]]),.tok] hφ0 (prr (prr pn)) (qb (lcc ln) (qb (lc (rnd Qai) (lc (.rn (Qbw rfl (Qbk Qaa _))) ln)) (qc .tok qn))))⟩
def Qe1 (N:Nat) (p0:GNet) (k1:Unit→Option Bool):Nat→Int→Option Bool
  | 0,_=>none
  | n6+1,y4=>
    bif (decide (y4<(p0.Elements.length:Int))) then
     (getI p0.Elements y4).bind fun x8=>
     bif (decide ((x8.From.length:Int)>25)) then
      some false
     else
      bif (decide ((x8.Weights.length:Int)>25)) then
       some false
      else
       Qe1 N p0 k1 n6 (w64 (y4+1))
    else
     k1 ()
def Qjo (N:Nat) (p0:GNet) (p1:(List GStream)):Option Bool:=
  Qbp (fun _=>
    bif (decide ((p0.Elements.length:Int)≤18)) then
     bif (decide ((p0.Table.length:Int)≤25)) then
      some (decide ((p1.length:Int)≤25))
     else
      some false
    else
     some false) fun k1:Unit→Option Bool=>
  Qe1 N p0 k1 N 0
def Qym (p1:(List GStream)):AV:=.dat 4 ((p1:List GStream).map Qac)
def Zkm (p0:GNet):AV:=.dat 5 ((p0.Table:List GRow).map Qa1)
def Q5o (p0:GNet):AV:=.dat 7 ((p0.Elements:List GElement).map Qab)
def Q3e (p0:GNet):Slot:=.own 2 [[(Zkm p0),(Q5o p0)]]
def Q5n (p0:GNet):List (Nat×Rec):=[(2,rp [((.tmp 32),(Q5o p0))] (I ((p0.Elements.length:Int))))]
def Q5m (p0):=hcat (Q5n p0) [(4,rp [((.tmp 34),(B ((decide ((p0.Elements.length:Int)≤18)))))] (B (true))),(7,rp [((.tmp 35),(B (true))),((.tmp 37),(Zkm p0))] (I ((p0.Table.length:Int))))]
def Q5l (p0:GNet) (y4:Int) (x8:GElement):List (Nat×Rec):=[(3,rp [((.tmp 14),(Q5o p0)),((.tmp 15),(I (y4)))] (.dptr (Qab (x8)) 0)),(6,rp [((.tmp 18),(.dat 2 ((x8.From:List GPort).map Qar)))] (I ((x8.From.length:Int))))]
theorem Qvm (N:Nat) (p0:GNet) (p1:(List GStream)) (r:Bool) (h:Qjo N p0 p1=some r):Spec Tryz.prog 14 [(.agg (Qh9 p0)),(.dat 4 (p1.map Qac))] [] (B r) []:=by
  refine Qah Tryz.func14 rfl 0 (nle rfl) (fun X φ0 w0 hφ0 hd0=>?_)
  unfold Qjo at h
  refine wxz ?_
  obtain ⟨k1,hk_k1,h⟩:=jko h
  refine wjn (τ:=Unit) (fun t=>k1 t=some r) (fun _=>⟨mk 46 [(1,(Qym p1)),(2,.ref 0 2 0 0)],[(Q3e p0)]⟩) (fun t h=>?_) ?_
  ·subst hk_k1
   refine hpre (A:=(Q5n p0)) ⟨alm (c:=Qab) (l:=p0.Elements) (aln rfl Tryz.underlying24 rfl),tv⟩ fun q1_=>?_
   refine bfe h (fun hb2 h=>?_) fun hb2 h=>?_
   ·refine hpre (A:=(Q5m p0)) (hap q1_ ⟨asb hb2 (amv rfl),ag_ (alm (c:=Qa1) (l:=p0.Table) (aln rfl Tryz.underlying23 rfl)),tv⟩) fun q2_=>?_
    refine bfe h (fun hb3 h=>?_) fun hb3 h=>?_
    ·refine wx tbk (hcat (Q5m p0) [(10,rp [(.tmp 40,(B ((decide ((p0.Table.length:Int)≤25)))))] (B true)),(12,rp [(.tmp 41,B true),(.tmp 42,(Qym p1))] (I ((p1.length:Int))))]) (hap q2_ ⟨asb hb3 (amv rfl),ag_ (alm (c:=Qac) (l:=p1) (aln rfl Tryz.underlying28 rfl)),tv⟩)<|Qae ?_
     obtain rfl:=osi h
     exact fend ⟨[(B ((decide ((p1.length:Int)≤25))))],⟨rot,tv⟩,rfl⟩ nll
    ·exact wx tbk (hcat (Q5m p0) [(10,rp [(.tmp 40,(B ((decide ((p0.Table.length:Int)≤25)))))] (B false))]) (hap q2_ ⟨asb hb3 (amv rfl),tv⟩)<|Qae<|frb h
   ·exact wx tbk (hcat (Q5n p0) [(4,rp [(.tmp 34,(B ((decide ((p0.Elements.length:Int)≤18)))))] (B false))]) (hap q1_ ⟨asb hb2 (amv rfl),tv⟩)<|Qae<|frb h
  ·skip
   refine wxz<|Qaj ?_
   refine wmr (mto (n:=46) (l':=[(1,(Qym p1)),(2,.ref 0 2 0 0),(5,I 0)]) (own':=[(Q3e p0)]) [(1,(Qym p1)),(2,.ref 0 2 0 0),(5,I 0)] [0] [(Q3e p0)] hφ0 (pc (rnd Qad) (prr (pw pn))) (qb (lc (rnd Qai) (lc (rnd Qaa) ln)) qn)) ?_
   refine Qcb (τ:=Int) (fun n t=>Qe1 N p0 k1 n t=some r) (fun y4=>⟨mk 46 [(1,(Qym p1)),(2,.ref 0 2 0 0),(5,I y4)],[(Q3e p0)]⟩) (fun t h=>by rw [Qe1] at h; cases h) (fun n6 ih y4 h=>?_) N (0) h
   rw [Qe1] at h
   skip
   refine wsq<|wx tbk [(3,rp [(.tmp 8,(Q5o p0))] (I ((p0.Elements.length:Int))))] ⟨alm (c:=Qab) (l:=p0.Elements) (aln rfl Tryz.underlying24 rfl),tv⟩ ?_
   refine bfe h (fun hc7 h=>?_) fun hc7 h=>?_
   ·refine wft hc7<|Qan<|thn<|wsq<|Qaj ?_
    obtain ⟨x8,hg9,h⟩:=bno h
    obtain ⟨hi10,hj11⟩:=gsm hg9
    refine hpre (A:=(Q5l p0 y4 x8)) ⟨aid rfl Tryz.underlying24 ti59 rfl rfl hi10 (mgt Qab hj11) rfl,alm (c:=Qar) (l:=x8.From) (aln rfl Tryz.underlying57 rfl),tv⟩ fun q3_=>?_
    refine bfe h (fun hb12 h=>?_) fun hb12 h=>?_
    ·exact wx tbk (hcat (Q5l p0 y4 x8) [(8,rp [(.tmp 20,(B ((decide ((x8.From.length:Int)>25)))))] (B true))]) (hap q3_ ⟨asb hb12 (amv rfl),tv⟩)<|wtr<|wxz<|Qae<|Qap<|Qag<|Qag<|Qap<|Qag<|frb h
    ·refine wx tbk (hcat (Q5l p0 y4 x8) [(8,rp [(.tmp 20,(B ((decide ((x8.From.length:Int)>25)))))] (B false)),(12,rp [(.tmp 21,B false),(.tmp 23,(Q5o p0)),(.tmp 24,I y4)] (.dptr (Qab (x8)) 0)),(15,rp [(.tmp 21,B false),(.tmp 27,(.dat 1 ((x8.Weights:List Int).map Qak)))] (I ((x8.Weights.length:Int))))]) (hap q3_ ⟨asb hb12 (amv rfl),ag_ (aid rfl Tryz.underlying24 ti59 rfl rfl hi10 (mgt Qab hj11) rfl),ag_ (alm (c:=Qak) (l:=x8.Weights) (aln rfl Tryz.underlying27 rfl)),tv⟩) ?_
     refine bfe h (fun hc13 h=>?_) fun hc13 h=>?_
     ·exact wft hc13<|wxz<|Qae<|Qap<|Qag<|Qag<|Qap<|Qag<|frb h
     ·exact wfn hc13<|Qan<|bln<|thn<|wxz1<|thn<|arm (mto (n:=46) [(1,(Qym p1)),(2,.ref 0 2 0 0),(5,(I (w64 (y4+1))))] [0] [(Q3e p0)] hφ0 (pc (rnd Qad) (prr (pw pn))) (qb (lc (rnd Qai) (lc (rnd Qaa) ln)) qn)) (ih (w64 (y4+1)) h)
   ·exact wfn hc7<|Qbi<|Qax<|Qax<|Qbh rfl<|thn<|⟨(),h,(mto (n:=46) [(1,(Qym p1)),(2,.ref 0 2 0 0)] [0] [(Q3e p0)] hφ0 (pc (rnd Qad) (prr pn)) (qb (lc (rnd Qai) (lc (rnd Qaa) ln)) qn))⟩
def Qco (N:Nat) (p0:(List Int)) (k2:Int→Option Bool):Nat→Int→Int→Option Bool
  | 0,_,_=>none
  | n8+1,y4,y5=>
    bif (decide (y5<(p0.length:Int))) then
     (getI p0 y5).bind fun x10=>
     (Qdn N x10 0 1000).bind fun x15=>
     bif (!x15) then
      some false
     else
      Qco N p0 k2 n8 (w64 (y4+x10)) (w64 (y5+1))
    else
     k2 (y4)
def Qfd (N:Nat) (p0:(List Int)):Option Bool:=
  Qbp (fun y1=>
    bif (decide ((p0.length:Int)≤20)) then
     some (decide (y1>0))
    else
     some false) fun k2:Int→Option Bool=>
  Qco N p0 k2 N 0 0
def Qlo (p0:(List Int)):AV:=.dat 1 ((p0:List Int).map Qak)
theorem Qll (N:Nat) (p0:(List Int)) (r:Bool) (h:Qfd N p0=some r):Spec Tryz.prog 107 [(.dat 1 (p0.map Qak))] [] (B r) []:=by
  refine Qah Tryz.func107 rfl 0 (nle rfl) (fun X φ0 w0 hφ0 hd0=>?_)
  unfold Qfd at h
  refine wxz<|wxz ?_
  obtain ⟨k2,hk_k2,h⟩:=jko h
  refine wjn (τ:=Int) (fun t=>k2 t=some r) (fun y1=>⟨mk 30 [(0,(Qlo p0)),(3,I y1)],[]⟩) (fun y1 h=>?_) ?_
  ·subst hk_k2
   refine bfe h (fun hb3 h=>?_) fun hb3 h=>?_
   ·refine wx tbk [(1,rp [(.tmp 23,(Qlo p0))] (I ((p0.length:Int)))),(3,rp [(.tmp 25,(B ((decide ((p0.length:Int)≤20)))))] (B true))] ⟨alm (c:=Qak) (l:=p0) (aln rfl Tryz.underlying27 rfl),asb hb3 (amv rfl),tv⟩<|Qae ?_
    obtain rfl:=osi h
    exact fend ⟨[(B ((decide (y1>0))))],⟨rot,tv⟩,rfl⟩ nll
   ·exact wx tbk [(1,rp [(.tmp 23,(Qlo p0))] (I ((p0.length:Int)))),(3,rp [(.tmp 25,(B ((decide ((p0.length:Int)≤20)))))] (B false))] ⟨alm (c:=Qak) (l:=p0) (aln rfl Tryz.underlying27 rfl),asb hb3 (amv rfl),tv⟩<|Qae<|frb h
  ·skip
   refine wxz<|Qaj ?_
   refine wmr (mto (n:=30) (l':=[(0,(Qlo p0)),(3,I 0),(4,I 0)]) (own':=[]) [(0,(Qlo p0)),(3,I 0),(4,I 0)] [] [] hφ0 (pc (rnd Qaf) (pw (pw pn))) qn) ?_
   refine Qcb (τ:=Int×Int) (fun n t=>Qco N p0 k2 n t.1 t.2=some r) (fun ⟨y4,y5⟩=>⟨mk 30 [(0,(Qlo p0)),(3,I y4),(4,I y5)],[]⟩) (fun t h=>by rw [Qco] at h; cases h) (fun n8 ih t h=>?_) N (0,0) h
   obtain ⟨y4,y5⟩:=t
   rw [Qco] at h
   skip
   refine wsq<|wx tbk [(2,rp [(.tmp 6,(Qlo p0))] (I ((p0.length:Int))))] ⟨alm (c:=Qak) (l:=p0) (aln rfl Tryz.underlying27 rfl),tv⟩ ?_
   refine bfe h (fun hc9 h=>?_) fun hc9 h=>?_
   ·refine wft hc9<|Qan<|thn<|wsq<|Qaj<|wsq ?_
    obtain ⟨x10,hg11,h⟩:=bno h
    obtain ⟨hi12,hj13⟩:=gsm hg11
    obtain ⟨x15,hf14,h⟩:=bno h
    refine wx tbk [(2,rp [(.tmp 11,(Qlo p0)),(.tmp 12,I y5)] (.dptr (Qak (x10)) 0)),(4,rp [fu 25,(.tmp 14,I x10),ci 0,ci 1000] (B x15))] ⟨aid rfl Tryz.underlying27 ti3 rfl rfl hi12 (mgt Qak hj13) rfl,apv Qgw (Qcw N x10 0 1000 _ hf14) (nlcc (nlc nll nl0)) nll,tv⟩ ?_
    refine bfe h (fun hc16 h=>?_) fun hc16 h=>?_
    ·exact wft hc16<|wxz<|Qae<|Qag<|Qap<|Qag<|Qag<|Qap<|Qag<|frb h
    ·refine wfn hc16<|Qan<|thn ?_
     exact wx1 tbk [(3,rp [(.tmp 18,(Qlo p0)),(.tmp 19,I y5)] (.dptr (Qak (x10)) 0))] ⟨aid rfl Tryz.underlying27 ti3 rfl rfl hi12 (mgt Qak hj13) rfl,tv⟩<|bln<|thn<|wxz1<|thn<|arm (mto (n:=30) [(0,(Qlo p0)),(3,(I (w64 (y4+x10)))),(4,(I (w64 (y5+1))))] [] [] hφ0 (pc (rnd Qaf) (pw (pw pn))) qn) (ih (w64 (y4+x10),w64 (y5+1)) h)
   ·exact wfn hc9<|Qbi<|Qax<|Qax<|Qbh rfl<|thn<|⟨(y4),h,(mto (n:=30) [(0,(Qlo p0)),(3,I y4)] [] [] hφ0 (pc (rnd Qaf) (pw pn)) qn)⟩
def Qiv (N:Nat) (p0:GElement):Option Bool:=
  Qbp (fun _=>
    Qbp (fun ⟨y2,y3⟩=>
      Qbp (fun y5=>
        Qbp (fun y7=>
          Qbp (fun y9=>
            Qbp (fun _=>
              bif (p0.Kind==5) then
               (Qfd N p0.Weights).bind fun x14=>
               some x14
              else
               some ((p0.Weights.length:Int)==0)) fun k11:Unit→Option Bool=>
            (Qdn N (p0.From.length:Int) y2 y5).bind fun x16=>
            bif (!x16) then
             some false
            else
             (Qdn N p0.Amount 0 y9).bind fun x19=>
             bif (!x19) then
              some false
             else
              k11 ()) fun k10:Int→Option Bool=>
          bif (p0.Kind==4) then
           k10 (1000)
          else
           k10 (y7)) fun k8:Int→Option Bool=>
        bif (p0.Kind==3) then
         k8 (1000000000)
        else
         k8 (0)) fun k6:Int→Option Bool=>
      bif (p0.Kind==2) then
       k6 (6)
      else
       k6 (y3)) fun k4:Int×Int→Option Bool=>
    bif (p0.Kind==1) then
     k4 (0,0)
    else
     k4 (1,1)) fun k1:Unit→Option Bool=>
  bif (decide (p0.Kind<1)) then
   some false
  else
   bif (decide (p0.Kind>6)) then
    some false
   else
    (Qdn N p0.Wide 0 1000000).bind fun x28=>
    bif (!x28) then
     some false
    else
     (Qdn N p0.Narrow 1 1000000000).bind fun x31=>
     bif (!x31) then
      some false
     else
      k1 ()
def Zfl (p0:GElement):AV:=.dat 2 ((p0.From:List GPort).map Qar)
def Q7w (p0:GElement):AV:=.dat 1 ((p0.Weights:List Int).map Qak)
def Qjf (p0:GElement):Slot:=.own 7 [[(K .u8 (p0.Kind)),(Zfl p0),(I (p0.Level)),(I (p0.Amount)),(I (p0.Wide)),(I (p0.Narrow)),(Q7w p0)]]
def Q7v (p0:GElement) (y2:Int) (y5:Int) (x16:Bool):List (Nat×Rec):=[(2,rp [((.tmp 39),(Zfl p0))] (I ((p0.From.length:Int)))),(5,rp [fu 25,((.tmp 40),(I ((p0.From.length:Int)))),((.tmp 41),(I (y2))),((.tmp 42),(I (y5)))] (B (x16)))]
def Q7u (p0:GElement):List (Nat×Rec):=[(3,rp [((.tmp 8),(B ((decide (p0.Kind<1)))))] (B (false)))]
def Q7t (p0) (x28:Bool):=hcat (Q7u p0) [(8,rp [((.tmp 13),(B ((decide (p0.Kind>6)))))] (B (false))),(11,rp [((.tmp 14),(B (false))),fu 25,((.tmp 16),(I (p0.Wide))),ci 0,ci 1000000] (B (x28)))]
theorem Qrc (N:Nat) (p0:GElement) (r:Bool) (h:Qiv N p0=some r):Spec Tryz.prog 70 [(.agg (Qab p0))] [] (B r) []:=by
  refine Qah Tryz.func70 rfl 0 (nle rfl) (fun X φ0 w0 hφ0 hd0=>?_)
  unfold Qiv at h
  refine wxz ?_
  obtain ⟨k1,hk_k1,h⟩:=jko h
  refine wjn (τ:=Unit) (fun t=>k1 t=some r) (fun _=>⟨mk 62 [(1,.ref 0 7 0 0)],[(Qjf p0)]⟩) (fun t h=>?_) ?_
  ·subst hk_k1
   refine wxz ?_
   obtain ⟨k4,hk_k4,h⟩:=jko h
   refine wjn (τ:=Int×Int) (fun t=>k4 t=some r) (fun ⟨y2,y3⟩=>⟨mk 62 [(1,.ref 0 7 0 0),(3,I y2),(4,I y3),(5,I 0)],[(Qjf p0)]⟩) (fun t h=>?_) ?_
   ·subst hk_k4
    obtain ⟨y2,y3⟩:=t
    obtain ⟨k6,hk_k6,h⟩:=jko h
    refine wjn (τ:=Int) (fun t=>k6 t=some r) (fun y5=>⟨mk 62 [(1,.ref 0 7 0 0),(3,I y2),(4,I y5),(5,I 0)],[(Qjf p0)]⟩) (fun y5 h=>?_) ?_
    ·subst hk_k6
     obtain ⟨k8,hk_k8,h⟩:=jko h
     refine wjn (τ:=Int) (fun t=>k8 t=some r) (fun y7=>⟨mk 62 [(1,.ref 0 7 0 0),(3,I y2),(4,I y5),(5,I y7)],[(Qjf p0)]⟩) (fun y7 h=>?_) ?_
     ·subst hk_k8
      obtain ⟨k10,hk_k10,h⟩:=jko h
      refine wjn (τ:=Int) (fun t=>k10 t=some r) (fun y9=>⟨mk 62 [(1,.ref 0 7 0 0),(3,I y2),(4,I y5),(5,I y9)],[(Qjf p0)]⟩) (fun y9 h=>?_) ?_
      ·subst hk_k10
       obtain ⟨k11,hk_k11,h⟩:=jko h
       refine wjn (τ:=Unit) (fun t=>k11 t=some r) (fun _=>⟨mk 62 [(1,.ref 0 7 0 0)],[(Qjf p0)]⟩) (fun t h=>?_) ?_
       ·subst hk_k11
        refine wsq<|wxz ?_
        refine bfe h (fun hc12 h=>?_) fun hc12 h=>?_
        ·refine wft hc12 ?_
         obtain ⟨x14,hf13,h⟩:=bno h
         exact wx tbk [(2,rp [fu 107,(.tmp 56,(Q7w p0))] (B x14))] ⟨apv Zd6 (Qll N p0.Weights _ hf13) (nlc (nld Qaf _) nl0) nll,tv⟩<|Qae<|Qag<|frb h
        ·refine wfn hc12<|Qan<|thn ?_
         refine wx tbk [(2,rp [(.tmp 59,(Q7w p0))] (I ((p0.Weights.length:Int))))] ⟨alm (c:=Qak) (l:=p0.Weights) (aln rfl Tryz.underlying27 rfl),tv⟩<|Qae ?_
         obtain rfl:=osi h
         exact fend ⟨[(B (((p0.Weights.length:Int)==0)))],⟨rot,tv⟩,rfl⟩ nll
       ·skip
        obtain ⟨x16,hf15,h⟩:=bno h
        refine hpre (A:=(Q7v p0 y2 y5 x16)) ⟨alm (c:=Qar) (l:=p0.From) (aln rfl Tryz.underlying57 rfl),apv Qgw (Qcw N (p0.From.length:Int) y2 y5 _ hf15) (nlcc (nlc nll nl0)) nll,tv⟩ fun q1_=>?_
        refine bfe h (fun hb17 h=>?_) fun hb17 h=>?_
        ·exact wx tbk (hcat (Q7v p0 y2 y5 x16) [(7,rp [(.tmp 44,(B ((!x16))))] (B true))]) (hap q1_ ⟨asb hb17 (amv rfl),tv⟩)<|wtr<|wxz<|Qae<|Qag<|frb h
        ·obtain ⟨x19,hf18,h⟩:=bno h
         refine wx tbk (hcat (Q7v p0 y2 y5 x16) [(7,rp [(.tmp 44,(B ((!x16))))] (B false)),(11,rp [(.tmp 45,B false),fu 25,(.tmp 47,I p0.Amount),ci 0,(.tmp 48,I y9)] (B x19))]) (hap q1_ ⟨asb hb17 (amv rfl),ag_ (apv Qgw (Qcw N p0.Amount 0 y9 _ hf18) (nlcc (nlc nll nl0)) nll),tv⟩) ?_
         refine bfe h (fun hc20 h=>?_) fun hc20 h=>?_
         ·exact wft hc20<|wxz<|Qae<|Qag<|frb h
         ·exact wfn hc20<|Qan<|thn<|⟨(),h,(mto (n:=62) [(1,.ref 0 7 0 0)] [0] [(Qjf p0)] hφ0 (prr pn) (qb (lc rwl (lc (rnd Qav) (lcc (lcc (lc (rnd Qaf) ln))))) qn))⟩
      ·skip
       refine wxz ?_
       refine bfe h (fun hc21 h=>?_) fun hc21 h=>?_
       ·exact wft hc21<|wxz1<|thn<|⟨(1000),h,(mto (n:=62) [(1,.ref 0 7 0 0),(3,I y2),(4,I y5),(5,I 1000)] [0] [(Qjf p0)] hφ0 (prr (pw (pw (pw pn)))) (qb (lc rwl (lc (rnd Qav) (lcc (lcc (lc (rnd Qaf) ln))))) qn))⟩
       ·exact wfn hc21<|Qan<|thn<|⟨(y7),h,(mto (n:=62) [(1,.ref 0 7 0 0),(3,I y2),(4,I y5),(5,I y7)] [0] [(Qjf p0)] hφ0 (prr (pw (pw (pw pn)))) (qb (lc rwl (lc (rnd Qav) (lcc (lcc (lc (rnd Qaf) ln))))) qn))⟩
     ·skip
      refine wxz ?_
      refine bfe h (fun hc22 h=>?_) fun hc22 h=>?_
      ·exact wft hc22<|wxz1<|thn<|⟨(1000000000),h,(mto (n:=62) [(1,.ref 0 7 0 0),(3,I y2),(4,I y5),(5,I 1000000000)] [0] [(Qjf p0)] hφ0 (prr (pw (pw (pw pn)))) (qb (lc rwl (lc (rnd Qav) (lcc (lcc (lc (rnd Qaf) ln))))) qn))⟩
      ·exact wfn hc22<|Qan<|thn<|⟨(0),h,(mto (n:=62) [(1,.ref 0 7 0 0),(3,I y2),(4,I y5),(5,I 0)] [0] [(Qjf p0)] hφ0 (prr (pw (pw (pw pn)))) (qb (lc rwl (lc (rnd Qav) (lcc (lcc (lc (rnd Qaf) ln))))) qn))⟩
    ·skip
     refine wxz ?_
     refine bfe h (fun hc23 h=>?_) fun hc23 h=>?_
     ·exact wft hc23<|wxz1<|thn<|⟨(6),h,(mto (n:=62) [(1,.ref 0 7 0 0),(3,I y2),(4,I 6),(5,I 0)] [0] [(Qjf p0)] hφ0 (prr (pw (pw (pw pn)))) (qb (lc rwl (lc (rnd Qav) (lcc (lcc (lc (rnd Qaf) ln))))) qn))⟩
     ·exact wfn hc23<|Qan<|thn<|⟨(y3),h,(mto (n:=62) [(1,.ref 0 7 0 0),(3,I y2),(4,I y3),(5,I 0)] [0] [(Qjf p0)] hφ0 (prr (pw (pw (pw pn)))) (qb (lc rwl (lc (rnd Qav) (lcc (lcc (lc (rnd Qaf) ln))))) qn))⟩
   ·skip
    refine wxz ?_
    refine bfe h (fun hc24 h=>?_) fun hc24 h=>?_
    ·exact wft hc24<|wxz1<|thn<|⟨(0,0),h,(mto (n:=62) [(1,.ref 0 7 0 0),(3,I 0),(4,I 0),(5,I 0)] [0] [(Qjf p0)] hφ0 (prr (pw (pw (pw pn)))) (qb (lc rwl (lc (rnd Qav) (lcc (lcc (lc (rnd Qaf) ln))))) qn))⟩
    ·exact wfn hc24<|Qan<|thn<|⟨(1,1),h,(mto (n:=62) [(1,.ref 0 7 0 0),(3,I 1),(4,I 1),(5,I 0)] [0] [(Qjf p0)] hφ0 (prr (pw (pw (pw pn)))) (qb (lc rwl (lc (rnd Qav) (lcc (lcc (lc (rnd Qaf) ln))))) qn))⟩
  ·skip
   refine bfe h (fun hb25 h=>?_) fun hb25 h=>?_
   ·exact wx tbk [(3,rp [(.tmp 8,(B ((decide (p0.Kind<1)))))] (B true))] ⟨asb hb25 (amv rfl),tv⟩<|wtr<|wxz<|Qae<|Qag<|frb h
   ·refine hpre (A:=(Q7u p0)) ⟨asb hb25 (amv rfl),tv⟩ fun q2_=>?_
    refine bfe h (fun hb26 h=>?_) fun hb26 h=>?_
    ·exact wx tbk (hcat (Q7u p0) [(8,rp [(.tmp 13,(B ((decide (p0.Kind>6)))))] (B true))]) (hap q2_ ⟨asb hb26 (amv rfl),tv⟩)<|wtr<|wxz<|Qae<|Qag<|frb h
    ·obtain ⟨x28,hf27,h⟩:=bno h
     refine hpre (A:=(Q7t p0 x28)) (hap q2_ ⟨asb hb26 (amv rfl),ag_ (apv Qgw (Qcw N p0.Wide 0 1000000 _ hf27) (nlcc (nlc nll nl0)) nll),tv⟩) fun q3_=>?_
     refine bfe h (fun hb29 h=>?_) fun hb29 h=>?_
     ·exact wx tbk (hcat (Q7t p0 x28) [(14,rp [(.tmp 19,(B ((!x28))))] (B true))]) (hap q3_ ⟨asb hb29 (amv rfl),tv⟩)<|wtr<|wxz<|Qae<|Qag<|frb h
     ·obtain ⟨x31,hf30,h⟩:=bno h
      refine wx tbk (hcat (Q7t p0 x28) [(14,rp [(.tmp 19,(B ((!x28))))] (B false)),(17,rp [(.tmp 20,B false),fu 25,(.tmp 22,I p0.Narrow),ci 1,ci 1000000000] (B x31))]) (hap q3_ ⟨asb hb29 (amv rfl),ag_ (apv Qgw (Qcw N p0.Narrow 1 1000000000 _ hf30) (nlcc (nlc nll nl0)) nll),tv⟩) ?_
      refine bfe h (fun hc32 h=>?_) fun hc32 h=>?_
      ·exact wft hc32<|wxz<|Qae<|Qag<|frb h
      ·exact wfn hc32<|Qan<|thn<|⟨(),h,(mto (n:=62) [(1,.ref 0 7 0 0)] [0] [(Qjf p0)] hφ0 (prr pn) (qb (lc rwl (lc (rnd Qav) (lcc (lcc (lc (rnd Qaf) ln))))) qn))⟩
def Qg8 (_N:Nat) (p0:GElement):Option Int:=
  bif (p0.Kind==4) then
   some 2
  else
   bif (p0.Kind==5) then
    (some (p0.Weights.length:Int)).bind fun x3=>
    some x3
   else
    some 1
def Zll (p0:GElement):AV:=.dat 1 ((p0.Weights:List Int).map Qak)
theorem Qo5 (N:Nat) (p0:GElement) (r:Int) (h:Qg8 N p0=some r):Spec Tryz.prog 71 [(.agg (Qab p0))] [] (I r) []:=by
  refine Qah Tryz.func71 rfl 0 (nle rfl) (fun X φ0 w0 hφ0 hd0=>?_)
  unfold Qg8 at h
  refine wxz<|wsq<|wxz ?_
  refine bfe h (fun hc1 h=>?_) fun hc1 h=>?_
  ·refine wft hc1<|wxz<|Qae<|Qag ?_
   obtain rfl:=osi h
   exact fend ⟨[I 2],⟨rot,tv⟩,rfl⟩ nll
  ·refine wfn hc1<|Qan<|thn<|wsq<|wxz ?_
   refine bfe h (fun hc2 h=>?_) fun hc2 h=>?_
   ·refine wft hc2 ?_
    obtain ⟨x3,hl4,h⟩:=bno h
    refine wx tbk [(2,rp [(.tmp 10,(Zll p0))] (I ((p0.Weights.length:Int)))),(3,rp [(.tmp 11,(I ((p0.Weights.length:Int))))] (I x3))] ⟨alm (c:=Qak) (l:=p0.Weights) (aln rfl Tryz.underlying27 rfl),Qjd hl4 (aas rfl),tv⟩<|Qae<|Qag ?_
    obtain rfl:=osi h
    exact fend ⟨[I x3],⟨rot,tv⟩,rfl⟩ nll
   ·refine wfn hc2<|Qan<|thn<|wxz<|Qae ?_
    obtain rfl:=osi h
    exact fend ⟨[I 1],⟨rot,tv⟩,rfl⟩ nll
def Qd4 (N:Nat) (p0:(List GPort)) (k1:Unit→Option Bool) (p1:GPort):Nat→Int→Option Bool
  | 0,_=>none
  | n4+1,y2=>
    bif (decide (y2<(p0.length:Int))) then
     (getI p0 y2).bind fun x6=>
     bif (([x6.Element,x6.Outlet]:List Int)==[p1.Element,p1.Outlet]) then
      some true
     else
      Qd4 N p0 k1 p1 n4 (w64 (y2+1))
    else
     k1 ()
def Qiu (N:Nat) (p0:(List GPort)) (p1:GPort):Option Bool:=
  Qbp (fun _=>
    some false) fun k1:Unit→Option Bool=>
  Qd4 N p0 k1 p1 N 0
def Qtd (p0:(List GPort)):AV:=.dat 2 ((p0:List GPort).map Qar)
def Q10 (p1:GPort):Slot:=.own 2 [[(I (p1.Element)),(I (p1.Outlet))]]
theorem Qrb (N:Nat) (p0:(List GPort)) (p1:GPort) (r:Bool) (h:Qiu N p0 p1=some r):Spec Tryz.prog 72 [(.dat 2 (p0.map Qar)),(.agg (Qar p1))] [] (B r) []:=by
  refine Qah Tryz.func72 rfl 0 (nle rfl) (fun X φ0 w0 hφ0 hd0=>?_)
  unfold Qiu at h
  refine wxz ?_
  obtain ⟨k1,hk_k1,h⟩:=jko h
  refine wjn (τ:=Unit) (fun t=>k1 t=some r) (fun _=>⟨mk 18 [],[]⟩) (fun t h=>?_) ?_
  ·subst hk_k1
   exact wxz<|Qae<|frb h
  ·skip
   refine wxz<|Qaj ?_
   refine wmr (mto (n:=18) (l':=[(0,(Qtd p0)),(3,.ref 0 2 0 0),(5,I 0)]) (own':=[(Q10 p1)]) [(0,(Qtd p0)),(3,.ref 0 2 0 0),(5,I 0)] [0] [(Q10 p1)] hφ0 (pc (rnd Qav) (prr (pw pn))) (qb (lcc ln) qn)) ?_
   refine Qcb (τ:=Int) (fun n t=>Qd4 N p0 k1 p1 n t=some r) (fun y2=>⟨mk 18 [(0,(Qtd p0)),(3,.ref 0 2 0 0),(5,I y2)],[(Q10 p1)]⟩) (fun t h=>by rw [Qd4] at h; cases h) (fun n4 ih y2 h=>?_) N (0) h
   rw [Qd4] at h
   skip
   refine wsq<|wx tbk [(2,rp [(.tmp 7,(Qtd p0))] (I ((p0.length:Int))))] ⟨alm (c:=Qar) (l:=p0) (aln rfl Tryz.underlying57 rfl),tv⟩ ?_
   refine bfe h (fun hc5 h=>?_) fun hc5 h=>?_
   ·refine wft hc5<|Qan<|thn<|wsq<|Qaj ?_
    obtain ⟨x6,hg7,h⟩:=bno h
    obtain ⟨hi8,hj9⟩:=gsm hg7
    refine wxd tbk [(2,rp [(.tmp 12,(Qtd p0)),(.tmp 13,I y2)] (.dptr (Qar (x6)) 0)),(5,rp [(.tmp 15,(.agg [I x6.Element,I x6.Outlet])),(.tmp 16,(.agg [I p1.Element,I p1.Outlet]))] (B ((([x6.Element,x6.Outlet]:List Int)==[p1.Element,p1.Outlet]))))] ⟨aid rfl Tryz.underlying57 ti61 rfl rfl hi8 (mgt Qar hj9) rfl,Qop (ls:=[x6.Element,x6.Outlet]) (ks:=[p1.Element,p1.Outlet]) rfl rfl Znt (by kernel_rfl) rfl rfl,tv⟩ ?_
    refine bfe h (fun hc10 h=>?_) fun hc10 h=>?_
    ·exact wft hc10<|wxz<|Qae<|Qap<|Qag<|Qag<|Qap<|Qag<|frb h
    ·exact wfn hc10<|Qan<|bln<|thn<|wxz1<|thn<|arm (mto (n:=18) [(0,(Qtd p0)),(3,.ref 0 2 0 0),(5,(I (w64 (y2+1))))] [0] [(Q10 p1)] hφ0 (pc (rnd Qav) (prr (pw pn))) (qb (lcc ln) qn)) (ih (w64 (y2+1)) h)
   ·exact wfn hc5<|Qbi<|Qax<|Qax<|Qbh rfl<|thn<|⟨(),h,(mto (n:=18) [] [] [] hφ0 pn qn)⟩
def Qd5 (N:Nat) (p0:GNet) (y4:Int) (k10:(List GPort)→Option Bool) (x11:GElement):Nat→(List GPort)→Int→Option Bool
  | 0,_,_=>none
  | n21+1,y17,y18=>
    bif (decide (y18<(x11.From.length:Int))) then
     (getI x11.From y18).bind fun x23=>
     (Qdn N x23.Element 0 (w64 (y4 - 1))).bind fun x28=>
     bif (!x28) then
      some false
     else
      (getI p0.Elements x23.Element).bind fun x30=>
      (Qg8 N x30).bind fun x35=>
      (Qdn N x23.Outlet 0 (w64 (x35 - 1))).bind fun x37=>
      bif (!x37) then
       some false
      else
       bif (decide (x11.Level>x30.Level)) then
        some false
       else
        (Qiu N y17 x23).bind fun x41=>
        bif x41 then
         some false
        else
         chk (decide ((y17.length+([x23]).length) * 16≤140737488355328))<|
         Qd5 N p0 y4 k10 x11 n21 (y17++([x23])) (w64 (y18+1))
    else
     k10 (y17)
def Qdi (N:Nat) (p0:GNet) (k2:Unit→Option Bool):Nat→(List GPort)→Int→Option Bool
  | 0,_,_=>none
  | n7+1,y3,y4=>
    bif (decide (y4<(p0.Elements.length:Int))) then
     Qbp (fun y9=>
       Qdi N p0 k2 n7 y9 (w64 (y4+1))) fun k10:(List GPort)→Option Bool=>
     (getI p0.Elements y4).bind fun x11=>
     Qbp (fun y15=>
       Qd5 N p0 y4 k10 x11 N y15 0) fun k16:(List GPort)→Option Bool=>
     (Qiv N x11).bind fun x45=>
     bif (!x45) then
      some false
     else
      (Qdn N x11.Level 0 (w64 ((p0.Table.length:Int) - 1))).bind fun x48=>
      bif (!x48) then
       some false
      else
       k16 (y3)
    else
     k2 ()
def Qiw (N:Nat) (p0:GNet):Option Bool:=
  Qbp (fun _=>
    Qbp (fun _=>
      some true) fun k2:Unit→Option Bool=>
    Qdi N p0 k2 N ([]) 0) fun k1:Unit→Option Bool=>
  (Qiy N p0.Table).bind fun x51=>
  bif (!x51) then
   some false
  else
   bif (decide ((p0.Elements.length:Int)<1)) then
    some false
   else
    bif (decide ((p0.Elements.length:Int)>16)) then
     some false
    else
     k1 ()
def Zf6 (p0:GNet):AV:=.dat 5 ((p0.Table:List GRow).map Qa1)
def Qyl (p0:GNet):AV:=.dat 7 ((p0.Elements:List GElement).map Qab)
def Qni (p0:GNet):Slot:=.own 2 [[(Zf6 p0),(Qyl p0)]]
def Qyk (y15:(List GPort)):AV:=.acc 1 61 2 ((y15:List GPort).map Qar)
def Quc (x11:GElement):AV:=.dat 2 ((x11.From:List GPort).map Qar)
def Qos (x11:GElement):Slot:=.own 7 [[(K .u8 (x11.Kind)),(Quc x11),(I (x11.Level)),(I (x11.Amount)),(I (x11.Wide)),(I (x11.Narrow)),(.dat 1 ((x11.Weights:List Int).map Qak))]]
def Qub (y17:(List GPort)):AV:=.acc 1 61 2 ((y17:List GPort).map Qar)
def Qyj (x23:GPort) (y4:Int) (x28:Bool):List (Nat×Rec):=[(4,rp [fu 25,((.tmp 62),(I (x23.Element))),ci 0,((.tmp 64),(I (w64 (y4 - 1))))] (B (x28)))]
def Zf4 (x30:GElement):AV:=.agg [(K .u8 (x30.Kind)),(.dat 2 ((x30.From:List GPort).map Qar)),(I (x30.Level)),(I (x30.Amount)),(I (x30.Wide)),(I (x30.Narrow)),(.dat 1 ((x30.Weights:List Int).map Qak))]
def Qyi (x23) (y4) (x28) (p0:GNet) (x30:GElement) (x35:Int) (x37:Bool):=hcat (Qyj x23 y4 x28) [(6,rp [((.tmp 66),(B ((!x28))))] (B (false))),(13,rp [((.tmp 67),(B (false))),((.tmp 71),(Qyl p0)),((.tmp 73),(I (x23.Element)))] (.dptr (Qab (x30)) 0)),(15,rp [((.tmp 67),(B (false))),fu 71,((.tmp 75),(Zf4 x30))] (I (x35))),(17,rp [((.tmp 67),(B (false))),fu 25,((.tmp 69),(I (x23.Outlet))),ci 0,((.tmp 77),(I (w64 (x35 - 1))))] (B (x37)))]
def Qyh (x23) (y4) (x28) (p0) (x30) (x35) (x37):=hcat (Qyi x23 y4 x28 p0 x30 x35 x37) [(20,rp [((.tmp 80),(B ((!x37))))] (B (false))),(27,rp [((.tmp 81),(B (false))),((.tmp 85),(Qyl p0)),((.tmp 87),(I (x23.Element)))] (.dptr (Qab (x30)) 0))]
def Qua (x23:GPort):AV:=.agg [(I (x23.Element)),(I (x23.Outlet))]
def Zf5 (x11:GElement):AV:=.agg [(K .u8 (x11.Kind)),(Quc x11),(I (x11.Level)),(I (x11.Amount)),(I (x11.Wide)),(I (x11.Narrow)),(.dat 1 ((x11.Weights:List Int).map Qak))]
def Qyg (x11:GElement) (x45:Bool):List (Nat×Rec):=[(1,rp [fu 70,((.tmp 36),(Zf5 x11))] (B (x45)))]
def Qyf (p0:GNet) (x51:Bool):List (Nat×Rec):=[(2,rp [fu 69,((.tmp 9),(Zf6 p0))] (B (x51)))]
def Qye (p0) (x51):=hcat (Qyf p0 x51) [(4,rp [((.tmp 11),(B ((!x51))))] (B (false))),(7,rp [((.tmp 12),(B (false))),((.tmp 14),(Qyl p0))] (I ((p0.Elements.length:Int))))]
theorem Qrd (N:Nat) (p0:GNet) (r:Bool) (h:Qiw N p0=some r):Spec Tryz.prog 28 [(.agg (Qh9 p0))] [] (B r) []:=by
  refine Qah Tryz.func28 rfl 0 (nle rfl) (fun X φ0 w0 hφ0 hd0=>?_)
  unfold Qiw at h
  refine wxz ?_
  obtain ⟨k1,hk_k1,h⟩:=jko h
  refine wjn (τ:=Unit) (fun t=>k1 t=some r) (fun _=>⟨mk 102 [(1,.ref 0 2 0 0)],[(Qni p0)]⟩) (fun t h=>?_) ?_
  ·subst hk_k1
   refine wxz ?_
   obtain ⟨k2,hk_k2,h⟩:=jko h
   refine wjn (τ:=Unit) (fun t=>k2 t=some r) (fun _=>⟨mk 102 [],[]⟩) (fun t h=>?_) ?_
   ·subst hk_k2
    exact wxz<|Qae<|frb h
   ·skip
    refine wxz<|Qaj ?_
    refine wmr (Mor.trans (Qrq 1 61 2 3 (by kernel_rfl) (by kernel_rfl)) (mto (n:=102) (l':=[(1,.ref 0 2 0 0),(3,(.acc 1 61 2 ((([]):List GPort).map Qar))),(4,I 0)]) (own':=[(Qni p0),.tok]) [(1,.ref 0 2 0 0),(3,(.acc 1 61 2 (([]:List GPort).map Qar))),(4,I 0)] [0,1] [(Qni p0),.tok] hφ0 (prr (pc (.rn (Qbw rfl (Qbk Qav _))) (pw pn))) (qb (lc (rnd Qai) (lc (rnd Qaa) ln)) (qc .tok qn)))) ?_
    refine Qcb (τ:=(List GPort)×Int) (fun n t=>Qdi N p0 k2 n t.1 t.2=some r) (fun ⟨y3,y4⟩=>⟨mk 102 [(1,.ref 0 2 0 0),(3,(.acc 1 61 2 ((y3:List GPort).map Qar))),(4,I y4)],[(Qni p0),.tok]⟩) (fun t h=>by rw [Qdi] at h; cases h) (fun n7 ih t h=>?_) N ([],0) h
    obtain ⟨y3,y4⟩:=t
    rw [Qdi] at h
    skip
    refine wsq<|wx tbk [(3,rp [(.tmp 26,(Qyl p0))] (I ((p0.Elements.length:Int))))] ⟨alm (c:=Qab) (l:=p0.Elements) (aln rfl Tryz.underlying24 rfl),tv⟩ ?_
    refine bfe h (fun hc8 h=>?_) fun hc8 h=>?_
    ·refine wft hc8<|Qan<|thn ?_
     obtain ⟨k10,hk_k10,h⟩:=jko h
     refine wjn (τ:=(List GPort)) (fun t=>k10 t=some r) (fun y9=>⟨mk 102 [(1,.ref 0 2 0 0),(3,(.acc 1 61 2 ((y9:List GPort).map Qar))),(4,I y4)],[(Qni p0),.tok]⟩) (fun y9 h=>?_) ?_
     ·subst hk_k10
      exact wxz1<|thn<|arm (mto (n:=102) [(1,.ref 0 2 0 0),(3,(.acc 1 61 2 ((y9:List GPort).map Qar))),(4,(I (w64 (y4+1))))] [0,1] [(Qni p0),.tok] hφ0 (prr (pc (.rn (Qbw rfl (Qbk Qav _))) (pw pn))) (qb (lc (rnd Qai) (lc (rnd Qaa) ln)) (qc .tok qn))) (ih (y9,w64 (y4+1)) h)
     ·skip
      refine Qaj ?_
      obtain ⟨x11,hg12,h⟩:=bno h
      obtain ⟨hi13,hj14⟩:=gsm hg12
      refine wx tbk [(3,rp [(.tmp 32,(Qyl p0)),(.tmp 33,I y4)] (.dptr (Qab (x11)) 0))] ⟨aid rfl Tryz.underlying24 ti59 rfl rfl hi13 (mgt Qab hj14) rfl,tv⟩ ?_
      obtain ⟨k16,hk_k16,h⟩:=jko h
      refine wjn (τ:=(List GPort)) (fun t=>k16 t=some r) (fun y15=>⟨mk 102 [(1,.ref 0 2 0 0),(3,(Qyk y15)),(4,I y4),(5,.ref 2 7 0 0)],[(Qni p0),.tok,(Qos x11)]⟩) (fun y15 h=>?_) ?_
      ·subst hk_k16
       refine wxz<|Qaj ?_
       refine wmr (mto (n:=102) (l':=[(1,.ref 0 2 0 0),(3,(Qyk y15)),(4,I y4),(5,.ref 2 7 0 0),(6,I 0)]) (own':=[(Qni p0),.tok,(Qos x11)]) [(1,.ref 0 2 0 0),(3,(Qyk y15)),(4,I y4),(5,.ref 2 7 0 0),(6,I 0)] [0,1,2] [(Qni p0),.tok,(Qos x11)] hφ0 (prr (pc (.rn (Qbw rfl (Qbk Qav _))) (pw (prr (pw pn))))) (qb (lc (rnd Qai) (lc (rnd Qaa) ln)) (qc .tok (qb (lc rwl (lc (rnd Qav) (lcc (lcc (lc (rnd Qaf) ln))))) qn)))) ?_
       refine Qcb (τ:=(List GPort)×Int) (fun n t=>Qd5 N p0 y4 k10 x11 n t.1 t.2=some r) (fun ⟨y17,y18⟩=>⟨mk 102 [(1,.ref 0 2 0 0),(3,(Qub y17)),(4,I y4),(5,.ref 2 7 0 0),(6,I y18)],[(Qni p0),.tok,(Qos x11)]⟩) (fun t h=>by rw [Qd5] at h; cases h) (fun n21 ih t h=>?_) N (y15,0) h
       obtain ⟨y17,y18⟩:=t
       rw [Qd5] at h
       skip
       refine wsq<|wx tbk [(3,rp [(.tmp 51,(Quc x11))] (I ((x11.From.length:Int))))] ⟨alm (c:=Qar) (l:=x11.From) (aln rfl Tryz.underlying57 rfl),tv⟩ ?_
       refine bfe h (fun hc22 h=>?_) fun hc22 h=>?_
       ·refine wft hc22<|Qan<|thn<|wsq<|Qaj ?_
        obtain ⟨x23,hg24,h⟩:=bno h
        obtain ⟨hi25,hj26⟩:=gsm hg24
        refine wx tbk [(3,rp [(.tmp 57,(Quc x11)),(.tmp 58,I y18)] (.dptr (Qar (x23)) 0))] ⟨aid rfl Tryz.underlying57 ti61 rfl rfl hi25 (mgt Qar hj26) rfl,tv⟩<|wsq ?_
        obtain ⟨x28,hf27,h⟩:=bno h
        refine hpre (A:=(Qyj x23 y4 x28)) ⟨apv Qgw (Qcw N x23.Element 0 (w64 (y4 - 1)) _ hf27) (nlcc (nlc nll nl0)) nll,tv⟩ fun q1_=>?_
        refine bfe h (fun hb29 h=>?_) fun hb29 h=>?_
        ·refine wxd tbk (hcat (Qyj x23 y4 x28) [(6,rp [(.tmp 66,(B ((!x28))))] (B true))]) (hap q1_ ⟨asb hb29 (amv rfl),tv⟩)<|wtr<|wxz<|Qae<|Qag<|Qap<|Qag<|Qag<|Qap<|Qap ?_
         exact Qag<|Qag<|Qap<|Qag<|frb h
        ·obtain ⟨x30,hg31,h⟩:=bno h
         obtain ⟨hi32,hj33⟩:=gsm hg31
         obtain ⟨x35,hf34,h⟩:=bno h
         obtain ⟨x37,hf36,h⟩:=bno h
         refine hpre (A:=(Qyi x23 y4 x28 p0 x30 x35 x37)) (hap q1_ ⟨asb hb29 (amv rfl),ag_ (aid rfl Tryz.underlying24 ti59 rfl rfl hi32 (mgt Qab hj33) rfl),ag_ (apv Zjt (Qo5 N x30 _ hf34) (nlc (NLt.agg _ (nlc nll (nlc (nld Qav _) (nlcc (nlcc (nlc (nld Qaf _) nl0)))))) nl0) nll),ag_ (apv Qgw (Qcw N x23.Outlet 0 (w64 (x35 - 1)) _ hf36) (nlcc (nlc nll nl0)) nll),tv⟩) fun q2_=>?_
         refine bfe h (fun hb38 h=>?_) fun hb38 h=>?_
         ·refine wxd tbk (hcat (Qyi x23 y4 x28 p0 x30 x35 x37) [(20,rp [(.tmp 80,(B ((!x37))))] (B true))]) (hap q2_ ⟨asb hb38 (amv rfl),tv⟩)<|wtr<|wxz<|Qae<|Qag<|Qap<|Qag<|Qag<|Qap<|Qap ?_
          exact Qag<|Qag<|Qap<|Qag<|frb h
         ·refine hpre (A:=(Qyh x23 y4 x28 p0 x30 x35 x37)) (hap q2_ ⟨asb hb38 (amv rfl),ag_ (aid rfl Tryz.underlying24 ti59 rfl rfl hi32 (mgt Qab hj33) rfl),tv⟩) fun q3_=>?_
          refine bfe h (fun hb39 h=>?_) fun hb39 h=>?_
          ·refine wxd tbk (hcat (Qyh x23 y4 x28 p0 x30 x35 x37) [(32,rp [(.tmp 92,(B ((decide (x11.Level>x30.Level)))))] (B true))]) (hap q3_ ⟨asb hb39 (amv rfl),tv⟩)<|wtr<|wxz<|Qae<|Qag<|Qap<|Qag<|Qag<|Qap<|Qap ?_
           exact Qag<|Qag<|Qap<|Qag<|frb h
          ·obtain ⟨x41,hf40,h⟩:=bno h
           refine wxd tbk (hcat (Qyh x23 y4 x28 p0 x30 x35 x37) [(32,rp [(.tmp 92,(B ((decide (x11.Level>x30.Level)))))] (B false)),(35,rp [(.tmp 93,B false),fu 72,(.tmp 94,(Qub y17)),(.tmp 95,(Qua x23))] (B x41))]) (hap q3_ ⟨asb hb39 (amv rfl),ag_ (awk (rd':=(.func 72,(.fn (.func 72) [] []))::[(.tmp 94,(.dat 2 ((y17:List GPort).map Qar))),(.tmp 95,(Qua x23))]) ⟨rfl,lrf,rfl,Less.acc,rfl,lrf,tv⟩ (apv Zjs (Qrb N y17 x23 _ hf40) (nlc (nld Qav _) (nlc (NLt.agg _ (nlcc nl0)) nl0)) nll)),tv⟩) ?_
           refine bfe h (fun hc42 h=>?_) fun hc42 h=>?_
           ·refine wft hc42<|wxz<|Qae<|Qag<|Qap<|Qag<|Qag<|Qap<|Qap<|Qag ?_
            exact Qag<|Qap<|Qag<|frb h
           ·refine wfn hc42<|Qan<|thn ?_
            obtain ⟨ha43,h⟩:=cko h
            refine wx1 tbk [(2,rp [(.tmp 99,(Qua x23))] (.dat 2 (([x23]:List GPort).map Qar))),(3,⟨[(.tmp 98,(Qub y17)),(.tmp 100,(.dat 2 (([x23]:List GPort).map Qar)))],[(1,.tok),(4,.unused)],(.acc 4 61 2 ((y17++([x23]):List GPort).map Qar)),[(1,.dead),(4,.tok)],false⟩)] ⟨Qbo (vs:=[(Qua x23)]) rfl Tryz.underlying57 ti61 tz61 rfl (by decide) rfl (by decide) (by rfl) (by rfl) (by rfl) rfl,Qer rfl Tryz.underlying57 te61 (Base.acc _ _) rfl rfl (by rfl) (Qg0 Qar ha43) (Qgz Qar ha43 (by decide)) (Qgy Qar) rfl rfl,tv⟩<|bln<|thn<|wxz1<|thn ?_
            exact arm (mto (n:=102) [(1,.ref 0 2 0 0),(3,(.acc 4 61 2 ((y17++([x23]):List GPort).map Qar))),(4,I y4),(5,.ref 2 7 0 0),(6,(I (w64 (y18+1))))] [0,4,2] [(Qni p0),.tok,(Qos x11)] hφ0 (prr (pc (.rn (Qbw rfl (Qbk Qav _))) (pw (prr (pw pn))))) (qb (lc (rnd Qai) (lc (rnd Qaa) ln)) (qc .tok (qb (lc rwl (lc (rnd Qav) (lcc (lcc (lc (rnd Qaf) ln))))) qn)))) (ih (y17++([x23]),w64 (y18+1)) h)
       ·exact wfn hc22<|Qbi<|Qax<|Qax<|Qbh rfl<|bln<|thn<|⟨(y17),h,(mto (n:=102) [(1,.ref 0 2 0 0),(3,(Qub y17)),(4,I y4)] [0,1] [(Qni p0),.tok] hφ0 (prr (pc (.rn (Qbw rfl (Qbk Qav _))) (pw pn))) (qb (lc (rnd Qai) (lc (rnd Qaa) ln)) (qc .tok qn)))⟩
      ·skip
       obtain ⟨x45,hf44,h⟩:=bno h
       refine hpre (A:=(Qyg x11 x45)) ⟨apv Zju (Qrc N x11 _ hf44) (nlc (NLt.agg _ (nlc nll (nlc (nld Qav _) (nlcc (nlcc (nlc (nld Qaf _) nl0)))))) nl0) nll,tv⟩ fun q4_=>?_
       refine bfe h (fun hb46 h=>?_) fun hb46 h=>?_
       ·refine wx tbk (hcat (Qyg x11 x45) [(3,rp [(.tmp 38,(B ((!x45))))] (B true))]) (hap q4_ ⟨asb hb46 (amv rfl),tv⟩)<|wtr<|wxz<|Qae<|Qag<|Qap<|Qag<|Qag<|Qap<|Qag ?_
        exact frb h
       ·obtain ⟨x48,hf47,h⟩:=bno h
        refine wx tbk (hcat (Qyg x11 x45) [(3,rp [(.tmp 38,(B ((!x45))))] (B false)),(8,rp [(.tmp 39,B false),(.tmp 43,(Zf6 p0))] (I ((p0.Table.length:Int)))),(10,rp [(.tmp 39,B false),fu 25,(.tmp 41,I x11.Level),ci 0,(.tmp 45,(I (w64 ((p0.Table.length:Int) - 1))))] (B x48))]) (hap q4_ ⟨asb hb46 (amv rfl),ag_ (alm (c:=Qa1) (l:=p0.Table) (aln rfl Tryz.underlying23 rfl)),ag_ (apv Qgw (Qcw N x11.Level 0 (w64 ((p0.Table.length:Int) - 1)) _ hf47) (nlcc (nlc nll nl0)) nll),tv⟩) ?_
        refine bfe h (fun hc49 h=>?_) fun hc49 h=>?_
        ·exact wft hc49<|wxz<|Qae<|Qag<|Qap<|Qag<|Qag<|Qap<|Qag<|frb h
        ·exact wfn hc49<|Qan<|thn<|⟨(y3),h,(mto (n:=102) [(1,.ref 0 2 0 0),(3,(.acc 1 61 2 ((y3:List GPort).map Qar))),(4,I y4),(5,.ref 2 7 0 0)] [0,1,2] [(Qni p0),.tok,(Qos x11)] hφ0 (prr (pc (.rn (Qbw rfl (Qbk Qav _))) (pw (prr pn)))) (qb (lc (rnd Qai) (lc (rnd Qaa) ln)) (qc .tok (qb (lc rwl (lc (rnd Qav) (lcc (lcc (lc (rnd Qaf) ln))))) qn))))⟩
    ·exact wfn hc8<|Qbi<|Qax<|Qax<|Qbh rfl<|thn<|⟨(),h,(mto (n:=102) [] [] [] hφ0 pn qn)⟩
  ·skip
   obtain ⟨x51,hf50,h⟩:=bno h
   refine hpre (A:=(Qyf p0 x51)) ⟨apv Zjv (Qrf N p0.Table _ hf50) (nlc (nld Qai _) nl0) nll,tv⟩ fun q5_=>?_
   refine bfe h (fun hb52 h=>?_) fun hb52 h=>?_
   ·exact wx tbk (hcat (Qyf p0 x51) [(4,rp [(.tmp 11,(B ((!x51))))] (B true))]) (hap q5_ ⟨asb hb52 (amv rfl),tv⟩)<|wtr<|wxz<|Qae<|Qag<|frb h
   ·refine hpre (A:=(Qye p0 x51)) (hap q5_ ⟨asb hb52 (amv rfl),ag_ (alm (c:=Qab) (l:=p0.Elements) (aln rfl Tryz.underlying24 rfl)),tv⟩) fun q6_=>?_
    refine bfe h (fun hb53 h=>?_) fun hb53 h=>?_
    ·exact wx tbk (hcat (Qye p0 x51) [(10,rp [(.tmp 17,(B ((decide ((p0.Elements.length:Int)<1)))))] (B true))]) (hap q6_ ⟨asb hb53 (amv rfl),tv⟩)<|wtr<|wxz<|Qae<|Qag<|frb h
    ·refine wx tbk (hcat (Qye p0 x51) [(10,rp [(.tmp 17,(B ((decide ((p0.Elements.length:Int)<1)))))] (B false)),(13,rp [(.tmp 18,B false),(.tmp 20,(Qyl p0))] (I ((p0.Elements.length:Int))))]) (hap q6_ ⟨asb hb53 (amv rfl),ag_ (alm (c:=Qab) (l:=p0.Elements) (aln rfl Tryz.underlying24 rfl)),tv⟩) ?_
     refine bfe h (fun hc54 h=>?_) fun hc54 h=>?_
     ·exact wft hc54<|wxz<|Qae<|Qag<|frb h
     ·exact wfn hc54<|Qan<|thn<|⟨(),h,(mto (n:=102) [(1,.ref 0 2 0 0)] [0] [(Qni p0)] hφ0 (prr pn) (qb (lc (rnd Qai) (lc (rnd Qaa) ln)) qn))⟩
def Qcz (N:Nat) (k1:Unit→Option Bool) (p1:(List Int)):Nat→Int→Option Bool
  | 0,_=>none
  | n4+1,y2=>
    bif (decide (y2<(p1.length:Int))) then
     (getI p1 y2).bind fun x6=>
     (Qdn N x6 0 1000000000000).bind fun x11=>
     bif (!x11) then
      some false
     else
      Qcz N k1 p1 n4 (w64 (y2+1))
    else
     k1 ()
def Qf6 (N:Nat) (p0:GNet) (p1:(List Int)):Option Bool:=
  Qbp (fun _=>
    some ((p1.length:Int)==(p0.Elements.length:Int))) fun k1:Unit→Option Bool=>
  Qcz N k1 p1 N 0
def Qnq (p1:(List Int)):AV:=.dat 1 ((p1:List Int).map Qak)
def Zfk (p0:GNet):AV:=.dat 7 ((p0.Elements:List GElement).map Qab)
def Qtc (p0:GNet):Slot:=.own 2 [[(.dat 5 ((p0.Table:List GRow).map Qa1)),(Zfk p0)]]
theorem Qmk (N:Nat) (p0:GNet) (p1:(List Int)) (r:Bool) (h:Qf6 N p0 p1=some r):Spec Tryz.prog 33 [(.agg (Qh9 p0)),(.dat 1 (p1.map Qak))] [] (B r) []:=by
  refine Qah Tryz.func33 rfl 0 (nle rfl) (fun X φ0 w0 hφ0 hd0=>?_)
  unfold Qf6 at h
  refine wxz ?_
  obtain ⟨k1,hk_k1,h⟩:=jko h
  refine wjn (τ:=Unit) (fun t=>k1 t=some r) (fun _=>⟨mk 24 [(1,(Qnq p1)),(2,.ref 0 2 0 0)],[(Qtc p0)]⟩) (fun t h=>?_) ?_
  ·subst hk_k1
   refine wx tbk [(1,rp [(.tmp 18,(Qnq p1))] (I ((p1.length:Int)))),(4,rp [(.tmp 21,(Zfk p0))] (I ((p0.Elements.length:Int))))] ⟨alm (c:=Qak) (l:=p1) (aln rfl Tryz.underlying27 rfl),alm (c:=Qab) (l:=p0.Elements) (aln rfl Tryz.underlying24 rfl),tv⟩<|Qae ?_
   obtain rfl:=osi h
   exact fend ⟨[(B (((p1.length:Int)==(p0.Elements.length:Int))))],⟨rot,tv⟩,rfl⟩ nll
  ·skip
   refine wxz<|Qaj ?_
   refine wmr (mto (n:=24) (l':=[(1,(Qnq p1)),(2,.ref 0 2 0 0),(5,I 0)]) (own':=[(Qtc p0)]) [(1,(Qnq p1)),(2,.ref 0 2 0 0),(5,I 0)] [0] [(Qtc p0)] hφ0 (pc (rnd Qaf) (prr (pw pn))) (qb (lc (rnd Qai) (lc (rnd Qaa) ln)) qn)) ?_
   refine Qcb (τ:=Int) (fun n t=>Qcz N k1 p1 n t=some r) (fun y2=>⟨mk 24 [(1,(Qnq p1)),(2,.ref 0 2 0 0),(5,I y2)],[(Qtc p0)]⟩) (fun t h=>by rw [Qcz] at h; cases h) (fun n4 ih y2 h=>?_) N (0) h
   rw [Qcz] at h
   skip
   refine wsq<|wx tbk [(2,rp [(.tmp 7,(Qnq p1))] (I ((p1.length:Int))))] ⟨alm (c:=Qak) (l:=p1) (aln rfl Tryz.underlying27 rfl),tv⟩ ?_
   refine bfe h (fun hc5 h=>?_) fun hc5 h=>?_
   ·refine wft hc5<|Qan<|thn<|wsq<|Qaj ?_
    obtain ⟨x6,hg7,h⟩:=bno h
    obtain ⟨hi8,hj9⟩:=gsm hg7
    obtain ⟨x11,hf10,h⟩:=bno h
    refine wx tbk [(2,rp [(.tmp 12,(Qnq p1)),(.tmp 13,I y2)] (.dptr (Qak (x6)) 0)),(4,rp [fu 25,(.tmp 15,I x6),ci 0,ci 1000000000000] (B x11))] ⟨aid rfl Tryz.underlying27 ti3 rfl rfl hi8 (mgt Qak hj9) rfl,apv Qgw (Qcw N x6 0 1000000000000 _ hf10) (nlcc (nlc nll nl0)) nll,tv⟩ ?_
    refine bfe h (fun hc12 h=>?_) fun hc12 h=>?_
    ·exact wft hc12<|wxz<|Qae<|Qap<|Qag<|Qag<|Qap<|Qag<|frb h
    ·exact wfn hc12<|Qan<|bln<|thn<|wxz1<|thn<|arm (mto (n:=24) [(1,(Qnq p1)),(2,.ref 0 2 0 0),(5,(I (w64 (y2+1))))] [0] [(Qtc p0)] hφ0 (pc (rnd Qaf) (prr (pw pn))) (qb (lc (rnd Qai) (lc (rnd Qaa) ln)) qn)) (ih (w64 (y2+1)) h)
   ·exact wfn hc5<|Qbi<|Qax<|Qax<|Qbh rfl<|thn<|⟨(),h,(mto (n:=24) [(1,(Qnq p1)),(2,.ref 0 2 0 0)] [0] [(Qtc p0)] hφ0 (pc (rnd Qaf) (prr pn)) (qb (lc (rnd Qai) (lc (rnd Qaa) ln)) qn))⟩
def Qft (N:Nat) (p0:GStream):Option Bool:=
  (Qdn N p0.Mass 0 1000000).bind fun x2=>
  bif x2 then
   (Qdn N p0.Heat 0 (w64 (4000 * p0.Mass))).bind fun x5=>
   bif x5 then
    (Qdn N p0.Silica 0 (w64 (10000 * p0.Mass))).bind fun x8=>
    bif x8 then
     (Qdn N p0.Gas 0 1000000000).bind fun x11=>
     some x11
    else
     some false
   else
    some false
  else
   some false
def Q7s (p0:GStream) (x2:Bool):List (Nat×Rec):=[(2,rp [fu 25,((.tmp 4),(I (p0.Mass))),ci 0,ci 1000000] (B (x2)))]
def Q7r (p0) (x2) (x5:Bool):=hcat (Q7s p0 x2) [(3,rp [((.tmp 5),(B (x2)))] (B (true))),(9,rp [((.tmp 6),(B (true))),fu 25,((.tmp 8),(I (p0.Heat))),ci 0,((.tmp 11),(I (w64 (4000 * p0.Mass))))] (B (x5)))]
def Q7q (p0) (x2) (x5) (x8:Bool):=hcat (Q7r p0 x2 x5) [(11,rp [((.tmp 13),(B (x5)))] (B (true))),(17,rp [((.tmp 14),(B (true))),fu 25,((.tmp 16),(I (p0.Silica))),ci 0,((.tmp 19),(I (w64 (10000 * p0.Mass))))] (B (x8)))]
theorem Qlw (N:Nat) (p0:GStream) (r:Bool) (h:Qft N p0=some r):Spec Tryz.prog 121 [(.agg (Qac p0))] [] (B r) []:=by
  refine Qah Tryz.func121 rfl 0 (nle rfl) (fun X φ0 w0 hφ0 hd0=>?_)
  unfold Qft at h
  refine wxz ?_
  obtain ⟨x2,hf1,h⟩:=bno h
  refine hpre (A:=(Q7s p0 x2)) ⟨apv Qgw (Qcw N p0.Mass 0 1000000 _ hf1) (nlcc (nlc nll nl0)) nll,tv⟩ fun q1_=>?_
  refine bfe h (fun hb3 h=>?_) fun hb3 h=>?_
  ·obtain ⟨x5,hf4,h⟩:=bno h
   refine hpre (A:=(Q7r p0 x2 x5)) (hap q1_ ⟨asb hb3 (amv rfl),ag_ (apv Qgw (Qcw N p0.Heat 0 (w64 (4000 * p0.Mass)) _ hf4) (nlcc (nlc nll nl0)) nll),tv⟩) fun q2_=>?_
   refine bfe h (fun hb6 h=>?_) fun hb6 h=>?_
   ·obtain ⟨x8,hf7,h⟩:=bno h
    refine hpre (A:=(Q7q p0 x2 x5 x8)) (hap q2_ ⟨asb hb6 (amv rfl),ag_ (apv Qgw (Qcw N p0.Silica 0 (w64 (10000 * p0.Mass)) _ hf7) (nlcc (nlc nll nl0)) nll),tv⟩) fun q3_=>?_
    refine bfe h (fun hb9 h=>?_) fun hb9 h=>?_
    ·obtain ⟨x11,hf10,h⟩:=bno h
     exact wx tbk (hcat (Q7q p0 x2 x5 x8) [(19,rp [(.tmp 21,B x8)] (B true)),(22,rp [(.tmp 22,B true),fu 25,(.tmp 24,I p0.Gas),ci 0,ci 1000000000] (B x11))]) (hap q3_ ⟨asb hb9 (amv rfl),ag_ (apv Qgw (Qcw N p0.Gas 0 1000000000 _ hf10) (nlcc (nlc nll nl0)) nll),tv⟩)<|Qae<|frb h
    ·exact wx tbk (hcat (Q7q p0 x2 x5 x8) [(19,rp [(.tmp 21,B x8)] (B false))]) (hap q3_ ⟨asb hb9 (amv rfl),tv⟩)<|Qae<|frb h
   ·exact wx tbk (hcat (Q7r p0 x2 x5) [(11,rp [(.tmp 13,B x5)] (B false))]) (hap q2_ ⟨asb hb6 (amv rfl),tv⟩)<|Qae<|frb h
  ·exact wx tbk (hcat (Q7s p0 x2) [(3,rp [(.tmp 5,B x2)] (B false))]) (hap q1_ ⟨asb hb3 (amv rfl),tv⟩)<|Qae<|frb h
def Qjj (_N:Nat) (p0:GStream):Option GStream:=
  some p0
def Zfj (p0:GStream):AV:=.agg [(I (p0.Mass)),(I (p0.Heat)),(I (p0.Silica)),(I (p0.Gas))]
theorem Qqa (N:Nat) (p0:GStream) (r:GStream) (h:Qjj N p0=some r):Spec Tryz.prog 60 [(.agg (Qac p0))] [] (.agg (Qac r)) []:=by
  refine Qah Tryz.func60 rfl 0 (nle rfl) (fun X φ0 w0 hφ0 hd0=>?_)
  unfold Qjj at h
  refine wxz<|wx tbk [(8,rp [(.tmp 4,I p0.Mass),(.tmp 6,I p0.Heat),(.tmp 8,I p0.Silica),(.tmp 10,I p0.Gas)] (Zfj p0))] ⟨Qa2 (vs:=[I p0.Mass,I p0.Heat,I p0.Silica,I p0.Gas]) rfl ts63 tz63 rfl (by rfl) rfl,tv⟩<|Qae ?_
  obtain rfl:=osi h
  exact fend ⟨[(Zfj p0)],⟨Qcc (n:=1) (m:=4) (j:=0) (i:=0) (xs:=[[I p0.Mass,I p0.Heat,I p0.Silica,I p0.Gas]]) (by kernel_rfl) (by kernel_rfl) ti63 (by decide) rfl (nle rfl) rfl,tv⟩,rfl⟩ (NLt.agg _ (nlcc (nlcc nl0)))
def Qdh (N:Nat) (p0:(List GStream)) (k2:(List GStream)→Option (List GStream)):Nat→(List GStream)→Int→Option (List GStream)
  | 0,_,_=>none
  | n7+1,y3,y4=>
    bif (decide (y4<(p0.length:Int))) then
     (getI p0 y4).bind fun x9=>
     (Qjj N x9).bind fun x14=>
     chk (decide ((y3.length+([x14]).length) * 32≤140737488355328))<|
     Qdh N p0 k2 n7 (y3++([x14])) (w64 (y4+1))
    else
     k2 (y3)
def Qgo (N:Nat) (p0:(List GStream)):Option (List GStream):=
  Qbp (fun y1=>
    some y1) fun k2:(List GStream)→Option (List GStream)=>
  Qdh N p0 k2 N ([]) 0
def Qtb (p0:(List GStream)):AV:=.dat 4 ((p0:List GStream).map Qac)
def Qy8 (y3:(List GStream)):AV:=.acc 0 63 4 ((y3:List GStream).map Qac)
def Zlk (x9:GStream):AV:=.agg [(I (x9.Mass)),(I (x9.Heat)),(I (x9.Silica)),(I (x9.Gas))]
def Qy7 (x14:GStream):AV:=.agg [(I (x14.Mass)),(I (x14.Heat)),(I (x14.Silica)),(I (x14.Gas))]
theorem Qky (N:Nat) (p0:(List GStream)) (r:(List GStream)) (h:Qgo N p0=some r):Spec Tryz.prog 19 [(.dat 4 (p0.map Qac))] [] (.dat 4 (r.map Qac)) []:=by
  refine Qah Tryz.func19 rfl 0 (nle rfl) (fun X φ0 w0 hφ0 hd0=>?_)
  unfold Qgo at h
  refine wxz<|wxz ?_
  obtain ⟨k2,hk_k2,h⟩:=jko h
  refine wjn (τ:=(List GStream)) (fun t=>k2 t=some r) (fun y1=>⟨mk 20 [(3,(.acc 0 63 4 ((y1:List GStream).map Qac)))],[.tok]⟩) (fun y1 h=>?_) ?_
  ·subst hk_k2
   refine wxz<|Qae ?_
   obtain rfl:=osi h
   exact fend ⟨[(.dat 4 ((y1:List GStream).map Qac))],⟨Qgn (v:=(.acc 0 63 4 ((y1:List GStream).map Qac))) (rot) Less.acc,tv⟩,rfl⟩ (nld Qad _)
  ·skip
   refine wxz<|Qaj ?_
   refine wmr (Mor.trans (Qrq 0 63 4 3 (by kernel_rfl) (by kernel_rfl)) (mto (n:=20) (l':=[(0,(Qtb p0)),(3,(.acc 0 63 4 ((([]):List GStream).map Qac))),(4,I 0)]) (own':=[.tok]) [(0,(Qtb p0)),(3,(.acc 0 63 4 (([]:List GStream).map Qac))),(4,I 0)] [0] [.tok] hφ0 (pc (rnd Qad) (pc (.rn (Qbw rfl (Qbk Qad _))) (pw pn))) (qc .tok qn))) ?_
   refine Qcb (τ:=(List GStream)×Int) (fun n t=>Qdh N p0 k2 n t.1 t.2=some r) (fun ⟨y3,y4⟩=>⟨mk 20 [(0,(Qtb p0)),(3,(Qy8 y3)),(4,I y4)],[.tok]⟩) (fun t h=>by rw [Qdh] at h; cases h) (fun n7 ih t h=>?_) N ([],0) h
   obtain ⟨y3,y4⟩:=t
   rw [Qdh] at h
   skip
   refine wsq<|wx tbk [(2,rp [(.tmp 6,(Qtb p0))] (I ((p0.length:Int))))] ⟨alm (c:=Qac) (l:=p0) (aln rfl Tryz.underlying28 rfl),tv⟩ ?_
   refine bfe h (fun hc8 h=>?_) fun hc8 h=>?_
   ·refine wft hc8<|Qan<|thn<|wsq<|Qaj ?_
    obtain ⟨x9,hg10,h⟩:=bno h
    obtain ⟨hi11,hj12⟩:=gsm hg10
    obtain ⟨x14,hf13,h⟩:=bno h
    obtain ⟨ha15,h⟩:=cko h
    refine wx1 tbk [(3,rp [(.tmp 12,(Qtb p0)),(.tmp 13,I y4)] (.dptr (Qac (x9)) 0)),(5,rp [fu 60,(.tmp 15,(Zlk x9))] (Qy7 x14)),(6,rp [(.tmp 16,(Qy7 x14))] (.dat 4 (([x14]:List GStream).map Qac))),(7,⟨[(.tmp 11,(Qy8 y3)),(.tmp 17,(.dat 4 (([x14]:List GStream).map Qac)))],[(0,.tok),(1,.unused)],(.acc 1 63 4 ((y3++([x14]):List GStream).map Qac)),[(0,.dead),(1,.tok)],false⟩)] ⟨aid rfl Tryz.underlying28 ti89 rfl rfl hi11 (mgt Qac hj12) rfl,apv Zjx (Qqa N x9 _ hf13) (nlc (NLt.agg _ (nlcc (nlcc nl0))) nl0) (NLt.agg _ (nlcc (nlcc nl0))),Qbo (vs:=[(Qy7 x14)]) rfl Tryz.underlying45 ti63 tz63 rfl (by decide) rfl (by decide) (by rfl) (by rfl) (by rfl) rfl,Qer rfl Tryz.underlying45 te63 (Base.acc _ _) rfl rfl (by rfl) (Qg0 Qac ha15) (Qgz Qac ha15 (by decide)) (Qgy Qac) rfl rfl,tv⟩<|bln<|thn<|wxz1<|thn ?_
    exact arm (mto (n:=20) [(0,(Qtb p0)),(3,(.acc 1 63 4 ((y3++([x14]):List GStream).map Qac))),(4,(I (w64 (y4+1))))] [1] [.tok] hφ0 (pc (rnd Qad) (pc (.rn (Qbw rfl (Qbk Qad _))) (pw pn))) (qc .tok qn)) (ih (y3++([x14]),w64 (y4+1)) h)
   ·exact wfn hc8<|Qbi<|Qax<|Qax<|Qbh rfl<|thn<|⟨(y3),h,(mto (n:=20) [(3,(Qy8 y3))] [0] [.tok] hφ0 (pc (.rn (Qbw rfl (Qbk Qad _))) pn) (qc .tok qn))⟩
end Go.Proofs.YtmbhnllcfmiajaaGreat
