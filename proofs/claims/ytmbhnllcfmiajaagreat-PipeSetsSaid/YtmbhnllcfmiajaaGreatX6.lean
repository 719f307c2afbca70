/-
  Functions of the program: what they compute, as plain functions, and that they do. No conditions.
-/
import Derived.Test.YtmbhnllcfmiajaaGreatX5
namespace Go.Proofs.YtmbhnllcfmiajaaGreat
set_option maxRecDepth 100000
set_option maxHeartbeats 4000000
open Go.RowKit
def Qef (_N:Nat) (p0:Int) (p1:Int) (p2:Int):Option Bool:=
  bif (decide (p0≥p1)) then
   some (decide (p0≤p2))
  else
   some false
theorem Qdr (N:Nat) (p0:Int) (p1:Int) (p2:Int) (r:Bool) (h:Qef N p0 p1 p2=some r):Spec Tryz.prog 25 [(I p0),(I p1),(I p2)] [] (B r) []:=by
  refine Qah Tryz.func25 rfl 0 (nle rfl) (fun X φ0 w0 hφ0 hd0=>?_)
  unfold Qef at h
  refine wxz ?_
  refine bfe h (fun hb1 h=>?_) fun hb1 h=>?_
  ·refine wx tbk [(3,rp [(.tmp 9,(B ((decide (p0≥p1)))))] (B true))] ⟨asb hb1 (amv rfl),tv⟩<|Qad ?_
   obtain rfl:=osi h
   exact fend ⟨[(B ((decide (p0≤p2))))],⟨rot,tv⟩,rfl⟩ nll
  ·exact wx tbk [(3,rp [(.tmp 9,(B ((decide (p0≥p1)))))] (B false))] ⟨asb hb1 (amv rfl),tv⟩<|Qad<|frb h
def Qc6 (N:Nat) (p0:(List GRow)) (k1:Unit→Option Bool):Nat→Int→Option Bool
  | 0,_=>none
  | n5+1,y3=>
    bif (decide (y3<(p0.length:Int))) then
     (getI p0 y3).bind fun x7=>
     Qby (fun _=>
       bif (decide (y3>0)) then
        (getI p0 (w64 (y3 - 1))).bind fun x13=>
        bif (decide (x7.T≤x13.T)) then
         some false
        else
         bif (decide (x7.P≤x13.P)) then
          some false
         else
          bif (decide (x7.Liquid≤x13.Liquid)) then
           some false
          else
           bif (decide (x7.Silica<x13.Silica)) then
            some false
           else
            Qc6 N p0 k1 n5 (w64 (y3+1))
       else
        Qc6 N p0 k1 n5 (w64 (y3+1))) fun k11:Unit→Option Bool=>
     (Qef N x7.T 0 400).bind fun x22=>
     bif (!x22) then
      some false
     else
      (Qef N x7.P 1 10000).bind fun x25=>
      bif (!x25) then
       some false
      else
       (Qef N x7.Liquid 0 4000).bind fun x28=>
       bif (!x28) then
        some false
       else
        (Qef N x7.Silica 0 2000).bind fun x31=>
        bif (!x31) then
         some false
        else
         bif (decide (x7.Vapour≤x7.Liquid)) then
          some false
         else
          bif (decide (x7.Vapour>4000)) then
           some false
          else
           k11 ()
    else
     k1 ()
def Qh7 (N:Nat) (p0:(List GRow)):Option Bool:=
  Qby (fun _=>
    bif (decide ((p0.length:Int)≥2)) then
     some (decide ((p0.length:Int)≤20))
    else
     some false) fun k1:Unit→Option Bool=>
  Qc6 N p0 k1 N 0
def Qko (p0:(List GRow)):AV:=.dat 5 ((p0:List GRow).map Qau)
def Zap (x7:GRow):Slot:=.own 5 [[(I (x7.T)),(I (x7.P)),(I (x7.Liquid)),(I (x7.Vapour)),(I (x7.Silica))]]
def Q2l (y3:Int) (p0:(List GRow)) (x13:GRow):List (Nat×Rec):=[(2,rp [((.tmp 50),(B ((decide (y3>0)))))] (B (true))),(8,rp [((.tmp 51),(B (true))),((.tmp 54),(Qko p0)),((.tmp 56),(I (w64 (y3 - 1))))] (.dptr (Qau (x13)) 0))]
def Q2k (y3) (p0) (x13) (x7:GRow):=hcat (Q2l y3 p0 x13) [(12,rp [((.tmp 51),(B (true))),((.tmp 60),(B ((decide (x7.T≤x13.T)))))] (B (false))),(18,rp [((.tmp 61),(B (false))),((.tmp 64),(Qko p0)),((.tmp 66),(I (w64 (y3 - 1))))] (.dptr (Qau (x13)) 0))]
def Q2j (y3) (p0) (x13) (x7):=hcat (Q2k y3 p0 x13 x7) [(23,rp [((.tmp 51),(B (true))),((.tmp 71),(B ((decide (x7.P≤x13.P)))))] (B (false))),(29,rp [((.tmp 72),(B (false))),((.tmp 75),(Qko p0)),((.tmp 77),(I (w64 (y3 - 1))))] (.dptr (Qau (x13)) 0))]
def Q2i (x7:GRow) (x22:Bool):List (Nat×Rec):=[(2,rp [fu 25,((.tmp 16),(I (x7.T))),ci 0,ci 400] (B (x22)))]
def Q2h (x7) (x22) (x25:Bool):=hcat (Q2i x7 x22) [(4,rp [((.tmp 18),(B ((!x22))))] (B (false))),(7,rp [((.tmp 19),(B (false))),fu 25,((.tmp 21),(I (x7.P))),ci 1,ci 10000] (B (x25)))]
def Q2g (x7) (x22) (x25) (x28:Bool):=hcat (Q2h x7 x22 x25) [(10,rp [((.tmp 24),(B ((!x25))))] (B (false))),(13,rp [((.tmp 25),(B (false))),fu 25,((.tmp 27),(I (x7.Liquid))),ci 0,ci 4000] (B (x28)))]
def Qxx (x7) (x22) (x25) (x28) (x31:Bool):=hcat (Q2g x7 x22 x25 x28) [(16,rp [((.tmp 30),(B ((!x28))))] (B (false))),(19,rp [((.tmp 31),(B (false))),fu 25,((.tmp 33),(I (x7.Silica))),ci 0,ci 2000] (B (x31)))]
theorem Qp4 (N:Nat) (p0:(List GRow)) (r:Bool) (h:Qh7 N p0=some r):Spec Tryz.prog 69 [(.dat 5 (p0.map Qau))] [] (B r) []:=by
  refine Qah Tryz.func69 rfl 0 (nle rfl) (fun X φ0 w0 hφ0 hd0=>?_)
  unfold Qh7 at h
  refine wxz ?_
  obtain ⟨k1,hk_k1,h⟩:=jko h
  refine wjn (τ:=Unit) (fun t=>k1 t=some r) (fun _=>⟨mk 103 [(0,(Qko p0))],[]⟩) (fun t h=>?_) ?_
  ·subst hk_k1
   refine bfe h (fun hb2 h=>?_) fun hb2 h=>?_
   ·refine wx tbk [(1,rp [(.tmp 95,(Qko p0))] (I ((p0.length:Int)))),(3,rp [(.tmp 97,(B ((decide ((p0.length:Int)≥2)))))] (B true)),(5,rp [(.tmp 98,B true),(.tmp 99,(Qko p0))] (I ((p0.length:Int))))] ⟨alm (c:=Qau) (l:=p0) (aln rfl Tryz.underlying23 rfl),asb hb2 (amv rfl),ag_ (alm (c:=Qau) (l:=p0) (aln rfl Tryz.underlying23 rfl)),tv⟩<|Qad ?_
    obtain rfl:=osi h
    exact fend ⟨[(B ((decide ((p0.length:Int)≤20))))],⟨rot,tv⟩,rfl⟩ nll
   ·exact wx tbk [(1,rp [(.tmp 95,(Qko p0))] (I ((p0.length:Int)))),(3,rp [(.tmp 97,(B ((decide ((p0.length:Int)≥2)))))] (B false))] ⟨alm (c:=Qau) (l:=p0) (aln rfl Tryz.underlying23 rfl),asb hb2 (amv rfl),tv⟩<|Qad<|frb h
  ·skip
   refine wxz<|Qal ?_
   refine wmr (mto (n:=103) (l':=[(0,(Qko p0)),(3,I 0)]) (own':=[]) [(0,(Qko p0)),(3,I 0)] [] [] hφ0 (pc (rnd Qae) (pw pn)) qn) ?_
   refine Qbu (τ:=Int) (fun n t=>Qc6 N p0 k1 n t=some r) (fun y3=>⟨mk 103 [(0,(Qko p0)),(3,I y3)],[]⟩) (fun t h=>by rw [Qc6] at h; cases h) (fun n5 ih y3 h=>?_) N (0) h
   rw [Qc6] at h
   skip
   refine wsq<|wx tbk [(2,rp [(.tmp 6,(Qko p0))] (I ((p0.length:Int))))] ⟨alm (c:=Qau) (l:=p0) (aln rfl Tryz.underlying23 rfl),tv⟩ ?_
   refine bfe h (fun hc6 h=>?_) fun hc6 h=>?_
   ·refine wft hc6<|Qam<|thn<|wsq<|Qal ?_
    obtain ⟨x7,hg8,h⟩:=bno h
    obtain ⟨hi9,hj10⟩:=gsm hg8
    refine wx tbk [(2,rp [(.tmp 11,(Qko p0)),(.tmp 12,I y3)] (.dptr (Qau (x7)) 0))] ⟨aid rfl Tryz.underlying23 Qo0 rfl rfl hi9 (mgt Qau hj10) rfl,tv⟩ ?_
    obtain ⟨k11,hk_k11,h⟩:=jko h
    refine wjn (τ:=Unit) (fun t=>k11 t=some r) (fun _=>⟨mk 103 [(0,(Qko p0)),(3,I y3),(4,.ref 0 5 0 0)],[(Zap x7)]⟩) (fun t h=>?_) ?_
    ·subst hk_k11
     refine bfe h (fun hb12 h=>?_) fun hb12 h=>?_
     ·obtain ⟨x13,hg14,h⟩:=bno h
      obtain ⟨hi15,hj16⟩:=gsm hg14
      refine hpre (A:=(Q2l y3 p0 x13)) ⟨asb hb12 (amv rfl),ag_ (aid rfl Tryz.underlying23 Qo0 rfl rfl hi15 (mgt Qau hj16) rfl),tv⟩ fun q1_=>?_
      refine bfe h (fun hb17 h=>?_) fun hb17 h=>?_
      ·exact wxd tbk (hcat (Q2l y3 p0 x13) [(12,rp [(.tmp 51,B true),(.tmp 60,(B ((decide (x7.T≤x13.T)))))] (B true))]) (hap q1_ ⟨asb hb17 (ag_ (amv rfl)),tv⟩)<|wtr<|wxz<|Qad<|Qak<|Qac<|Qac<|Qak<|Qac<|frb h
      ·refine hpre (A:=(Q2k y3 p0 x13 x7)) (hap q1_ ⟨asb hb17 (ag_ (amv rfl)),ag_ (aid rfl Tryz.underlying23 Qo0 rfl rfl hi15 (mgt Qau hj16) rfl),tv⟩) fun q2_=>?_
       refine bfe h (fun hb18 h=>?_) fun hb18 h=>?_
       ·exact wxd tbk (hcat (Q2k y3 p0 x13 x7) [(23,rp [(.tmp 51,B true),(.tmp 71,(B ((decide (x7.P≤x13.P)))))] (B true))]) (hap q2_ ⟨asb hb18 (ag_ (amv rfl)),tv⟩)<|wtr<|wxz<|Qad<|Qak<|Qac<|Qac<|Qak<|Qac<|frb h
       ·refine hpre (A:=(Q2j y3 p0 x13 x7)) (hap q2_ ⟨asb hb18 (ag_ (amv rfl)),ag_ (aid rfl Tryz.underlying23 Qo0 rfl rfl hi15 (mgt Qau hj16) rfl),tv⟩) fun q3_=>?_
        refine bfe h (fun hb19 h=>?_) fun hb19 h=>?_
        ·exact wxd tbk (hcat (Q2j y3 p0 x13 x7) [(34,rp [(.tmp 51,B true),(.tmp 82,(B ((decide (x7.Liquid≤x13.Liquid)))))] (B true))]) (hap q3_ ⟨asb hb19 (ag_ (amv rfl)),tv⟩)<|wtr<|wxz<|Qad<|Qak<|Qac<|Qac<|Qak<|Qac<|frb h
        ·refine wxd tbk (hcat (Q2j y3 p0 x13 x7) [(34,rp [(.tmp 51,B true),(.tmp 82,(B ((decide (x7.Liquid≤x13.Liquid)))))] (B false)),(40,rp [(.tmp 83,B false),(.tmp 86,(Qko p0)),(.tmp 88,(I (w64 (y3 - 1))))] (.dptr (Qau (x13)) 0))]) (hap q3_ ⟨asb hb19 (ag_ (amv rfl)),ag_ (aid rfl Tryz.underlying23 Qo0 rfl rfl hi15 (mgt Qau hj16) rfl),tv⟩) ?_
         refine bfe h (fun hc20 h=>?_) fun hc20 h=>?_
         ·exact wft hc20<|wxz<|Qad<|Qak<|Qac<|Qac<|Qak<|Qac<|frb h
         ·exact wfn hc20<|Qam<|bln<|thn<|wxz1<|thn<|arm (mto (n:=103) [(0,(Qko p0)),(3,(I (w64 (y3+1))))] [] [] hφ0 (pc (rnd Qae) (pw pn)) qn) (ih (w64 (y3+1)) h)
     ·exact wxd tbk [(2,rp [(.tmp 50,(B ((decide (y3>0)))))] (B false))] ⟨asb hb12 (amv rfl),tv⟩<|wfa<|Qam<|bln<|thn<|wxz1<|thn<|arm (mto (n:=103) [(0,(Qko p0)),(3,(I (w64 (y3+1))))] [] [] hφ0 (pc (rnd Qae) (pw pn)) qn) (ih (w64 (y3+1)) h)
    ·skip
     obtain ⟨x22,hf21,h⟩:=bno h
     refine hpre (A:=(Q2i x7 x22)) ⟨apv Qik (Qdr N x7.T 0 400 _ hf21) (nlcc (nlc nll nl0)) nll,tv⟩ fun q4_=>?_
     refine bfe h (fun hb23 h=>?_) fun hb23 h=>?_
     ·refine wx tbk (hcat (Q2i x7 x22) [(4,rp [(.tmp 18,(B ((!x22))))] (B true))]) (hap q4_ ⟨asb hb23 (amv rfl),tv⟩)<|wtr<|wxz<|Qad<|Qac<|Qak<|Qac<|Qac<|Qak<|Qac ?_
      exact frb h
     ·obtain ⟨x25,hf24,h⟩:=bno h
      refine hpre (A:=(Q2h x7 x22 x25)) (hap q4_ ⟨asb hb23 (amv rfl),ag_ (apv Qik (Qdr N x7.P 1 10000 _ hf24) (nlcc (nlc nll nl0)) nll),tv⟩) fun q5_=>?_
      refine bfe h (fun hb26 h=>?_) fun hb26 h=>?_
      ·refine wx tbk (hcat (Q2h x7 x22 x25) [(10,rp [(.tmp 24,(B ((!x25))))] (B true))]) (hap q5_ ⟨asb hb26 (amv rfl),tv⟩)<|wtr<|wxz<|Qad<|Qac<|Qak<|Qac<|Qac<|Qak<|Qac ?_
       exact frb h
      ·obtain ⟨x28,hf27,h⟩:=bno h
       refine hpre (A:=(Q2g x7 x22 x25 x28)) (hap q5_ ⟨asb hb26 (amv rfl),ag_ (apv Qik (Qdr N x7.Liquid 0 4000 _ hf27) (nlcc (nlc nll nl0)) nll),tv⟩) fun q6_=>?_
       refine bfe h (fun hb29 h=>?_) fun hb29 h=>?_
       ·refine wx tbk (hcat (Q2g x7 x22 x25 x28) [(16,rp [(.tmp 30,(B ((!x28))))] (B true))]) (hap q6_ ⟨asb hb29 (amv rfl),tv⟩)<|wtr<|wxz<|Qad<|Qac<|Qak<|Qac<|Qac<|Qak<|Qac ?_
        exact frb h
       ·obtain ⟨x31,hf30,h⟩:=bno h
        refine hpre (A:=(Qxx x7 x22 x25 x28 x31)) (hap q6_ ⟨asb hb29 (amv rfl),ag_ (apv Qik (Qdr N x7.Silica 0 2000 _ hf30) (nlcc (nlc nll nl0)) nll),tv⟩) fun q7_=>?_
        refine bfe h (fun hb32 h=>?_) fun hb32 h=>?_
        ·refine wx tbk (hcat (Qxx x7 x22 x25 x28 x31) [(22,rp [(.tmp 36,(B ((!x31))))] (B true))]) (hap q7_ ⟨asb hb32 (amv rfl),tv⟩)<|wtr<|wxz<|Qad<|Qac<|Qak<|Qac<|Qac<|Qak<|Qac ?_
         exact frb h
        ·refine bfe h (fun hb33 h=>?_) fun hb33 h=>?_
         ·refine wx tbk (hcat (Qxx x7 x22 x25 x28 x31) [(22,rp [(.tmp 36,(B ((!x31))))] (B false)),(29,rp [(.tmp 43,(B ((decide (x7.Vapour≤x7.Liquid)))))] (B true))]) (hap q7_ ⟨asb hb32 (amv rfl),asb hb33 (amv rfl),tv⟩)<|wtr<|wxz<|Qad<|Qac<|Qak<|Qac<|Qac<|Qak<|Qac ?_
          exact frb h
         ·refine wx tbk (hcat (Qxx x7 x22 x25 x28 x31) [(22,rp [(.tmp 36,(B ((!x31))))] (B false)),(29,rp [(.tmp 43,(B ((decide (x7.Vapour≤x7.Liquid)))))] (B false))]) (hap q7_ ⟨asb hb32 (amv rfl),asb hb33 (amv rfl),tv⟩) ?_
          refine bfe h (fun hc34 h=>?_) fun hc34 h=>?_
          ·exact wft hc34<|wxz<|Qad<|Qac<|Qak<|Qac<|Qac<|Qak<|Qac<|frb h
          ·exact wfn hc34<|Qam<|thn<|⟨(),h,(mto (n:=103) [(0,(Qko p0)),(3,I y3),(4,.ref 0 5 0 0)] [0] [(Zap x7)] hφ0 (pc (rnd Qae) (pw (prr pn))) (qb (lcc (lcc (lc rwl ln))) qn))⟩
   ·exact wfn hc6<|Qbf<|Qav<|Qav<|Qbe rfl<|thn<|⟨(),h,(mto (n:=103) [(0,(Qko p0))] [] [] hφ0 (pc (rnd Qae) pn) qn)⟩
def Qdo (N:Nat) (p0:(List GRow)) (k2:(List GRow)→Option (List GRow)):Nat→(List GRow)→Int→Option (List GRow)
  | 0,_,_=>none
  | n7+1,y3,y4=>
    bif (decide (y4<(p0.length:Int))) then
     (getI p0 y4).bind fun x9=>
     chk (decide ((y3.length+([x9]).length) * 40≤140737488355328))<|
     Qdo N p0 k2 n7 (y3++([x9])) (w64 (y4+1))
    else
     k2 (y3)
def Qia (N:Nat) (p0:(List GRow)):Option (List GRow):=
  Qby (fun y1=>
    some y1) fun k2:(List GRow)→Option (List GRow)=>
  Qdo N p0 k2 N ([]) 0
def Qq8 (p0:(List GRow)):AV:=.dat 5 ((p0:List GRow).map Qau)
def Q2f (y3:(List GRow)):AV:=.acc 0 160 5 ((y3:List GRow).map Qau)
def Q2e (x9:GRow):AV:=.agg [(I (x9.T)),(I (x9.P)),(I (x9.Liquid)),(I (x9.Vapour)),(I (x9.Silica))]
theorem Qqe (N:Nat) (p0:(List GRow)) (r:(List GRow)) (h:Qia N p0=some r):Spec Tryz.prog 59 [(.dat 5 (p0.map Qau))] [] (.dat 5 (r.map Qau)) []:=by
  refine Qah Tryz.func59 rfl 0 (nle rfl) (fun X φ0 w0 hφ0 hd0=>?_)
  unfold Qia at h
  refine wxz<|wxz ?_
  obtain ⟨k2,hk_k2,h⟩:=jko h
  refine wjn (τ:=(List GRow)) (fun t=>k2 t=some r) (fun y1=>⟨mk 41 [(3,(.acc 0 160 5 ((y1:List GRow).map Qau)))],[.tok]⟩) (fun y1 h=>?_) ?_
  ·subst hk_k2
   refine wxz<|Qad ?_
   obtain rfl:=osi h
   exact fend ⟨[(.dat 5 ((y1:List GRow).map Qau))],⟨Qch (v:=(.acc 0 160 5 ((y1:List GRow).map Qau))) (rot) Less.acc,tv⟩,rfl⟩ (nld Qae _)
  ·skip
   refine wxz<|Qal ?_
   refine wmr (Mor.trans (Qs9 0 160 5 3 (by kernel_rfl) (by kernel_rfl)) (mto (n:=41) (l':=[(0,(Qq8 p0)),(3,(.acc 0 160 5 ((([]):List GRow).map Qau))),(4,I 0)]) (own':=[.tok]) [(0,(Qq8 p0)),(3,(.acc 0 160 5 (([]:List GRow).map Qau))),(4,I 0)] [0] [.tok] hφ0 (pc (rnd Qae) (pc (.rn (Qcw rfl (Qb9 Qae _))) (pw pn))) (qc .tok qn))) ?_
   refine Qbu (τ:=(List GRow)×Int) (fun n t=>Qdo N p0 k2 n t.1 t.2=some r) (fun ⟨y3,y4⟩=>⟨mk 41 [(0,(Qq8 p0)),(3,(Q2f y3)),(4,I y4)],[.tok]⟩) (fun t h=>by rw [Qdo] at h; cases h) (fun n7 ih t h=>?_) N ([],0) h
   obtain ⟨y3,y4⟩:=t
   rw [Qdo] at h
   skip
   refine wsq<|wx tbk [(2,rp [(.tmp 6,(Qq8 p0))] (I ((p0.length:Int))))] ⟨alm (c:=Qau) (l:=p0) (aln rfl Tryz.underlying23 rfl),tv⟩ ?_
   refine bfe h (fun hc8 h=>?_) fun hc8 h=>?_
   ·refine wft hc8<|Qam<|thn<|wsq<|Qal ?_
    obtain ⟨x9,hg10,h⟩:=bno h
    obtain ⟨hi11,hj12⟩:=gsm hg10
    obtain ⟨ha13,h⟩:=cko h
    refine wy1 tbk [(3,rp [(.tmp 12,(Qq8 p0)),(.tmp 13,I y4)] (.dptr (Qau (x9)) 0)),(8,rp [(.tmp 17,(Qq8 p0)),(.tmp 18,I y4)] (.dptr (Qau (x9)) 0)),(13,rp [(.tmp 22,(Qq8 p0)),(.tmp 23,I y4)] (.dptr (Qau (x9)) 0)),(18,rp [(.tmp 27,(Qq8 p0)),(.tmp 28,I y4)] (.dptr (Qau (x9)) 0)),(23,rp [(.tmp 32,(Qq8 p0)),(.tmp 33,I y4)] (.dptr (Qau (x9)) 0)),(26,rp [(.tmp 16,I x9.T),(.tmp 21,I x9.P),(.tmp 26,I x9.Liquid),(.tmp 31,I x9.Vapour),(.tmp 36,I x9.Silica)] (Q2e x9)),(27,rp [(.tmp 37,(Q2e x9))] (.dat 5 (([x9]:List GRow).map Qau))),(28,⟨[(.tmp 11,(Q2f y3)),(.tmp 38,(.dat 5 (([x9]:List GRow).map Qau)))],[(0,.tok),(1,.unused)],(.acc 1 160 5 ((y3++([x9]):List GRow).map Qau)),[(0,.dead),(1,.tok)],false⟩)] ⟨aid rfl Tryz.underlying23 Qo0 rfl rfl hi11 (mgt Qau hj12) rfl,aid rfl Tryz.underlying23 Qo0 rfl rfl hi11 (mgt Qau hj12) rfl,aid rfl Tryz.underlying23 Qo0 rfl rfl hi11 (mgt Qau hj12) rfl,aid rfl Tryz.underlying23 Qo0 rfl rfl hi11 (mgt Qau hj12) rfl,aid rfl Tryz.underlying23 Qo0 rfl rfl hi11 (mgt Qau hj12) rfl,Qax (vs:=[I x9.T,I x9.P,I x9.Liquid,I x9.Vapour,I x9.Silica]) rfl Q77 Qst rfl (by rfl) rfl,Qbt (vs:=[(Q2e x9)]) rfl Tryz.underlying39 Qnx Qst rfl (by decide) rfl (by decide) (by rfl) (by rfl) (by rfl) rfl,Qej rfl Tryz.underlying39 Zd8 (Base.acc _ _) rfl rfl (by rfl) (Qgj Qau ha13) (Qgi Qau ha13 (by decide)) (Qgh Qau) rfl rfl,tv⟩<|bln<|thn<|wxz1<|thn ?_
    exact arm (mto (n:=41) [(0,(Qq8 p0)),(3,(.acc 1 160 5 ((y3++([x9]):List GRow).map Qau))),(4,(I (w64 (y4+1))))] [1] [.tok] hφ0 (pc (rnd Qae) (pc (.rn (Qcw rfl (Qb9 Qae _))) (pw pn))) (qc .tok qn)) (ih (y3++([x9]),w64 (y4+1)) h)
   ·exact wfn hc8<|Qbf<|Qav<|Qav<|Qbe rfl<|thn<|⟨(y3),h,(mto (n:=41) [(3,(Q2f y3))] [0] [.tok] hφ0 (pc (.rn (Qcw rfl (Qb9 Qae _))) pn) (qc .tok qn))⟩
def Qeb (N:Nat) (x13:GElement) (k21:(List GElement)×(List GPort)×(List Int)→Option GNet):Nat→Int→(List GElement)→(List GPort)→(List Int)→Option GNet
  | 0,_,_,_,_=>none
  | n31+1,y23,y24,y25,y26=>
    bif (decide (y23<(x13.From.length:Int))) then
     (getI x13.From y23).bind fun x33=>
     chk (decide ((y25.length+([x33]).length) * 16≤140737488355328))<|
     Qeb N x13 k21 n31 (w64 (y23+1)) y24 (y25++([x33])) y26
    else
     k21 (y24,y25,y26)
def Qec (N:Nat) (p0:GNet) (k4:(List GElement)→Option GNet):Nat→Int→(List GElement)→Option GNet
  | 0,_,_=>none
  | n9+1,y5,y6=>
    bif (decide (y5<(p0.Elements.length:Int))) then
     Qby (fun y11=>
       Qec N p0 k4 n9 (w64 (y5+1)) y11) fun k12:(List GElement)→Option GNet=>
     (getI p0.Elements y5).bind fun x13=>
     chk (decide ((([]:List Int).length+x13.Weights.length) * 8≤140737488355328))<|
     Qby (fun ⟨y18,y19,y20⟩=>
       chk (decide ((y18.length+([(⟨x13.Kind,y19,x13.Level,x13.Amount,x13.Wide,x13.Narrow,y20⟩:GElement)]).length) * 88≤140737488355328))<|
       k12 (y18++([(⟨x13.Kind,y19,x13.Level,x13.Amount,x13.Wide,x13.Narrow,y20⟩:GElement)]))) fun k21:(List GElement)×(List GPort)×(List Int)→Option GNet=>
     Qeb N x13 k21 N 0 y6 ([]) (([]:List Int)++x13.Weights)
    else
     k4 (y6)
def Qj3 (N:Nat) (p0:GNet):Option GNet:=
  (Qia N p0.Table).bind fun x2=>
  Qby (fun y3=>
    some (⟨x2,y3⟩:GNet)) fun k4:(List GElement)→Option GNet=>
  Qec N p0 k4 N 0 ([])
def Zfw (p0:GNet):AV:=.dat 5 ((p0.Table:List GRow).map Qau)
def Qjd (x2:(List GRow)):AV:=.dat 5 ((x2:List GRow).map Qau)
def Qvu (y3:(List GElement)):AV:=.acc 2 133 7 ((y3:List GElement).map Qab)
def Zb3 (p0:GNet):AV:=.dat 7 ((p0.Elements:List GElement).map Qab)
def Qou (p0:GNet):Slot:=.own 2 [[(Zfw p0),(Zb3 p0)]]
def Qvv (y6:(List GElement)):AV:=.acc 3 133 7 ((y6:List GElement).map Qab)
def Q2d:AV:=.acc 5 3 1 ((([]:List Int):List Int).map Qaj)
def Q2b (x13:GElement):AV:=.dat 1 ((x13.Weights:List Int).map Qaj)
def Qnn (x13:GElement):AV:=.acc 6 3 1 ((([]:List Int)++x13.Weights:List Int).map Qaj)
def Q2c (y20:(List Int)):AV:=.acc 6 3 1 ((y20:List Int).map Qaj)
def Q19 (x13:GElement) (y19:(List GPort)) (y20:(List Int)):AV:=.dat 7 (([(⟨x13.Kind,y19,x13.Level,x13.Amount,x13.Wide,x13.Narrow,y20⟩:GElement)]:List GElement).map Qab)
def Q2a (x13:GElement) (y19:(List GPort)) (y20:(List Int)):AV:=.agg [(K .u8 (x13.Kind)),(.dat 2 ((y19:List GPort).map Qar)),(I (x13.Level)),(I (x13.Amount)),(I (x13.Wide)),(I (x13.Narrow)),(.dat 1 ((y20:List Int).map Qaj))]
def Qsk (x13:GElement):AV:=.dat 2 ((x13.From:List GPort).map Qar)
def Qsj (x13:GElement):Slot:=.own 7 [[(K .u8 (x13.Kind)),(Qsk x13),(I (x13.Level)),(I (x13.Amount)),(I (x13.Wide)),(I (x13.Narrow)),(Q2b x13)]]
def Zb1:AV:=.acc 6 120 2 ((([]):List GPort).map Qar)
def Zb2:AV:=.acc 8 120 2 (([]:List GPort).map Qar)
def Qvt (y24:(List GElement)):AV:=.acc 5 133 7 ((y24:List GElement).map Qab)
def Q18 (y26:(List Int)):AV:=.acc 7 3 1 ((y26:List Int).map Qaj)
def Q17 (x13:GElement) (y25:(List GPort)) (y26:(List Int)):Slot:=.own 7 [[(K .u8 (x13.Kind)),(.acc 6 120 2 ((y25:List GPort).map Qar)),(I (x13.Level)),(I (x13.Amount)),(I (x13.Wide)),(I (x13.Narrow)),(Q18 y26)]]
def Qvs (x33:GPort):AV:=.agg [(I (x33.Element)),(I (x33.Outlet))]
theorem Qtc (N:Nat) (p0:GNet) (r:GNet) (h:Qj3 N p0=some r):Spec Tryz.prog 17 [(.agg (Qgn p0))] [] (.agg (Qgn r)) []:=by
  refine Qah Tryz.func17 rfl 0 (nle rfl) (fun X φ0 w0 hφ0 hd0=>?_)
  unfold Qj3 at h
  refine wxz ?_
  obtain ⟨x2,hf1,h⟩:=bno h
  refine wx tbk [(2,rp [fu 59,(.tmp 9,(Zfw p0))] (Qjd x2)),(3,rp [(.tmp 10,(Qjd x2))] (.agg [(Qjd x2),nilS]))] ⟨apv Ze6 (Qqe N p0.Table _ hf1) (nlc (nld Qae _) nl0) (nld Qae _),Qax (vs:=[(Qjd x2)]) rfl ts42 tz42 rfl (by rfl) rfl,tv⟩ ?_
  obtain ⟨k4,hk_k4,h⟩:=jko h
  refine wjn (τ:=(List GElement)) (fun t=>k4 t=some r) (fun y3=>⟨mk 71 [(2,.ref 0 2 0 0),(3,.ref 1 2 0 0)],[(.own 2 [[nilS,nilS]]),(.own 2 [[(Qjd x2),(Qvu y3)]]),.tok]⟩) (fun y3 h=>?_) ?_
  ·subst hk_k4
   refine wxz<|Qad ?_
   obtain rfl:=osi h
   exact fend ⟨[(.agg [(Qjd x2),(.dat 7 ((y3:List GElement).map Qab))])],⟨Qch (v:=(.agg [(Qjd x2),(Qvu y3)])) (Qbk (n:=0) (m:=2) (j:=0) (i:=0) (xs:=[[(Qjd x2),(Qvu y3)]]) (by kernel_rfl) (by kernel_rfl) ti42 (by decide) rfl (nle rfl) rfl) (Less.agg ⟨lrf,Less.acc,tv⟩),tv⟩,rfl⟩ (NLt.agg _ (nlc (nld Qae _) (nlc (nld Qaa _) nl0)))
  ·skip
   refine wxz<|Qal ?_
   refine wmr (Mor.trans (Qo9 (n:=3) (ty:=133) (m:=7) (q:=2) (mq:=2) (c:=[(Qjd x2),nilS]) 1 (by kernel_rfl) (by kernel_rfl) (by kernel_rfl) (by decide)) (mto (n:=71) (l':=[(1,.ref 0 2 0 0),(2,.ref 1 2 0 0),(3,.ref 2 2 0 0),(4,I 0)]) (own':=[(Qou p0),(.own 2 [[nilS,nilS]]),(.own 2 [[(Qjd x2),(.acc 3 133 7 ((([]):List GElement).map Qab))]]),.tok]) [(1,.ref 0 2 0 0),(2,.ref 1 2 0 0),(3,.ref 2 2 0 0),(4,I 0)] [0,1,2,3] [(Qou p0),(.own 2 [[nilS,nilS]]),(.own 2 [[(Qjd x2),(.acc 3 133 7 (([]:List GElement).map Qab))]]),.tok] hφ0 (prr (prr (prr (pw pn)))) (qb (lc (rnd Qae) (lc (rnd Qaa) ln)) (qb (lcc ln) (qb (lc (rnd Qae) (lc (.rn (Qcw rfl (Qb9 Qaa _))) ln)) (qc .tok qn)))))) ?_
   refine Qbu (τ:=Int×(List GElement)) (fun n t=>Qec N p0 k4 n t.1 t.2=some r) (fun ⟨y5,y6⟩=>⟨mk 71 [(1,.ref 0 2 0 0),(2,.ref 1 2 0 0),(3,.ref 2 2 0 0),(4,I y5)],[(Qou p0),(.own 2 [[nilS,nilS]]),(.own 2 [[(Qjd x2),(Qvv y6)]]),.tok]⟩) (fun t h=>by rw [Qec] at h; cases h) (fun n9 ih t h=>?_) N (0,[]) h
   obtain ⟨y5,y6⟩:=t
   rw [Qec] at h
   skip
   refine wsq<|wx tbk [(3,rp [(.tmp 14,(Zb3 p0))] (I ((p0.Elements.length:Int))))] ⟨alm (c:=Qab) (l:=p0.Elements) (aln rfl Tryz.underlying24 rfl),tv⟩ ?_
   refine bfe h (fun hc10 h=>?_) fun hc10 h=>?_
   ·refine wft hc10<|Qam<|thn ?_
    obtain ⟨k12,hk_k12,h⟩:=jko h
    refine wjn (τ:=(List GElement)) (fun t=>k12 t=some r) (fun y11=>⟨mk 71 [(1,.ref 0 2 0 0),(2,.ref 1 2 0 0),(3,.ref 2 2 0 0),(4,I y5)],[(Qou p0),(.own 2 [[nilS,nilS]]),(.own 2 [[(Qjd x2),(.acc 3 133 7 ((y11:List GElement).map Qab))]]),.tok]⟩) (fun y11 h=>?_) ?_
    ·subst hk_k12
     exact wxz1<|thn<|arm (mto (n:=71) [(1,.ref 0 2 0 0),(2,.ref 1 2 0 0),(3,.ref 2 2 0 0),(4,(I (w64 (y5+1))))] [0,1,2,3] [(Qou p0),(.own 2 [[nilS,nilS]]),(.own 2 [[(Qjd x2),(.acc 3 133 7 ((y11:List GElement).map Qab))]]),.tok] hφ0 (prr (prr (prr (pw pn)))) (qb (lc (rnd Qae) (lc (rnd Qaa) ln)) (qb (lcc ln) (qb (lc (rnd Qae) (lc (.rn (Qcw rfl (Qb9 Qaa _))) ln)) (qc .tok qn))))) (ih (w64 (y5+1),y11) h)
    ·skip
     refine Qal ?_
     obtain ⟨x13,hg14,h⟩:=bno h
     obtain ⟨hi15,hj16⟩:=gsm hg14
     refine wx tbk [(3,rp [(.tmp 20,(Zb3 p0)),(.tmp 21,I y5)] (.dptr (Qab (x13)) 0))] ⟨aid rfl Tryz.underlying24 ti59 rfl rfl hi15 (mgt Qab hj16) rfl,tv⟩ ?_
     obtain ⟨ha17,h⟩:=cko h
     refine wxd tbk [(10,⟨[],[(5,.unused)],Q2d,[(5,.tok)],false⟩),(13,⟨[(.tmp 34,Q2d),(.tmp 36,(Q2b x13))],[(5,.tok),(6,.unused)],(Qnn x13),[(5,.dead),(6,.tok)],false⟩),(14,rp [(.tmp 25,(K .u8 (x13.Kind))),(.tmp 27,I x13.Level),(.tmp 29,I x13.Amount),(.tmp 31,I x13.Wide),(.tmp 33,I x13.Narrow),(.tmp 37,(Qnn x13))] (.agg [(K .u8 (x13.Kind)),nilS,I x13.Level,I x13.Amount,I x13.Wide,I x13.Narrow,(Qnn x13)]))] ⟨Qdp rfl Tryz.underlying27 ti3 tz3,Qej rfl Tryz.underlying27 te3 (Base.acc _ _) rfl rfl (Qhh Qaj Qgg _) (Qgj Qaj ha17) (Qgi Qaj ha17 (by decide)) (Qgh Qaj) rfl rfl,Qax (vs:=[(K .u8 (x13.Kind)),I x13.Level,I x13.Amount,I x13.Wide,I x13.Narrow,(Qnn x13)]) rfl Q78 Quf rfl (by rfl) rfl,tv⟩ ?_
     obtain ⟨k21,hk_k21,h⟩:=jko h
     refine wjn (τ:=(List GElement)×(List GPort)×(List Int)) (fun t=>k21 t=some r) (fun ⟨y18,y19,y20⟩=>⟨mk 71 [(1,.ref 0 2 0 0),(2,.ref 1 2 0 0),(3,.ref 2 2 0 0),(4,I y5),(6,.ref 3 7 0 0)],[(Qou p0),(.own 2 [[nilS,nilS]]),(.own 2 [[(Qjd x2),(.acc 4 133 7 ((y18:List GElement).map Qab))]]),(.own 7 [[(K .u8 (x13.Kind)),(.acc 5 120 2 ((y19:List GPort).map Qar)),I x13.Level,I x13.Amount,I x13.Wide,I x13.Narrow,(Q2c y20)]]),.tok,.tok,.tok]⟩) (fun t h=>?_) ?_
     ·subst hk_k21
      obtain ⟨y18,y19,y20⟩:=t
      obtain ⟨ha22,h⟩:=cko h
      refine wx1 tbk [(3,rp [(.tmp 66,(.agg [(K .u8 (x13.Kind)),(.acc 5 120 2 ((y19:List GPort).map Qar)),I x13.Level,I x13.Amount,I x13.Wide,I x13.Narrow,(Q2c y20)]))] (Q19 x13 y19 y20)),(4,⟨[(.tmp 65,(.acc 4 133 7 ((y18:List GElement).map Qab))),(.tmp 67,(Q19 x13 y19 y20))],[(4,.tok),(7,.unused)],(.acc 7 133 7 ((y18++([(⟨x13.Kind,y19,x13.Level,x13.Amount,x13.Wide,x13.Narrow,y20⟩:GElement)]):List GElement).map Qab)),[(4,.dead),(7,.tok)],false⟩)] ⟨awk (rd':=[(.tmp 66,(Q2a x13 y19 y20))]) ⟨rfl,(Less.agg ⟨lrf,Less.acc,lrf,lrf,lrf,lrf,Less.acc,tv⟩),tv⟩ (Qbt (vs:=[(Q2a x13 y19 y20)]) rfl Tryz.underlying40 Qg2 Quf rfl (by decide) rfl (by decide) (by rfl) (by rfl) (by rfl) rfl),Qej rfl Tryz.underlying40 Zgz (Base.acc _ _) rfl rfl (by rfl) (Qgj Qab ha22) (Qgi Qab ha22 (by decide)) (Qgh Qab) rfl rfl,tv⟩<|bln<|thn ?_
      exact ⟨(y18++([(⟨x13.Kind,y19,x13.Level,x13.Amount,x13.Wide,x13.Narrow,y20⟩:GElement)])),h,(mto (n:=71) [(1,.ref 0 2 0 0),(2,.ref 1 2 0 0),(3,.ref 2 2 0 0),(4,I y5)] [0,1,2,7] [(Qou p0),(.own 2 [[nilS,nilS]]),(.own 2 [[(Qjd x2),(.acc 7 133 7 ((y18++([(⟨x13.Kind,y19,x13.Level,x13.Amount,x13.Wide,x13.Narrow,y20⟩:GElement)]):List GElement).map Qab))]]),.tok] hφ0 (prr (prr (prr (pw pn)))) (qb (lc (rnd Qae) (lc (rnd Qaa) ln)) (qb (lcc ln) (qb (lc (rnd Qae) (lc (.rn (Qcw rfl (Qb9 Qaa _))) ln)) (qc .tok qn)))))⟩
     ·skip
      refine wxz<|Qal ?_
      refine wmr (Mor.trans (Qo9 (n:=8) (ty:=120) (m:=2) (q:=7) (mq:=7) (c:=[(K .u8 (x13.Kind)),nilS,I x13.Level,I x13.Amount,I x13.Wide,I x13.Narrow,(Qnn x13)]) 1 (by kernel_rfl) (by kernel_rfl) (by kernel_rfl) (by decide)) (mto (n:=71) (l':=[(1,.ref 0 2 0 0),(2,.ref 1 2 0 0),(3,.ref 2 2 0 0),(4,I y5),(5,.ref 3 7 0 0),(6,.ref 4 7 0 0),(7,I 0)]) (own':=[(Qou p0),(.own 2 [[nilS,nilS]]),(.own 2 [[(Qjd x2),(.acc 5 133 7 ((y6:List GElement).map Qab))]]),(Qsj x13),(.own 7 [[(K .u8 (x13.Kind)),Zb1,I x13.Level,I x13.Amount,I x13.Wide,I x13.Narrow,(.acc 7 3 1 (((([]:List Int)++x13.Weights):List Int).map Qaj))]]),.tok,.tok,.tok]) [(1,.ref 0 2 0 0),(2,.ref 1 2 0 0),(3,.ref 2 2 0 0),(4,I y5),(5,.ref 4 7 0 0),(6,.ref 7 7 0 0),(7,I 0)] [0,1,2,4,7,3,8,6] [(Qou p0),(.own 2 [[nilS,nilS]]),(.own 2 [[(Qjd x2),(Qvv y6)]]),(Qsj x13),(.own 7 [[(K .u8 (x13.Kind)),Zb2,I x13.Level,I x13.Amount,I x13.Wide,I x13.Narrow,(Qnn x13)]]),.tok,.tok,.tok] hφ0 (prr (prr (prr (pw (prr (prr (pw pn))))))) (qb (lc (rnd Qae) (lc (rnd Qaa) ln)) (qb (lcc ln) (qb (lc (rnd Qae) (lc (.rn (Qcw rfl (Qb9 Qaa _))) ln)) (qb (lc rwl (lc (rnd Qaz) (lcc (lcc (lc (rnd Qaf) ln))))) (qb (lc rwl (lc (.rn (Qcw rfl (Qb9 Qaz _))) (lcc (lcc (lc (.rn (Qcw rfl (Qb9 Qaf _))) ln))))) (qc .tok (qc .tok (qc .tok qn)))))))))) ?_
      refine Qbu (τ:=Int×(List GElement)×(List GPort)×(List Int)) (fun n t=>Qeb N x13 k21 n t.1 t.2.1 t.2.2.1 t.2.2.2=some r) (fun ⟨y23,y24,y25,y26⟩=>⟨mk 71 [(1,.ref 0 2 0 0),(2,.ref 1 2 0 0),(3,.ref 2 2 0 0),(4,I y5),(5,.ref 3 7 0 0),(6,.ref 4 7 0 0),(7,I y23)],[(Qou p0),(.own 2 [[nilS,nilS]]),(.own 2 [[(Qjd x2),(Qvt y24)]]),(Qsj x13),(Q17 x13 y25 y26),.tok,.tok,.tok]⟩) (fun t h=>by rw [Qeb] at h; cases h) (fun n31 ih t h=>?_) N (0,y6,[],([]:List Int)++x13.Weights) h
      obtain ⟨y23,y24,y25,y26⟩:=t
      rw [Qeb] at h
      skip
      refine wsq<|wx tbk [(3,rp [(.tmp 41,(Qsk x13))] (I ((x13.From.length:Int))))] ⟨alm (c:=Qar) (l:=x13.From) (aln rfl Tryz.underlying57 rfl),tv⟩ ?_
      refine bfe h (fun hc32 h=>?_) fun hc32 h=>?_
      ·refine wft hc32<|Qam<|thn<|wsq<|Qal ?_
       obtain ⟨x33,hg34,h⟩:=bno h
       obtain ⟨hi35,hj36⟩:=gsm hg34
       obtain ⟨ha37,h⟩:=cko h
       refine wy1 tbk [(5,rp [(.tmp 49,(Qsk x13)),(.tmp 50,I y23)] (.dptr (Qar (x33)) 0)),(11,rp [(.tmp 55,(Qsk x13)),(.tmp 56,I y23)] (.dptr (Qar (x33)) 0)),(14,rp [(.tmp 53,I x33.Element),(.tmp 59,I x33.Outlet)] (Qvs x33)),(15,rp [(.tmp 60,(Qvs x33))] (.dat 2 (([x33]:List GPort).map Qar))),(16,⟨[(.tmp 47,(.acc 6 120 2 ((y25:List GPort).map Qar))),(.tmp 61,(.dat 2 (([x33]:List GPort).map Qar)))],[(6,.tok),(8,.unused)],(.acc 8 120 2 ((y25++([x33]):List GPort).map Qar)),[(6,.dead),(8,.tok)],false⟩)] ⟨aid rfl Tryz.underlying57 ti61 rfl rfl hi35 (mgt Qar hj36) rfl,aid rfl Tryz.underlying57 ti61 rfl rfl hi35 (mgt Qar hj36) rfl,Qax (vs:=[I x33.Element,I x33.Outlet]) rfl Q4o Qoz rfl (by rfl) rfl,Qbt (vs:=[(Qvs x33)]) rfl Tryz.underlying116 Qkv Qoz rfl (by decide) rfl (by decide) (by rfl) (by rfl) (by rfl) rfl,Qej rfl Tryz.underlying116 Q8a (Base.acc _ _) rfl rfl (by rfl) (Qgj Qar ha37) (Qgi Qar ha37 (by decide)) (Qgh Qar) rfl rfl,tv⟩<|bln<|thn<|wxz1<|thn ?_
       exact arm (mto (n:=71) [(1,.ref 0 2 0 0),(2,.ref 1 2 0 0),(3,.ref 2 2 0 0),(4,I y5),(5,.ref 3 7 0 0),(6,.ref 4 7 0 0),(7,(I (w64 (y23+1))))] [0,1,2,3,4,5,8,7] [(Qou p0),(.own 2 [[nilS,nilS]]),(.own 2 [[(Qjd x2),(Qvt y24)]]),(Qsj x13),(.own 7 [[(K .u8 (x13.Kind)),(.acc 8 120 2 ((y25++([x33]):List GPort).map Qar)),I x13.Level,I x13.Amount,I x13.Wide,I x13.Narrow,(Q18 y26)]]),.tok,.tok,.tok] hφ0 (prr (prr (prr (pw (prr (prr (pw pn))))))) (qb (lc (rnd Qae) (lc (rnd Qaa) ln)) (qb (lcc ln) (qb (lc (rnd Qae) (lc (.rn (Qcw rfl (Qb9 Qaa _))) ln)) (qb (lc rwl (lc (rnd Qaz) (lcc (lcc (lc (rnd Qaf) ln))))) (qb (lc rwl (lc (.rn (Qcw rfl (Qb9 Qaz _))) (lcc (lcc (lc (.rn (Qcw rfl (Qb9 Qaf _))) ln))))) (qc .tok (qc .tok (qc .tok qn))))))))) (ih (w64 (y23+1),y24,y25++([x33]),y26) h)
      ·exact wfn hc32<|Qbf<|Qav<|Qav<|Qbe rfl<|thn<|⟨(y24,y25,y26),h,(mto (n:=71) [(1,.ref 0 2 0 0),(2,.ref 1 2 0 0),(3,.ref 2 2 0 0),(4,I y5),(6,.ref 4 7 0 0)] [0,1,2,4,5,6,7] [(Qou p0),(.own 2 [[nilS,nilS]]),(.own 2 [[(Qjd x2),(Qvt y24)]]),(Q17 x13 y25 y26),.tok,.tok,.tok] hφ0 (prr (prr (prr (pw (prr pn))))) (qb (lc (rnd Qae) (lc (rnd Qaa) ln)) (qb (lcc ln) (qb (lc (rnd Qae) (lc (.rn (Qcw rfl (Qb9 Qaa _))) ln)) (qb (lc rwl (lc (.rn (Qcw rfl (Qb9 Qaz _))) (lcc (lcc (lc (.rn (Qcw rfl (Qb9 Qaf _))) ln))))) (qc .tok (qc .tok (qc .tok qn))))))))⟩
   ·exact wfn hc10<|Qbf<|Qav<|Qav<|Qbe rfl<|thn<|⟨(y6),h,(mto (n:=71) [(2,.ref 1 2 0 0),(3,.ref 2 2 0 0)] [1,2,3] [(.own 2 [[nilS,nilS]]),(.own 2 [[(Qjd x2),(Qvv y6)]]),.tok] hφ0 (prr (prr pn)) (qb (lcc ln) (qb (lc (rnd Qae) (lc (.rn (Qcw rfl (Qb9 Qaa _))) ln)) (qc .tok qn))))⟩
def Qi7 (_N:Nat) (p0:(List Int)):Option (List Int):=
  chk (decide ((([]:List Int).length+p0.length) * 8≤140737488355328))<|
  some (([]:List Int)++p0)
def Zfv:AV:=.acc 0 3 1 ((([]:List Int):List Int).map Qaj)
def Zfu (p0:(List Int)):AV:=.acc 1 3 1 ((([]:List Int)++p0:List Int).map Qaj)
theorem Qre (N:Nat) (p0:(List Int)) (r:(List Int)) (h:Qi7 N p0=some r):Spec Tryz.prog 18 [(.dat 1 (p0.map Qaj))] [] (.dat 1 (r.map Qaj)) []:=by
  refine Qah Tryz.func18 rfl 0 (nle rfl) (fun X φ0 w0 hφ0 hd0=>?_)
  unfold Qi7 at h
  refine wxz ?_
  obtain ⟨ha1,h⟩:=cko h
  refine wx tbk [(0,⟨[],[(0,.unused)],Zfv,[(0,.tok)],false⟩),(2,⟨[(.tmp 3,Zfv),(.tmp 4,(.dat 1 ((p0:List Int).map Qaj)))],[(0,.tok),(1,.unused)],(Zfu p0),[(0,.dead),(1,.tok)],false⟩)] ⟨Qdp rfl Tryz.underlying27 ti3 tz3,Qej rfl Tryz.underlying27 te3 (Base.acc _ _) rfl rfl (Qhh Qaj Qgg _) (Qgj Qaj ha1) (Qgi Qaj ha1 (by decide)) (Qgh Qaj) rfl rfl,tv⟩<|Qad ?_
  obtain rfl:=osi h
  exact fend ⟨[(.dat 1 ((([]:List Int)++p0:List Int).map Qaj))],⟨Qch (v:=(Zfu p0)) (rot) Less.acc,tv⟩,rfl⟩ (nld Qaf _)
def Qed (N:Nat) (p0:GNet) (k1:Unit→Option Bool):Nat→Int→Option Bool
  | 0,_=>none
  | n6+1,y4=>
    bif (decide (y4<(p0.Elements.length:Int))) then
     (getI p0.Elements y4).bind fun x8=>
     bif (decide ((x8.From.length:Int)>25)) then
      some false
     else
      bif (decide ((x8.Weights.length:Int)>25)) then
       some false
      else
       Qed N p0 k1 n6 (w64 (y4+1))
    else
     k1 ()
def Qiq (N:Nat) (p0:GNet) (p1:(List GStream)):Option Bool:=
  Qby (fun _=>
    bif (decide ((p0.Elements.length:Int)≤18)) then
     bif (decide ((p0.Table.length:Int)≤25)) then
      some (decide ((p1.length:Int)≤25))
     else
      some false
    else
     some false) fun k1:Unit→Option Bool=>
  Qed N p0 k1 N 0
def Qvr (p1:(List GStream)):AV:=.dat 4 ((p1:List GStream).map Qai)
def Zft (p0:GNet):AV:=.dat 5 ((p0.Table:List GRow).map Qau)
def Q16 (p0:GNet):AV:=.dat 7 ((p0.Elements:List GElement).map Qab)
def Q0a (p0:GNet):Slot:=.own 2 [[(Zft p0),(Q16 p0)]]
def Q15 (p0:GNet):List (Nat×Rec):=[(2,rp [((.tmp 32),(Q16 p0))] (I ((p0.Elements.length:Int))))]
def Q14 (p0):=hcat (Q15 p0) [(4,rp [((.tmp 34),(B ((decide ((p0.Elements.length:Int)≤18)))))] (B (true))),(7,rp [((.tmp 35),(B (true))),((.tmp 37),(Zft p0))] (I ((p0.Table.length:Int))))]
def Q13 (p0:GNet) (y4:Int) (x8:GElement):List (Nat×Rec):=[(3,rp [((.tmp 14),(Q16 p0)),((.tmp 15),(I (y4)))] (.dptr (Qab (x8)) 0)),(6,rp [((.tmp 18),(.dat 2 ((x8.From:List GPort).map Qar)))] (I ((x8.From.length:Int))))]
theorem Qtd (N:Nat) (p0:GNet) (p1:(List GStream)) (r:Bool) (h:Qiq N p0 p1=some r):Spec Tryz.prog 14 [(.agg (Qgn p0)),(.dat 4 (p1.map Qai))] [] (B r) []:=by
  refine Qah Tryz.func14 rfl 0 (nle rfl) (fun X φ0 w0 hφ0 hd0=>?_)
  unfold Qiq at h
  refine wxz ?_
  obtain ⟨k1,hk_k1,h⟩:=jko h
  refine wjn (τ:=Unit) (fun t=>k1 t=some r) (fun _=>⟨mk 46 [(1,(Qvr p1)),(2,.ref 0 2 0 0)],[(Q0a p0)]⟩) (fun t h=>?_) ?_
  ·subst hk_k1
   refine hpre (A:=(Q15 p0)) ⟨alm (c:=Qab) (l:=p0.Elements) (aln rfl Tryz.underlying24 rfl),tv⟩ fun q1_=>?_
   refine bfe h (fun hb2 h=>?_) fun hb2 h=>?_
   ·refine hpre (A:=(Q14 p0)) (hap q1_ ⟨asb hb2 (amv rfl),ag_ (alm (c:=Qau) (l:=p0.Table) (aln rfl Tryz.underlying23 rfl)),tv⟩) fun q2_=>?_
    refine bfe h (fun hb3 h=>?_) fun hb3 h=>?_
    ·refine wx tbk (hcat (Q14 p0) [(10,rp [(.tmp 40,(B ((decide ((p0.Table.length:Int)≤25)))))] (B true)),(12,rp [(.tmp 41,B true),(.tmp 42,(Qvr p1))] (I ((p1.length:Int))))]) (hap q2_ ⟨asb hb3 (amv rfl),ag_ (alm (c:=Qai) (l:=p1) (aln rfl Tryz.underlying28 rfl)),tv⟩)<|Qad ?_
     obtain rfl:=osi h
     exact fend ⟨[(B ((decide ((p1.length:Int)≤25))))],⟨rot,tv⟩,rfl⟩ nll
    ·exact wx tbk (hcat (Q14 p0) [(10,rp [(.tmp 40,(B ((decide ((p0.Table.length:Int)≤25)))))] (B false))]) (hap q2_ ⟨asb hb3 (amv rfl),tv⟩)<|Qad<|frb h
   ·exact wx tbk (hcat (Q15 p0) [(4,rp [(.tmp 34,(B ((decide ((p0.Elements.length:Int)≤18)))))] (B false))]) (hap q1_ ⟨asb hb2 (amv rfl),tv⟩)<|Qad<|frb h
  ·skip
   refine wxz<|Qal ?_
   refine wmr (mto (n:=46) (l':=[(1,(Qvr p1)),(2,.ref 0 2 0 0),(5,I 0)]) (own':=[(Q0a p0)]) [(1,(Qvr p1)),(2,.ref 0 2 0 0),(5,I 0)] [0] [(Q0a p0)] hφ0 (pc (rnd Qag) (prr (pw pn))) (qb (lc (rnd Qae) (lc (rnd Qaa) ln)) qn)) ?_
   refine Qbu (τ:=Int) (fun n t=>Qed N p0 k1 n t=some r) (fun y4=>⟨mk 46 [(1,(Qvr p1)),(2,.ref 0 2 0 0),(5,I y4)],[(Q0a p0)]⟩) (fun t h=>by rw [Qed] at h; cases h) (fun n6 ih y4 h=>?_) N (0) h
   rw [Qed] at h
   skip
   refine wsq<|wx tbk [(3,rp [(.tmp 8,(Q16 p0))] (I ((p0.Elements.length:Int))))] ⟨alm (c:=Qab) (l:=p0.Elements) (aln rfl Tryz.underlying24 rfl),tv⟩ ?_
   refine bfe h (fun hc7 h=>?_) fun hc7 h=>?_
   ·refine wft hc7<|Qam<|thn<|wsq<|Qal ?_
    obtain ⟨x8,hg9,h⟩:=bno h
    obtain ⟨hi10,hj11⟩:=gsm hg9
    refine hpre (A:=(Q13 p0 y4 x8)) ⟨aid rfl Tryz.underlying24 ti59 rfl rfl hi10 (mgt Qab hj11) rfl,alm (c:=Qar) (l:=x8.From) (aln rfl Tryz.underlying57 rfl),tv⟩ fun q3_=>?_
    refine bfe h (fun hb12 h=>?_) fun hb12 h=>?_
    ·exact wx tbk (hcat (Q13 p0 y4 x8) [(8,rp [(.tmp 20,(B ((decide ((x8.From.length:Int)>25)))))] (B true))]) (hap q3_ ⟨asb hb12 (amv rfl),tv⟩)<|wtr<|wxz<|Qad<|Qak<|Qac<|Qac<|Qak<|Qac<|frb h
    ·refine wx tbk (hcat (Q13 p0 y4 x8) [(8,rp [(.tmp 20,(B ((decide ((x8.From.length:Int)>25)))))] (B false)),(12,rp [(.tmp 21,B false),(.tmp 23,(Q16 p0)),(.tmp 24,I y4)] (.dptr (Qab (x8)) 0)),(15,rp [(.tmp 21,B false),(.tmp 27,(.dat 1 ((x8.Weights:List Int).map Qaj)))] (I ((x8.Weights.length:Int))))]) (hap q3_ ⟨asb hb12 (amv rfl),ag_ (aid rfl Tryz.underlying24 ti59 rfl rfl hi10 (mgt Qab hj11) rfl),ag_ (alm (c:=Qaj) (l:=x8.Weights) (aln rfl Tryz.underlying27 rfl)),tv⟩) ?_
     refine bfe h (fun hc13 h=>?_) fun hc13 h=>?_
     ·exact wft hc13<|wxz<|Qad<|Qak<|Qac<|Qac<|Qak<|Qac<|frb h
     ·exact wfn hc13<|Qam<|bln<|thn<|wxz1<|thn<|arm (mto (n:=46) [(1,(Qvr p1)),(2,.ref 0 2 0 0),(5,(I (w64 (y4+1))))] [0] [(Q0a p0)] hφ0 (pc (rnd Qag) (prr (pw pn))) (qb (lc (rnd Qae) (lc (rnd Qaa) ln)) qn)) (ih (w64 (y4+1)) h)
   ·exact wfn hc7<|Qbf<|Qav<|Qav<|Qbe rfl<|thn<|⟨(),h,(mto (n:=46) [(1,(Qvr p1)),(2,.ref 0 2 0 0)] [0] [(Q0a p0)] hφ0 (pc (rnd Qag) (prr pn)) (qb (lc (rnd Qae) (lc (rnd Qaa) ln)) qn))⟩
def Qb8 (N:Nat) (p0:(List Int)) (k2:Int→Option Bool):Nat→Int→Int→Option Bool
  | 0,_,_=>none
  | n8+1,y4,y5=>
    bif (decide (y5<(p0.length:Int))) then
     (getI p0 y5).bind fun x10=>
     (Qef N x10 0 1000).bind fun x15=>
     bif (!x15) then
      some false
     else
      Qb8 N p0 k2 n8 (w64 (y4+x10)) (w64 (y5+1))
    else
     k2 (y4)
def Qey (N:Nat) (p0:(List Int)):Option Bool:=
  Qby (fun y1=>
    bif (decide ((p0.length:Int)≤20)) then
     some (decide (y1>0))
    else
     some false) fun k2:Int→Option Bool=>
  Qb8 N p0 k2 N 0 0
def Qku (p0:(List Int)):AV:=.dat 1 ((p0:List Int).map Qaj)
theorem Qkq (N:Nat) (p0:(List Int)) (r:Bool) (h:Qey N p0=some r):Spec Tryz.prog 107 [(.dat 1 (p0.map Qaj))] [] (B r) []:=by
  refine Qah Tryz.func107 rfl 0 (nle rfl) (fun X φ0 w0 hφ0 hd0=>?_)
  unfold Qey at h
  refine wxz<|wxz ?_
  obtain ⟨k2,hk_k2,h⟩:=jko h
  refine wjn (τ:=Int) (fun t=>k2 t=some r) (fun y1=>⟨mk 30 [(0,(Qku p0)),(3,I y1)],[]⟩) (fun y1 h=>?_) ?_
  ·subst hk_k2
   refine bfe h (fun hb3 h=>?_) fun hb3 h=>?_
   ·refine wx tbk [(1,rp [(.tmp 23,(Qku p0))] (I ((p0.length:Int)))),(3,rp [(.tmp 25,(B ((decide ((p0.length:Int)≤20)))))] (B true))] ⟨alm (c:=Qaj) (l:=p0) (aln rfl Tryz.underlying27 rfl),asb hb3 (amv rfl),tv⟩<|Qad ?_
    obtain rfl:=osi h
    exact fend ⟨[(B ((decide (y1>0))))],⟨rot,tv⟩,rfl⟩ nll
   ·exact wx tbk [(1,rp [(.tmp 23,(Qku p0))] (I ((p0.length:Int)))),(3,rp [(.tmp 25,(B ((decide ((p0.length:Int)≤20)))))] (B false))] ⟨alm (c:=Qaj) (l:=p0) (aln rfl Tryz.underlying27 rfl),asb hb3 (amv rfl),tv⟩<|Qad<|frb h
  ·skip
   refine wxz<|Qal ?_
   refine wmr (mto (n:=30) (l':=[(0,(Qku p0)),(3,I 0),(4,I 0)]) (own':=[]) [(0,(Qku p0)),(3,I 0),(4,I 0)] [] [] hφ0 (pc (rnd Qaf) (pw (pw pn))) qn) ?_
   refine Qbu (τ:=Int×Int) (fun n t=>Qb8 N p0 k2 n t.1 t.2=some r) (fun ⟨y4,y5⟩=>⟨mk 30 [(0,(Qku p0)),(3,I y4),(4,I y5)],[]⟩) (fun t h=>by rw [Qb8] at h; cases h) (fun n8 ih t h=>?_) N (0,0) h
   obtain ⟨y4,y5⟩:=t
   rw [Qb8] at h
   skip
   refine wsq<|wx tbk [(2,rp [(.tmp 6,(Qku p0))] (I ((p0.length:Int))))] ⟨alm (c:=Qaj) (l:=p0) (aln rfl Tryz.underlying27 rfl),tv⟩ ?_
   refine bfe h (fun hc9 h=>?_) fun hc9 h=>?_
   ·refine wft hc9<|Qam<|thn<|wsq<|Qal<|wsq ?_
    obtain ⟨x10,hg11,h⟩:=bno h
    obtain ⟨hi12,hj13⟩:=gsm hg11
    obtain ⟨x15,hf14,h⟩:=bno h
    refine wx tbk [(2,rp [(.tmp 11,(Qku p0)),(.tmp 12,I y5)] (.dptr (Qaj (x10)) 0)),(4,rp [fu 25,(.tmp 14,I x10),ci 0,ci 1000] (B x15))] ⟨aid rfl Tryz.underlying27 ti3 rfl rfl hi12 (mgt Qaj hj13) rfl,apv Qik (Qdr N x10 0 1000 _ hf14) (nlcc (nlc nll nl0)) nll,tv⟩ ?_
    refine bfe h (fun hc16 h=>?_) fun hc16 h=>?_
    ·exact wft hc16<|wxz<|Qad<|Qac<|Qak<|Qac<|Qac<|Qak<|Qac<|frb h
    ·refine wfn hc16<|Qam<|thn ?_
     exact wx1 tbk [(3,rp [(.tmp 18,(Qku p0)),(.tmp 19,I y5)] (.dptr (Qaj (x10)) 0))] ⟨aid rfl Tryz.underlying27 ti3 rfl rfl hi12 (mgt Qaj hj13) rfl,tv⟩<|bln<|thn<|wxz1<|thn<|arm (mto (n:=30) [(0,(Qku p0)),(3,(I (w64 (y4+x10)))),(4,(I (w64 (y5+1))))] [] [] hφ0 (pc (rnd Qaf) (pw (pw pn))) qn) (ih (w64 (y4+x10),w64 (y5+1)) h)
   ·exact wfn hc9<|Qbf<|Qav<|Qav<|Qbe rfl<|thn<|⟨(y4),h,(mto (n:=30) [(0,(Qku p0)),(3,I y4)] [] [] hφ0 (pc (rnd Qaf) (pw pn)) qn)⟩
def Qh5 (N:Nat) (p0:GElement):Option Bool:=
  Qby (fun _=>
    Qby (fun ⟨y2,y3⟩=>
      Qby (fun y5=>
        Qby (fun y7=>
          Qby (fun y9=>
            Qby (fun _=>
              bif (p0.Kind==5) then
               (Qey N p0.Weights).bind fun x14=>
               some x14
              else
               some ((p0.Weights.length:Int)==0)) fun k11:Unit→Option Bool=>
            (Qef N (p0.From.length:Int) y2 y5).bind fun x16=>
            bif (!x16) then
             some false
            else
             (Qef N p0.Amount 0 y9).bind fun x19=>
             bif (!x19) then
              some false
             else
              k11 ()) fun k10:Int→Option Bool=>
          bif (p0.Kind==4) then
           k10 (1000)
          else
           k10 (y7)) fun k8:Int→Option Bool=>
        bif (p0.Kind==3) then
         k8 (1000000000)
        else
         k8 (0)) fun k6:Int→Option Bool=>
      bif (p0.Kind==2) then
       k6 (6)
      else
       k6 (y3)) fun k4:Int×Int→Option Bool=>
    bif (p0.Kind==1) then
     k4 (0,0)
    else
     k4 (1,1)) fun k1:Unit→Option Bool=>
  bif (decide (p0.Kind<1)) then
   some false
  else
   bif (decide (p0.Kind>6)) then
    some false
   else
    (Qef N p0.Wide 0 1000000).bind fun x28=>
    bif (!x28) then
     some false
    else
     (Qef N p0.Narrow 1 1000000000).bind fun x31=>
     bif (!x31) then
      some false
     else
      k1 ()
def Zbj (p0:GElement):AV:=.dat 2 ((p0.From:List GPort).map Qar)
def Q4l (p0:GElement):AV:=.dat 1 ((p0.Weights:List Int).map Qaj)
def Qil (p0:GElement):Slot:=.own 7 [[(K .u8 (p0.Kind)),(Zbj p0),(I (p0.Level)),(I (p0.Amount)),(I (p0.Wide)),(I (p0.Narrow)),(Q4l p0)]]
def Q4k (p0:GElement) (y2:Int) (y5:Int) (x16:Bool):List (Nat×Rec):=[(2,rp [((.tmp 39),(Zbj p0))] (I ((p0.From.length:Int)))),(5,rp [fu 25,((.tmp 40),(I ((p0.From.length:Int)))),((.tmp 41),(I (y2))),((.tmp 42),(I (y5)))] (B (x16)))]
def Q4j (p0:GElement):List (Nat×Rec):=[(3,rp [((.tmp 8),(B ((decide (p0.Kind<1)))))] (B (false)))]
def Q4i (p0) (x28:Bool):=hcat (Q4j p0) [(8,rp [((.tmp 13),(B ((decide (p0.Kind>6)))))] (B (false))),(11,rp [((.tmp 14),(B (false))),fu 25,((.tmp 16),(I (p0.Wide))),ci 0,ci 1000000] (B (x28)))]
theorem Qp2 (N:Nat) (p0:GElement) (r:Bool) (h:Qh5 N p0=some r):Spec Tryz.prog 70 [(.agg (Qab p0))] [] (B r) []:=by
  refine Qah Tryz.func70 rfl 0 (nle rfl) (fun X φ0 w0 hφ0 hd0=>?_)
  unfold Qh5 at h
  refine wxz ?_
  obtain ⟨k1,hk_k1,h⟩:=jko h
  refine wjn (τ:=Unit) (fun t=>k1 t=some r) (fun _=>⟨mk 62 [(1,.ref 0 7 0 0)],[(Qil p0)]⟩) (fun t h=>?_) ?_
  ·subst hk_k1
   refine wxz ?_
   obtain ⟨k4,hk_k4,h⟩:=jko h
   refine wjn (τ:=Int×Int) (fun t=>k4 t=some r) (fun ⟨y2,y3⟩=>⟨mk 62 [(1,.ref 0 7 0 0),(3,I y2),(4,I y3),(5,I 0)],[(Qil p0)]⟩) (fun t h=>?_) ?_
   ·subst hk_k4
    obtain ⟨y2,y3⟩:=t
    obtain ⟨k6,hk_k6,h⟩:=jko h
    refine wjn (τ:=Int) (fun t=>k6 t=some r) (fun y5=>⟨mk 62 [(1,.ref 0 7 0 0),(3,I y2),(4,I y5),(5,I 0)],[(Qil p0)]⟩) (fun y5 h=>?_) ?_
    ·subst hk_k6
     obtain ⟨k8,hk_k8,h⟩:=jko h
     refine wjn (τ:=Int) (fun t=>k8 t=some r) (fun y7=>⟨mk 62 [(1,.ref 0 7 0 0),(3,I y2),(4,I y5),(5,I y7)],[(Qil p0)]⟩) (fun y7 h=>?_) ?_
     ·subst hk_k8
      obtain ⟨k10,hk_k10,h⟩:=jko h
      refine wjn (τ:=Int) (fun t=>k10 t=some r) (fun y9=>⟨mk 62 [(1,.ref 0 7 0 0),(3,I y2),(4,I y5),(5,I y9)],[(Qil p0)]⟩) (fun y9 h=>?_) ?_
      ·subst hk_k10
       obtain ⟨k11,hk_k11,h⟩:=jko h
       refine wjn (τ:=Unit) (fun t=>k11 t=some r) (fun _=>⟨mk 62 [(1,.ref 0 7 0 0)],[(Qil p0)]⟩) (fun t h=>?_) ?_
       ·subst hk_k11
        refine wsq<|wxz ?_
        refine bfe h (fun hc12 h=>?_) fun hc12 h=>?_
        ·refine wft hc12 ?_
         obtain ⟨x14,hf13,h⟩:=bno h
         exact wx tbk [(2,rp [fu 107,(.tmp 56,(Q4l p0))] (B x14))] ⟨apv Q93 (Qkq N p0.Weights _ hf13) (nlc (nld Qaf _) nl0) nll,tv⟩<|Qad<|Qac<|frb h
        ·refine wfn hc12<|Qam<|thn ?_
         refine wx tbk [(2,rp [(.tmp 59,(Q4l p0))] (I ((p0.Weights.length:Int))))] ⟨alm (c:=Qaj) (l:=p0.Weights) (aln rfl Tryz.underlying27 rfl),tv⟩<|Qad ?_
         obtain rfl:=osi h
         exact fend ⟨[(B (((p0.Weights.length:Int)==0)))],⟨rot,tv⟩,rfl⟩ nll
       ·skip
        obtain ⟨x16,hf15,h⟩:=bno h
        refine hpre (A:=(Q4k p0 y2 y5 x16)) ⟨alm (c:=Qar) (l:=p0.From) (aln rfl Tryz.underlying57 rfl),apv Qik (Qdr N (p0.From.length:Int) y2 y5 _ hf15) (nlcc (nlc nll nl0)) nll,tv⟩ fun q1_=>?_
        refine bfe h (fun hb17 h=>?_) fun hb17 h=>?_
        ·exact wx tbk (hcat (Q4k p0 y2 y5 x16) [(7,rp [(.tmp 44,(B ((!x16))))] (B true))]) (hap q1_ ⟨asb hb17 (amv rfl),tv⟩)<|wtr<|wxz<|Qad<|Qac<|frb h
        ·obtain ⟨x19,hf18,h⟩:=bno h
         refine wx tbk (hcat (Q4k p0 y2 y5 x16) [(7,rp [(.tmp 44,(B ((!x16))))] (B false)),(11,rp [(.tmp 45,B false),fu 25,(.tmp 47,I p0.Amount),ci 0,(.tmp 48,I y9)] (B x19))]) (hap q1_ ⟨asb hb17 (amv rfl),ag_ (apv Qik (Qdr N p0.Amount 0 y9 _ hf18) (nlcc (nlc nll nl0)) nll),tv⟩) ?_
         refine bfe h (fun hc20 h=>?_) fun hc20 h=>?_
         ·exact wft hc20<|wxz<|Qad<|Qac<|frb h
         ·exact wfn hc20<|Qam<|thn<|⟨(),h,(mto (n:=62) [(1,.ref 0 7 0 0)] [0] [(Qil p0)] hφ0 (prr pn) (qb (lc rwl (lc (rnd Qaz) (lcc (lcc (lc (rnd Qaf) ln))))) qn))⟩
      ·skip
       refine wxz ?_
       refine bfe h (fun hc21 h=>?_) fun hc21 h=>?_
       ·exact wft hc21<|wxz1<|thn<|⟨(1000),h,(mto (n:=62) [(1,.ref 0 7 0 0),(3,I y2),(4,I y5),(5,I 1000)] [0] [(Qil p0)] hφ0 (prr (pw (pw (pw pn)))) (qb (lc rwl (lc (rnd Qaz) (lcc (lcc (lc (rnd Qaf) ln))))) qn))⟩
       ·exact wfn hc21<|Qam<|thn<|⟨(y7),h,(mto (n:=62) [(1,.ref 0 7 0 0),(3,I y2),(4,I y5),(5,I y7)] [0] [(Qil p0)] hφ0 (prr (pw (pw (pw pn)))) (qb (lc rwl (lc (rnd Qaz) (lcc (lcc (lc (rnd Qaf) ln))))) qn))⟩
     ·skip
      refine wxz ?_
      refine bfe h (fun hc22 h=>?_) fun hc22 h=>?_
      ·exact wft hc22<|wxz1<|thn<|⟨(1000000000),h,(mto (n:=62) [(1,.ref 0 7 0 0),(3,I y2),(4,I y5),(5,I 1000000000)] [0] [(Qil p0)] hφ0 (prr (pw (pw (pw pn)))) (qb (lc rwl (lc (rnd Qaz) (lcc (lcc (lc (rnd Qaf) ln))))) qn))⟩
      ·exact wfn hc22<|Qam<|thn<|⟨(0),h,(mto (n:=62) [(1,.ref 0 7 0 0),(3,I y2),(4,I y5),(5,I 0)] [0] [(Qil p0)] hφ0 (prr (pw (pw (pw pn)))) (qb (lc rwl (lc (rnd Qaz) (lcc (lcc (lc (rnd Qaf) ln))))) qn))⟩
    ·skip
     refine wxz ?_
     refine bfe h (fun hc23 h=>?_) fun hc23 h=>?_
     ·exact wft hc23<|wxz1<|thn<|⟨(6),h,(mto (n:=62) [(1,.ref 0 7 0 0),(3,I y2),(4,I 6),(5,I 0)] [0] [(Qil p0)] hφ0 (prr (pw (pw (pw pn)))) (qb (lc rwl (lc (rnd Qaz) (lcc (lcc (lc (rnd Qaf) ln))))) qn))⟩
     ·exact wfn hc23<|Qam<|thn<|⟨(y3),h,(mto (n:=62) [(1,.ref 0 7 0 0),(3,I y2),(4,I y3),(5,I 0)] [0] [(Qil p0)] hφ0 (prr (pw (pw (pw pn)))) (qb (lc rwl (lc (rnd Qaz) (lcc (lcc (lc (rnd Qaf) ln))))) qn))⟩
   ·skip
    refine wxz ?_
    refine bfe h (fun hc24 h=>?_) fun hc24 h=>?_
    ·exact wft hc24<|wxz1<|thn<|⟨(0,0),h,(mto (n:=62) [(1,.ref 0 7 0 0),(3,I 0),(4,I 0),(5,I 0)] [0] [(Qil p0)] hφ0 (prr (pw (pw (pw pn)))) (qb (lc rwl (lc (rnd Qaz) (lcc (lcc (lc (rnd Qaf) ln))))) qn))⟩
    ·exact wfn hc24<|Qam<|thn<|⟨(1,1),h,(mto (n:=62) [(1,.ref 0 7 0 0),(3,I 1),(4,I 1),(5,I 0)] [0] [(Qil p0)] hφ0 (prr (pw (pw (pw pn)))) (qb (lc rwl (lc (rnd Qaz) (lcc (lcc (lc (rnd Qaf) ln))))) qn))⟩
  ·skip
   refine bfe h (fun hb25 h=>?_) fun hb25 h=>?_
   ·exact wx tbk [(3,rp [(.tmp 8,(B ((decide (p0.Kind<1)))))] (B true))] ⟨asb hb25 (amv rfl),tv⟩<|wtr<|wxz<|Qad<|Qac<|frb h
   ·refine hpre (A:=(Q4j p0)) ⟨asb hb25 (amv rfl),tv⟩ fun q2_=>?_
    refine bfe h (fun hb26 h=>?_) fun hb26 h=>?_
    ·exact wx tbk (hcat (Q4j p0) [(8,rp [(.tmp 13,(B ((decide (p0.Kind>6)))))] (B true))]) (hap q2_ ⟨asb hb26 (amv rfl),tv⟩)<|wtr<|wxz<|Qad<|Qac<|frb h
    ·obtain ⟨x28,hf27,h⟩:=bno h
     refine hpre (A:=(Q4i p0 x28)) (hap q2_ ⟨asb hb26 (amv rfl),ag_ (apv Qik (Qdr N p0.Wide 0 1000000 _ hf27) (nlcc (nlc nll nl0)) nll),tv⟩) fun q3_=>?_
     refine bfe h (fun hb29 h=>?_) fun hb29 h=>?_
     ·exact wx tbk (hcat (Q4i p0 x28) [(14,rp [(.tmp 19,(B ((!x28))))] (B true))]) (hap q3_ ⟨asb hb29 (amv rfl),tv⟩)<|wtr<|wxz<|Qad<|Qac<|frb h
     ·obtain ⟨x31,hf30,h⟩:=bno h
      refine wx tbk (hcat (Q4i p0 x28) [(14,rp [(.tmp 19,(B ((!x28))))] (B false)),(17,rp [(.tmp 20,B false),fu 25,(.tmp 22,I p0.Narrow),ci 1,ci 1000000000] (B x31))]) (hap q3_ ⟨asb hb29 (amv rfl),ag_ (apv Qik (Qdr N p0.Narrow 1 1000000000 _ hf30) (nlcc (nlc nll nl0)) nll),tv⟩) ?_
      refine bfe h (fun hc32 h=>?_) fun hc32 h=>?_
      ·exact wft hc32<|wxz<|Qad<|Qac<|frb h
      ·exact wfn hc32<|Qam<|thn<|⟨(),h,(mto (n:=62) [(1,.ref 0 7 0 0)] [0] [(Qil p0)] hφ0 (prr pn) (qb (lc rwl (lc (rnd Qaz) (lcc (lcc (lc (rnd Qaf) ln))))) qn))⟩
def Qgl (_N:Nat) (p0:GElement):Option Int:=
  bif (p0.Kind==4) then
   some 2
  else
   bif (p0.Kind==5) then
    (some (p0.Weights.length:Int)).bind fun x3=>
    some x3
   else
    some 1
def Zgr (p0:GElement):AV:=.dat 1 ((p0.Weights:List Int).map Qaj)
theorem Qn3 (N:Nat) (p0:GElement) (r:Int) (h:Qgl N p0=some r):Spec Tryz.prog 71 [(.agg (Qab p0))] [] (I r) []:=by
  refine Qah Tryz.func71 rfl 0 (nle rfl) (fun X φ0 w0 hφ0 hd0=>?_)
  unfold Qgl at h
  refine wxz<|wsq<|wxz ?_
  refine bfe h (fun hc1 h=>?_) fun hc1 h=>?_
  ·refine wft hc1<|wxz<|Qad<|Qac ?_
   obtain rfl:=osi h
   exact fend ⟨[I 2],⟨rot,tv⟩,rfl⟩ nll
  ·refine wfn hc1<|Qam<|thn<|wsq<|wxz ?_
   refine bfe h (fun hc2 h=>?_) fun hc2 h=>?_
   ·refine wft hc2 ?_
    obtain ⟨x3,hl4,h⟩:=bno h
    refine wx tbk [(2,rp [(.tmp 10,(Zgr p0))] (I ((p0.Weights.length:Int)))),(3,rp [(.tmp 11,(I ((p0.Weights.length:Int))))] (I x3))] ⟨alm (c:=Qaj) (l:=p0.Weights) (aln rfl Tryz.underlying27 rfl),Qjb hl4 (aas rfl),tv⟩<|Qad<|Qac ?_
    obtain rfl:=osi h
    exact fend ⟨[I x3],⟨rot,tv⟩,rfl⟩ nll
   ·refine wfn hc2<|Qam<|thn<|wxz<|Qad ?_
    obtain rfl:=osi h
    exact fend ⟨[I 1],⟨rot,tv⟩,rfl⟩ nll
def Qdk (N:Nat) (p0:(List GPort)) (k1:Unit→Option Bool) (p1:GPort):Nat→Int→Option Bool
  | 0,_=>none
  | n4+1,y2=>
    bif (decide (y2<(p0.length:Int))) then
     (getI p0 y2).bind fun x6=>
     bif (([x6.Element,x6.Outlet]:List Int)==[p1.Element,p1.Outlet]) then
      some true
     else
      Qdk N p0 k1 p1 n4 (w64 (y2+1))
    else
     k1 ()
def Qh4 (N:Nat) (p0:(List GPort)) (p1:GPort):Option Bool:=
  Qby (fun _=>
    some false) fun k1:Unit→Option Bool=>
  Qdk N p0 k1 p1 N 0
def Qrp (p0:(List GPort)):AV:=.dat 2 ((p0:List GPort).map Qar)
def Qy9 (p1:GPort):Slot:=.own 2 [[(I (p1.Element)),(I (p1.Outlet))]]
theorem Qp1 (N:Nat) (p0:(List GPort)) (p1:GPort) (r:Bool) (h:Qh4 N p0 p1=some r):Spec Tryz.prog 72 [(.dat 2 (p0.map Qar)),(.agg (Qar p1))] [] (B r) []:=by
  refine Qah Tryz.func72 rfl 0 (nle rfl) (fun X φ0 w0 hφ0 hd0=>?_)
  unfold Qh4 at h
  refine wxz ?_
  obtain ⟨k1,hk_k1,h⟩:=jko h
  refine wjn (τ:=Unit) (fun t=>k1 t=some r) (fun _=>⟨mk 18 [],[]⟩) (fun t h=>?_) ?_
  ·subst hk_k1
   exact wxz<|Qad<|frb h
  ·skip
   refine wxz<|Qal ?_
   refine wmr (mto (n:=18) (l':=[(0,(Qrp p0)),(3,.ref 0 2 0 0),(5,I 0)]) (own':=[(Qy9 p1)]) [(0,(Qrp p0)),(3,.ref 0 2 0 0),(5,I 0)] [0] [(Qy9 p1)] hφ0 (pc (rnd Qaz) (prr (pw pn))) (qb (lcc ln) qn)) ?_
   refine Qbu (τ:=Int) (fun n t=>Qdk N p0 k1 p1 n t=some r) (fun y2=>⟨mk 18 [(0,(Qrp p0)),(3,.ref 0 2 0 0),(5,I y2)],[(Qy9 p1)]⟩) (fun t h=>by rw [Qdk] at h; cases h) (fun n4 ih y2 h=>?_) N (0) h
   rw [Qdk] at h
   skip
   refine wsq<|wx tbk [(2,rp [(.tmp 7,(Qrp p0))] (I ((p0.length:Int))))] ⟨alm (c:=Qar) (l:=p0) (aln rfl Tryz.underlying57 rfl),tv⟩ ?_
   refine bfe h (fun hc5 h=>?_) fun hc5 h=>?_
   ·refine wft hc5<|Qam<|thn<|wsq<|Qal ?_
    obtain ⟨x6,hg7,h⟩:=bno h
    obtain ⟨hi8,hj9⟩:=gsm hg7
    refine wxd tbk [(2,rp [(.tmp 12,(Qrp p0)),(.tmp 13,I y2)] (.dptr (Qar (x6)) 0)),(5,rp [(.tmp 15,(.agg [I x6.Element,I x6.Outlet])),(.tmp 16,(.agg [I p1.Element,I p1.Outlet]))] (B ((([x6.Element,x6.Outlet]:List Int)==[p1.Element,p1.Outlet]))))] ⟨aid rfl Tryz.underlying57 ti61 rfl rfl hi8 (mgt Qar hj9) rfl,Qnj (ls:=[x6.Element,x6.Outlet]) (ks:=[p1.Element,p1.Outlet]) rfl rfl Zis (by kernel_rfl) rfl rfl,tv⟩ ?_
    refine bfe h (fun hc10 h=>?_) fun hc10 h=>?_
    ·exact wft hc10<|wxz<|Qad<|Qak<|Qac<|Qac<|Qak<|Qac<|frb h
    ·exact wfn hc10<|Qam<|bln<|thn<|wxz1<|thn<|arm (mto (n:=18) [(0,(Qrp p0)),(3,.ref 0 2 0 0),(5,(I (w64 (y2+1))))] [0] [(Qy9 p1)] hφ0 (pc (rnd Qaz) (prr (pw pn))) (qb (lcc ln) qn)) (ih (w64 (y2+1)) h)
   ·exact wfn hc5<|Qbf<|Qav<|Qav<|Qbe rfl<|thn<|⟨(),h,(mto (n:=18) [] [] [] hφ0 pn qn)⟩
def Qdl (N:Nat) (p0:GNet) (y4:Int) (k10:(List GPort)→Option Bool) (x11:GElement):Nat→(List GPort)→Int→Option Bool
  | 0,_,_=>none
  | n21+1,y17,y18=>
    bif (decide (y18<(x11.From.length:Int))) then
     (getI x11.From y18).bind fun x23=>
     (Qef N x23.Element 0 (w64 (y4 - 1))).bind fun x28=>
     bif (!x28) then
      some false
     else
      (getI p0.Elements x23.Element).bind fun x30=>
      (Qgl N x30).bind fun x35=>
      (Qef N x23.Outlet 0 (w64 (x35 - 1))).bind fun x37=>
      bif (!x37) then
       some false
      else
       bif (decide (x11.Level>x30.Level)) then
        some false
       else
        (Qh4 N y17 x23).bind fun x41=>
        bif x41 then
         some false
        else
         chk (decide ((y17.length+([x23]).length) * 16≤140737488355328))<|
         Qdl N p0 y4 k10 x11 n21 (y17++([x23])) (w64 (y18+1))
    else
     k10 (y17)
def Qc4 (N:Nat) (p0:GNet) (k2:Unit→Option Bool):Nat→(List GPort)→Int→Option Bool
  | 0,_,_=>none
  | n7+1,y3,y4=>
    bif (decide (y4<(p0.Elements.length:Int))) then
     Qby (fun y9=>
       Qc4 N p0 k2 n7 y9 (w64 (y4+1))) fun k10:(List GPort)→Option Bool=>
     (getI p0.Elements y4).bind fun x11=>
     Qby (fun y15=>
       Qdl N p0 y4 k10 x11 N y15 0) fun k16:(List GPort)→Option Bool=>
     (Qh5 N x11).bind fun x45=>
     bif (!x45) then
      some false
     else
      (Qef N x11.Level 0 (w64 ((p0.Table.length:Int) - 1))).bind fun x48=>
      bif (!x48) then
       some false
      else
       k16 (y3)
    else
     k2 ()
def Qgy (N:Nat) (p0:GNet):Option Bool:=
  Qby (fun _=>
    Qby (fun _=>
      some true) fun k2:Unit→Option Bool=>
    Qc4 N p0 k2 N ([]) 0) fun k1:Unit→Option Bool=>
  (Qh7 N p0.Table).bind fun x51=>
  bif (!x51) then
   some false
  else
   bif (decide ((p0.Elements.length:Int)<1)) then
    some false
   else
    bif (decide ((p0.Elements.length:Int)>16)) then
     some false
    else
     k1 ()
def Zb0 (p0:GNet):AV:=.dat 5 ((p0.Table:List GRow).map Qau)
def Qvq (p0:GNet):AV:=.dat 7 ((p0.Elements:List GElement).map Qab)
def Qmi (p0:GNet):Slot:=.own 2 [[(Zb0 p0),(Qvq p0)]]
def Qvp (y15:(List GPort)):AV:=.acc 1 61 2 ((y15:List GPort).map Qar)
def Qsi (x11:GElement):AV:=.dat 2 ((x11.From:List GPort).map Qar)
def Qnm (x11:GElement):Slot:=.own 7 [[(K .u8 (x11.Kind)),(Qsi x11),(I (x11.Level)),(I (x11.Amount)),(I (x11.Wide)),(I (x11.Narrow)),(.dat 1 ((x11.Weights:List Int).map Qaj))]]
def Qsh (y17:(List GPort)):AV:=.acc 1 61 2 ((y17:List GPort).map Qar)
def Qvo (x23:GPort) (y4:Int) (x28:Bool):List (Nat×Rec):=[(4,rp [fu 25,((.tmp 62),(I (x23.Element))),ci 0,((.tmp 64),(I (w64 (y4 - 1))))] (B (x28)))]
def Zby (x30:GElement):AV:=.agg [(K .u8 (x30.Kind)),(.dat 2 ((x30.From:List GPort).map Qar)),(I (x30.Level)),(I (x30.Amount)),(I (x30.Wide)),(I (x30.Narrow)),(.dat 1 ((x30.Weights:List Int).map Qaj))]
def Qvn (x23) (y4) (x28) (p0:GNet) (x30:GElement) (x35:Int) (x37:Bool):=hcat (Qvo x23 y4 x28) [(6,rp [((.tmp 66),(B ((!x28))))] (B (false))),(13,rp [((.tmp 67),(B (false))),((.tmp 71),(Qvq p0)),((.tmp 73),(I (x23.Element)))] (.dptr (Qab (x30)) 0)),(15,rp [((.tmp 67),(B (false))),fu 71,((.tmp 75),(Zby x30))] (I (x35))),(17,rp [((.tmp 67),(B (false))),fu 25,((.tmp 69),(I (x23.Outlet))),ci 0,((.tmp 77),(I (w64 (x35 - 1))))] (B (x37)))]
def Qvm (x23) (y4) (x28) (p0) (x30) (x35) (x37):=hcat (Qvn x23 y4 x28 p0 x30 x35 x37) [(20,rp [((.tmp 80),(B ((!x37))))] (B (false))),(27,rp [((.tmp 81),(B (false))),((.tmp 85),(Qvq p0)),((.tmp 87),(I (x23.Element)))] (.dptr (Qab (x30)) 0))]
def Qsg (x23:GPort):AV:=.agg [(I (x23.Element)),(I (x23.Outlet))]
def Zbz (x11:GElement):AV:=.agg [(K .u8 (x11.Kind)),(Qsi x11),(I (x11.Level)),(I (x11.Amount)),(I (x11.Wide)),(I (x11.Narrow)),(.dat 1 ((x11.Weights:List Int).map Qaj))]
def Qvl (x11:GElement) (x45:Bool):List (Nat×Rec):=[(1,rp [fu 70,((.tmp 36),(Zbz x11))] (B (x45)))]
def Qvk (p0:GNet) (x51:Bool):List (Nat×Rec):=[(2,rp [fu 69,((.tmp 9),(Zb0 p0))] (B (x51)))]
def Qvj (p0) (x51):=hcat (Qvk p0 x51) [(4,rp [((.tmp 11),(B ((!x51))))] (B (false))),(7,rp [((.tmp 12),(B (false))),((.tmp 14),(Qvq p0))] (I ((p0.Elements.length:Int))))]
theorem Qk3 (N:Nat) (p0:GNet) (r:Bool) (h:Qgy N p0=some r):Spec Tryz.prog 28 [(.agg (Qgn p0))] [] (B r) []:=by
  refine Qah Tryz.func28 rfl 0 (nle rfl) (fun X φ0 w0 hφ0 hd0=>?_)
  unfold Qgy at h
  refine wxz ?_
  obtain ⟨k1,hk_k1,h⟩:=jko h
  refine wjn (τ:=Unit) (fun t=>k1 t=some r) (fun _=>⟨mk 102 [(1,.ref 0 2 0 0)],[(Qmi p0)]⟩) (fun t h=>?_) ?_
  ·subst hk_k1
   refine wxz ?_
   obtain ⟨k2,hk_k2,h⟩:=jko h
   refine wjn (τ:=Unit) (fun t=>k2 t=some r) (fun _=>⟨mk 102 [],[]⟩) (fun t h=>?_) ?_
   ·subst hk_k2
    exact wxz<|Qad<|frb h
   ·skip
    refine wxz<|Qal ?_
    refine wmr (Mor.trans (Qs9 1 61 2 3 (by kernel_rfl) (by kernel_rfl)) (mto (n:=102) (l':=[(1,.ref 0 2 0 0),(3,(.acc 1 61 2 ((([]):List GPort).map Qar))),(4,I 0)]) (own':=[(Qmi p0),.tok]) [(1,.ref 0 2 0 0),(3,(.acc 1 61 2 (([]:List GPort).map Qar))),(4,I 0)] [0,1] [(Qmi p0),.tok] hφ0 (prr (pc (.rn (Qcw rfl (Qb9 Qaz _))) (pw pn))) (qb (lc (rnd Qae) (lc (rnd Qaa) ln)) (qc .tok qn)))) ?_
    refine Qbu (τ:=(List GPort)×Int) (fun n t=>Qc4 N p0 k2 n t.1 t.2=some r) (fun ⟨y3,y4⟩=>⟨mk 102 [(1,.ref 0 2 0 0),(3,(.acc 1 61 2 ((y3:List GPort).map Qar))),(4,I y4)],[(Qmi p0),.tok]⟩) (fun t h=>by rw [Qc4] at h; cases h) (fun n7 ih t h=>?_) N ([],0) h
    obtain ⟨y3,y4⟩:=t
    rw [Qc4] at h
    skip
    refine wsq<|wx tbk [(3,rp [(.tmp 26,(Qvq p0))] (I ((p0.Elements.length:Int))))] ⟨alm (c:=Qab) (l:=p0.Elements) (aln rfl Tryz.underlying24 rfl),tv⟩ ?_
    refine bfe h (fun hc8 h=>?_) fun hc8 h=>?_
    ·refine wft hc8<|Qam<|thn ?_
     obtain ⟨k10,hk_k10,h⟩:=jko h
     refine wjn (τ:=(List GPort)) (fun t=>k10 t=some r) (fun y9=>⟨mk 102 [(1,.ref 0 2 0 0),(3,(.acc 1 61 2 ((y9:List GPort).map Qar))),(4,I y4)],[(Qmi p0),.tok]⟩) (fun y9 h=>?_) ?_
     ·subst hk_k10
      exact wxz1<|thn<|arm (mto (n:=102) [(1,.ref 0 2 0 0),(3,(.acc 1 61 2 ((y9:List GPort).map Qar))),(4,(I (w64 (y4+1))))] [0,1] [(Qmi p0),.tok] hφ0 (prr (pc (.rn (Qcw rfl (Qb9 Qaz _))) (pw pn))) (qb (lc (rnd Qae) (lc (rnd Qaa) ln)) (qc .tok qn))) (ih (y9,w64 (y4+1)) h)
     ·skip
      refine Qal ?_
      obtain ⟨x11,hg12,h⟩:=bno h
      obtain ⟨hi13,hj14⟩:=gsm hg12
      refine wx tbk [(3,rp [(.tmp 32,(Qvq p0)),(.tmp 33,I y4)] (.dptr (Qab (x11)) 0))] ⟨aid rfl Tryz.underlying24 ti59 rfl rfl hi13 (mgt Qab hj14) rfl,tv⟩ ?_
      obtain ⟨k16,hk_k16,h⟩:=jko h
      refine wjn (τ:=(List GPort)) (fun t=>k16 t=some r) (fun y15=>⟨mk 102 [(1,.ref 0 2 0 0),(3,(Qvp y15)),(4,I y4),(5,.ref 2 7 0 0)],[(Qmi p0),.tok,(Qnm x11)]⟩) (fun y15 h=>?_) ?_
      ·subst hk_k16
       refine wxz<|Qal ?_
       refine wmr (mto (n:=102) (l':=[(1,.ref 0 2 0 0),(3,(Qvp y15)),(4,I y4),(5,.ref 2 7 0 0),(6,I 0)]) (own':=[(Qmi p0),.tok,(Qnm x11)]) [(1,.ref 0 2 0 0),(3,(Qvp y15)),(4,I y4),(5,.ref 2 7 0 0),(6,I 0)] [0,1,2] [(Qmi p0),.tok,(Qnm x11)] hφ0 (prr (pc (.rn (Qcw rfl (Qb9 Qaz _))) (pw (prr (pw pn))))) (qb (lc (rnd Qae) (lc (rnd Qaa) ln)) (qc .tok (qb (lc rwl (lc (rnd Qaz) (lcc (lcc (lc (rnd Qaf) ln))))) qn)))) ?_
       refine Qbu (τ:=(List GPort)×Int) (fun n t=>Qdl N p0 y4 k10 x11 n t.1 t.2=some r) (fun ⟨y17,y18⟩=>⟨mk 102 [(1,.ref 0 2 0 0),(3,(Qsh y17)),(4,I y4),(5,.ref 2 7 0 0),(6,I y18)],[(Qmi p0),.tok,(Qnm x11)]⟩) (fun t h=>by rw [Qdl] at h; cases h) (fun n21 ih t h=>?_) N (y15,0) h
       obtain ⟨y17,y18⟩:=t
       rw [Qdl] at h
       skip
       refine wsq<|wx tbk [(3,rp [(.tmp 51,(Qsi x11))] (I ((x11.From.length:Int))))] ⟨alm (c:=Qar) (l:=x11.From) (aln rfl Tryz.underlying57 rfl),tv⟩ ?_
       refine bfe h (fun hc22 h=>?_) fun hc22 h=>?_
       ·refine wft hc22<|Qam<|thn<|wsq<|Qal ?_
        obtain ⟨x23,hg24,h⟩:=bno h
        obtain ⟨hi25,hj26⟩:=gsm hg24
        refine wx tbk [(3,rp [(.tmp 57,(Qsi x11)),(.tmp 58,I y18)] (.dptr (Qar (x23)) 0))] ⟨aid rfl Tryz.underlying57 ti61 rfl rfl hi25 (mgt Qar hj26) rfl,tv⟩<|wsq ?_
        obtain ⟨x28,hf27,h⟩:=bno h
        refine hpre (A:=(Qvo x23 y4 x28)) ⟨apv Qik (Qdr N x23.Element 0 (w64 (y4 - 1)) _ hf27) (nlcc (nlc nll nl0)) nll,tv⟩ fun q1_=>?_
        refine bfe h (fun hb29 h=>?_) fun hb29 h=>?_
        ·refine wxd tbk (hcat (Qvo x23 y4 x28) [(6,rp [(.tmp 66,(B ((!x28))))] (B true))]) (hap q1_ ⟨asb hb29 (amv rfl),tv⟩)<|wtr<|wxz<|Qad<|Qac<|Qak<|Qac<|Qac<|Qak<|Qak ?_
         exact Qac<|Qac<|Qak<|Qac<|frb h
        ·obtain ⟨x30,hg31,h⟩:=bno h
         obtain ⟨hi32,hj33⟩:=gsm hg31
         obtain ⟨x35,hf34,h⟩:=bno h
         obtain ⟨x37,hf36,h⟩:=bno h
         refine hpre (A:=(Qvn x23 y4 x28 p0 x30 x35 x37)) (hap q1_ ⟨asb hb29 (amv rfl),ag_ (aid rfl Tryz.underlying24 ti59 rfl rfl hi32 (mgt Qab hj33) rfl),ag_ (apv Ze2 (Qn3 N x30 _ hf34) (nlc (NLt.agg _ (nlc nll (nlc (nld Qaz _) (nlcc (nlcc (nlc (nld Qaf _) nl0)))))) nl0) nll),ag_ (apv Qik (Qdr N x23.Outlet 0 (w64 (x35 - 1)) _ hf36) (nlcc (nlc nll nl0)) nll),tv⟩) fun q2_=>?_
         refine bfe h (fun hb38 h=>?_) fun hb38 h=>?_
         ·refine wxd tbk (hcat (Qvn x23 y4 x28 p0 x30 x35 x37) [(20,rp [(.tmp 80,(B ((!x37))))] (B true))]) (hap q2_ ⟨asb hb38 (amv rfl),tv⟩)<|wtr<|wxz<|Qad<|Qac<|Qak<|Qac<|Qac<|Qak<|Qak ?_
          exact Qac<|Qac<|Qak<|Qac<|frb h
         ·refine hpre (A:=(Qvm x23 y4 x28 p0 x30 x35 x37)) (hap q2_ ⟨asb hb38 (amv rfl),ag_ (aid rfl Tryz.underlying24 ti59 rfl rfl hi32 (mgt Qab hj33) rfl),tv⟩) fun q3_=>?_
          refine bfe h (fun hb39 h=>?_) fun hb39 h=>?_
          ·refine wxd tbk (hcat (Qvm x23 y4 x28 p0 x30 x35 x37) [(32,rp [(.tmp 92,(B ((decide (x11.Level>x30.Level)))))] (B true))]) (hap q3_ ⟨asb hb39 (amv rfl),tv⟩)<|wtr<|wxz<|Qad<|Qac<|Qak<|Qac<|Qac<|Qak<|Qak ?_
           exact Qac<|Qac<|Qak<|Qac<|frb h
          ·obtain ⟨x41,hf40,h⟩:=bno h
           refine wxd tbk (hcat (Qvm x23 y4 x28 p0 x30 x35 x37) [(32,rp [(.tmp 92,(B ((decide (x11.Level>x30.Level)))))] (B false)),(35,rp [(.tmp 93,B false),fu 72,(.tmp 94,(Qsh y17)),(.tmp 95,(Qsg x23))] (B x41))]) (hap q3_ ⟨asb hb39 (amv rfl),ag_ (awk (rd':=(.func 72,(.fn (.func 72) [] []))::[(.tmp 94,(.dat 2 ((y17:List GPort).map Qar))),(.tmp 95,(Qsg x23))]) ⟨rfl,lrf,rfl,Less.acc,rfl,lrf,tv⟩ (apv Ze1 (Qp1 N y17 x23 _ hf40) (nlc (nld Qaz _) (nlc (NLt.agg _ (nlcc nl0)) nl0)) nll)),tv⟩) ?_
           refine bfe h (fun hc42 h=>?_) fun hc42 h=>?_
           ·refine wft hc42<|wxz<|Qad<|Qac<|Qak<|Qac<|Qac<|Qak<|Qak<|Qac ?_
            exact Qac<|Qak<|Qac<|frb h
           ·refine wfn hc42<|Qam<|thn ?_
            obtain ⟨ha43,h⟩:=cko h
            refine wx1 tbk [(2,rp [(.tmp 99,(Qsg x23))] (.dat 2 (([x23]:List GPort).map Qar))),(3,⟨[(.tmp 98,(Qsh y17)),(.tmp 100,(.dat 2 (([x23]:List GPort).map Qar)))],[(1,.tok),(4,.unused)],(.acc 4 61 2 ((y17++([x23]):List GPort).map Qar)),[(1,.dead),(4,.tok)],false⟩)] ⟨Qbt (vs:=[(Qsg x23)]) rfl Tryz.underlying57 ti61 tz61 rfl (by decide) rfl (by decide) (by rfl) (by rfl) (by rfl) rfl,Qej rfl Tryz.underlying57 te61 (Base.acc _ _) rfl rfl (by rfl) (Qgj Qar ha43) (Qgi Qar ha43 (by decide)) (Qgh Qar) rfl rfl,tv⟩<|bln<|thn<|wxz1<|thn ?_
            exact arm (mto (n:=102) [(1,.ref 0 2 0 0),(3,(.acc 4 61 2 ((y17++([x23]):List GPort).map Qar))),(4,I y4),(5,.ref 2 7 0 0),(6,(I (w64 (y18+1))))] [0,4,2] [(Qmi p0),.tok,(Qnm x11)] hφ0 (prr (pc (.rn (Qcw rfl (Qb9 Qaz _))) (pw (prr (pw pn))))) (qb (lc (rnd Qae) (lc (rnd Qaa) ln)) (qc .tok (qb (lc rwl (lc (rnd Qaz) (lcc (lcc (lc (rnd Qaf) ln))))) qn)))) (ih (y17++([x23]),w64 (y18+1)) h)
       ·exact wfn hc22<|Qbf<|Qav<|Qav<|Qbe rfl<|bln<|thn<|⟨(y17),h,(mto (n:=102) [(1,.ref 0 2 0 0),(3,(Qsh y17)),(4,I y4)] [0,1] [(Qmi p0),.tok] hφ0 (prr (pc (.rn (Qcw rfl (Qb9 Qaz _))) (pw pn))) (qb (lc (rnd Qae) (lc (rnd Qaa) ln)) (qc .tok qn)))⟩
      ·skip
       obtain ⟨x45,hf44,h⟩:=bno h
       refine hpre (A:=(Qvl x11 x45)) ⟨apv Ze3 (Qp2 N x11 _ hf44) (nlc (NLt.agg _ (nlc nll (nlc (nld Qaz _) (nlcc (nlcc (nlc (nld Qaf _) nl0)))))) nl0) nll,tv⟩ fun q4_=>?_
       refine bfe h (fun hb46 h=>?_) fun hb46 h=>?_
       ·refine wx tbk (hcat (Qvl x11 x45) [(3,rp [(.tmp 38,(B ((!x45))))] (B true))]) (hap q4_ ⟨asb hb46 (amv rfl),tv⟩)<|wtr<|wxz<|Qad<|Qac<|Qak<|Qac<|Qac<|Qak<|Qac ?_
        exact frb h
       ·obtain ⟨x48,hf47,h⟩:=bno h
        refine wx tbk (hcat (Qvl x11 x45) [(3,rp [(.tmp 38,(B ((!x45))))] (B false)),(8,rp [(.tmp 39,B false),(.tmp 43,(Zb0 p0))] (I ((p0.Table.length:Int)))),(10,rp [(.tmp 39,B false),fu 25,(.tmp 41,I x11.Level),ci 0,(.tmp 45,(I (w64 ((p0.Table.length:Int) - 1))))] (B x48))]) (hap q4_ ⟨asb hb46 (amv rfl),ag_ (alm (c:=Qau) (l:=p0.Table) (aln rfl Tryz.underlying23 rfl)),ag_ (apv Qik (Qdr N x11.Level 0 (w64 ((p0.Table.length:Int) - 1)) _ hf47) (nlcc (nlc nll nl0)) nll),tv⟩) ?_
        refine bfe h (fun hc49 h=>?_) fun hc49 h=>?_
        ·exact wft hc49<|wxz<|Qad<|Qac<|Qak<|Qac<|Qac<|Qak<|Qac<|frb h
        ·exact wfn hc49<|Qam<|thn<|⟨(y3),h,(mto (n:=102) [(1,.ref 0 2 0 0),(3,(.acc 1 61 2 ((y3:List GPort).map Qar))),(4,I y4),(5,.ref 2 7 0 0)] [0,1,2] [(Qmi p0),.tok,(Qnm x11)] hφ0 (prr (pc (.rn (Qcw rfl (Qb9 Qaz _))) (pw (prr pn)))) (qb (lc (rnd Qae) (lc (rnd Qaa) ln)) (qc .tok (qb (lc rwl (lc (rnd Qaz) (lcc (lcc (lc (rnd Qaf) ln))))) qn))))⟩
    ·exact wfn hc8<|Qbf<|Qav<|Qav<|Qbe rfl<|thn<|⟨(),h,(mto (n:=102) [] [] [] hφ0 pn qn)⟩
  ·skip
   obtain ⟨x51,hf50,h⟩:=bno h
   refine hpre (A:=(Qvk p0 x51)) ⟨apv Ze4 (Qp4 N p0.Table _ hf50) (nlc (nld Qae _) nl0) nll,tv⟩ fun q5_=>?_
   refine bfe h (fun hb52 h=>?_) fun hb52 h=>?_
   ·exact wx tbk (hcat (Qvk p0 x51) [(4,rp [(.tmp 11,(B ((!x51))))] (B true))]) (hap q5_ ⟨asb hb52 (amv rfl),tv⟩)<|wtr<|wxz<|Qad<|Qac<|frb h
   ·refine hpre (A:=(Qvj p0 x51)) (hap q5_ ⟨asb hb52 (amv rfl),ag_ (alm (c:=Qab) (l:=p0.Elements) (aln rfl Tryz.underlying24 rfl)),tv⟩) fun q6_=>?_
    refine bfe h (fun hb53 h=>?_) fun hb53 h=>?_
    ·exact wx tbk (hcat (Qvj p0 x51) [(10,rp [(.tmp 17,(B ((decide ((p0.Elements.length:Int)<1)))))] (B true))]) (hap q6_ ⟨asb hb53 (amv rfl),tv⟩)<|wtr<|wxz<|Qad<|Qac<|frb h
    ·refine wx tbk (hcat (Qvj p0 x51) [(10,rp [(.tmp 17,(B ((decide ((p0.Elements.length:Int)<1)))))] (B false)),(13,rp [(.tmp 18,B false),(.tmp 20,(Qvq p0))] (I ((p0.Elements.length:Int))))]) (hap q6_ ⟨asb hb53 (amv rfl),ag_ (alm (c:=Qab) (l:=p0.Elements) (aln rfl Tryz.underlying24 rfl)),tv⟩) ?_
     refine bfe h (fun hc54 h=>?_) fun hc54 h=>?_
     ·exact wft hc54<|wxz<|Qad<|Qac<|frb h
     ·exact wfn hc54<|Qam<|thn<|⟨(),h,(mto (n:=102) [(1,.ref 0 2 0 0)] [0] [(Qmi p0)] hφ0 (prr pn) (qb (lc (rnd Qae) (lc (rnd Qaa) ln)) qn))⟩
end Go.Proofs.YtmbhnllcfmiajaaGreat
