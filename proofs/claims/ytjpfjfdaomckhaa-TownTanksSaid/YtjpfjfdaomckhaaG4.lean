/-
  The texts X3, X4, PTk, X5, PTown, PDay, PDaysL, PGry, PFil, PSea, PChp, PCheL, PEitL, PTkL of the proof, one behind the other. No conditions.
-/
import Derived.Test.YtjpfjfdaomckhaaG3
namespace Go.Proofs.Ytjpfjfdaomckhaa
open _root_.Go.Proofs.Try
open Go.RowKit
set_option maxRecDepth 100000
set_option maxHeartbeats 4000000
set_option synthInstance.maxSize 4000
set_option synthInstance.maxHeartbeats 400000
section
def Qfi (_N:Nat) (p0 p1 p2:Int):Option Bool:=
  bif (decide (p0≥p1)) then
   some (decide (p0≤p2))
  else
   some false
theorem Qfz (N:Nat) (p0 p1 p2:Int) (r:Bool) (h:Qfi N p0 p1 p2=some r):Spec prog 51 [(I p0),(I p1),(I p2)] [] (B r) []:=by
  refine sA func51 0 fun _ _ _ hq hd0=>?_
  unfold Qfi at h
  refine wxz ?_
  refine bfe h (fun hb1 h=>?_) fun hb1 h=>?_
  ·refine wx tbk [(3,rp [(.tmp 9,(B ((decide (p0≥p1)))))] (B true))] ⟨asb hb1 (amv rfl),tv⟩<|Qal ?_
   obtain rfl:=osi h
   exact fend ⟨[(B ((decide (p0≤p2))))],⟨rot,tv⟩,rfl⟩ nll
  ·exact wx tbk [(3,rp [(.tmp 9,(B ((decide (p0≥p1)))))] (B false))] ⟨asb hb1 (amv rfl),tv⟩<|Qal<|frb h
def Qcc (N:Nat) (k7:Unit→Option Bool) (x8:Qah):Nat→Int→Option Bool
  |0,_=>none
  |n15+1,y13=>
    bif (decide (y13<(x8.Stairs.length:Int))) then
     (getI x8.Stairs y13).bind fun x17=>
     (Qfi N x17.Amount 1 1000000000).bind fun x22=>
     bif (!x22) then
      some false
     else
      (Qfi N x17.Price 0 1000).bind fun x25=>
      bif (!x25) then
       some false
      else
       bif (decide (y13>0)) then
        (getI x8.Stairs (w64 (y13-1))).bind fun x28=>
        bif (decide (x17.Price≤x28.Price)) then
         some false
        else
         Qcc N k7 x8 n15 (w64 (y13+1))
       else
        Qcc N k7 x8 n15 (w64 (y13+1))
    else
     k7 ()
def Qcu (N:Nat) (p0:GDay) (k2:Unit→Option Bool):Nat→Int→Option Bool
  |0,_=>none
  |n5+1,y3=>
    bif (decide (y3<(p0.Hours.length:Int))) then
     Qco (fun _=>
       Qcu N p0 k2 n5 (w64 (y3+1))) fun k7:Unit→Option Bool=>
     (getI p0.Hours y3).bind fun x8=>
     Qco (fun _=>
       Qcc N k7 x8 N 0) fun k12:Unit→Option Bool=>
     (Qfi N x8.Use 0 1000000000).bind fun x34=>
     bif (!x34) then
      some false
     else
      bif (decide ((x8.Stairs.length:Int)>6)) then
       some false
      else
       k12 ()
    else
     k2 ()
def Qew (N:Nat) (p0:GDay):Option Bool:=
  Qco (fun _=>
    Qco (fun _=>
      some true) fun k2:Unit→Option Bool=>
    Qcu N p0 k2 N 0) fun k1:Unit→Option Bool=>
  (Qfi N p0.Tank 0 1000000000).bind fun x38=>
  bif (!x38) then
   some false
  else
   (Qfi N p0.Start 0 p0.Tank).bind fun x41=>
   bif (!x41) then
    some false
   else
    bif (decide ((p0.Hours.length:Int)<1)) then
     some false
    else
     bif (decide ((p0.Hours.length:Int)>24)) then
      some false
     else
      k1 ()
def Qzp (p0:GDay):AV:=.dat 2 (p0.Hours.map Qaj)
def Qik (p0:GDay):Slot:=.own 3 [[(I p0.Tank),(I p0.Start),(Qzp p0)]]
def Qtf (x8:Qah):AV:=.dat 2 (x8.Stairs.map Qae)
def Qk3 (x8:Qah):Slot:=.own 2 [[(I x8.Use),(Qtf x8)]]
def Qte (x17:Qaf) (x22:Bool):List (Nat×Rec):=[(2,rp [fu 51,((.tmp 66),(I x17.Amount)),ci 1,ci 1000000000] (B x22))]
def Qqw x17 x22 (x25:Bool):=hcat (Qte x17 x22) [(4,rp [((.tmp 68),(B ((!x22))))] (B false)),(7,rp [((.tmp 69),(B false)),fu 51,((.tmp 71),(I x17.Price)),ci 0,ci 1000] (B x25))]
def Qtd (x8:Qah) (x34:Bool):List (Nat×Rec):=[(2,rp [fu 51,((.tmp 44),(I x8.Use)),ci 0,ci 1000000000] (B x34))]
def Qtc (p0:GDay) (x38:Bool):List (Nat×Rec):=[(2,rp [fu 51,((.tmp 8),(I p0.Tank)),ci 0,ci 1000000000] (B x38))]
def Qtb p0 x38 (x41:Bool):=hcat (Qtc p0 x38) [(4,rp [((.tmp 10),(B ((!x38))))] (B false)),(9,rp [((.tmp 11),(B false)),fu 51,((.tmp 13),(I p0.Start)),ci 0,((.tmp 15),(I p0.Tank))] (B x41))]
def Qta p0 x38 x41:=hcat (Qtb p0 x38 x41) [(12,rp [((.tmp 18),(B ((!x41))))] (B false)),(15,rp [((.tmp 19),(B false)),((.tmp 21),(Qzp p0))] (I ((p0.Hours.length:Int))))]
theorem Qjf (N:Nat) (p0:GDay) (r:Bool) (h:Qew N p0=some r):Spec prog 18 [(.agg (Qhm p0))] [] (B r) []:=by
  refine sA func18 0 fun _ _ _ hq hd0=>?_
  unfold Qew at h
  refine wxz ?_
  obtain⟨k1,hk_k1,h⟩:=jko h
  refine wjn (τ:=Unit) (fun t=>k1 t=some r) (fun _=>⟨mk 91 [(1,.ref 0 3 0 0)],[(Qik p0)]⟩) (fun t h=>?_) ?_
  ·subst hk_k1
   obtain⟨k2,hk_k2,h⟩:=jko h
   refine wjn (τ:=Unit) (fun t=>k2 t=some r) (fun _=>⟨mk 91 [],[]⟩) (fun t h=>?_) ?_
   ·subst hk_k2
    exact wxz<|Qal<|frb h
   ·skip
    refine wxz<|Qai ?_
    refine wmr (mto (n:=91) (l':=[(1,.ref 0 3 0 0),(3,I 0)]) (own':=[(Qik p0)]) [(1,.ref 0 3 0 0),(3,I 0)] [0] [(Qik p0)] hq (prr (pw pn)) (qb (lcc (lc (rnd Qac) ln)) qn)) ?_
    refine Qb1 (τ:=Int) (fun n t=>Qcu N p0 k2 n t=some r) (fun y3=>⟨mk 91 [(1,.ref 0 3 0 0),(3,I y3)],[(Qik p0)]⟩) (fun t h=>by rw[Qcu] at h;cases h) (fun n5 ih y3 h=>?_) N (0) h
    rw[Qcu] at h
    skip
    refine wsq<|wx tbk [(3,rp _ _)] ⟨alq 2 Qaj p0.Hours underlying47,tv⟩ ?_
    refine bfe h (fun hc6 h=>?_) fun hc6 h=>?_
    ·refine wft hc6<|Qak<|thn ?_
     obtain⟨k7,hk_k7,h⟩:=jko h
     refine wjn (τ:=Unit) (fun t=>k7 t=some r) (fun _=>⟨mk 91 [(1,.ref 0 3 0 0),(3,I y3)],[(Qik p0)]⟩) (fun t h=>?_) ?_
     ·subst hk_k7
      exact wxz1<|thn<|arm (mto (n:=91) [(1,.ref 0 3 0 0),(3,(I (w64 (y3+1))))] [0] [(Qik p0)] hq (prr (pw pn)) (qb (lcc (lc (rnd Qac) ln)) qn)) (ih (w64 (y3+1)) h)
     ·skip
      refine Qai ?_
      obtain⟨x8,hg9,h⟩:=bno h
      obtain⟨hi10,hj11⟩:=gsm hg9
      refine wx tbk [(3,rp _ _)] ⟨aiq underlying47 Qkt Qaj hi10 hj11,tv⟩ ?_
      obtain⟨k12,hk_k12,h⟩:=jko h
      refine wjn (τ:=Unit) (fun t=>k12 t=some r) (fun _=>⟨mk 91 [(1,.ref 0 3 0 0),(3,I y3),(4,.ref 1 2 0 0)],[(Qik p0),(Qk3 x8)]⟩) (fun t h=>?_) ?_
      ·subst hk_k12
       refine wxz<|Qai ?_
       refine wmr (mto (n:=91) (l':=[(1,.ref 0 3 0 0),(3,I y3),(4,.ref 1 2 0 0),(5,I 0)]) (own':=[(Qik p0),(Qk3 x8)]) [(1,.ref 0 3 0 0),(3,I y3),(4,.ref 1 2 0 0),(5,I 0)] [0,1] [(Qik p0),(Qk3 x8)] hq (prr (pw (prr (pw pn)))) (qb (lcc (lc (rnd Qac) ln)) (qb (lc rwl (lc (rnd Qa0) ln)) qn))) ?_
       refine Qb1 (τ:=Int) (fun n t=>Qcc N k7 x8 n t=some r) (fun y13=>⟨mk 91 [(1,.ref 0 3 0 0),(3,I y3),(4,.ref 1 2 0 0),(5,I y13)],[(Qik p0),(Qk3 x8)]⟩) (fun t h=>by rw[Qcc] at h;cases h) (fun n15 ih y13 h=>?_) N (0) h
       rw[Qcc] at h
       skip
       refine wsq<|wx tbk [(3,rp _ _)] ⟨alq 2 Qae x8.Stairs underlying120,tv⟩ ?_
       refine bfe h (fun hc16 h=>?_) fun hc16 h=>?_
       ·refine wft hc16<|Qak<|thn<|wsq<|Qai ?_
        obtain⟨x17,hg18,h⟩:=bno h
        obtain⟨hi19,hj20⟩:=gsm hg18
        refine wx tbk [(3,rp _ _)] ⟨aiq underlying120 Qr5 Qae hi19 hj20,tv⟩ ?_
        obtain⟨x22,hf21,h⟩:=bno h
        refine hpre (A:=(Qte x17 x22)) ⟨apv Qlz (Qfz N x17.Amount 1 1000000000 _ hf21) (nlcc (nlc nll nl0)) nll,tv⟩ fun q1_=>?_
        refine bfe h (fun hb23 h=>?_) fun hb23 h=>?_
        ·refine wxd tbk (hcat (Qte x17 x22) [(4,rp [(.tmp 68,(B ((!x22))))] (B true))]) (hap q1_ ⟨asb hb23 (amv rfl),tv⟩)<|wtr<|wxz<|Qal<|Qav<|Qam<|Qam<|Qav<|Qav<|Qam ?_
         exact Qam<|Qav<|Qam<|frb h
        ·obtain⟨x25,hf24,h⟩:=bno h
         refine hpre (A:=(Qqw x17 x22 x25)) (hap q1_ ⟨asb hb23 (amv rfl),ag_ (apv Qlz (Qfz N x17.Price 0 1000 _ hf24) (nlcc (nlc nll nl0)) nll),tv⟩) fun q2_=>?_
         refine bfe h (fun hb26 h=>?_) fun hb26 h=>?_
         ·refine wxd tbk (hcat (Qqw x17 x22 x25) [(10,rp [(.tmp 74,(B ((!x25))))] (B true))]) (hap q2_ ⟨asb hb26 (amv rfl),tv⟩)<|wtr<|wxz<|Qal<|Qav<|Qam<|Qam<|Qav<|Qav<|Qam ?_
          exact Qam<|Qav<|Qam<|frb h
         ·refine bfe h (fun hb27 h=>?_) fun hb27 h=>?_
          ·obtain⟨x28,hg29,h⟩:=bno h
           obtain⟨hi30,hj31⟩:=gsm hg29
           refine wxd tbk (hcat (Qqw x17 x22 x25) [(10,rp [(.tmp 74,(B ((!x25))))] (B false)),(13,rp [(.tmp 75,B false),(.tmp 77,(B ((decide (y13>0)))))] (B true)),(20,rp [(.tmp 78,B true),(.tmp 82,(Qtf x8)),(.tmp 84,(I (w64 (y13-1))))] (.dptr (Qae x28) 0))]) (hap q2_ ⟨asb hb26 (amv rfl),asb hb27 (ag_ (amv rfl)),ag_ (aiq underlying120 Qr5 Qae hi30 hj31),tv⟩) ?_
           refine bfe h (fun hc32 h=>?_) fun hc32 h=>?_
           ·refine wft hc32<|wxz<|Qal<|Qav<|Qam<|Qam<|Qav<|Qav<|Qam<|Qam ?_
            exact Qav<|Qam<|frb h
           ·exact wfn hc32<|Qak<|bln<|thn<|wxz1<|thn<|arm (mto (n:=91) [(1,.ref 0 3 0 0),(3,I y3),(4,.ref 1 2 0 0),(5,(I (w64 (y13+1))))] [0,1] [(Qik p0),(Qk3 x8)] hq (prr (pw (prr (pw pn)))) (qb (lcc (lc (rnd Qac) ln)) (qb (lc rwl (lc (rnd Qa0) ln)) qn))) (ih (w64 (y13+1)) h)
          ·exact wxd tbk (hcat (Qqw x17 x22 x25) [(10,rp [(.tmp 74,(B ((!x25))))] (B false)),(13,rp [(.tmp 75,B false),(.tmp 77,(B ((decide (y13>0)))))] (B false))]) (hap q2_ ⟨asb hb26 (amv rfl),asb hb27 (ag_ (amv rfl)),tv⟩)<|wfa<|Qak<|bln<|thn<|wxz1<|thn<|arm (mto (n:=91) [(1,.ref 0 3 0 0),(3,I y3),(4,.ref 1 2 0 0),(5,(I (w64 (y13+1))))] [0,1] [(Qik p0),(Qk3 x8)] hq (prr (pw (prr (pw pn)))) (qb (lcc (lc (rnd Qac) ln)) (qb (lc rwl (lc (rnd Qa0) ln)) qn))) (ih (w64 (y13+1)) h)
       ·exact wfn hc16<|Qaz<|Qao<|Qao<|Qay rfl<|bln<|thn<|⟨(),h,(mto (n:=91) [(1,.ref 0 3 0 0),(3,I y3)] [0] [(Qik p0)] hq (prr (pw pn)) (qb (lcc (lc (rnd Qac) ln)) qn))⟩
      ·skip
       obtain⟨x34,hf33,h⟩:=bno h
       refine hpre (A:=(Qtd x8 x34)) ⟨apv Qlz (Qfz N x8.Use 0 1000000000 _ hf33) (nlcc (nlc nll nl0)) nll,tv⟩ fun q3_=>?_
       refine bfe h (fun hb35 h=>?_) fun hb35 h=>?_
       ·refine wx tbk (hcat (Qtd x8 x34) [(4,rp [(.tmp 46,(B ((!x34))))] (B true))]) (hap q3_ ⟨asb hb35 (amv rfl),tv⟩)<|wtr<|wxz<|Qal<|Qam<|Qav<|Qam<|Qam<|Qav<|Qam ?_
        exact frb h
       ·refine wx tbk (hcat (Qtd x8 x34) [(4,rp [(.tmp 46,(B ((!x34))))] (B false)),(7,rp [(.tmp 47,B false),(.tmp 49,(Qtf x8))] (I ((x8.Stairs.length:Int))))]) (hap q3_ ⟨asb hb35 (amv rfl),ag_ (alq 2 Qae x8.Stairs underlying120),tv⟩) ?_
        refine bfe h (fun hc36 h=>?_) fun hc36 h=>?_
        ·exact wft hc36<|wxz<|Qal<|Qam<|Qav<|Qam<|Qam<|Qav<|Qam<|frb h
        ·exact wfn hc36<|Qak<|thn<|⟨(),h,(mto (n:=91) [(1,.ref 0 3 0 0),(3,I y3),(4,.ref 1 2 0 0)] [0,1] [(Qik p0),(Qk3 x8)] hq (prr (pw (prr pn))) (qb (lcc (lc (rnd Qac) ln)) (qb (lc rwl (lc (rnd Qa0) ln)) qn)))⟩
    ·exact wfn hc6<|Qaz<|Qao<|Qao<|Qay rfl<|thn<|⟨(),h,(mto (n:=91) [] [] [] hq pn qn)⟩
  ·skip
   obtain⟨x38,hf37,h⟩:=bno h
   refine hpre (A:=(Qtc p0 x38)) ⟨apv Qlz (Qfz N p0.Tank 0 1000000000 _ hf37) (nlcc (nlc nll nl0)) nll,tv⟩ fun q4_=>?_
   refine bfe h (fun hb39 h=>?_) fun hb39 h=>?_
   ·exact wx tbk (hcat (Qtc p0 x38) [(4,rp [(.tmp 10,(B ((!x38))))] (B true))]) (hap q4_ ⟨asb hb39 (amv rfl),tv⟩)<|wtr<|wxz<|Qal<|Qam<|frb h
   ·obtain⟨x41,hf40,h⟩:=bno h
    refine hpre (A:=(Qtb p0 x38 x41)) (hap q4_ ⟨asb hb39 (amv rfl),ag_ (apv Qlz (Qfz N p0.Start 0 p0.Tank _ hf40) (nlcc (nlc nll nl0)) nll),tv⟩) fun q5_=>?_
    refine bfe h (fun hb42 h=>?_) fun hb42 h=>?_
    ·exact wx tbk (hcat (Qtb p0 x38 x41) [(12,rp [(.tmp 18,(B ((!x41))))] (B true))]) (hap q5_ ⟨asb hb42 (amv rfl),tv⟩)<|wtr<|wxz<|Qal<|Qam<|frb h
    ·refine hpre (A:=(Qta p0 x38 x41)) (hap q5_ ⟨asb hb42 (amv rfl),ag_ (alq 2 Qaj p0.Hours underlying47),tv⟩) fun q6_=>?_
     refine bfe h (fun hb43 h=>?_) fun hb43 h=>?_
     ·exact wx tbk (hcat (Qta p0 x38 x41) [(18,rp [(.tmp 24,(B ((decide ((p0.Hours.length:Int)<1)))))] (B true))]) (hap q6_ ⟨asb hb43 (amv rfl),tv⟩)<|wtr<|wxz<|Qal<|Qam<|frb h
     ·refine wx tbk (hcat (Qta p0 x38 x41) [(18,rp [(.tmp 24,(B ((decide ((p0.Hours.length:Int)<1)))))] (B false)),(21,rp [(.tmp 25,B false),(.tmp 27,(Qzp p0))] (I ((p0.Hours.length:Int))))]) (hap q6_ ⟨asb hb43 (amv rfl),ag_ (alq 2 Qaj p0.Hours underlying47),tv⟩) ?_
      refine bfe h (fun hc44 h=>?_) fun hc44 h=>?_
      ·exact wft hc44<|wxz<|Qal<|Qam<|frb h
      ·exact wfn hc44<|Qak<|thn<|⟨(),h,(mto (n:=91) [(1,.ref 0 3 0 0)] [0] [(Qik p0)] hq (prr pn) (qb (lcc (lc (rnd Qac) ln)) qn))⟩
def Qdl (N:Nat) (p0:GDay) (k1:Unit→Option Bool):Nat→Int→Option Bool
  |0,_=>none
  |n4+1,y2=>
    bif (decide (y2<(p0.Hours.length:Int))) then
     (getI p0.Hours y2).bind fun x6=>
     bif (decide ((x6.Stairs.length:Int)>10)) then
      some false
     else
      Qdl N p0 k1 n4 (w64 (y2+1))
    else
     k1 ()
def Qgz (N:Nat) (p0:GDay):Option Bool:=
  Qco (fun _=>
    some (decide ((p0.Hours.length:Int)≤30))) fun k1:Unit→Option Bool=>
  Qdl N p0 k1 N 0
def Q27 (p0:GDay):AV:=.dat 2 (p0.Hours.map Qaj)
def Qrx (p0:GDay):Slot:=.own 3 [[(I p0.Tank),(I p0.Start),(Q27 p0)]]
theorem Qn5 (N:Nat) (p0:GDay) (r:Bool) (h:Qgz N p0=some r):Spec prog 17 [(.agg (Qhm p0))] [] (B r) []:=by
  refine sA func17 0 fun _ _ _ hq hd0=>?_
  unfold Qgz at h
  refine wxz ?_
  obtain⟨k1,hk_k1,h⟩:=jko h
  refine wjn (τ:=Unit) (fun t=>k1 t=some r) (fun _=>⟨mk 23 [(1,.ref 0 3 0 0)],[(Qrx p0)]⟩) (fun t h=>?_) ?_
  ·subst hk_k1
   refine wx tbk [(2,rp _ _)] ⟨alq 2 Qaj p0.Hours underlying47,tv⟩<|Qal ?_
   obtain rfl:=osi h
   exact fend ⟨[(B ((decide ((p0.Hours.length:Int)≤30))))],⟨rot,tv⟩,rfl⟩ nll
  ·skip
   refine wxz<|Qai ?_
   refine wmr (mto (n:=23) (l':=[(1,.ref 0 3 0 0),(3,I 0)]) (own':=[(Qrx p0)]) [(1,.ref 0 3 0 0),(3,I 0)] [0] [(Qrx p0)] hq (prr (pw pn)) (qb (lcc (lc (rnd Qac) ln)) qn)) ?_
   refine Qb1 (τ:=Int) (fun n t=>Qdl N p0 k1 n t=some r) (fun y2=>⟨mk 23 [(1,.ref 0 3 0 0),(3,I y2)],[(Qrx p0)]⟩) (fun t h=>by rw[Qdl] at h;cases h) (fun n4 ih y2 h=>?_) N (0) h
   rw[Qdl] at h
   skip
   refine wsq<|wx tbk [(3,rp _ _)] ⟨alq 2 Qaj p0.Hours underlying47,tv⟩ ?_
   refine bfe h (fun hc5 h=>?_) fun hc5 h=>?_
   ·refine wft hc5<|Qak<|thn<|wsq<|Qai ?_
    obtain⟨x6,hg7,h⟩:=bno h
    obtain⟨hi8,hj9⟩:=gsm hg7
    refine wx tbk [(3,rp _ _),(6,rp _ _)] ⟨aiq underlying47 Qkt Qaj hi8 hj9,alq 2 Qae x6.Stairs underlying120,tv⟩ ?_
    refine bfe h (fun hc10 h=>?_) fun hc10 h=>?_
    ·exact wft hc10<|wxz<|Qal<|Qav<|Qam<|Qam<|Qav<|Qam<|frb h
    ·exact wfn hc10<|Qak<|bln<|thn<|wxz1<|thn<|arm (mto (n:=23) [(1,.ref 0 3 0 0),(3,(I (w64 (y2+1))))] [0] [(Qrx p0)] hq (prr (pw pn)) (qb (lcc (lc (rnd Qac) ln)) qn)) (ih (w64 (y2+1)) h)
   ·exact wfn hc5<|Qaz<|Qao<|Qao<|Qay rfl<|thn<|⟨(),h,(mto (n:=23) [(1,.ref 0 3 0 0)] [0] [(Qrx p0)] hq (prr pn) (qb (lcc (lc (rnd Qac) ln)) qn))⟩
def Qdm (N:Nat) (x11:Qah) (k17:(List Qah)×(List Qaf)→Option GDay):Nat→Int→(List Qah)→(List Qaf)→Option GDay
  |0,_,_,_=>none
  |n25+1,y19,y20,y21=>
    bif (decide (y19<(x11.Stairs.length:Int))) then
     (getI x11.Stairs y19).bind fun x27=>
     chk (decide ((y21.length+([x27]).length)*16≤140737488355328))<|
     Qdm N x11 k17 n25 (w64 (y19+1)) y20 (y21++([x27]))
    else
     k17 (y20,y21)
def Qda (N:Nat) (p0:GDay) (k2:(List Qah)→Option GDay):Nat→Int→(List Qah)→Option GDay
  |0,_,_=>none
  |n7+1,y3,y4=>
    bif (decide (y3<(p0.Hours.length:Int))) then
     Qco (fun y9=>
       Qda N p0 k2 n7 (w64 (y3+1)) y9) fun k10:(List Qah)→Option GDay=>
     (getI p0.Hours y3).bind fun x11=>
     Qco (fun ⟨y15,y16⟩=>
       chk (decide ((y15.length+([(⟨x11.Use,y16⟩:Qah)]).length)*32≤140737488355328))<|
       k10 (y15++([(⟨x11.Use,y16⟩:Qah)]))) fun k17:(List Qah)×(List Qaf)→Option GDay=>
     Qdm N x11 k17 N 0 y4 ([])
    else
     k2 (y4)
def Qg0 (N:Nat) (p0:GDay):Option GDay:=
  Qco (fun y1=>
    some (⟨p0.Tank,p0.Start,y1⟩:GDay)) fun k2:(List Qah)→Option GDay=>
  Qda N p0 k2 N 0 ([])
def Qi3:Slot:=.own 3 [[(I (0)),(I (0)),nilS]]
def Q26 (p0:GDay):AV:=.dat 2 (p0.Hours.map Qaj)
def Qkn (p0:GDay):Slot:=.own 3 [[(I p0.Tank),(I p0.Start),(Q26 p0)]]
def Qp3 (p0:GDay) (y4:List Qah):Slot:=.own 3 [[(I p0.Tank),(I p0.Start),(.acc 3 62 2 (y4.map Qaj))]]
def Qzn:AV:=.acc 5 64 2 ((([]):List Qaf).map Qae)
def Qzo:AV:=.acc 5 64 2 (([]:List Qaf).map Qae)
def Qp2 (p0:GDay) (y20:List Qah):Slot:=.own 3 [[(I p0.Tank),(I p0.Start),(.acc 4 62 2 (y20.map Qaj))]]
def Qs9 (x27:Qaf):AV:=.agg [(I x27.Amount),(I x27.Price)]
theorem Qn6 (N:Nat) (p0 r:GDay) (h:Qg0 N p0=some r):Spec prog 21 [(.agg (Qhm p0))] [] (.agg (Qhm r)) []:=by
  refine sA func21 0 fun _ _ _ hq hd0=>?_
  unfold Qg0 at h
  refine wxz<|wx tbk [(4,rp _ _)] ⟨Qa2 (vs:=[I p0.Tank,I p0.Start]) rfl ts57 tz57 rfl (by rfl) rfl,tv⟩ ?_
  obtain⟨k2,hk_k2,h⟩:=jko h
  refine wjn (τ:=(List Qah)) (fun t=>k2 t=some r) (fun y1=>⟨mk 64 [(2,.ref 0 3 0 0),(3,.ref 1 3 0 0)],[Qi3,(.own 3 [[I p0.Tank,I p0.Start,(.acc 2 62 2 (y1.map Qaj))]]),.tok]⟩) (fun y1 h=>?_) ?_
  ·subst hk_k2
   refine wxz<|Qal ?_
   obtain rfl:=osi h
   exact fie [(.agg [I p0.Tank,I p0.Start,(.dat 2 (y1.map Qaj))])] ⟨Qj0 (v:=(.agg [I p0.Tank,I p0.Start,(.acc 2 62 2 (y1.map Qaj))])) (Qeo (n:=0) (m:=3) (j:=0) (i:=0) (xs:=[[I p0.Tank,I p0.Start,(.acc 2 62 2 (y1.map Qaj))]]) (by kernel_rfl) (by kernel_rfl) ti57 (by decide) rfl (nle rfl) rfl) (Less.agg ⟨lrf,lrf,Less.acc,tv⟩),tv⟩
  ·skip
   refine wxz<|Qai ?_
   refine wmr (Mor.trans (Qkw (n:=3) (ty:=62) (m:=2) (q:=2) (mq:=3) (c:=[I p0.Tank,I p0.Start,nilS]) 2 (by kernel_rfl) (by kernel_rfl) (by kernel_rfl) (by decide)) (mto (n:=64) (l':=[(1,.ref 0 3 0 0),(2,.ref 1 3 0 0),(3,.ref 2 3 0 0),(4,I 0)]) (own':=[(Qkn p0),Qi3,(.own 3 [[I p0.Tank,I p0.Start,(.acc 3 62 2 ((([]):List Qah).map Qaj))]]),.tok]) [(1,.ref 0 3 0 0),(2,.ref 1 3 0 0),(3,.ref 2 3 0 0),(4,I 0)] [0,1,2,3] [(Qkn p0),Qi3,(.own 3 [[I p0.Tank,I p0.Start,(.acc 3 62 2 (([]:List Qah).map Qaj))]]),.tok] hq (prr (prr (prr (pw pn)))) (qb (lcc (lc (rnd Qac) ln)) (qb (lcc (lc rwl ln)) (qb (lcc (lc (.rn (Qef rfl (Qdv Qac _))) ln)) (qc .tok qn)))))) ?_
   refine Qb1 (τ:=Int×(List Qah)) (fun n t=>Qda N p0 k2 n t.1 t.2=some r) (fun ⟨y3,y4⟩=>⟨mk 64 [(1,.ref 0 3 0 0),(2,.ref 1 3 0 0),(3,.ref 2 3 0 0),(4,I y3)],[(Qkn p0),Qi3,(Qp3 p0 y4),.tok]⟩) (fun t h=>by rw[Qda] at h;cases h) (fun n7 ih t h=>?_) N (0,[]) h
   obtain⟨y3,y4⟩:=t
   rw[Qda] at h
   skip
   refine wsq<|wx tbk [(3,rp _ _)] ⟨alq 2 Qaj p0.Hours underlying47,tv⟩ ?_
   refine bfe h (fun hc8 h=>?_) fun hc8 h=>?_
   ·refine wft hc8<|Qak<|thn ?_
    obtain⟨k10,hk_k10,h⟩:=jko h
    refine wjn (τ:=(List Qah)) (fun t=>k10 t=some r) (fun y9=>⟨mk 64 [(1,.ref 0 3 0 0),(2,.ref 1 3 0 0),(3,.ref 2 3 0 0),(4,I y3)],[(Qkn p0),Qi3,(.own 3 [[I p0.Tank,I p0.Start,(.acc 3 62 2 (y9.map Qaj))]]),.tok]⟩) (fun y9 h=>?_) ?_
    ·subst hk_k10
     exact wxz1<|thn<|arm (mto (n:=64) [(1,.ref 0 3 0 0),(2,.ref 1 3 0 0),(3,.ref 2 3 0 0),(4,(I (w64 (y3+1))))] [0,1,2,3] [(Qkn p0),Qi3,(.own 3 [[I p0.Tank,I p0.Start,(.acc 3 62 2 (y9.map Qaj))]]),.tok] hq (prr (prr (prr (pw pn)))) (qb (lcc (lc (rnd Qac) ln)) (qb (lcc (lc rwl ln)) (qb (lcc (lc (.rn (Qef rfl (Qdv Qac _))) ln)) (qc .tok qn))))) (ih (w64 (y3+1),y9) h)
    ·skip
     refine Qai ?_
     obtain⟨x11,hg12,h⟩:=bno h
     obtain⟨hi13,hj14⟩:=gsm hg12
     refine wx tbk [(3,rp _ _),(6,rp _ _)] ⟨aiq underlying47 Qkt Qaj hi13 hj14,Qa2 (vs:=[I x11.Use]) rfl ts62 tz62 rfl (by rfl) rfl,tv⟩ ?_
     obtain⟨k17,hk_k17,h⟩:=jko h
     refine wjn (τ:=(List Qah)×(List Qaf)) (fun t=>k17 t=some r) (fun ⟨y15,y16⟩=>⟨mk 64 [(1,.ref 0 3 0 0),(2,.ref 1 3 0 0),(3,.ref 2 3 0 0),(4,I y3),(5,.ref 3 2 0 0)],[(Qkn p0),Qi3,(.own 3 [[I p0.Tank,I p0.Start,(.acc 4 62 2 (y15.map Qaj))]]),(.own 2 [[I x11.Use,(.acc 5 64 2 (y16.map Qae))]]),.tok,.tok]⟩) (fun t h=>?_) ?_
     ·subst hk_k17
      obtain⟨y15,y16⟩:=t
      obtain⟨ha18,h⟩:=cko h
      refine wx1 tbk [(3,rp [(.tmp 59,(.agg [I x11.Use,(.acc 5 64 2 (y16.map Qae))]))] (.dat 2 (([(⟨x11.Use,y16⟩:Qah)]:List Qah).map Qaj))),(4,⟨[(.tmp 58,(.acc 4 62 2 (y15.map Qaj))),(.tmp 60,(.dat 2 (([(⟨x11.Use,y16⟩:Qah)]:List Qah).map Qaj)))],[(4,.tok),(6,.unused)],(.acc 6 62 2 ((y15++([(⟨x11.Use,y16⟩:Qah)]):List Qah).map Qaj)),[(4,.dead),(6,.tok)],false⟩)] ⟨awk (rd':=[(.tmp 59,(.agg [I x11.Use,(.dat 2 (y16.map Qae))]))]) ⟨rfl,(Less.agg ⟨lrf,Less.acc,tv⟩),tv⟩ (Qb4 (vs:=[(.agg [I x11.Use,(.dat 2 (y16.map Qae))])]) rfl underlying55 ti62 tz62 rfl (by decide) rfl (by decide) (by rfl) (by rfl) (by rfl) rfl),Qg4 rfl underlying55 te62 (Base.acc _ _) rfl rfl (by rfl) (Qkd Qaj ha18) (Qkc Qaj ha18 (by decide)) (Qkb Qaj) rfl rfl,tv⟩<|bln<|thn ?_
      exact⟨(y15++([(⟨x11.Use,y16⟩:Qah)])),h,(mto (n:=64) [(1,.ref 0 3 0 0),(2,.ref 1 3 0 0),(3,.ref 2 3 0 0),(4,I y3)] [0,1,2,6] [(Qkn p0),Qi3,(.own 3 [[I p0.Tank,I p0.Start,(.acc 6 62 2 ((y15++([(⟨x11.Use,y16⟩:Qah)]):List Qah).map Qaj))]]),.tok] hq (prr (prr (prr (pw pn)))) (qb (lcc (lc (rnd Qac) ln)) (qb (lcc (lc rwl ln)) (qb (lcc (lc (.rn (Qef rfl (Qdv Qac _))) ln)) (qc .tok qn)))))⟩
     ·skip
      refine wxz<|Qai ?_
      refine wmr (Mor.trans (Qkw (n:=5) (ty:=64) (m:=2) (q:=4) (mq:=2) (c:=[I x11.Use,nilS]) 1 (by kernel_rfl) (by kernel_rfl) (by kernel_rfl) (by decide)) (mto (n:=64) (l':=[(1,.ref 0 3 0 0),(2,.ref 1 3 0 0),(3,.ref 2 3 0 0),(4,I y3),(5,.ref 3 2 0 0),(6,I 0)]) (own':=[(Qkn p0),Qi3,(.own 3 [[I p0.Tank,I p0.Start,(.acc 4 62 2 (y4.map Qaj))]]),(.own 2 [[I x11.Use,Qzn]]),.tok,.tok]) [(1,.ref 0 3 0 0),(2,.ref 1 3 0 0),(3,.ref 2 3 0 0),(4,I y3),(5,.ref 4 2 0 0),(6,I 0)] [0,1,2,4,3,5] [(Qkn p0),Qi3,(Qp3 p0 y4),(.own 2 [[I x11.Use,Qzo]]),.tok,.tok] hq (prr (prr (prr (pw (prr (pw pn)))))) (qb (lcc (lc (rnd Qac) ln)) (qb (lcc (lc rwl ln)) (qb (lcc (lc (.rn (Qef rfl (Qdv Qac _))) ln)) (qb (lc rwl (lc (.rn (Qef rfl (Qdv Qa0 _))) ln)) (qc .tok (qc .tok qn)))))))) ?_
      refine Qb1 (τ:=Int×(List Qah)×(List Qaf)) (fun n t=>Qdm N x11 k17 n t.1 t.2.1 t.2.2=some r) (fun ⟨y19,y20,y21⟩=>⟨mk 64 [(1,.ref 0 3 0 0),(2,.ref 1 3 0 0),(3,.ref 2 3 0 0),(4,I y3),(5,.ref 3 2 0 0),(6,I y19)],[(Qkn p0),Qi3,(Qp2 p0 y20),(.own 2 [[I x11.Use,(.acc 5 64 2 (y21.map Qae))]]),.tok,.tok]⟩) (fun t h=>by rw[Qdm] at h;cases h) (fun n25 ih t h=>?_) N (0,y4,[]) h
      obtain⟨y19,y20,y21⟩:=t
      rw[Qdm] at h
      skip
      refine wsq<|wx tbk [(4,rp _ _),(7,rp _ _)] ⟨aiq underlying47 Qkt Qaj hi13 hj14,alq 2 Qae x11.Stairs underlying120,tv⟩ ?_
      refine bfe h (fun hc26 h=>?_) fun hc26 h=>?_
      ·refine wft hc26<|Qak<|thn<|wsq<|Qai ?_
       obtain⟨x27,hg28,h⟩:=bno h
       obtain⟨hi29,hj30⟩:=gsm hg28
       refine wx tbk [(3,rp _ _),(7,rp _ _)] ⟨aiq underlying47 Qkt Qaj hi13 hj14,aiq underlying120 Qr5 Qae hi29 hj30,tv⟩ ?_
       obtain⟨ha31,h⟩:=cko h
       refine wx1 tbk [(6,rp _ _),(7,rp [(.tmp 53,(Qs9 x27))] (.dat 2 (([x27]:List Qaf).map Qae))),(8,⟨[(.tmp 48,(.acc 5 64 2 (y21.map Qae))),(.tmp 54,(.dat 2 (([x27]:List Qaf).map Qae)))],[(5,.tok),(7,.unused)],(.acc 7 64 2 ((y21++([x27]):List Qaf).map Qae)),[(5,.dead),(7,.tok)],false⟩)] ⟨Qa2 (vs:=[I x27.Amount,I x27.Price]) rfl ts64 tz64 rfl (by rfl) rfl,Qb4 (vs:=[(Qs9 x27)]) rfl underlying60 ti64 tz64 rfl (by decide) rfl (by decide) (by rfl) (by rfl) (by rfl) rfl,Qg4 rfl underlying60 te64 (Base.acc _ _) rfl rfl (by rfl) (Qkd Qae ha31) (Qkc Qae ha31 (by decide)) (Qkb Qae) rfl rfl,tv⟩<|bln<|thn<|wxz1<|thn ?_
       exact arm (mto (n:=64) [(1,.ref 0 3 0 0),(2,.ref 1 3 0 0),(3,.ref 2 3 0 0),(4,I y3),(5,.ref 3 2 0 0),(6,(I (w64 (y19+1))))] [0,1,2,3,4,7] [(Qkn p0),Qi3,(Qp2 p0 y20),(.own 2 [[I x11.Use,(.acc 7 64 2 ((y21++([x27]):List Qaf).map Qae))]]),.tok,.tok] hq (prr (prr (prr (pw (prr (pw pn)))))) (qb (lcc (lc (rnd Qac) ln)) (qb (lcc (lc rwl ln)) (qb (lcc (lc (.rn (Qef rfl (Qdv Qac _))) ln)) (qb (lc rwl (lc (.rn (Qef rfl (Qdv Qa0 _))) ln)) (qc .tok (qc .tok qn))))))) (ih (w64 (y19+1),y20,y21++([x27])) h)
      ·exact wfn hc26<|Qaz<|Qao<|Qao<|Qay rfl<|thn<|⟨(y20,y21),h,(mto (n:=64) [(1,.ref 0 3 0 0),(2,.ref 1 3 0 0),(3,.ref 2 3 0 0),(4,I y3),(5,.ref 3 2 0 0)] [0,1,2,3,4,5] [(Qkn p0),Qi3,(Qp2 p0 y20),(.own 2 [[I x11.Use,(.acc 5 64 2 (y21.map Qae))]]),.tok,.tok] hq (prr (prr (prr (pw (prr pn))))) (qb (lcc (lc (rnd Qac) ln)) (qb (lcc (lc rwl ln)) (qb (lcc (lc (.rn (Qef rfl (Qdv Qac _))) ln)) (qb (lc rwl (lc (.rn (Qef rfl (Qdv Qa0 _))) ln)) (qc .tok (qc .tok qn)))))))⟩
   ·exact wfn hc8<|Qaz<|Qao<|Qao<|Qay rfl<|thn<|⟨(y4),h,(mto (n:=64) [(2,.ref 1 3 0 0),(3,.ref 2 3 0 0)] [1,2,3] [Qi3,(Qp3 p0 y4),.tok] hq (prr (prr pn)) (qb (lcc (lc rwl ln)) (qb (lcc (lc (.rn (Qef rfl (Qdv Qac _))) ln)) (qc .tok qn))))⟩
end
section
def Qb8 (N:Nat) (x12:Qah) (k18:(List Qaf)×(List Qah)→Option (List Qah)):Nat→Int→(List Qaf)→(List Qah)→Option (List Qah)
  |0,_,_,_=>none
  |n26+1,y20,y21,y22=>
    bif (decide (y20<(x12.Stairs.length:Int))) then
     (getI x12.Stairs y20).bind fun x28=>
     chk (decide ((y21.length+([x28]).length)*16≤140737488355328))<|
     Qb8 N x12 k18 n26 (w64 (y20+1)) (y21++([x28])) y22
    else
     k18 (y21,y22)
def Qbx (N:Nat) (p0:GDay) (k3:(List Qah)→Option (List Qah)):Nat→Int→(List Qah)→Option (List Qah)
  |0,_,_=>none
  |n8+1,y4,y5=>
    bif (decide (y4<(p0.Hours.length:Int))) then
     Qco (fun y10=>
       Qbx N p0 k3 n8 (w64 (y4+1)) y10) fun k11:(List Qah)→Option (List Qah)=>
     (getI p0.Hours y4).bind fun x12=>
     Qco (fun ⟨y16,y17⟩=>
       chk (decide ((y17.length+([(⟨x12.Use,y16⟩:Qah)]).length)*32≤140737488355328))<|
       k11 (y17++([(⟨x12.Use,y16⟩:Qah)]))) fun k18:(List Qaf)×(List Qah)→Option (List Qah)=>
     Qb8 N x12 k18 N 0 ([]) y5
    else
     k3 (y5)
def Qee (N:Nat) (p0:GDay):Option (List Qah):=
  Qco (fun y2=>
    some y2) fun k3:(List Qah)→Option (List Qah)=>
  Qbx N p0 k3 N 0 ([]:List Qah)
abbrev Qzm (p0:GDay):AV:=.dat 2 (p0.Hours.map Qaj)
def Qe8:Slot:=.own 3 [[(I (0)),(I (0)),nilS]]
def Qf2 (p0:GDay):Slot:=.own 3 [[(I p0.Tank),(I p0.Start),(Qzm p0)]]
def Qnh (p0:GDay):Slot:=.own 3 [[(I p0.Tank),(I p0.Start),(.gro 3 62 2 (([]:List Qah).length))]]
def Qp1:Slot:=.gro 2 ((([]:List Qah):List Qah).map Qaj)
def Qjs (p0:GDay) (y5:List Qah):Slot:=.own 3 [[(I p0.Tank),(I p0.Start),(.gro 3 62 2 y5.length)]]
def Qgq (y16:List Qaf):AV:=.acc 5 64 2 (y16.map Qae)
def Qs8:AV:=.acc 5 64 2 ((([]):List Qaf).map Qae)
def Qzl:AV:=.acc 5 64 2 (([]:List Qaf).map Qae)
def Qjr (p0:GDay) (y22:List Qah):Slot:=.own 3 [[(I p0.Tank),(I p0.Start),(.gro 4 62 2 y22.length)]]
def Qng (x28:Qaf):AV:=.agg [(I x28.Amount),(I x28.Price)]
theorem Qlt (N:Nat) (p0:GDay) (r:List Qah) (h:Qee N p0=some r):Spec prog 21 [(.agg [(I p0.Tank),(I p0.Start),(Qzm p0)])] [] (.agg [(I p0.Tank),(I p0.Start),(.gro 1 62 2 r.length)]) [(.own 3 [[(I p0.Tank),(I p0.Start),(.gro 1 62 2 r.length)]]),(.gro 2 (r.map Qaj))]:=by
  refine sF func21 2 fun _ _ _ hq hd0=>?_
  unfold Qee at h
  refine wxz<|wx tbk [(4,rp _ _)] ⟨Qa2 (vs:=[I p0.Tank,I p0.Start]) rfl ts57 tz57 rfl (by rfl) rfl,tv⟩ ?_
  obtain⟨k3,hk_k3,h⟩:=jko h
  refine wjn (τ:=(List Qah)) (fun t=>k3 t=some r) (fun y2=>⟨mk 64 [(2,.ref 0 3 0 0),(3,.ref 1 3 0 0)],[Qe8,(.own 3 [[I p0.Tank,I p0.Start,(.gro 2 62 2 y2.length)]]),(.gro 2 (y2.map Qaj))]⟩) (fun y2 h=>?_) ?_
  ·subst hk_k3
   refine wxz<|wmr (mto (n:=64) (l':=[(2,.ref 0 3 0 0)]) (own':=[(.own 3 [[I p0.Tank,I p0.Start,(.gro 1 62 2 y2.length)]]),(.gro 2 (y2.map Qaj))]) [(2,.ref 0 3 0 0)] [0,2] [(.own 3 [[I p0.Tank,I p0.Start,(.gro 2 62 2 y2.length)]]),(.gro 2 (y2.map Qaj))] hq (prr pn) (qb (lcc (lc (.rn (Qd9 rfl)) ln)) (qc (Qfe Qac) qn)))<|Qal ?_
   obtain rfl:=osi h
   exact⟨_,Mor.rfl,fio [(.agg [I p0.Tank,I p0.Start,(.gro 1 62 2 y2.length)])] ⟨Qeo (n:=0) (m:=3) (j:=0) (i:=0) (xs:=[[I p0.Tank,I p0.Start,(.gro 1 62 2 y2.length)]]) (by kernel_rfl) (by kernel_rfl) ti57 (by decide) rfl (nle rfl) rfl,tv⟩⟩
  ·skip
   refine wxz<|Qai ?_
   refine wmr (Mor.trans (Qo9 (n:=3) (ty:=62) (m:=2) (q:=2) (mq:=3) (c:=[I p0.Tank,I p0.Start,nilS]) 2 (by kernel_rfl) (by kernel_rfl) (by kernel_rfl) (by decide)) (mto (n:=64) (l':=[(1,.ref 0 3 0 0),(2,.ref 1 3 0 0),(3,.ref 2 3 0 0),(4,I 0)]) (own':=[(Qf2 p0),Qe8,(Qnh p0),Qp1]) [(1,.ref 0 3 0 0),(2,.ref 1 3 0 0),(3,.ref 2 3 0 0),(4,I 0)] [0,1,2,3] [(Qf2 p0),Qe8,(Qnh p0),Qp1] hq (prr (prr (prr (pw pn)))) (qb (lcc (lc (rnd Qac) ln)) (qb (lcc (lc rwl ln)) (qb (lcc (lc (.rn (Qd9 rfl)) ln)) (qc (Qfe Qac) qn)))))) ?_
   refine Qb1 (τ:=Int×(List Qah)) (fun n t=>Qbx N p0 k3 n t.1 t.2=some r) (fun ⟨y4,y5⟩=>⟨mk 64 [(1,.ref 0 3 0 0),(2,.ref 1 3 0 0),(3,.ref 2 3 0 0),(4,I y4)],[(Qf2 p0),Qe8,(Qjs p0 y5),(.gro 2 (y5.map Qaj))]⟩) (fun t h=>by rw[Qbx] at h;cases h) (fun n8 ih t h=>?_) N (0,([]:List Qah)) h
   obtain⟨y4,y5⟩:=t
   rw[Qbx] at h
   skip
   refine wsq<|wx tbk [(3,rp _ _)] ⟨alq 2 Qaj p0.Hours underlying47,tv⟩ ?_
   refine bfe h (fun hc9 h=>?_) fun hc9 h=>?_
   ·refine wft hc9<|Qak<|thn ?_
    obtain⟨k11,hk_k11,h⟩:=jko h
    refine wjn (τ:=(List Qah)) (fun t=>k11 t=some r) (fun y10=>⟨mk 64 [(1,.ref 0 3 0 0),(2,.ref 1 3 0 0),(3,.ref 2 3 0 0),(4,I y4)],[(Qf2 p0),Qe8,(.own 3 [[I p0.Tank,I p0.Start,(.gro 3 62 2 y10.length)]]),(.gro 2 (y10.map Qaj))]⟩) (fun y10 h=>?_) ?_
    ·subst hk_k11
     exact wxz1<|thn<|arm (mto (n:=64) [(1,.ref 0 3 0 0),(2,.ref 1 3 0 0),(3,.ref 2 3 0 0),(4,(I (w64 (y4+1))))] [0,1,2,3] [(Qf2 p0),Qe8,(.own 3 [[I p0.Tank,I p0.Start,(.gro 3 62 2 y10.length)]]),(.gro 2 (y10.map Qaj))] hq (prr (prr (prr (pw pn)))) (qb (lcc (lc (rnd Qac) ln)) (qb (lcc (lc rwl ln)) (qb (lcc (lc (.rn (Qd9 rfl)) ln)) (qc (Qfe Qac) qn))))) (ih (w64 (y4+1),y10) h)
    ·skip
     refine Qai ?_
     obtain⟨x12,hg13,h⟩:=bno h
     obtain⟨hi14,hj15⟩:=gsm hg13
     refine wx tbk [(3,rp _ _),(6,rp _ _)] ⟨aiq underlying47 Qkt Qaj hi14 hj15,Qa2 (vs:=[I x12.Use]) rfl ts62 tz62 rfl (by rfl) rfl,tv⟩ ?_
     obtain⟨k18,hk_k18,h⟩:=jko h
     refine wjn (τ:=(List Qaf)×(List Qah)) (fun t=>k18 t=some r) (fun ⟨y16,y17⟩=>⟨mk 64 [(1,.ref 0 3 0 0),(2,.ref 1 3 0 0),(3,.ref 2 3 0 0),(4,I y4),(5,.ref 3 2 0 0)],[(Qf2 p0),Qe8,(.own 3 [[I p0.Tank,I p0.Start,(.gro 4 62 2 y17.length)]]),(.own 2 [[I x12.Use,(Qgq y16)]]),(.gro 2 (y17.map Qaj)),.tok]⟩) (fun t h=>?_) ?_
     ·subst hk_k18
      obtain⟨y16,y17⟩:=t
      obtain⟨ha19,h⟩:=cko h
      refine wx1 tbk [(3,rp [(.tmp 59,(.agg [I x12.Use,(Qgq y16)]))] (.dat 2 (([(⟨x12.Use,y16⟩:Qah)]:List Qah).map Qaj))),(4,⟨[(.tmp 58,(.gro 4 62 2 y17.length)),(.tmp 60,(.dat 2 (([(⟨x12.Use,y16⟩:Qah)]:List Qah).map Qaj)))],[(4,(.gro 2 (y17.map Qaj))),(6,.unused)],(.gro 6 62 2 ((y17++([(⟨x12.Use,y16⟩:Qah)])).length)),[(4,.dead),(6,(.gro 2 ((y17++([(⟨x12.Use,y16⟩:Qah)]):List Qah).map Qaj)))],false⟩)] ?_ ?_
      ·exact⟨awk (rd':=[(.tmp 59,(.agg [I x12.Use,(.dat 2 (y16.map Qae))]))]) ⟨rfl,(Less.agg ⟨lrf,Less.acc,tv⟩),tv⟩ (Qb4 (vs:=[(.agg [I x12.Use,(.dat 2 (y16.map Qae))])]) rfl underlying55 ti62 tz62 rfl (by decide) rfl (by decide) (by rfl) (by rfl) (by rfl) rfl),Qmc (c:=Qaj) (a:=y17) (b:=[(⟨x12.Use,y16⟩:Qah)]) rfl underlying55 te62 rfl (Qex rfl) (by rfl) ha19 (by decide),tv⟩
      exact bln<|thn<|⟨(y17++([(⟨x12.Use,y16⟩:Qah)])),h,(mto (n:=64) [(1,.ref 0 3 0 0),(2,.ref 1 3 0 0),(3,.ref 2 3 0 0),(4,I y4)] [0,1,2,6] [(Qf2 p0),Qe8,(.own 3 [[I p0.Tank,I p0.Start,(.gro 6 62 2 ((y17++([(⟨x12.Use,y16⟩:Qah)])).length))]]),(.gro 2 ((y17++([(⟨x12.Use,y16⟩:Qah)]):List Qah).map Qaj))] hq (prr (prr (prr (pw pn)))) (qb (lcc (lc (rnd Qac) ln)) (qb (lcc (lc rwl ln)) (qb (lcc (lc (.rn (Qd9 rfl)) ln)) (qc (Qfe Qac) qn)))))⟩
     ·skip
      refine wxz<|Qai ?_
      refine wmr (Mor.trans (Qkw (n:=5) (ty:=64) (m:=2) (q:=4) (mq:=2) (c:=[I x12.Use,nilS]) 1 (by kernel_rfl) (by kernel_rfl) (by kernel_rfl) (by decide)) (mto (n:=64) (l':=[(1,.ref 0 3 0 0),(2,.ref 1 3 0 0),(3,.ref 2 3 0 0),(4,I y4),(5,.ref 3 2 0 0),(6,I 0)]) (own':=[(Qf2 p0),Qe8,(.own 3 [[I p0.Tank,I p0.Start,(.gro 4 62 2 y5.length)]]),(.own 2 [[I x12.Use,Qs8]]),(.gro 2 (y5.map Qaj)),.tok]) [(1,.ref 0 3 0 0),(2,.ref 1 3 0 0),(3,.ref 2 3 0 0),(4,I y4),(5,.ref 4 2 0 0),(6,I 0)] [0,1,2,4,3,5] [(Qf2 p0),Qe8,(Qjs p0 y5),(.own 2 [[I x12.Use,Qzl]]),(.gro 2 (y5.map Qaj)),.tok] hq (prr (prr (prr (pw (prr (pw pn)))))) (qb (lcc (lc (rnd Qac) ln)) (qb (lcc (lc rwl ln)) (qb (lcc (lc (.rn (Qd9 rfl)) ln)) (qb (lc rwl (lc (.rn (Qef rfl (Qdv Qa0 _))) ln)) (qc (Qfe Qac) (qc .tok qn)))))))) ?_
      refine Qb1 (τ:=Int×(List Qaf)×(List Qah)) (fun n t=>Qb8 N x12 k18 n t.1 t.2.1 t.2.2=some r) (fun ⟨y20,y21,y22⟩=>⟨mk 64 [(1,.ref 0 3 0 0),(2,.ref 1 3 0 0),(3,.ref 2 3 0 0),(4,I y4),(5,.ref 3 2 0 0),(6,I y20)],[(Qf2 p0),Qe8,(Qjr p0 y22),(.own 2 [[I x12.Use,(.acc 5 64 2 (y21.map Qae))]]),(.gro 2 (y22.map Qaj)),.tok]⟩) (fun t h=>by rw[Qb8] at h;cases h) (fun n26 ih t h=>?_) N (0,[],y5) h
      obtain⟨y20,y21,y22⟩:=t
      rw[Qb8] at h
      skip
      refine wsq<|wx tbk [(4,rp _ _),(7,rp _ _)] ⟨aiq underlying47 Qkt Qaj hi14 hj15,alq 2 Qae x12.Stairs underlying120,tv⟩ ?_
      refine bfe h (fun hc27 h=>?_) fun hc27 h=>?_
      ·refine wft hc27<|Qak<|thn<|wsq<|Qai ?_
       obtain⟨x28,hg29,h⟩:=bno h
       obtain⟨hi30,hj31⟩:=gsm hg29
       refine wx tbk [(3,rp _ _),(7,rp _ _)] ⟨aiq underlying47 Qkt Qaj hi14 hj15,aiq underlying120 Qr5 Qae hi30 hj31,tv⟩ ?_
       obtain⟨ha32,h⟩:=cko h
       refine wx1 tbk [(6,rp _ _),(7,rp [(.tmp 53,(Qng x28))] (.dat 2 (([x28]:List Qaf).map Qae))),(8,⟨[(.tmp 48,(.acc 5 64 2 (y21.map Qae))),(.tmp 54,(.dat 2 (([x28]:List Qaf).map Qae)))],[(5,.tok),(7,.unused)],(.acc 7 64 2 ((y21++([x28]):List Qaf).map Qae)),[(5,.dead),(7,.tok)],false⟩)] ⟨Qa2 (vs:=[I x28.Amount,I x28.Price]) rfl ts64 tz64 rfl (by rfl) rfl,Qb4 (vs:=[(Qng x28)]) rfl underlying60 ti64 tz64 rfl (by decide) rfl (by decide) (by rfl) (by rfl) (by rfl) rfl,Qg4 rfl underlying60 te64 (Base.acc _ _) rfl rfl (by rfl) (Qkd Qae ha32) (Qkc Qae ha32 (by decide)) (Qkb Qae) rfl rfl,tv⟩<|bln<|thn<|wxz1<|thn ?_
       exact arm (mto (n:=64) [(1,.ref 0 3 0 0),(2,.ref 1 3 0 0),(3,.ref 2 3 0 0),(4,I y4),(5,.ref 3 2 0 0),(6,(I (w64 (y20+1))))] [0,1,2,3,4,7] [(Qf2 p0),Qe8,(Qjr p0 y22),(.own 2 [[I x12.Use,(.acc 7 64 2 ((y21++([x28]):List Qaf).map Qae))]]),(.gro 2 (y22.map Qaj)),.tok] hq (prr (prr (prr (pw (prr (pw pn)))))) (qb (lcc (lc (rnd Qac) ln)) (qb (lcc (lc rwl ln)) (qb (lcc (lc (.rn (Qd9 rfl)) ln)) (qb (lc rwl (lc (.rn (Qef rfl (Qdv Qa0 _))) ln)) (qc (Qfe Qac) (qc .tok qn))))))) (ih (w64 (y20+1),y21++([x28]),y22) h)
      ·exact wfn hc27<|Qaz<|Qao<|Qao<|Qay rfl<|thn<|⟨(y21,y22),h,(mto (n:=64) [(1,.ref 0 3 0 0),(2,.ref 1 3 0 0),(3,.ref 2 3 0 0),(4,I y4),(5,.ref 3 2 0 0)] [0,1,2,3,4,5] [(Qf2 p0),Qe8,(Qjr p0 y22),(.own 2 [[I x12.Use,(.acc 5 64 2 (y21.map Qae))]]),(.gro 2 (y22.map Qaj)),.tok] hq (prr (prr (prr (pw (prr pn))))) (qb (lcc (lc (rnd Qac) ln)) (qb (lcc (lc rwl ln)) (qb (lcc (lc (.rn (Qd9 rfl)) ln)) (qb (lc rwl (lc (.rn (Qef rfl (Qdv Qa0 _))) ln)) (qc (Qfe Qac) (qc .tok qn)))))))⟩
   ·exact wfn hc9<|Qaz<|Qao<|Qao<|Qay rfl<|thn<|⟨(y5),h,(mto (n:=64) [(2,.ref 1 3 0 0),(3,.ref 2 3 0 0)] [1,2,3] [Qe8,(Qjs p0 y5),(.gro 2 (y5.map Qaj))] hq (prr (prr pn)) (qb (lcc (lc rwl ln)) (qb (lcc (lc (.rn (Qd9 rfl)) ln)) (qc (Qfe Qac) qn))))⟩
end
section
def accH (T:Nat) (h:Qah):List AV:=[I h.Use,.acc T 64 2 (h.Stairs.map Qae)]
def Qdc (T:Nat):Nat→List Qah→List (List AV)
  |_,[]=>[]
  |0,h::l=>accH T h::l.map Qaj
  |k+1,h::l=>Qaj h::Qdc T k l
def tokT (k:Nat) (l:List Qah):Slot:=bif Nat.ble l.length k then .unused else .tok
theorem Qlk {T:Nat}:∀(k:Nat) (l:List Qah),(Qdc T k l).length=l.length
  |k,[]=>by cases k<;>rfl
  |0,h::l=>by simp[Qdc]
  |k+1,h::l=>by simp[Qdc,Qlk k l]
theorem Qjz {T:Nat}:∀(k:Nat) (l:List Qah),l.length≤k→Qdc T k l=l.map Qaj
  |k,[],_=>by cases k<;>rfl
  |0,h::l,hl=>by simp at hl
  |k+1,h::l,hl=>by simp only[Qdc,List.map_cons];rw[Qjz k l (by simpa using hl)]
theorem Qrb {T:Nat}{h:Qah}:∀(k:Nat) (l:List Qah),l.length=k→Qdc T k (l++[h])=l.map Qaj++[accH T h]
  |k,[],hl=>by simp at hl;subst hl;rfl
  |0,h'::l,hl=>by simp at hl
  |k+1,h'::l,hl=>by simp only[Qdc,List.map_cons,List.cons_append];rw[Qrb k l (by simpa using hl)]
theorem Qoy {T:Nat}{h:Qah}:∀(k:Nat) (l:List Qah),l.length≠k→Qdc T k (l++[h])=Qdc T k l++[Qaj h]
  |0,[],hl=>by simp at hl
  |k+1,[],_=>by simp only[List.nil_append,Qdc]
  |0,h'::l,_=>by simp[Qdc]
  |k+1,h'::l,hl=>by simp only[Qdc,List.cons_append];rw[Qoy k l (by simpa using hl)]
theorem Qcz {T k:Nat}{l:List Qah}(hz:(!l.isEmpty)=true):Qdc T k l≠[]:=by
  intro h
  have:=Qlk (T:=T) k l
  rw[h] at this
  cases l with
  |nil=>simp at hz
  |cons=>simp at this
theorem Qfh {T:Nat}{v:Qah}:∀{k:Nat}{l:List Qah},l[k]? = some v→(Qdc T k l)[k]? = some (accH T v)
  |_,[],h=>by simp at h
  |0,x::l,h=>by simp at h;subst h;rfl
  |k+1,x::l,h=>by simp only[Qdc,List.getElem?_cons_succ];exact Qfh (by simpa using h)
theorem Qmq {T:Nat}{v ne:Qah}:∀{k:Nat}{l:List Qah},l[k]? = some v→(Qdc T k l).set k (Qaj ne)=(l.set k ne).map Qaj
  |_,[],h=>by simp at h
  |0,x::l,h=>by simp[Qdc]
  |k+1,x::l,h=>by simp only[Qdc,List.set_cons_succ,List.map_cons];rw[Qmq (by simpa using h)]
theorem Qox {T k:Nat}{v ne:Qah}{l:List Qah}{row:List AV}(h:l[k]? = some v) (hr:row=Qaj ne):(Qdc T k l).set k row=(l.set k ne).map Qaj:=by
  subst hr
  exact Qmq h
theorem Qoz {T:Nat}{x:List AV}:∀{k:Nat}{l:List Qah},x∈Qdc T k l→(∃h,x=Qaj h)∨∃h,x=accH T h
  |k,[],h=>by cases k<;>simp[Qdc] at h
  |0,y::l,h=>by
    simp only[Qdc,List.mem_cons,List.mem_map] at h
    rcases h with h |⟨z,_,rfl⟩
    · exact .inr ⟨_,h⟩
    · exact .inl ⟨_,rfl⟩
  |k+1,y::l,h=>by
    simp only[Qdc,List.mem_cons] at h
    rcases h with h |h
    · exact .inl ⟨_,h⟩
    · exact Qoz h
theorem Qsh (l:List Qaf):∀x∈l.map Qae,∀a∈x,NLt 0 a:=Qdv Qa0 l
instance {T k k':Nat}{l:List Qah} [hb:Blt T k']:SNi k' (.gro 2 (Qdc T k l)):=⟨.gro 2 _ fun x hx a ha=>by
  rcases Qoz hx with ⟨h,rfl⟩ |⟨h,rfl⟩
  · exact(Qac h a ha).of0
  · simp only[accH,List.mem_cons,List.not_mem_nil,or_false] at ha
    rcases ha with rfl |rfl
    · exact .lit _
    · exact .acc T 64 2 _ hb.out fun y hy b hb'=>(Qsh _ y hy b hb').of0⟩
section
variable {R : AV → AV → Prop}
theorem Qqh (h0:∀a,NLt 0 a→R a a):∀(x:List AV),(∀a∈x,NLt 0 a)→LPw R x x
  |[],_=>trivial
  |a::l,h=>⟨h0 a (h a (by simp)),Qqh h0 l fun b hb=>h b (List.mem_cons_of_mem _ hb)⟩
theorem Qn1 (h0:∀a,NLt 0 a→R a a):∀(l:List Qah),LPw2 R (l.map Qaj) (l.map Qaj)
  |[]=>trivial
  |h::l=>⟨Qqh h0 _ (Qac h),Qn1 h0 l⟩
theorem Qji {T T':Nat}(h0:∀a,NLt 0 a→R a a) (hT:∀h:Qah,R (.acc T 64 2 (h.Stairs.map Qae)) (.acc T' 64 2 (h.Stairs.map Qae))):∀(k:Nat) (l:List Qah),LPw2 R (Qdc T k l) (Qdc T' k l)
  |k,[]=>by cases k<;>exact trivial
  |0,h::l=>⟨⟨h0 _ (.lit _),hT h,trivial⟩,Qn1 h0 l⟩
  |k+1,h::l=>⟨Qqh h0 _ (Qac h),Qji h0 hT k l⟩
theorem Qn2:∀{a b c d:List (List AV)},LPw2 R a b→LPw2 R c d→LPw2 R (a++c) (b++d)
  |[],[],_,_,_,h=>h
  |_::_,_::_,_,_,h,h'=>⟨h.1,Qn2 h.2 h'⟩
  |[],_::_,_,_,h,_=>h.elim
  |_::_,[],_,_,h,_=>h.elim
theorem Qq7 {m:Nat}{xs xs':List (List AV)}(h:LPw2 R xs xs'):SPw R (.gro m xs) (.gro m xs'):=.gro m _ _ (Qjj h).1 fun j x y h1 h2=>(Qjj h).2 j x y h1 h2
end
theorem Quk {ρ:List Nat}{T T' k:Nat}{l:List Qah}(h:(ρ[T]? == some T')=true):SRn (fun n n'=>ρ[n]? = some n') (.gro 2 (Qdc T k l)) (.gro 2 (Qdc T' k l)):=by
  have hl:=Qjj (Qji (R:=Rn fun n n'=>ρ[n]? = some n') (T:=T) (T':=T') (fun a ha=>.plain a ha) (fun q=>.acc (by simpa using h) 64 2 _ (Qsh _)) k l)
  exact .gro 2 _ _ hl.1 (fun j x x' h1 h2=>(hl.2 j x x' h1 h2).length) fun j x x' h1 h2 i a a' hi hi'=>by
    obtain⟨b,hb,hr⟩:=(hl.2 j x x' h1 h2).get i a' hi'
    rw[hi] at hb;cases hb;exact hr
section
variable {ρ : List Nat} {T T' k : Nat} {l : List Qah} {h : Qah}
theorem Qgx (hr:(ρ[T']? == some T)=true):SPw (RW fun n n'=>ρ[n']? = some n) (.gro 2 (Qdc T k l)) (.gro 2 (Qdc T' k l)):=
  Qq7 (Qji (fun a ha=>.rn (.plain a ha)) (fun q=>.rn (Qef hr (Qsh _))) k l)
theorem Qsb:SPw (RW fun n n'=>ρ[n']? = some n) (.gro 2 (([]:List Qah).map Qaj)) (.gro 2 (Qdc T k [])):=by
  rw[Qjz k [] (Nat.zero_le _)]
  exact Qq7 trivial
theorem Qun (he:l.length=k) (hr:(ρ[T']? == some 5)=true) {u:Int}{s:List Qaf}:SPw (RW fun n n'=>ρ[n']? = some n) (.gro 2 (Qdc T k l++[[I u,(.acc 5 64 2 (s.map Qae))]])) (.gro 2 (Qdc T' k (l++[⟨u,s⟩]))):=by
  rw[Qrb k l he,Qjz k l (Nat.le_of_eq he)]
  exact Qq7 (Qn2 (Qn1 (fun a ha=>.rn (.plain a ha)) l) ⟨⟨.rn (.plain _ (.lit _)),.rn (Qef hr (Qsh _)),trivial⟩,trivial⟩)
theorem Qum (he:¬l.length=k) (hr:(ρ[T']? == some T)=true) {u:Int}{s:List Qaf}{n:Nat}:SPw (RW fun n n'=>ρ[n']? = some n) (.gro 2 (Qdc T k l++[[I u,(.acc n 64 2 (s.map Qae))]])) (.gro 2 (Qdc T' k (l++[⟨u,s⟩]))):=by
  rw[Qoy k l he]
  exact Qq7 (Qn2 (Qji (fun a ha=>.rn (.plain a ha)) (fun q=>.rn (Qef hr (Qsh _))) k l) ⟨⟨.rn (.plain _ (.lit _)),.dat _ _ _ _ (Qsh _),trivial⟩,trivial⟩)
end
section
variable {R : AV → AV → Prop} {k : Nat} {l : List Qah} {h : Qah}
theorem Qjd (hlt:k<l.length):tokT k l=.tok:=by
  unfold tokT
  rw[show Nat.ble l.length k=false from Bool.eq_false_iff.2 fun h=>by have:=Nat.le_of_ble_eq_true h;omega]
  rfl
theorem Qg7 (hle:l.length≤k):tokT k l=.unused:=by
  unfold tokT
  rw[Nat.ble_eq_true_of_le hle]
  rfl
theorem Qje:SPw R (tokT k l) (tokT k l):=by
  by_cases hlt:k<l.length
  · rw[Qjd hlt];exact .tok
  · rw[Qg7 (by omega)];exact .unused
theorem Qxj (hlt:k<l.length):SPw R (tokT k l) .tok:=by rw[Qjd hlt];exact .tok
theorem Qul:SPw R .unused (tokT k []):=by rw[Qg7 (Nat.zero_le _)];exact .unused
theorem Qxl (he:l.length=k):SPw R .tok (tokT k (l++[h])):=by rw[Qjd (by simp;omega)];exact .tok
theorem Qxk (he:¬l.length=k):SPw R (tokT k l) (tokT k (l++[h])):=by
  by_cases hlt:k<l.length
  · rw[Qjd hlt,Qjd (by simp;omega)];exact .tok
  · rw[Qg7 (by omega),Qg7 (by simp;omega)];exact .unused
end
theorem Qsy {P:Program}{o:Oper}{a:List Qah}{c:Qah→List AV}{h':Qah}{rows:List (List AV)}{row:List AV}{x y:Operand}{t e:TypeId}{m bytes:Nat}{n0 n:Nat}(h:o.op=.call { callee:=.builtin .append,args := #[x,y],argTypes := #[t,t] }) (ht:P.underlying t=some (.slice e)) (he:TE P e m bytes)
    (hl:rows.length=a.length) (h1:(row.all AV.one)=true) (hb:decide ((a.length+([h']:List Qah).length)*bytes≤140737488355328)=true) (hp:0<bytes) :
    Qb7 P o [(x,.gro n0 e m a.length),(y,.dat m [row])] [(n0,.gro m rows),(n,.unused)] (.gro n e m (a++[h']).length) [(n0,.dead),(n,.gro m (rows++[row]))]:=by
  have hb':=of_decide_eq_true hb
  have h2:=Nat.le_mul_of_pos_right (a.length+([h']:List Qah).length) hp
  simp only[List.length_cons,List.length_nil] at hb' h2
  exact Qnb (o:=o) (n0:=n0) (n:=n) (xs:=rows) (ys:=[row]) (len:=a.length) (L:=(a++[h']).length) h ht he hl rfl rfl (by simp) (by simpa using h1) (by rw[hl];simpa using hb') (by simp only[List.length_cons,List.length_nil,maxLen];omega) (by simp)
set_option maxRecDepth 100000 in
set_option maxHeartbeats 4000000 in
theorem Q1b (N:Nat) (p0:GDay) (r:(List Qah)) (h:Qee N p0=some r) (k:Nat) (hlt:k<r.length):Spec prog 21 [(.agg [(I (p0.Tank)),(I (p0.Start)),(Qzm p0)])] [] (.agg [(I (p0.Tank)),(I (p0.Start)),(.gro 1 62 2 (r.length))]) [(.own 3 [[(I (p0.Tank)),(I (p0.Start)),(.gro 1 62 2 (r.length))]]),(.gro 2 (Qdc 2 k r)),.tok]:=by
  refine sF func21 3 fun X φ0 w0 hφ0 hd0=>?_
  unfold Qee at h
  refine wxz<|wx tbk [(4,rp _ _)] ⟨Qa2 (vs:=[I p0.Tank,I p0.Start]) rfl ts57 tz57 rfl (by rfl) rfl,tv⟩ ?_
  obtain⟨k3,hk_k3,h⟩:=jko h
  refine wjn (τ:=(List Qah)) (fun t=>k3 t=some r) (fun y2=>⟨mk 64 [(2,.ref 0 3 0 0),(3,.ref 1 3 0 0)],[Qe8,(.own 3 [[I p0.Tank,I p0.Start,(.gro 2 62 2 (y2.length))]]),(.gro 2 (Qdc 3 k y2)),(tokT k y2)]⟩) (fun y2 h=>?_) ?_
  ·subst hk_k3
   obtain rfl:=osi h
   refine wxz<|wmr (mto (n:=64) (l':=[(2,.ref 0 3 0 0)]) (own':=[(.own 3 [[I p0.Tank,I p0.Start,(.gro 1 62 2 (y2.length))]]),(.gro 2 (Qdc 2 k y2)),.tok]) [(2,.ref 0 3 0 0)] [0,2,3] [(.own 3 [[I p0.Tank,I p0.Start,(.gro 2 62 2 (y2.length))]]),(.gro 2 (Qdc 3 k y2)),(tokT k y2)] hφ0 (prr pn) (qb (lcc (lc (.rn (Qd9 rfl)) ln)) (qc (Qgx rfl) (qc (Qxj hlt) qn))))<|Qal ?_
   exact⟨_,Mor.rfl,fio [(.agg [I p0.Tank,I p0.Start,(.gro 1 62 2 (y2.length))])] ⟨Qeo (n:=0) (m:=3) (j:=0) (i:=0) (xs:=[[I p0.Tank,I p0.Start,(.gro 1 62 2 (y2.length))]]) (by kernel_rfl) (by kernel_rfl) ti57 (by decide) rfl (nle rfl) rfl,tv⟩⟩
  ·skip
   refine wxz<|Qai ?_
   refine wmr (Mor.trans (Qo9 (n:=3) (ty:=62) (m:=2) (q:=2) (mq:=3) (c:=[I p0.Tank,I p0.Start,nilS]) 2 (by kernel_rfl) (by kernel_rfl) (by kernel_rfl) (by decide)) (mto (n:=64) (l':=[(1,.ref 0 3 0 0),(2,.ref 1 3 0 0),(3,.ref 2 3 0 0),(4,I 0)]) (own':=[(Qf2 p0),Qe8,(Qnh p0),(.gro 2 (Qdc 4 k [])),(tokT k [])]) [(1,.ref 0 3 0 0),(2,.ref 1 3 0 0),(3,.ref 2 3 0 0),(4,I 0)] [0,1,2,3,4] [(Qf2 p0),Qe8,(Qnh p0),Qp1,.unused] hφ0 (prr (prr (prr (pw pn)))) (qb (lcc (lc (rnd Qac) ln)) (qb (lcc (lc rwl ln)) (qb (lcc (lc (.rn (Qd9 rfl)) ln)) (qc Qsb (qc Qul qn))))))) ?_
   refine Qb1 (τ:=Int×(List Qah)) (fun n t=>Qbx N p0 k3 n t.1 t.2=some r) (fun ⟨y4,y5⟩=>⟨mk 64 [(1,.ref 0 3 0 0),(2,.ref 1 3 0 0),(3,.ref 2 3 0 0),(4,I y4)],[(Qf2 p0),Qe8,(Qjs p0 y5),(.gro 2 (Qdc 4 k y5)),(tokT k y5)]⟩) (fun t h=>by rw[Qbx] at h;cases h) (fun n8 ih t h=>?_) N (0,([]:List Qah)) h
   obtain⟨y4,y5⟩:=t
   rw[Qbx] at h
   skip
   refine wsq<|wx tbk [(3,rp _ _)] ⟨alq 2 Qaj p0.Hours underlying47,tv⟩ ?_
   refine bfe h (fun hc9 h=>?_) fun hc9 h=>?_
   ·refine wft hc9<|Qak<|thn ?_
    obtain⟨k11,hk_k11,h⟩:=jko h
    refine wjn (τ:=(List Qah)) (fun t=>k11 t=some r) (fun y10=>⟨mk 64 [(1,.ref 0 3 0 0),(2,.ref 1 3 0 0),(3,.ref 2 3 0 0),(4,I y4)],[(Qf2 p0),Qe8,(.own 3 [[I p0.Tank,I p0.Start,(.gro 3 62 2 (y10.length))]]),(.gro 2 (Qdc 4 k y10)),(tokT k y10)]⟩) (fun y10 h=>?_) ?_
    ·subst hk_k11
     exact wxz1<|thn<|arm (mto (n:=64) [(1,.ref 0 3 0 0),(2,.ref 1 3 0 0),(3,.ref 2 3 0 0),(4,(I (w64 (y4+1))))] [0,1,2,3,4] [(Qf2 p0),Qe8,(.own 3 [[I p0.Tank,I p0.Start,(.gro 3 62 2 (y10.length))]]),(.gro 2 (Qdc 4 k y10)),(tokT k y10)] hφ0 (prr (prr (prr (pw pn)))) (qb (lcc (lc (rnd Qac) ln)) (qb (lcc (lc rwl ln)) (qb (lcc (lc (.rn (Qd9 rfl)) ln)) (qc (Qgx rfl) (qc Qje qn)))))) (ih (w64 (y4+1),y10) h)
    ·skip
     refine Qai ?_
     obtain⟨x12,hg13,h⟩:=bno h
     obtain⟨hi14,hj15⟩:=gsm hg13
     refine wx tbk [(3,rp _ _),(6,rp _ _)] ⟨aiq underlying47 Qkt Qaj hi14 hj15,Qa2 (vs:=[I x12.Use]) rfl ts62 tz62 rfl (by rfl) rfl,tv⟩ ?_
     obtain⟨k18,hk_k18,h⟩:=jko h
     refine wjn (τ:=(List Qaf)×(List Qah)) (fun t=>k18 t=some r) (fun ⟨y16,y17⟩=>⟨mk 64 [(1,.ref 0 3 0 0),(2,.ref 1 3 0 0),(3,.ref 2 3 0 0),(4,I y4),(5,.ref 3 2 0 0)],[(Qf2 p0),Qe8,(.own 3 [[I p0.Tank,I p0.Start,(.gro 4 62 2 (y17.length))]]),(.own 2 [[I x12.Use,(Qgq y16)]]),(.gro 2 (Qdc 6 k y17)),.tok,(tokT k y17)]⟩) (fun t h=>?_) ?_
     ·subst hk_k18
      obtain⟨y16,y17⟩:=t
      obtain⟨ha19,h⟩:=cko h
      refine wx1 tbk [(3,rp [(.tmp 59,(.agg [I x12.Use,(Qgq y16)]))] (.dat 2 [[I x12.Use,(Qgq y16)]])),(4,⟨[(.tmp 58,(.gro 4 62 2 (y17.length))),(.tmp 60,(.dat 2 [[I x12.Use,(Qgq y16)]]))],[(4,(.gro 2 (Qdc 6 k y17))),(7,.unused)],(.gro 7 62 2 ((y17++[(⟨x12.Use,y16⟩:Qah)]).length)),[(4,.dead),(7,(.gro 2 (Qdc 6 k y17++[[I x12.Use,(Qgq y16)]])))],false⟩)] ?_ ?_
      ·exact⟨Qb4 (vs:=[(.agg [I x12.Use,(Qgq y16)])]) rfl underlying55 ti62 tz62 rfl (by decide) rfl (by decide) (by rfl) (by rfl) (by rfl) rfl,Qsy (c:=Qaj) (h':=(⟨x12.Use,y16⟩:Qah)) rfl underlying55 te62 (Qlk k y17) rfl ha19 (by decide),tv⟩
      by_cases he:y17.length=k
      ·exact bln<|thn<|⟨(y17++[(⟨x12.Use,y16⟩:Qah)]),h,(mto (n:=64) [(1,.ref 0 3 0 0),(2,.ref 1 3 0 0),(3,.ref 2 3 0 0),(4,I y4)] [0,1,2,7,5] [(Qf2 p0),Qe8,(.own 3 [[I p0.Tank,I p0.Start,(.gro 7 62 2 ((y17++[(⟨x12.Use,y16⟩:Qah)]).length))]]),(.gro 2 (Qdc 6 k y17++[[I x12.Use,(Qgq y16)]])),.tok] hφ0 (prr (prr (prr (pw pn)))) (qb (lcc (lc (rnd Qac) ln)) (qb (lcc (lc rwl ln)) (qb (lcc (lc (.rn (Qd9 rfl)) ln)) (qc (Qun he rfl) (qc (Qxl he) qn))))))⟩
      ·exact bln<|thn<|⟨(y17++[(⟨x12.Use,y16⟩:Qah)]),h,(mto (n:=64) [(1,.ref 0 3 0 0),(2,.ref 1 3 0 0),(3,.ref 2 3 0 0),(4,I y4)] [0,1,2,7,6] [(Qf2 p0),Qe8,(.own 3 [[I p0.Tank,I p0.Start,(.gro 7 62 2 ((y17++[(⟨x12.Use,y16⟩:Qah)]).length))]]),(.gro 2 (Qdc 6 k y17++[[I x12.Use,(Qgq y16)]])),(tokT k y17)] hφ0 (prr (prr (prr (pw pn)))) (qb (lcc (lc (rnd Qac) ln)) (qb (lcc (lc rwl ln)) (qb (lcc (lc (.rn (Qd9 rfl)) ln)) (qc (Qum he rfl) (qc (Qxk he) qn))))))⟩
     ·skip
      refine wxz<|Qai ?_
      refine wmr (Mor.trans (Qkw (n:=6) (ty:=64) (m:=2) (q:=5) (mq:=2) (c:=[I x12.Use,nilS]) 1 (by kernel_rfl) (by kernel_rfl) (by kernel_rfl) (by decide)) (mto (n:=64) (l':=[(1,.ref 0 3 0 0),(2,.ref 1 3 0 0),(3,.ref 2 3 0 0),(4,I y4),(5,.ref 3 2 0 0),(6,I 0)]) (own':=[(Qf2 p0),Qe8,(.own 3 [[I p0.Tank,I p0.Start,(.gro 4 62 2 (y5.length))]]),(.own 2 [[I x12.Use,Qs8]]),(.gro 2 (Qdc 6 k y5)),.tok,(tokT k y5)]) [(1,.ref 0 3 0 0),(2,.ref 1 3 0 0),(3,.ref 2 3 0 0),(4,I y4),(5,.ref 5 2 0 0),(6,I 0)] [0,1,2,5,3,6,4] [(Qf2 p0),Qe8,(Qjs p0 y5),(.own 2 [[I x12.Use,(.acc 6 64 2 (([]:List Qaf).map Qae))]]),(.gro 2 (Qdc 4 k y5)),.tok,(tokT k y5)] hφ0 (prr (prr (prr (pw (prr (pw pn)))))) (qb (lcc (lc (rnd Qac) ln)) (qb (lcc (lc rwl ln)) (qb (lcc (lc (.rn (Qd9 rfl)) ln)) (qb (lc rwl (lc (.rn (Qef rfl (Qdv Qa0 _))) ln)) (qc (Qgx rfl) (qc .tok (qc Qje qn))))))))) ?_
      refine Qb1 (τ:=Int×(List Qaf)×(List Qah)) (fun n t=>Qb8 N x12 k18 n t.1 t.2.1 t.2.2=some r) (fun ⟨y20,y21,y22⟩=>⟨mk 64 [(1,.ref 0 3 0 0),(2,.ref 1 3 0 0),(3,.ref 2 3 0 0),(4,I y4),(5,.ref 3 2 0 0),(6,I y20)],[(Qf2 p0),Qe8,(Qjr p0 y22),(.own 2 [[I x12.Use,(.acc 5 64 2 (y21.map Qae))]]),(.gro 2 (Qdc 6 k y22)),.tok,(tokT k y22)]⟩) (fun t h=>by rw[Qb8] at h;cases h) (fun n26 ih t h=>?_) N (0,[],y5) h
      obtain⟨y20,y21,y22⟩:=t
      rw[Qb8] at h
      skip
      refine wsq<|wx tbk [(4,rp _ _),(7,rp _ _)] ⟨aiq underlying47 Qkt Qaj hi14 hj15,alq 2 Qae x12.Stairs underlying120,tv⟩ ?_
      refine bfe h (fun hc27 h=>?_) fun hc27 h=>?_
      ·refine wft hc27<|Qak<|thn<|wsq<|Qai ?_
       obtain⟨x28,hg29,h⟩:=bno h
       obtain⟨hi30,hj31⟩:=gsm hg29
       refine wx tbk [(3,rp _ _),(7,rp _ _)] ⟨aiq underlying47 Qkt Qaj hi14 hj15,aiq underlying120 Qr5 Qae hi30 hj31,tv⟩ ?_
       obtain⟨ha32,h⟩:=cko h
       refine wx1 tbk [(6,rp _ _),(7,rp [(.tmp 53,(Qng x28))] (.dat 2 (([x28]:List Qaf).map Qae))),(8,⟨[(.tmp 48,(.acc 5 64 2 (y21.map Qae))),(.tmp 54,(.dat 2 (([x28]:List Qaf).map Qae)))],[(5,.tok),(8,.unused)],(.acc 8 64 2 ((y21++([x28]):List Qaf).map Qae)),[(5,.dead),(8,.tok)],false⟩)] ⟨Qa2 (vs:=[I x28.Amount,I x28.Price]) rfl ts64 tz64 rfl (by rfl) rfl,Qb4 (vs:=[(Qng x28)]) rfl underlying60 ti64 tz64 rfl (by decide) rfl (by decide) (by rfl) (by rfl) (by rfl) rfl,Qg4 rfl underlying60 te64 (Base.acc _ _) rfl rfl (by rfl) (Qkd Qae ha32) (Qkc Qae ha32 (by decide)) (Qkb Qae) rfl rfl,tv⟩<|bln<|thn<|wxz1<|thn ?_
       exact arm (mto (n:=64) [(1,.ref 0 3 0 0),(2,.ref 1 3 0 0),(3,.ref 2 3 0 0),(4,I y4),(5,.ref 3 2 0 0),(6,(I (w64 (y20+1))))] [0,1,2,3,4,8,6] [(Qf2 p0),Qe8,(Qjr p0 y22),(.own 2 [[I x12.Use,(.acc 8 64 2 ((y21++([x28]):List Qaf).map Qae))]]),(.gro 2 (Qdc 6 k y22)),.tok,(tokT k y22)] hφ0 (prr (prr (prr (pw (prr (pw pn)))))) (qb (lcc (lc (rnd Qac) ln)) (qb (lcc (lc rwl ln)) (qb (lcc (lc (.rn (Qd9 rfl)) ln)) (qb (lc rwl (lc (.rn (Qef rfl (Qdv Qa0 _))) ln)) (qc (Qgx rfl) (qc .tok (qc Qje qn)))))))) (ih (w64 (y20+1),y21++([x28]),y22) h)
      ·exact wfn hc27<|Qaz<|Qao<|Qao<|Qay rfl<|thn<|⟨(y21,y22),h,(mto (n:=64) [(1,.ref 0 3 0 0),(2,.ref 1 3 0 0),(3,.ref 2 3 0 0),(4,I y4),(5,.ref 3 2 0 0)] [0,1,2,3,4,5,6] [(Qf2 p0),Qe8,(Qjr p0 y22),(.own 2 [[I x12.Use,(.acc 5 64 2 (y21.map Qae))]]),(.gro 2 (Qdc 6 k y22)),.tok,(tokT k y22)] hφ0 (prr (prr (prr (pw (prr pn))))) (qb (lcc (lc (rnd Qac) ln)) (qb (lcc (lc rwl ln)) (qb (lcc (lc (.rn (Qd9 rfl)) ln)) (qb (lc rwl (lc (.rn (Qef rfl (Qdv Qa0 _))) ln)) (qc (Qgx rfl) (qc .tok (qc Qje qn))))))))⟩
   ·exact wfn hc9<|Qaz<|Qao<|Qao<|Qay rfl<|thn<|⟨(y5),h,(mto (n:=64) [(2,.ref 1 3 0 0),(3,.ref 2 3 0 0)] [1,2,3,4] [Qe8,(Qjs p0 y5),(.gro 2 (Qdc 4 k y5)),(tokT k y5)] hφ0 (prr (prr pn)) (qb (lcc (lc rwl ln)) (qb (lcc (lc (.rn (Qd9 rfl)) ln)) (qc (Qgx rfl) (qc Qje qn)))))⟩
end
section
def Qe3 (N:Nat) (p0:GDay) (p1 p2:Int) (p3 p4:Int):Option Bool:=
  (Qgz N p0).bind fun x2=>
  bif (!x2) then
   (Qc9 2000 ).bind fun x5=>
   some x5
  else
   (Qew N p0).bind fun x7=>
   bif (!x7) then
    (Qc9 2000 ).bind fun x10=>
    some x10
   else
    (Qg0 N p0).bind fun x12=>
    (Qbi N x12).bind fun x14=>
    bif (x14.2.2.2 != 0) then
     bif (x14.2.2.2==7) then
      (Qc9 2000 ).bind fun x18=>
      some x18
     else
      some false
    else
     (Qee N p0).bind fun x20=>
     (some (if (w64 (p0.Tank+(w64 p1)))<1000000000 then w64 (p0.Tank+(w64 p1)) else 1000000000)).bind fun x21=>
     chk (!x20.isEmpty)<|
     chk (decide (x20.length≤x20.length))<|
     (Qbi N (⟨x21,p0.Start,x20.take x20.length⟩:GDay)).bind fun x26=>
     bif (x26.2.2.2 != 0) then
      some false
     else
      bif (decide (x26.2.2.1>x14.2.2.1)) then
       some false
      else
       (Qee N p0).bind fun x30=>
       chk (decide (((w64 p2).tmod ((x30.length:Nat):Int)).toNat<x30.length))<|
       chk (((x30.length:Nat):Int) != 0)<|
       chk (!x30.isEmpty)<|
       chk (decide (0≤(w64 p2).tmod ((x30.length:Nat):Int))&&decide (((w64 p2).tmod ((x30.length:Nat):Int)).toNat<x30.length))<|
       (x30[((w64 p2).tmod ((x30.length:Nat):Int)).toNat]?).bind fun x35=>
       (some (x35.Stairs.length:Int)).bind fun x37=>
       bif (decide (x37>0)) then
        (x30[((w64 p2).tmod ((x30.length:Nat):Int)).toNat]?).bind fun x40=>
        (getI x40.Stairs (w64 (x37-1))).bind fun x42=>
        (x30[((w64 p2).tmod ((x30.length:Nat):Int)).toNat]?).bind fun x46=>
        bif ((x46.Stairs.length:Int)==6) then
         (Qc9 2000 ).bind fun x50=>
         some x50
        else
         bif (decide ((w64 ((w64 (x42.Price+1))+((w64 p4).tmod 20)))>1000)) then
          (Qc9 2000 ).bind fun x53=>
          some x53
         else
          (x30[((w64 p2).tmod ((x30.length:Nat):Int)).toNat]?).bind fun x54=>
          chk (decide ((x54.Stairs.length+([(⟨w64 (1+(w64 p3)),w64 ((w64 (x42.Price+1))+((w64 p4).tmod 20))⟩:Qaf)]).length)*16≤140737488355328))<|
          (x30[((w64 p2).tmod ((x30.length:Nat):Int)).toNat]?).bind fun x57=>
          chk (!(x30.set (((w64 p2).tmod ((x30.length:Nat):Int)).toNat) (⟨x57.Use,x54.Stairs++([(⟨w64 (1+(w64 p3)),w64 ((w64 (x42.Price+1))+((w64 p4).tmod 20))⟩:Qaf)])⟩:Qah)).isEmpty)<|
          chk (decide (x30.length≤(x30.set (((w64 p2).tmod ((x30.length:Nat):Int)).toNat) (⟨x57.Use,x54.Stairs++([(⟨w64 (1+(w64 p3)),w64 ((w64 (x42.Price+1))+((w64 p4).tmod 20))⟩:Qaf)])⟩:Qah)).length))<|
          (Qbi N (⟨p0.Tank,p0.Start,(x30.set (((w64 p2).tmod ((x30.length:Nat):Int)).toNat) (⟨x57.Use,x54.Stairs++([(⟨w64 (1+(w64 p3)),w64 ((w64 (x42.Price+1))+((w64 p4).tmod 20))⟩:Qaf)])⟩:Qah)).take x30.length⟩:GDay)).bind fun x62=>
          bif (x62.2.2.2==0) then
           bif (decide (x62.2.2.1≤x14.2.2.1)) then
            (Qc9 2000 ).bind fun x66=>
            some x66
           else
            some false
          else
           some false
       else
        (x30[((w64 p2).tmod ((x30.length:Nat):Int)).toNat]?).bind fun x67=>
        bif ((x67.Stairs.length:Int)==6) then
         (Qc9 2000 ).bind fun x71=>
         some x71
        else
         bif (decide ((w64 (0+((w64 p4).tmod 20)))>1000)) then
          (Qc9 2000 ).bind fun x74=>
          some x74
         else
          (x30[((w64 p2).tmod ((x30.length:Nat):Int)).toNat]?).bind fun x75=>
          chk (decide ((x75.Stairs.length+([(⟨w64 (1+(w64 p3)),w64 (0+((w64 p4).tmod 20))⟩:Qaf)]).length)*16≤140737488355328))<|
          (x30[((w64 p2).tmod ((x30.length:Nat):Int)).toNat]?).bind fun x78=>
          chk (!(x30.set (((w64 p2).tmod ((x30.length:Nat):Int)).toNat) (⟨x78.Use,x75.Stairs++([(⟨w64 (1+(w64 p3)),w64 (0+((w64 p4).tmod 20))⟩:Qaf)])⟩:Qah)).isEmpty)<|
          chk (decide (x30.length≤(x30.set (((w64 p2).tmod ((x30.length:Nat):Int)).toNat) (⟨x78.Use,x75.Stairs++([(⟨w64 (1+(w64 p3)),w64 (0+((w64 p4).tmod 20))⟩:Qaf)])⟩:Qah)).length))<|
          (Qbi N (⟨p0.Tank,p0.Start,(x30.set (((w64 p2).tmod ((x30.length:Nat):Int)).toNat) (⟨x78.Use,x75.Stairs++([(⟨w64 (1+(w64 p3)),w64 (0+((w64 p4).tmod 20))⟩:Qaf)])⟩:Qah)).take x30.length⟩:GDay)).bind fun x83=>
          bif (x83.2.2.2==0) then
           bif (decide (x83.2.2.1≤x14.2.2.1)) then
            (Qc9 2000 ).bind fun x87=>
            some x87
           else
            some false
          else
           some false
def Qwp (p0:GDay):AV:=.agg [(I p0.Tank),(I p0.Start),(.dat 2 (p0.Hours.map Qaj))]
def Qs6 (p0:GDay) (x2:Bool):List (Nat×Rec):=[(1,rp [fu 17,((.tmp 27),(Qwp p0))] (B x2))]
def Qs7 (p0:GDay) (x30:List Qah):AV:=.agg [(I p0.Tank),(I p0.Start),(.gro 5 62 2 x30.length)]
def Qec (p2:Int) (x30:List Qah):Slot:=.gro 2 (Qdc 6 (((w64 p2).tmod ((x30.length:Nat):Int)).toNat) x30)
def Qei (p2:Int) (x30:List Qah):Slot:=.own 2 (Qdc 6 (((w64 p2).tmod ((x30.length:Nat):Int)).toNat) x30)
def Qy6 (p3:Int) (x42:Qaf) (p4:Int):AV:=.agg [(I (w64 (1+(w64 p3)))),(I (w64 ((w64 (x42.Price+1))+((w64 p4).tmod 20))))]
def Qs5 (p2:Int) (x30:List Qah) (x46:Qah):List (Nat×Rec):=[(1,rb [((.tmp 111),(.ref 5 2 (((w64 p2).tmod ((x30.length:Nat):Int)).toNat) 0))] [(5,(Qec p2 x30))] (.ref 5 2 (((w64 p2).tmod ((x30.length:Nat):Int)).toNat) 0)),(2,rb [((.tmp 112),(.ref 5 2 (((w64 p2).tmod ((x30.length:Nat):Int)).toNat) 0))] [(5,(Qec p2 x30))] (.ref 5 2 (((w64 p2).tmod ((x30.length:Nat):Int)).toNat) 1)),(3,rb [((.tmp 113),(.ref 5 2 (((w64 p2).tmod ((x30.length:Nat):Int)).toNat) 1))] [(5,(Qec p2 x30))] (.acc 6 64 2 (x46.Stairs.map Qae))),(4,rp [((.tmp 114),(.acc 6 64 2 (x46.Stairs.map Qae)))] (I ((x46.Stairs.length:Int))))]
def Qy5 (p3:Int) (x42:Qaf) (p4:Int):AV:=.dat 2 (([(⟨w64 (1+(w64 p3)),w64 ((w64 (x42.Price+1))+((w64 p4).tmod 20))⟩:Qaf)]:List Qaf).map Qae)
def Qy4 (x54:Qah) (p3:Int) (x42:Qaf) (p4:Int):AV:=.acc 9 64 2 ((x54.Stairs++([(⟨w64 (1+(w64 p3)),w64 ((w64 (x42.Price+1))+((w64 p4).tmod 20))⟩:Qaf)]):List Qaf).map Qae)
def Qy3 (x30:List Qah) (p2:Int) (x57 x54:Qah) (p3:Int) (x42:Qaf) (p4:Int):Slot:=.gro 2 ((x30.set (((w64 p2).tmod ((x30.length:Nat):Int)).toNat) (⟨x57.Use,x54.Stairs++([(⟨w64 (1+(w64 p3)),w64 ((w64 (x42.Price+1))+((w64 p4).tmod 20))⟩:Qaf)])⟩:Qah):List Qah).map Qaj)
def Q1m (x30:List Qah) (p2:Int) (x57 x54:Qah) (p3:Int) (x42:Qaf) (p4:Int):AV:=.dat 2 (((x30.set (((w64 p2).tmod ((x30.length:Nat):Int)).toNat) (⟨x57.Use,x54.Stairs++([(⟨w64 (1+(w64 p3)),w64 ((w64 (x42.Price+1))+((w64 p4).tmod 20))⟩:Qaf)])⟩:Qah)).take x30.length:List Qah).map Qaj)
def Qy2 (p3 p4:Int):AV:=.agg [(I (w64 (1+(w64 p3)))),(I (w64 (0+((w64 p4).tmod 20))))]
def Qs4 (p2:Int) (x30:List Qah) (x67:Qah):List (Nat×Rec):=[(1,rb [((.tmp 111),(.ref 5 2 (((w64 p2).tmod ((x30.length:Nat):Int)).toNat) 0))] [(5,(Qec p2 x30))] (.ref 5 2 (((w64 p2).tmod ((x30.length:Nat):Int)).toNat) 0)),(2,rb [((.tmp 112),(.ref 5 2 (((w64 p2).tmod ((x30.length:Nat):Int)).toNat) 0))] [(5,(Qec p2 x30))] (.ref 5 2 (((w64 p2).tmod ((x30.length:Nat):Int)).toNat) 1)),(3,rb [((.tmp 113),(.ref 5 2 (((w64 p2).tmod ((x30.length:Nat):Int)).toNat) 1))] [(5,(Qec p2 x30))] (.acc 6 64 2 (x67.Stairs.map Qae))),(4,rp [((.tmp 114),(.acc 6 64 2 (x67.Stairs.map Qae)))] (I ((x67.Stairs.length:Int))))]
def Qy1 (p3 p4:Int):AV:=.dat 2 (([(⟨w64 (1+(w64 p3)),w64 (0+((w64 p4).tmod 20))⟩:Qaf)]:List Qaf).map Qae)
def Qy0 (x75:Qah) (p3 p4:Int):AV:=.acc 9 64 2 ((x75.Stairs++([(⟨w64 (1+(w64 p3)),w64 (0+((w64 p4).tmod 20))⟩:Qaf)]):List Qaf).map Qae)
def Qyz (x30:List Qah) (p2:Int) (x78 x75:Qah) (p3 p4:Int):Slot:=.gro 2 ((x30.set (((w64 p2).tmod ((x30.length:Nat):Int)).toNat) (⟨x78.Use,x75.Stairs++([(⟨w64 (1+(w64 p3)),w64 (0+((w64 p4).tmod 20))⟩:Qaf)])⟩:Qah):List Qah).map Qaj)
def Q1l (x30:List Qah) (p2:Int) (x78 x75:Qah) (p3 p4:Int):AV:=.dat 2 (((x30.set (((w64 p2).tmod ((x30.length:Nat):Int)).toNat) (⟨x78.Use,x75.Stairs++([(⟨w64 (1+(w64 p3)),w64 (0+((w64 p4).tmod 20))⟩:Qaf)])⟩:Qah)).take x30.length:List Qah).map Qaj)
theorem Qi0 (N:Nat) (p0:GDay) (p1 p2:Int) (p3 p4:Int) (r:Bool) (h:Qe3 N p0 p1 p2 p3 p4=some r):Spec prog 4 [(.agg (Qhm p0)),(K .u32 p1),(K .u8 p2),(K .u16 p3),(K .u16 p4)] [] (B r) []:=by
  refine sA func4 0 fun _ _ _ hq hd0=>?_
  unfold Qe3 at h
  refine wxz<|wsq ?_
  obtain⟨x2,hf1,h⟩:=bno h
  refine hpre (A:=(Qs6 p0 x2)) ⟨apv Q1a (Qn5 N p0 _ hf1) (nlc (NLt.agg _ (nlcc (nlc (nld Qac _) nl0))) nl0) nll,tv⟩ fun q1_=>?_
  refine bfe h (fun hb3 h=>?_) fun hb3 h=>?_
  ·refine wx tbk (hcat (Qs6 p0 x2) [(3,rp [(.tmp 29,(B ((!x2))))] (B true))]) (hap q1_ ⟨asb hb3 (amv rfl),tv⟩)<|wtr ?_
   obtain⟨x5,hf4,h⟩:=bno h
   exact wx tbk [(0,rp _ _)] ⟨apw Qhh (Qc8 2000  _ hf4),tv⟩<|Qal<|Qam<|frb h
  ·obtain⟨x7,hf6,h⟩:=bno h
   refine wx tbk (hcat (Qs6 p0 x2) [(3,rp [(.tmp 29,(B ((!x2))))] (B false)),(5,rp [(.tmp 30,B false),fu 18,(.tmp 31,(Qwp p0))] (B x7))]) (hap q1_ ⟨asb hb3 (amv rfl),ag_ (apv Q09 (Qjf N p0 _ hf6) (nlc (NLt.agg _ (nlcc (nlc (nld Qac _) nl0))) nl0) nll),tv⟩) ?_
   refine bfe h (fun hc8 h=>?_) fun hc8 h=>?_
   ·refine wft hc8 ?_
    obtain⟨x10,hf9,h⟩:=bno h
    exact wx tbk [(0,rp _ _)] ⟨apw Qhh (Qc8 2000  _ hf9),tv⟩<|Qal<|Qam<|frb h
   ·refine wfn hc8<|Qak<|thn ?_
    obtain⟨x12,hf11,h⟩:=bno h
    obtain⟨x14,hf13,h⟩:=bno h
    refine wx tbk [(1,rp _ _),(2,rp _ _)] ⟨apw Qqj (Qn6 N p0 _ hf11),apw Ql0 (Qd5 N x12 _ hf13),tv⟩<|wsq<|wxz ?_
    refine bfe h (fun hc15 h=>?_) fun hc15 h=>?_
    ·refine wft hc15 ?_
     refine bfe h (fun hb16 h=>?_) fun hb16 h=>?_
     ·obtain⟨x18,hf17,h⟩:=bno h
      exact wx tbk [(2,rp [(.tmp 47,(B ((x14.2.2.2==7))))] (B true)),(3,rp [(.tmp 48,B true),fu 19] (B x18))] ⟨asb hb16 (amv rfl),ag_ (apv Qhh (Qc8 2000  _ hf17) nl0 nll),tv⟩<|Qal<|Qam<|frb h
     ·exact wx tbk [(2,rp [(.tmp 47,(B ((x14.2.2.2==7))))] (B false))] ⟨asb hb16 (amv rfl),tv⟩<|Qal<|Qam<|frb h
    ·refine wfn hc15<|Qak<|thn ?_
     obtain⟨x20,hf19,h⟩:=bno h
     refine wx tbk [(1,⟨_,_,_,_,false⟩)] ⟨acq [(Qwp p0)] [] [(.own 3 [[I p0.Tank,I p0.Start,(.gro 2 62 2 x20.length)]]),(.gro 2 (x20.map Qaj))] (.agg [I p0.Tank,I p0.Start,(.gro 2 62 2 x20.length)]) [1,2] Qqj (Qlt N p0 _ hf19) (Qcv (rnc (.plain _ (NLt.agg _ (nlcc (nlc (nld Qac _) nl0)))) rn0)) Qaq (slc (Qan (rncc (rnc (Qnt rfl) rn0))) (slc (Qxi Qac) Qaq)) (Qcv (rncc (rnc (Qnt rfl) rn0))),tv⟩ ?_
     obtain⟨x21,hl22,h⟩:=bno h
     refine wx tbk [(3,rp [(.tmp 55,(K .u32 p1))] (I (w64 p1))),(5,rp [ci 1000000000,(.tmp 57,(I (w64 (p0.Tank+(w64 p1)))))] (I x21))] ⟨acv rfl (by rw[underlying50];rfl) underlying3,Qeb hl22 (Qg2 rfl),tv⟩ ?_
     obtain⟨hz23,h⟩:=cko h
     obtain⟨hz24,h⟩:=cko h
     obtain⟨x26,hf25,h⟩:=bno h
     refine wx tbk [(1,rb [fu 20,(.tmp 61,(.agg [I x21,I p0.Start,(.gro 2 62 2 x20.length)]))] [(2,(.gro 2 (x20.map Qaj)))] (.tup [.any,.any,I x26.2.2.1,I x26.2.2.2]))] ⟨Qa1 (bl':=[(2,(.own 2 (x20.map Qaj)))]) ⟨rfl,SLess.gro (Qex hz23),tv⟩ (awk (rd':=[fu 20,(.tmp 61,(.agg [I x21,I p0.Start,(.own 2 2 (0) x20.length)]))]) ⟨rfl,lrf,rfl,(Less.agg ⟨lrf,lrf,Less.gro,tv⟩),tv⟩ (Qfl (rd':=[fu 20,(.tmp 61,(.agg [I x21,I p0.Start,(.dat 2 ((x20.take x20.length:List Qah).map Qaj))]))]) [(2,2,x20.map Qaj)] ⟨rfl,.same _,rfl,(Qvy ⟨(.same _),(.same _),(Qj7 0 rfl hz24),tv⟩),tv⟩ (by rfl) (.tup _ (Qdy .any (Qdy .any (Qdy (.lit _) (Qdy (.lit _) Qlv))))) Qlh (Qi1 (r:=(.tup [(.dat 1 (x26.1.map Qaa)),(.dat 1 (x26.2.1.map Qaa)),I x26.2.2.1,I x26.2.2.2])) (Less.tup ⟨Less.any,Less.any,lrf,lrf,tv⟩) (apv Ql0 (Qd5 N (⟨x21,p0.Start,x20.take x20.length⟩:GDay) _ hf25) (nlc (NLt.agg _ (nlcc (nlc (nld Qac _) nl0))) nl0) (NLt.tup _ (nlc (nld Qab _) (nlc (nld Qab _) (nlcc nl0)))))))),tv⟩<|wsq ?_
     refine bfe h (fun hb27 h=>?_) fun hb27 h=>?_
     ·exact wx tbk [(2,rp [(.tmp 68,(B ((x26.2.2.2 != 0))))] (B true))] ⟨asb hb27 (amv rfl),tv⟩<|wtr<|wxz<|Qal<|Qam<|frb h
     ·refine wx tbk [(2,rp [(.tmp 68,(B ((x26.2.2.2 != 0))))] (B false))] ⟨asb hb27 (amv rfl),tv⟩ ?_
      refine bfe h (fun hc28 h=>?_) fun hc28 h=>?_
      ·exact wft hc28<|wxz<|Qal<|Qam<|frb h
      ·refine wfn hc28<|Qak<|thn ?_
       obtain⟨x30,hf29,h⟩:=bno h
       obtain⟨hk31,h⟩:=cko h
       refine wx tbk [(1,⟨_,_,_,_,false⟩)] ⟨acq [(Qwp p0)] [] [(.own 3 [[I p0.Tank,I p0.Start,(.gro 5 62 2 x30.length)]]),(Qec p2 x30),.tok] (Qs7 p0 x30) [4,5,6] Qqj (Q1b N p0 _ hf29 (((w64 p2).tmod ((x30.length:Nat):Int)).toNat) (of_decide_eq_true hk31)) (Qcv (rnc (.plain _ (NLt.agg _ (nlcc (nlc (nld Qac _) nl0)))) rn0)) Qaq (slc (Qan (rncc (rnc (Qnt rfl) rn0))) (slc (Quk rfl) (slc .tok Qaq))) (Qcv (rncc (rnc (Qnt rfl) rn0))),tv⟩ ?_
       obtain⟨hz32,h⟩:=cko h
       obtain⟨hz33,h⟩:=cko h
       obtain⟨hi34,h⟩:=cko h
       obtain⟨hi34a,hi34b⟩:=Qaw hi34
       refine wxd tbk [(3,rp [(.tmp 78,(K .u8 p2))] (I (w64 p2))),(6,rp [(.tmp 81,(.gro 5 62 2 x30.length))] (I (((x30.length:Nat):Int)))),(7,rp [(.tmp 79,I (w64 p2)),(.tmp 82,(I (((x30.length:Nat):Int))))] (I ((w64 p2).tmod ((x30.length:Nat):Int)))),(8,rb [(.tmp 77,(.gro 5 62 2 x30.length)),(.tmp 83,(I ((w64 p2).tmod ((x30.length:Nat):Int))))] [(5,(Qec p2 x30))] (.ref 5 2 (((w64 p2).tmod ((x30.length:Nat):Int)).toNat) 0))] ⟨acv rfl (by rw[underlying5];rfl) underlying3,aln rfl underlying55 rfl,Ql7 rfl (Qqm hz32),Qa1 (bl':=[(5,(Qei p2 x30))]) ⟨rfl,SLess.gro (Qcz hz33),tv⟩ (awk (rd':=[(.tmp 77,(.own 5 2 (0) x30.length)),(.tmp 83,(I ((w64 p2).tmod ((x30.length:Nat):Int))))]) ⟨rfl,Less.gro,rfl,lrf,tv⟩ (aio rfl underlying55 ti62 (odt hi34a) (odt hi34b) (Nat.zero_add _))),tv⟩<|wxz<|wsq ?_
       obtain⟨x35,hg36,h⟩:=bno h
       obtain⟨x37,hl38,h⟩:=bno h
       refine wx tbk [(1,rb [(.tmp 85,(.ref 5 2 (((w64 p2).tmod ((x30.length:Nat):Int)).toNat) 0))] [(5,(Qec p2 x30))] (.ref 5 2 (((w64 p2).tmod ((x30.length:Nat):Int)).toNat) 0)),(2,rb [(.tmp 86,(.ref 5 2 (((w64 p2).tmod ((x30.length:Nat):Int)).toNat) 0))] [(5,(Qec p2 x30))] (.ref 5 2 (((w64 p2).tmod ((x30.length:Nat):Int)).toNat) 1)),(3,rb [(.tmp 87,(.ref 5 2 (((w64 p2).tmod ((x30.length:Nat):Int)).toNat) 1))] [(5,(Qec p2 x30))] (.acc 6 64 2 (x35.Stairs.map Qae))),(4,rp [(.tmp 88,(.acc 6 64 2 (x35.Stairs.map Qae)))] (I ((x35.Stairs.length:Int)))),(5,rp [(.tmp 89,(I ((x35.Stairs.length:Int))))] (I x37))] ⟨Qa1 (bl':=[(5,(Qei p2 x30))]) ⟨rfl,SLess.gro (Qcz hz33),tv⟩ (Qbb rfl),Qa1 (bl':=[(5,(Qei p2 x30))]) ⟨rfl,SLess.gro (Qcz hz33),tv⟩ (afa rfl underlying62 rfl rfl ti60 (by decide) rfl),Qa1 (bl':=[(5,(Qei p2 x30))]) ⟨rfl,SLess.gro (Qcz hz33),tv⟩ (ald rfl ti60 (by decide) (Qfh hg36) (nle rfl) rfl),alm (c:=Qae) (l:=x35.Stairs) (aln rfl underlying60 rfl),Qeb hl38 (aas rfl),tv⟩<|wxz ?_
       refine bfe h (fun hc39 h=>?_) fun hc39 h=>?_
       ·refine wft hc39 ?_
        obtain⟨x40,hg41,h⟩:=bno h
        obtain⟨x42,hg43,h⟩:=bno h
        obtain⟨hi44,hj45⟩:=gsm hg43
        refine wx1 tbk [(1,rb [(.tmp 92,(.ref 5 2 (((w64 p2).tmod ((x30.length:Nat):Int)).toNat) 0))] [(5,(Qec p2 x30))] (.ref 5 2 (((w64 p2).tmod ((x30.length:Nat):Int)).toNat) 0)),(2,rb [(.tmp 93,(.ref 5 2 (((w64 p2).tmod ((x30.length:Nat):Int)).toNat) 0))] [(5,(Qec p2 x30))] (.ref 5 2 (((w64 p2).tmod ((x30.length:Nat):Int)).toNat) 1)),(3,rb [(.tmp 94,(.ref 5 2 (((w64 p2).tmod ((x30.length:Nat):Int)).toNat) 1))] [(5,(Qec p2 x30))] (.acc 6 64 2 (x40.Stairs.map Qae))),(6,rp [(.tmp 95,(.acc 6 64 2 (x40.Stairs.map Qae))),(.tmp 97,(I (w64 (x37-1))))] (.dptr (Qae x42) 0))] ⟨Qa1 (bl':=[(5,(Qei p2 x30))]) ⟨rfl,SLess.gro (Qcz hz33),tv⟩ (Qbb rfl),Qa1 (bl':=[(5,(Qei p2 x30))]) ⟨rfl,SLess.gro (Qcz hz33),tv⟩ (afa rfl underlying62 rfl rfl ti60 (by decide) rfl),Qa1 (bl':=[(5,(Qei p2 x30))]) ⟨rfl,SLess.gro (Qcz hz33),tv⟩ (ald rfl ti60 (by decide) (Qfh hg41) (nle rfl) rfl),aid rfl underlying60 ti64 rfl rfl hi44 (mgt Qae hj45) rfl,tv⟩<|thn ?_
        refine wx tbk [(1,rp [(.tmp 101,(K .u16 p3))] (I (w64 p3))),(6,rp [(.tmp 106,(K .u16 p4))] (I (w64 p4))),(7,rp [(.tmp 107,I (w64 p4)),ci 20] (I ((w64 p4).tmod 20))),(9,rp _ _)] ⟨acv rfl (by rw[underlying51];rfl) underlying3,acv rfl (by rw[underlying51];rfl) underlying3,Ql7 rfl (by decide),Qa2 (vs:=[(I (w64 (1+(w64 p3)))),(I (w64 ((w64 (x42.Price+1))+((w64 p4).tmod 20))))]) rfl ts64 tz64 rfl (by rfl) rfl,tv⟩<|wsq ?_
        obtain⟨x46,hg47,h⟩:=bno h
        refine hpre (A:=(Qs5 p2 x30 x46)) ⟨Qa1 (bl':=[(5,(Qei p2 x30))]) ⟨rfl,SLess.gro (Qcz hz33),tv⟩ (Qbb rfl),Qa1 (bl':=[(5,(Qei p2 x30))]) ⟨rfl,SLess.gro (Qcz hz33),tv⟩ (afa rfl underlying62 rfl rfl ti60 (by decide) rfl),Qa1 (bl':=[(5,(Qei p2 x30))]) ⟨rfl,SLess.gro (Qcz hz33),tv⟩ (ald rfl ti60 (by decide) (Qfh hg47) (nle rfl) rfl),alm (c:=Qae) (l:=x46.Stairs) (aln rfl underlying60 rfl),tv⟩ fun q2_=>?_
        refine bfe h (fun hb48 h=>?_) fun hb48 h=>?_
        ·refine wx tbk (hcat (Qs5 p2 x30 x46) [(6,rp [(.tmp 116,(B (((x46.Stairs.length:Int)==6))))] (B true))]) (hap q2_ ⟨asb hb48 (amv rfl),tv⟩)<|wtr ?_
         obtain⟨x50,hf49,h⟩:=bno h
         exact wx tbk [(0,rp _ _)] ⟨apw Qhh (Qc8 2000  _ hf49),tv⟩<|Qal<|Qam<|frb h
        ·refine wx tbk (hcat (Qs5 p2 x30 x46) [(6,rp [(.tmp 116,(B (((x46.Stairs.length:Int)==6))))] (B false))]) (hap q2_ ⟨asb hb48 (amv rfl),tv⟩) ?_
         refine bfe h (fun hc51 h=>?_) fun hc51 h=>?_
         ·refine wft hc51 ?_
          obtain⟨x53,hf52,h⟩:=bno h
          exact wx tbk [(0,rp _ _)] ⟨apw Qhh (Qc8 2000  _ hf52),tv⟩<|Qal<|Qam<|frb h
         ·refine wfn hc51<|Qak<|thn ?_
          obtain⟨x54,hg55,h⟩:=bno h
          obtain⟨ha56,h⟩:=cko h
          obtain⟨x57,hg58,h⟩:=bno h
          refine wxd tbk [(2,rb [(.tmp 124,(.ref 5 2 (((w64 p2).tmod ((x30.length:Nat):Int)).toNat) 0))] [(5,(Qec p2 x30))] (.ref 5 2 (((w64 p2).tmod ((x30.length:Nat):Int)).toNat) 0)),(3,rb [(.tmp 125,(.ref 5 2 (((w64 p2).tmod ((x30.length:Nat):Int)).toNat) 0))] [(5,(Qec p2 x30))] (.ref 5 2 (((w64 p2).tmod ((x30.length:Nat):Int)).toNat) 1)),(4,rb [(.tmp 126,(.ref 5 2 (((w64 p2).tmod ((x30.length:Nat):Int)).toNat) 1))] [(5,(Qec p2 x30))] (.acc 6 64 2 (x54.Stairs.map Qae))),(6,rp [(.tmp 128,(Qy6 p3 x42 p4))] (Qy5 p3 x42 p4)),(7,⟨[(.tmp 127,(.acc 6 64 2 (x54.Stairs.map Qae))),(.tmp 129,(Qy5 p3 x42 p4))],[(6,.tok),(9,.unused)],(Qy4 x54 p3 x42 p4),[(6,.dead),(9,.tok)],false⟩),(8,rb [(.tmp 123,(.ref 5 2 (((w64 p2).tmod ((x30.length:Nat):Int)).toNat) 0))] [(5,(Qec p2 x30))] (.ref 5 2 (((w64 p2).tmod ((x30.length:Nat):Int)).toNat) 0)),(9,rb [(.tmp 131,(.ref 5 2 (((w64 p2).tmod ((x30.length:Nat):Int)).toNat) 0))] [(5,(Qec p2 x30))] (.ref 5 2 (((w64 p2).tmod ((x30.length:Nat):Int)).toNat) 1)),(10,⟨[(.tmp 132,(.ref 5 2 (((w64 p2).tmod ((x30.length:Nat):Int)).toNat) 1)),(.tmp 130,(Qy4 x54 p3 x42 p4))],[(5,(Qec p2 x30))],.any,[(5,(Qy3 x30 p2 x57 x54 p3 x42 p4))],false⟩)] ⟨Qa1 (bl':=[(5,(Qei p2 x30))]) ⟨rfl,SLess.gro (Qcz hz33),tv⟩ (Qbb rfl),Qa1 (bl':=[(5,(Qei p2 x30))]) ⟨rfl,SLess.gro (Qcz hz33),tv⟩ (afa rfl underlying62 rfl rfl ti60 (by decide) rfl),Qa1 (bl':=[(5,(Qei p2 x30))]) ⟨rfl,SLess.gro (Qcz hz33),tv⟩ (ald rfl ti60 (by decide) (Qfh hg55) (nle rfl) rfl),Qb4 (vs:=[(Qy6 p3 x42 p4)]) rfl underlying60 ti64 tz64 rfl (by decide) rfl (by decide) (by rfl) (by rfl) (by rfl) rfl,Qg4 rfl underlying60 te64 (Base.acc _ _) rfl rfl (by rfl) (Qkd Qae ha56) (Qkc Qae ha56 (by decide)) (Qkb Qae) rfl rfl,Qa1 (bl':=[(5,(Qei p2 x30))]) ⟨rfl,SLess.gro (Qcz hz33),tv⟩ (Qbb rfl),Qa1 (bl':=[(5,(Qei p2 x30))]) ⟨rfl,SLess.gro (Qcz hz33),tv⟩ (afa rfl underlying62 rfl rfl ti60 (by decide) rfl),Qa1 (bl':=[(5,(Qei p2 x30))]) ⟨rfl,SLess.gro (Qcz hz33),tv⟩ (Ql5 SLess.ungro (awk (rd':=[(.tmp 132,(.ref 5 2 (((w64 p2).tmod ((x30.length:Nat):Int)).toNat) 1)),(.tmp 130,(.dat 2 ((x54.Stairs++([(⟨w64 (1+(w64 p3)),w64 ((w64 (x42.Price+1))+((w64 p4).tmod 20))⟩:Qaf)]):List Qaf).map Qae)))]) ⟨rfl,lrf,rfl,Less.acc,tv⟩ (ast rfl ti60 (by rfl) (Qfh hg58) (nle rfl) (Qox hg58 rfl)))),tv⟩ ?_
          obtain⟨hz59,h⟩:=cko h
          obtain⟨hz60,h⟩:=cko h
          obtain⟨x62,hf61,h⟩:=bno h
          refine wx tbk [(1,rb [fu 20,(.tmp 134,(Qs7 p0 x30))] [(5,(Qy3 x30 p2 x57 x54 p3 x42 p4))] (.tup [.any,.any,I x62.2.2.1,I x62.2.2.2]))] ⟨Qa1 (bl':=[(5,(.own 2 ((x30.set (((w64 p2).tmod ((x30.length:Nat):Int)).toNat) (⟨x57.Use,x54.Stairs++([(⟨w64 (1+(w64 p3)),w64 ((w64 (x42.Price+1))+((w64 p4).tmod 20))⟩:Qaf)])⟩:Qah):List Qah).map Qaj)))]) ⟨rfl,SLess.gro (Qex hz59),tv⟩ (awk (rd':=[fu 20,(.tmp 134,(.agg [I p0.Tank,I p0.Start,(.own 5 2 (0) x30.length)]))]) ⟨rfl,lrf,rfl,(Less.agg ⟨lrf,lrf,Less.gro,tv⟩),tv⟩ (Qfl (rd':=[fu 20,(.tmp 134,(.agg [I p0.Tank,I p0.Start,(Q1m x30 p2 x57 x54 p3 x42 p4)]))]) [(5,2,(x30.set (((w64 p2).tmod ((x30.length:Nat):Int)).toNat) (⟨x57.Use,x54.Stairs++([(⟨w64 (1+(w64 p3)),w64 ((w64 (x42.Price+1))+((w64 p4).tmod 20))⟩:Qaf)])⟩:Qah):List Qah).map Qaj)] ⟨rfl,.same _,rfl,(Qvy ⟨(.same _),(.same _),(Qj7 0 rfl hz60),tv⟩),tv⟩ (by rfl) (.tup _ (Qdy .any (Qdy .any (Qdy (.lit _) (Qdy (.lit _) Qlv))))) Qlh (Qi1 (r:=(.tup [(.dat 1 (x62.1.map Qaa)),(.dat 1 (x62.2.1.map Qaa)),I x62.2.2.1,I x62.2.2.2])) (Less.tup ⟨Less.any,Less.any,lrf,lrf,tv⟩) (apv Ql0 (Qd5 N (⟨p0.Tank,p0.Start,(x30.set (((w64 p2).tmod ((x30.length:Nat):Int)).toNat) (⟨x57.Use,x54.Stairs++([(⟨w64 (1+(w64 p3)),w64 ((w64 (x42.Price+1))+((w64 p4).tmod 20))⟩:Qaf)])⟩:Qah)).take x30.length⟩:GDay) _ hf61) (nlc (NLt.agg _ (nlcc (nlc (nld Qac _) nl0))) nl0) (NLt.tup _ (nlc (nld Qab _) (nlc (nld Qab _) (nlcc nl0)))))))),tv⟩ ?_
          refine bfe h (fun hb63 h=>?_) fun hb63 h=>?_
          ·refine bfe h (fun hb64 h=>?_) fun hb64 h=>?_
           ·obtain⟨x66,hf65,h⟩:=bno h
            exact wx tbk [(2,rp [(.tmp 141,(B ((x62.2.2.2==0))))] (B true)),(7,rp [(.tmp 146,(B ((decide (x62.2.2.1≤x14.2.2.1)))))] (B true)),(8,rp [(.tmp 147,B true),fu 19] (B x66))] ⟨asb hb63 (amv rfl),asb hb64 (amv rfl),ag_ (apv Qhh (Qc8 2000  _ hf65) nl0 nll),tv⟩<|Qal<|frb h
           ·exact wx tbk [(2,rp [(.tmp 141,(B ((x62.2.2.2==0))))] (B true)),(7,rp [(.tmp 146,(B ((decide (x62.2.2.1≤x14.2.2.1)))))] (B false))] ⟨asb hb63 (amv rfl),asb hb64 (amv rfl),tv⟩<|Qal<|frb h
          ·exact wx tbk [(2,rp [(.tmp 141,(B ((x62.2.2.2==0))))] (B false))] ⟨asb hb63 (amv rfl),tv⟩<|Qal<|frb h
       ·refine wfn hc39<|Qak<|thn ?_
        refine wx tbk [(1,rp [(.tmp 101,(K .u16 p3))] (I (w64 p3))),(6,rp [(.tmp 106,(K .u16 p4))] (I (w64 p4))),(7,rp [(.tmp 107,I (w64 p4)),ci 20] (I ((w64 p4).tmod 20))),(9,rp _ _)] ⟨acv rfl (by rw[underlying51];rfl) underlying3,acv rfl (by rw[underlying51];rfl) underlying3,Ql7 rfl (by decide),Qa2 (vs:=[(I (w64 (1+(w64 p3)))),(I (w64 (0+((w64 p4).tmod 20))))]) rfl ts64 tz64 rfl (by rfl) rfl,tv⟩<|wsq ?_
        obtain⟨x67,hg68,h⟩:=bno h
        refine hpre (A:=(Qs4 p2 x30 x67)) ⟨Qa1 (bl':=[(5,(Qei p2 x30))]) ⟨rfl,SLess.gro (Qcz hz33),tv⟩ (Qbb rfl),Qa1 (bl':=[(5,(Qei p2 x30))]) ⟨rfl,SLess.gro (Qcz hz33),tv⟩ (afa rfl underlying62 rfl rfl ti60 (by decide) rfl),Qa1 (bl':=[(5,(Qei p2 x30))]) ⟨rfl,SLess.gro (Qcz hz33),tv⟩ (ald rfl ti60 (by decide) (Qfh hg68) (nle rfl) rfl),alm (c:=Qae) (l:=x67.Stairs) (aln rfl underlying60 rfl),tv⟩ fun q3_=>?_
        refine bfe h (fun hb69 h=>?_) fun hb69 h=>?_
        ·refine wx tbk (hcat (Qs4 p2 x30 x67) [(6,rp [(.tmp 116,(B (((x67.Stairs.length:Int)==6))))] (B true))]) (hap q3_ ⟨asb hb69 (amv rfl),tv⟩)<|wtr ?_
         obtain⟨x71,hf70,h⟩:=bno h
         exact wx tbk [(0,rp _ _)] ⟨apw Qhh (Qc8 2000  _ hf70),tv⟩<|Qal<|Qam<|frb h
        ·refine wx tbk (hcat (Qs4 p2 x30 x67) [(6,rp [(.tmp 116,(B (((x67.Stairs.length:Int)==6))))] (B false))]) (hap q3_ ⟨asb hb69 (amv rfl),tv⟩) ?_
         refine bfe h (fun hc72 h=>?_) fun hc72 h=>?_
         ·refine wft hc72 ?_
          obtain⟨x74,hf73,h⟩:=bno h
          exact wx tbk [(0,rp _ _)] ⟨apw Qhh (Qc8 2000  _ hf73),tv⟩<|Qal<|Qam<|frb h
         ·refine wfn hc72<|Qak<|thn ?_
          obtain⟨x75,hg76,h⟩:=bno h
          obtain⟨ha77,h⟩:=cko h
          obtain⟨x78,hg79,h⟩:=bno h
          refine wxd tbk [(2,rb [(.tmp 124,(.ref 5 2 (((w64 p2).tmod ((x30.length:Nat):Int)).toNat) 0))] [(5,(Qec p2 x30))] (.ref 5 2 (((w64 p2).tmod ((x30.length:Nat):Int)).toNat) 0)),(3,rb [(.tmp 125,(.ref 5 2 (((w64 p2).tmod ((x30.length:Nat):Int)).toNat) 0))] [(5,(Qec p2 x30))] (.ref 5 2 (((w64 p2).tmod ((x30.length:Nat):Int)).toNat) 1)),(4,rb [(.tmp 126,(.ref 5 2 (((w64 p2).tmod ((x30.length:Nat):Int)).toNat) 1))] [(5,(Qec p2 x30))] (.acc 6 64 2 (x75.Stairs.map Qae))),(6,rp [(.tmp 128,(Qy2 p3 p4))] (Qy1 p3 p4)),(7,⟨[(.tmp 127,(.acc 6 64 2 (x75.Stairs.map Qae))),(.tmp 129,(Qy1 p3 p4))],[(6,.tok),(9,.unused)],(Qy0 x75 p3 p4),[(6,.dead),(9,.tok)],false⟩),(8,rb [(.tmp 123,(.ref 5 2 (((w64 p2).tmod ((x30.length:Nat):Int)).toNat) 0))] [(5,(Qec p2 x30))] (.ref 5 2 (((w64 p2).tmod ((x30.length:Nat):Int)).toNat) 0)),(9,rb [(.tmp 131,(.ref 5 2 (((w64 p2).tmod ((x30.length:Nat):Int)).toNat) 0))] [(5,(Qec p2 x30))] (.ref 5 2 (((w64 p2).tmod ((x30.length:Nat):Int)).toNat) 1)),(10,⟨[(.tmp 132,(.ref 5 2 (((w64 p2).tmod ((x30.length:Nat):Int)).toNat) 1)),(.tmp 130,(Qy0 x75 p3 p4))],[(5,(Qec p2 x30))],.any,[(5,(Qyz x30 p2 x78 x75 p3 p4))],false⟩)] ⟨Qa1 (bl':=[(5,(Qei p2 x30))]) ⟨rfl,SLess.gro (Qcz hz33),tv⟩ (Qbb rfl),Qa1 (bl':=[(5,(Qei p2 x30))]) ⟨rfl,SLess.gro (Qcz hz33),tv⟩ (afa rfl underlying62 rfl rfl ti60 (by decide) rfl),Qa1 (bl':=[(5,(Qei p2 x30))]) ⟨rfl,SLess.gro (Qcz hz33),tv⟩ (ald rfl ti60 (by decide) (Qfh hg76) (nle rfl) rfl),Qb4 (vs:=[(Qy2 p3 p4)]) rfl underlying60 ti64 tz64 rfl (by decide) rfl (by decide) (by rfl) (by rfl) (by rfl) rfl,Qg4 rfl underlying60 te64 (Base.acc _ _) rfl rfl (by rfl) (Qkd Qae ha77) (Qkc Qae ha77 (by decide)) (Qkb Qae) rfl rfl,Qa1 (bl':=[(5,(Qei p2 x30))]) ⟨rfl,SLess.gro (Qcz hz33),tv⟩ (Qbb rfl),Qa1 (bl':=[(5,(Qei p2 x30))]) ⟨rfl,SLess.gro (Qcz hz33),tv⟩ (afa rfl underlying62 rfl rfl ti60 (by decide) rfl),Qa1 (bl':=[(5,(Qei p2 x30))]) ⟨rfl,SLess.gro (Qcz hz33),tv⟩ (Ql5 SLess.ungro (awk (rd':=[(.tmp 132,(.ref 5 2 (((w64 p2).tmod ((x30.length:Nat):Int)).toNat) 1)),(.tmp 130,(.dat 2 ((x75.Stairs++([(⟨w64 (1+(w64 p3)),w64 (0+((w64 p4).tmod 20))⟩:Qaf)]):List Qaf).map Qae)))]) ⟨rfl,lrf,rfl,Less.acc,tv⟩ (ast rfl ti60 (by rfl) (Qfh hg79) (nle rfl) (Qox hg79 rfl)))),tv⟩ ?_
          obtain⟨hz80,h⟩:=cko h
          obtain⟨hz81,h⟩:=cko h
          obtain⟨x83,hf82,h⟩:=bno h
          refine wx tbk [(1,rb [fu 20,(.tmp 134,(Qs7 p0 x30))] [(5,(Qyz x30 p2 x78 x75 p3 p4))] (.tup [.any,.any,I x83.2.2.1,I x83.2.2.2]))] ⟨Qa1 (bl':=[(5,(.own 2 ((x30.set (((w64 p2).tmod ((x30.length:Nat):Int)).toNat) (⟨x78.Use,x75.Stairs++([(⟨w64 (1+(w64 p3)),w64 (0+((w64 p4).tmod 20))⟩:Qaf)])⟩:Qah):List Qah).map Qaj)))]) ⟨rfl,SLess.gro (Qex hz80),tv⟩ (awk (rd':=[fu 20,(.tmp 134,(.agg [I p0.Tank,I p0.Start,(.own 5 2 (0) x30.length)]))]) ⟨rfl,lrf,rfl,(Less.agg ⟨lrf,lrf,Less.gro,tv⟩),tv⟩ (Qfl (rd':=[fu 20,(.tmp 134,(.agg [I p0.Tank,I p0.Start,(Q1l x30 p2 x78 x75 p3 p4)]))]) [(5,2,(x30.set (((w64 p2).tmod ((x30.length:Nat):Int)).toNat) (⟨x78.Use,x75.Stairs++([(⟨w64 (1+(w64 p3)),w64 (0+((w64 p4).tmod 20))⟩:Qaf)])⟩:Qah):List Qah).map Qaj)] ⟨rfl,.same _,rfl,(Qvy ⟨(.same _),(.same _),(Qj7 0 rfl hz81),tv⟩),tv⟩ (by rfl) (.tup _ (Qdy .any (Qdy .any (Qdy (.lit _) (Qdy (.lit _) Qlv))))) Qlh (Qi1 (r:=(.tup [(.dat 1 (x83.1.map Qaa)),(.dat 1 (x83.2.1.map Qaa)),I x83.2.2.1,I x83.2.2.2])) (Less.tup ⟨Less.any,Less.any,lrf,lrf,tv⟩) (apv Ql0 (Qd5 N (⟨p0.Tank,p0.Start,(x30.set (((w64 p2).tmod ((x30.length:Nat):Int)).toNat) (⟨x78.Use,x75.Stairs++([(⟨w64 (1+(w64 p3)),w64 (0+((w64 p4).tmod 20))⟩:Qaf)])⟩:Qah)).take x30.length⟩:GDay) _ hf82) (nlc (NLt.agg _ (nlcc (nlc (nld Qac _) nl0))) nl0) (NLt.tup _ (nlc (nld Qab _) (nlc (nld Qab _) (nlcc nl0)))))))),tv⟩ ?_
          refine bfe h (fun hb84 h=>?_) fun hb84 h=>?_
          ·refine bfe h (fun hb85 h=>?_) fun hb85 h=>?_
           ·obtain⟨x87,hf86,h⟩:=bno h
            exact wx tbk [(2,rp [(.tmp 141,(B ((x83.2.2.2==0))))] (B true)),(7,rp [(.tmp 146,(B ((decide (x83.2.2.1≤x14.2.2.1)))))] (B true)),(8,rp [(.tmp 147,B true),fu 19] (B x87))] ⟨asb hb84 (amv rfl),asb hb85 (amv rfl),ag_ (apv Qhh (Qc8 2000  _ hf86) nl0 nll),tv⟩<|Qal<|frb h
           ·exact wx tbk [(2,rp [(.tmp 141,(B ((x83.2.2.2==0))))] (B true)),(7,rp [(.tmp 146,(B ((decide (x83.2.2.1≤x14.2.2.1)))))] (B false))] ⟨asb hb84 (amv rfl),asb hb85 (amv rfl),tv⟩<|Qal<|frb h
          ·exact wx tbk [(2,rp [(.tmp 141,(B ((x83.2.2.2==0))))] (B false))] ⟨asb hb84 (amv rfl),tv⟩<|Qal<|frb h
end
section
theorem Qcj {x:Int}(h:-9223372036854775808≤x) (h':x≤9223372036854775807):w64 x=x:=by
 unfold w64
 rw[IntKind.wrap_i64]
 omega
theorem Qdn {α:Type}{l:List α}{i:Nat}{x:α}(h:l[i]? = some x):getI l (i:Int)=some x:=by
 simp[getI,h]
def btw (a lo hi:Int):Bool:=decide (lo≤a)&&decide (a≤hi)
theorem Qh0 {a lo hi:Int}:btw a lo hi=true↔lo≤a∧a≤hi:=by simp[btw]
theorem Qlb (N:Nat) (a lo hi:Int):Qct N a lo hi=some (btw a lo hi):=by
 unfold Qct btw
 by_cases h:lo≤a<;>simp[h]
theorem Q0h (N:Nat) (a lo hi:Int):Qfi N a lo hi=some (btw a lo hi):=by
 unfold Qfi btw
 by_cases h:lo≤a<;>simp[h]
theorem Qey {α:Type}{t:List α}{i:Nat}{a:α}{l:List α}(h:t.drop i=a::l):t[i]? = some a∧t.drop (i+1)=l∧i<t.length:=by
 have hlt:i<t.length:=by
  rcases Nat.lt_or_ge i t.length with h' |h'
  ·exact h'
  ·rw[List.drop_eq_nil_of_le h'] at h;cases h
 rw[List.drop_eq_getElem_cons hlt] at h
 simp only[List.cons.injEq] at h
 exact⟨by rw[List.getElem?_eq_getElem hlt,h.1],h.2,hlt⟩
theorem Qfk {α:Type}{t:List α}{i:Nat}(h:t.drop i=[]):t.length≤i:=List.drop_eq_nil_iff.1 h
theorem Qxa:Qc9 2000=some true:=by decide +kernel
end
section
def stB (s:Qaf):Bool:=btw s.Amount 1 1000000000&&btw s.Price 0 1000
def Qf0:Option Qaf→List Qaf→Bool
 |_,[]=>true
 |none,b::l=>stB b&&Qf0 (some b) l
 |some a,b::l=>stB b&&decide (a.Price<b.Price)&&Qf0 (some b) l
def Qgn (h:Qah):Bool:=Qf0 none h.Stairs&&btw h.Use 0 1000000000&&decide ((h.Stairs.length:Int)≤6)
def dayB (d:GDay):Bool:=btw d.Tank 0 1000000000&&btw d.Start 0 d.Tank&&btw d.Hours.length 1 24&&d.Hours.all Qgn
def Qku (t:List Qaf) (i:Nat):Option Qaf:=if i=0 then none else t[i-1]?
theorem Qms {t:List Qaf}{i:Nat}{b:Qaf}(h:t[i]? = some b):Qku t (i+1)=some b:=by simp[Qku,h]
theorem Quc (N:Nat) (x:Int):Qej N x=some (btw x 0 1000000000):=by
 unfold Qej
 rw[Qlb]
 rfl
theorem Qxh (N:Nat) (h:Qah) (k:Unit→Option Bool) (hl:h.Stairs.length≤1000):∀(n i:Nat),(h.Stairs.drop i).length<n →
  Qb2 N h k n i=bif Qf0 (Qku h.Stairs i) (h.Stairs.drop i) then k () else some false:=by
 intro n
 induction n with
 |zero=>intro i h;exact absurd h (Nat.not_lt_zero _)
 |succ n ih=>
  intro i hn
  rw[Qb2]
  cases hd:h.Stairs.drop i with
  |nil=>
   have:=Qfk hd
   simp[show ¬((i:Int)<h.Stairs.length) from by omega,Qf0]
  |cons b l=>
   obtain⟨hi,hd',hlt⟩:=Qey hd
   have e1:w64 ((i:Int)+1)=((i+1:Nat):Int):=Qcj (by omega) (by omega)
   have ih':=ih (i+1) (by rw[hd'];rw[hd] at hn;simp at hn;omega)
   rw[hd',Qms hi] at ih'
   simp only[show decide ((i:Int)<h.Stairs.length)=true from by simpa using hlt,cond_true,Qdn hi,Option.bind_some,Qlb,e1,ih']
   rcases Nat.eq_zero_or_pos i with rfl |hp
   ·simp only[Qku,if_true,Qf0,stB]
    cases btw b.Amount 1 1000000000<;>cases btw b.Price 0 1000<;>simp
   ·obtain⟨a,ha⟩:∃a,h.Stairs[i-1]? = some a:=⟨_,List.getElem?_eq_getElem (by omega)⟩
    have e2:w64 ((i:Int)-1)=((i-1:Nat):Int):=by rw[Qcj (by omega) (by omega)];omega
    have e3:Qku h.Stairs i=some a:=by rw[Qku,if_neg (by omega),ha]
    simp only[e2,Qdn ha,Option.bind_some,e3,Qf0,stB,show decide ((i:Int)>0)=true from by simpa using hp,cond_true]
    cases btw b.Amount 1 1000000000<;>cases btw b.Price 0 1000<;>by_cases hu:b.Price≤a.Price<;>simp[hu,Int.not_lt.2,Int.not_le.1]<;>(try omega)
theorem Qxg (N:Nat) (h:Qah) (k:Unit→Option Bool) (hl:h.Stairs.length≤1000):∀(n i:Nat),(h.Stairs.drop i).length<n →
  Qcc N k h n i=bif Qf0 (Qku h.Stairs i) (h.Stairs.drop i) then k () else some false:=by
 intro n
 induction n with
 |zero=>intro i h;exact absurd h (Nat.not_lt_zero _)
 |succ n ih=>
  intro i hn
  rw[Qcc]
  cases hd:h.Stairs.drop i with
  |nil=>
   have:=Qfk hd
   simp[show ¬((i:Int)<h.Stairs.length) from by omega,Qf0]
  |cons b l=>
   obtain⟨hi,hd',hlt⟩:=Qey hd
   have e1:w64 ((i:Int)+1)=((i+1:Nat):Int):=Qcj (by omega) (by omega)
   have ih':=ih (i+1) (by rw[hd'];rw[hd] at hn;simp at hn;omega)
   rw[hd',Qms hi] at ih'
   simp only[show decide ((i:Int)<h.Stairs.length)=true from by simpa using hlt,cond_true,Qdn hi,Option.bind_some,Q0h,e1,ih']
   rcases Nat.eq_zero_or_pos i with rfl |hp
   ·simp only[Qku,if_true,Qf0,stB]
    cases btw b.Amount 1 1000000000<;>cases btw b.Price 0 1000<;>simp
   ·obtain⟨a,ha⟩:∃a,h.Stairs[i-1]? = some a:=⟨_,List.getElem?_eq_getElem (by omega)⟩
    have e2:w64 ((i:Int)-1)=((i-1:Nat):Int):=by rw[Qcj (by omega) (by omega)];omega
    have e3:Qku h.Stairs i=some a:=by rw[Qku,if_neg (by omega),ha]
    simp only[e2,Qdn ha,Option.bind_some,e3,Qf0,stB,show decide ((i:Int)>0)=true from by simpa using hp,cond_true]
    cases btw b.Amount 1 1000000000<;>cases btw b.Price 0 1000<;>by_cases hu:b.Price≤a.Price<;>simp[hu,Int.not_lt.2,Int.not_le.1]<;>(try omega)
theorem Qx4 {N:Nat}{h:Qah}(hl:h.Stairs.length≤1000) (hN:2000≤N):Qel N h=some (Qgn h):=by
 unfold Qel Qgn
 simp only[Qco,Quc,Option.bind_some]
 have:=Qxh N h (fun _=>bif btw h.Use 0 1000000000 then some (decide ((h.Stairs.length:Int)≤6)) else some false) hl N 0 (by simp;omega)
 rw[show((0:Nat):Int)=0 from rfl,List.drop_zero] at this
 rw[this]
 cases hlk:Qf0 none h.Stairs<;>cases hu:btw h.Use 0 1000000000<;>simp[Qku,hlk]
def FewP (d:GDay):Prop:=d.Hours.length≤30∧∀h∈d.Hours,h.Stairs.length≤10
theorem Qpq (N:Nat) (t:List Qah) (k:Unit→Option Int) (hN:2000≤N) (hl:t.length≤1000) (hs:∀h∈t,h.Stairs.length≤10):∀(n i:Nat),(t.drop i).length<n→i≤t.length →
  Qar N t k n i=bif (t.drop i).all Qgn then k () else some ((i:Int)+((t.drop i).findIdx fun x=>!Qgn x:Nat)):=by
 intro n
 induction n with
 |zero=>intro i h;exact absurd h (Nat.not_lt_zero _)
 |succ n ih=>
  intro i h hi
  rw[Qar]
  cases hd:t.drop i with
  |nil=>
   have:=Qfk hd
   simp[show ¬((i:Int)<t.length) from by omega]
  |cons b l=>
   obtain⟨hg,hd',hlt⟩:=Qey hd
   have e1:w64 ((i:Int)+1)=((i+1:Nat):Int):=Qcj (by omega) (by omega)
   have ih':=ih (i+1) (by rw[hd'];rw[hd] at h;simp at h;omega) hlt
   have hb10:=hs b (List.mem_of_getElem? hg)
   rw[hd'] at ih'
   simp only[show decide ((i:Int)<t.length)=true from by simpa using hlt,cond_true,Qdn hg,Option.bind_some,Qdp,Qx4 (show b.Stairs.length≤1000 by omega) hN,e1,ih',List.all_cons,List.findIdx_cons]
   cases hb:Qgn b with
   |false=>simp
   |true=>
    cases hu:l.all Qgn with
    |true=>simp
    |false=>simp;omega
theorem Q1d {N:Nat}{d:GDay}(hf:FewP d) (hN:2000≤N):Qeu N d=some (dayB d):=by
 unfold Qeu dayB
 have key:Qdh N d.Hours=some (d.Hours.all Qgn):=by
  unfold Qdh Qbk Qbv
  simp only[Qco]
  have h1:=hf.1
  have:=Qpq N d.Hours (fun _=>some (-1)) hN (by omega) hf.2 N 0 (by simp;omega) (Nat.zero_le _)
  rw[show((0:Nat):Int)=0 from rfl,List.drop_zero] at this
  rw[this]
  cases d.Hours.all Qgn with
  |true=>rfl
  |false=>simp
 simp only[Quc,Qlb,key,Option.bind_some]
 cases btw d.Tank 0 1000000000<;>cases btw d.Start 0 d.Tank<;>cases btw d.Hours.length 1 24<;>simp
theorem Qvx (N:Nat) (d:GDay) (k:Unit→Option Bool) (hN:2000≤N) (hf:FewP d):∀(n i:Nat),(d.Hours.drop i).length<n →
  Qcu N d k n i=bif (d.Hours.drop i).all Qgn then k () else some false:=by
 intro n
 induction n with
 |zero=>intro i h;exact absurd h (Nat.not_lt_zero _)
 |succ n ih=>
  intro i h
  have hf1:=hf.1
  rw[Qcu]
  cases hd:d.Hours.drop i with
  |nil=>
   have:=Qfk hd
   simp[show ¬((i:Int)<d.Hours.length) from by omega]
  |cons b l=>
   obtain⟨hg,hd',hlt⟩:=Qey hd
   have e1:w64 ((i:Int)+1)=((i+1:Nat):Int):=Qcj (by omega) (by omega)
   have ih':=ih (i+1) (by rw[hd'];rw[hd] at h;simp at h;omega)
   have hb10:=hf.2 b (List.mem_of_getElem? hg)
   rw[hd'] at ih'
   have h2:=Qxg N b (fun _=>bif l.all Qgn then k () else some false) (by omega) N 0 (by simp;omega)
   rw[show((0:Nat):Int)=0 from rfl,List.drop_zero] at h2
   simp only[show decide ((i:Int)<d.Hours.length)=true from by simpa using hlt,cond_true,Qdn hg,Option.bind_some,Qco,Q0h,e1,h2,ih',List.all_cons,Qgn,Qku,if_true]
   cases btw b.Use 0 1000000000<;>cases hlk:Qf0 none b.Stairs<;>by_cases h6:(b.Stairs.length:Int)≤6<;>simp[h6,Int.not_lt.2,Int.not_le.1]<;>omega
theorem Q1c {N:Nat}{d:GDay}(hf:FewP d) (hN:2000≤N):Qew N d=some (dayB d):=by
 unfold Qew dayB
 simp only[Qco,Q0h,Option.bind_some]
 have h1:=hf.1
 have:=Qvx N d (fun _=>some true) hN hf N 0 (by simp;omega)
 rw[show((0:Nat):Int)=0 from rfl,List.drop_zero] at this
 rw[this]
 unfold btw
 by_cases h2:(1:Int)≤d.Hours.length<;>by_cases h3:(d.Hours.length:Int)≤24<;>cases (decide (0≤d.Tank)&&decide (d.Tank≤1000000000))<;>cases (decide (0≤d.Start)&&decide (d.Start≤d.Tank))<;>cases d.Hours.all Qgn<;>simp[h2,h3,Int.not_lt.2,Int.not_le.1]<;>omega
theorem Qx5 (N:Nat) (d:GDay) (k:Unit→Option Bool) (hl:d.Hours.length≤9223372036854775807):∀(n i:Nat),(d.Hours.drop i).length<n →
  Qdl N d k n i=bif (d.Hours.drop i).all (fun h=>decide ((h.Stairs.length:Int)≤10)) then k () else some false:=by
 intro n
 induction n with
 |zero=>intro i h;exact absurd h (Nat.not_lt_zero _)
 |succ n ih=>
  intro i h
  rw[Qdl]
  cases hd:d.Hours.drop i with
  |nil=>
   have:=Qfk hd
   simp[show ¬((i:Int)<d.Hours.length) from by omega]
  |cons b l=>
   obtain⟨hg,hd',hlt⟩:=Qey hd
   have e1:w64 ((i:Int)+1)=((i+1:Nat):Int):=Qcj (by omega) (by omega)
   have ih':=ih (i+1) (by rw[hd'];rw[hd] at h;simp at h;omega)
   rw[hd'] at ih'
   simp only[show decide ((i:Int)<d.Hours.length)=true from by simpa using hlt,cond_true,Qdn hg,Option.bind_some,e1,ih',List.all_cons]
   by_cases hb:(b.Stairs.length:Int)≤10
   ·simp[hb,show ¬((10:Int)<b.Stairs.length) from by omega]
   ·simp[hb,show(10:Int)<b.Stairs.length from by omega]
theorem Q2s {N:Nat}{d:GDay}(hl:d.Hours.length≤9223372036854775807) (hN:d.Hours.length<N):∃b,Qgz N d=some b∧(b=true→FewP d):=by
 refine⟨d.Hours.all (fun h=>decide ((h.Stairs.length:Int)≤10))&&decide ((d.Hours.length:Int)≤30),?_,fun h=>?_⟩
 ·unfold Qgz
  simp only[Qco]
  have:=Qx5 N d (fun _=>some (decide ((d.Hours.length:Int)≤30))) hl N 0 (by simpa using hN)
  rw[show((0:Nat):Int)=0 from rfl,List.drop_zero] at this
  rw[this]
  cases d.Hours.all (fun h=>decide ((h.Stairs.length:Int)≤10))<;>simp
 ·simp only[Bool.and_eq_true,List.all_eq_true,decide_eq_true_eq] at h
  exact⟨by omega,fun x hx=>by have:=h.1 x hx;omega⟩
theorem Qso (N:Nat) (h:Qah) (k:List Qah×List Qaf→Option GDay) (q:List Qah) (hl:h.Stairs.length≤1000):∀(n i:Nat) (acc:List Qaf),(h.Stairs.drop i).length<n→i≤h.Stairs.length→acc.length=i →
  Qdm N h k n i q acc=k (q,acc++h.Stairs.drop i):=by
 intro n
 induction n with
 |zero=>intro i _ h;exact absurd h (Nat.not_lt_zero _)
 |succ n ih=>
  intro i acc hn hi hacc
  rw[Qdm]
  cases hd:h.Stairs.drop i with
  |nil=>
   have:=Qfk hd
   simp[show ¬((i:Int)<h.Stairs.length) from by omega]
  |cons b l=>
   obtain⟨hg,hd',hlt⟩:=Qey hd
   have e1:w64 ((i:Int)+1)=((i+1:Nat):Int):=Qcj (by omega) (by omega)
   simp only[show decide ((i:Int)<h.Stairs.length)=true from by simpa using hlt,cond_true,Qdn hg,Option.bind_some,e1]
   rw[ih (i+1) (acc++[b]) (by rw[hd'];rw[hd] at hn;simp at hn;omega) hlt (by simp[hacc]),hd']
   simp only[chk,show decide ((acc.length+[b].length)*16≤140737488355328)=true from by simp;omega,cond_true,List.append_assoc,List.cons_append,List.nil_append]
theorem Qsp (N:Nat) (d:GDay) (k:List Qah→Option GDay) (hN:2000≤N) (hf:FewP d):∀(n i:Nat) (acc:List Qah),(d.Hours.drop i).length<n→i≤d.Hours.length→acc.length=i →
  Qda N d k n i acc=k (acc++d.Hours.drop i):=by
 intro n
 induction n with
 |zero=>intro i _ h;exact absurd h (Nat.not_lt_zero _)
 |succ n ih=>
  intro i acc h hi hacc
  have hf1:=hf.1
  rw[Qda]
  cases hd:d.Hours.drop i with
  |nil=>
   have:=Qfk hd
   simp[show ¬((i:Int)<d.Hours.length) from by omega]
  |cons b l=>
   obtain⟨hg,hd',hlt⟩:=Qey hd
   have hb10:=hf.2 b (List.mem_of_getElem? hg)
   have e1:w64 ((i:Int)+1)=((i+1:Nat):Int):=Qcj (by omega) (by omega)
   simp only[show decide ((i:Int)<d.Hours.length)=true from by simpa using hlt,cond_true,Qdn hg,Option.bind_some,e1,Qco]
   have h2:=Qso N b (fun x=>match x with |(y15,y16)=>chk (decide ((y15.length+([(⟨b.Use,y16⟩:Qah)]).length)*32≤140737488355328)) (Qda N d k n ((i+1:Nat):Int) (y15++([(⟨b.Use,y16⟩:Qah)])))) acc (by omega) N 0 [] (by simp;omega) (by omega) rfl
   rw[show((0:Nat):Int)=0 from rfl,List.drop_zero,List.nil_append] at h2
   rw[h2]
   dsimp only
   rw[ih (i+1) (acc++[b]) (by rw[hd'];rw[hd] at h;simp at h;omega) hlt (by simp[hacc]),hd']
   simp only[chk,show decide ((acc.length+[(⟨b.Use,b.Stairs⟩:Qah)].length)*32≤140737488355328)=true from by simp;omega,cond_true,List.append_assoc,List.cons_append,List.nil_append]
theorem Qyh {N:Nat}{d:GDay}(hf:FewP d) (hN:2000≤N):Qg0 N d=some d:=by
 unfold Qg0
 simp only[Qco]
 have hf1:=hf.1
 have:=Qsp N d (fun y1=>some ⟨d.Tank,d.Start,y1⟩) hN hf N 0 [] (by simp;omega) (by omega) rfl
 simpa using this
structure Qwm (h:Qah):Prop where
 use:0≤h.Use∧h.Use≤1000000000
 few:h.Stairs.length≤6
 st:∀s∈h.Stairs,1≤s.Amount∧s.Amount≤1000000000∧0≤s.Price∧s.Price≤1000
theorem Qls:∀(l:List Qaf) (a:Option Qaf),Qf0 a l=true→∀s∈l,1≤s.Amount∧s.Amount≤1000000000∧0≤s.Price∧s.Price≤1000
 |[],_,_=>fun _ h=>by cases h
 |b::l,a,h=>by
  have hb:stB b=true∧Qf0 (some b) l=true:=by cases a<;>simp[Qf0] at h<;>simp[h]
  intro x hx
  rcases List.mem_cons.1 hx with rfl |hx
  ·have:=hb.1
   simp only[stB,Bool.and_eq_true,Qh0] at this
   omega
  ·exact Qls l (some b) hb.2 x hx
theorem Qkx {h:Qah}(hb:Qgn h=true):Qwm h:=by
 simp only[Qgn,Bool.and_eq_true,Qh0,decide_eq_true_eq] at hb
 exact⟨hb.1.2,by omega,Qls _ _ hb.1.1⟩
def Qbo (l:List Qaf):Int:=(l.map (·.Amount)).sum
theorem Qq4:∀{l:List Qaf},(∀s∈l,1≤s.Amount∧s.Amount≤1000000000∧0≤s.Price∧s.Price≤1000)→0≤Qbo l∧Qbo l≤1000000000*l.length
 |[],_=>by simp[Qbo]
 |s::l,h=>by
  have h1:=h s (by simp)
  have h2:=Qq4 (l:=l) fun x hx=>h x (List.mem_cons_of_mem _ hx)
  unfold Qbo at h2 ⊢
  simp only[List.map_cons,List.sum_cons,List.length_cons]
  omega
theorem Qqa (N:Nat) (h:Qah) (k:Int→Option Int) (hp:Qwm h):∀(n i:Nat) (a:Int),(h.Stairs.drop i).length<n→0≤a→a≤1000000000*i→Qcm N h k n a i=k (a+Qbo (h.Stairs.drop i)):=by
 intro n
 induction n with
 |zero=>intro i _ h;exact absurd h (Nat.not_lt_zero _)
 |succ n ih=>
  intro i a hn h0 h1
  have hf:=hp.few
  rw[Qcm]
  cases hd:h.Stairs.drop i with
  |nil=>
   have:=Qfk hd
   simp[show ¬((i:Int)<h.Stairs.length) from by omega,Qbo]
  |cons b l=>
   obtain⟨hg,hd',hlt⟩:=Qey hd
   have hb:=hp.st b (List.mem_of_getElem? hg)
   have e1:w64 ((i:Int)+1)=((i+1:Nat):Int):=Qcj (by omega) (by omega)
   simp only[show decide ((i:Int)<h.Stairs.length)=true from by simpa using hlt,cond_true,Qdn hg,Option.bind_some,e1]
   rw[Qcj (by omega) (by omega),ih (i+1) _ (by rw[hd'];rw[hd] at hn;simp at hn;omega) (by omega) (by omega),hd']
   simp[Qbo,Int.add_assoc]
theorem Qub {N:Nat}{h:Qah}(hp:Qwm h) (hN:2000≤N):Qek N h=some (Qbo h.Stairs):=by
 unfold Qek
 simp only[Qco]
 have hf:=hp.few
 have:=Qqa N h (fun y=>some y) hp N 0 0 (by simp;omega) (Int.le_refl _) (by omega)
 rw[show((0:Nat):Int)=0 from rfl,List.drop_zero,Int.zero_add] at this
 exact this
end
section
theorem Qob {d:GDay}(h:dayB d=true) {x:Qah}(hx:x∈d.Hours):Qwm x:=by
 simp only[dayB,Bool.and_eq_true] at h
 exact Qkx (List.all_eq_true.1 h.2 x hx)
theorem Qro {d:GDay}(h:dayB d=true):(0≤d.Tank∧d.Tank≤1000000000)∧(0≤d.Start∧d.Start≤d.Tank)∧1≤d.Hours.length∧d.Hours.length≤24:=by
 simp only[dayB,Bool.and_eq_true,Qh0] at h
 omega
theorem Q2m (a b:Nat):((a:Int)==(b:Int))=decide (a=b):=by
 by_cases h:a=b
 ·subst h;simp
 ·rw[decide_eq_false h]
  exact beq_eq_false_iff_ne.2 (by omega)
def Qez:List Qaf→Int→Int
 |[],_=>0
 |s::l,n=>min n s.Amount*s.Price+Qez l (n-min n s.Amount)
theorem mulB {x p:Int}(x0:0≤x) (x1:x≤1000000000) (p0:0≤p) (p1:p≤1000):0≤x*p∧x*p≤1000000000000:=
 ⟨Int.mul_nonneg x0 p0,Int.le_trans (Int.mul_le_mul_of_nonneg_left p1 x0) (by omega)⟩
theorem Qvz:∀{l:List Qaf}{n:Int},(∀s∈l,1≤s.Amount∧s.Amount≤1000000000∧0≤s.Price∧s.Price≤1000)→0≤n→0≤Qez l n∧Qez l n≤1000000000000*l.length
 |[],_,_,_=>by simp[Qez]
 |s::l,n,h,h0=>by
  have h1:=h s (by simp)
  have h2:=Qvz (l:=l) (n:=n-min n s.Amount) (fun x hx=>h x (List.mem_cons_of_mem _ hx)) (by omega)
  have h3:=mulB (x:=min n s.Amount) (p:=s.Price) (by omega) (by omega) (by omega) (by omega)
  rw[Qez]
  simp only[List.length_cons]
  omega
def Qig:List Qaf→Int→List (Qaf×Int)
 |[],_=>[]
 |s::l,n=>(s,min n s.Amount)::Qig l (n-min n s.Amount)
theorem Qml (N:Nat) (t:List Qaf) (ht:t.length≤1000) (hs:∀s∈t,1≤s.Amount∧s.Amount≤1000000000∧0≤s.Price∧s.Price≤1000):∀(n i:Nat) (y:Int),(t.drop i).length<n→0≤y→y≤10000000000→Qb6 N t n i y=some (Qig (t.drop i) y):=by
 intro n
 induction n with
 |zero=>intro i _ h;exact absurd h (Nat.not_lt_zero _)
 |succ n ih=>
  intro i y h y0 y1
  rw[Qb6]
  cases hd:t.drop i with
  |nil=>
   have:=Qfk hd
   simp[show ¬((i:Int)<t.length) from by omega,Qig]
  |cons b l=>
   obtain⟨hg,hd',hlt⟩:=Qey hd
   have hb:=hs b (List.mem_of_getElem? hg)
   have e1:w64 ((i:Int)+1)=((i+1:Nat):Int):=Qcj (by omega) (by omega)
   have e2:(if b.Amount<y then b.Amount else y)=min y b.Amount:=by split<;>omega
   have e3:w64 (y-min y b.Amount)=y-min y b.Amount:=Qcj (by omega) (by omega)
   simp only[show decide ((i:Int)<t.length)=true from by simpa using hlt,cond_true,Qdn hg,Option.bind_some,e1,e2,e3,Qig]
   rw[ih (i+1) _ (by rw[hd'];rw[hd] at h;simp at h;omega) (by omega) (by omega),hd']
   rfl
theorem Ql2 (N:Nat) (k:Int→Option Int):∀(l:List Qaf) (n a:Int),(∀s∈l,1≤s.Amount∧s.Amount≤1000000000∧0≤s.Price∧s.Price≤1000)→l.length≤10→0≤n→0≤a→a≤1000000000000000→a+1000000000000*l.length≤1000000000000000→Qb3 N k (Qig l n) a=k (a+Qez l n)
 |[],_,_,_,_,_,_,_,_=>by simp[Qig,Qb3,Qez]
 |s::l,n,a,h,hl,n0,a0,a1,hb=>by
  have h1:=h s (by simp)
  have h3:=mulB (x:=min n s.Amount) (p:=s.Price) (by omega) (by omega) (by omega) (by omega)
  simp only[List.length_cons] at hl hb
  rw[Qig,Qb3]
  dsimp only
  rw[Int.mul_comm s.Price,Qcj (show -9223372036854775808≤min n s.Amount*s.Price by omega) (by omega),Qcj (by omega) (by omega),Ql2 N k l _ _ (fun x hx=>h x (List.mem_cons_of_mem _ hx)) (by omega) (by omega) (by omega) (by omega) (by omega),Qez,Int.add_assoc]
theorem Qyg {N:Nat}{h:Qah}{n:Int}(hN:2000≤N) (hp:Qwm h) (n0:0≤n) (n1:n≤10000000000):Qet N h n=some (Qez h.Stairs n):=by
 have hf:=hp.few
 unfold Qet Qdk Qdj
 have h1:=Qml N h.Stairs (by omega) hp.st N 0 n (by simp;omega) n0 n1
 rw[show((0:Nat):Int)=0 from rfl,List.drop_zero] at h1
 simp only[Qco,Option.bind_some,h1]
 rw[Ql2 N _ h.Stairs n 0 hp.st (by omega) n0 (Int.le_refl _) (by omega) (by omega),Int.zero_add]
end
section
def preS (l:List Qaf) (k:Nat):Int:=Qbo (l.take k)
def Qc3 (l:List Qaf):Prop:=(∀s∈l,1≤s.Amount∧s.Amount≤1000000000∧0≤s.Price∧s.Price≤1000)∧l.Pairwise fun a b=>a.Price<b.Price
theorem Qgf {l:List Qaf}{k:Nat}{s:Qaf}(h:l[k]? = some s):preS l (k+1)=preS l k+s.Amount:=by
 unfold preS Qbo
 rw[List.take_add_one,h]
 simp
theorem Qhy (l:List Qaf):preS l 0=0:=rfl
theorem Qrd (l:List Qaf):preS l l.length=Qbo l:=by
 unfold preS
 rw[List.take_length]
theorem Qjg {l:List Qaf}(h:Qc3 l) {a b:Nat}(hab:a≤b):preS l a≤preS l b:=by
 induction b with
 |zero=>rw[show a=0 by omega];exact Int.le_refl _
 |succ b ih=>
  rcases Nat.eq_or_lt_of_le hab with rfl |hlt
  ·exact Int.le_refl _
  ·have:=ih (by omega)
   cases hb:l[b]? with
   |none=>
    have:preS l (b+1)=preS l b:=by unfold preS;rw[List.take_add_one,hb];simp
    omega
   |some s=>
    have h1:=h.1 s (List.mem_of_getElem? hb)
    rw[Qgf hb]
    omega
theorem Qfq {l:List Qaf}(h:Qc3 l) (a:Nat):0≤preS l a:=Qjg h (Nat.zero_le a)
theorem Qnw {l:List Qaf}(h:Qc3 l) (a:Nat):preS l a≤Qbo l:=by
 rcases Nat.lt_or_ge a l.length with hlt |hge
 ·rw[←Qrd];exact Qjg h (by omega)
 ·unfold preS;rw[List.take_of_length_le hge];exact Int.le_refl _
theorem Quu {l:List Qaf}(h:Qc3 l) {a b:Nat}(hlt:preS l a<preS l b):a<b:=by
 rcases Nat.lt_or_ge a b with h1 |h1
 ·exact h1
 ·have:=Qjg h h1
  omega
theorem Qxq {l:List Qaf}(h:Qc3 l) {a b:Nat}{s r:Qaf}(hab:a<b) (ha:l[a]? = some s) (hb:l[b]? = some r):s.Price<r.Price:=by
 obtain⟨h1,h2⟩:=List.getElem?_eq_some_iff.1 ha
 obtain⟨h3,h4⟩:=List.getElem?_eq_some_iff.1 hb
 have:=List.pairwise_iff_getElem.1 h.2 a b h1 h3 hab
 rw[h2,h4] at this
 exact this
theorem Qxr {l:List Qaf}(h:Qc3 l) {a b:Nat}{s r:Qaf}(hab:a≤b) (ha:l[a]? = some s) (hb:l[b]? = some r):s.Price≤r.Price:=by
 rcases Nat.eq_or_lt_of_le hab with rfl |hlt
 ·rw[ha] at hb;cases hb;exact Int.le_refl _
 ·exact Int.le_of_lt (Qxq h hlt ha hb)
def TkL (l:List Qaf) (x p:Int):Prop:=∃a s,l[a]? = some s∧preS l a<x∧s.Price=p
def FrL (l:List Qaf) (x p:Int):Prop:=∃b s,l[b]? = some s∧x<preS l (b+1)∧s.Price=p
theorem Q0k {l:List Qaf}{x y p:Int}(h:x≤y):FrL l y p→FrL l x p:=fun ⟨a,s,h1,h2,h3⟩=>⟨a,s,h1,by omega,h3⟩
theorem Qzu {l:List Qaf}(h:Qc3 l) {x n q:Int}{u:Nat}{s:Qaf}(hu:l[u]? = some s) (hx:preS l u≤x) (hn:x+n≤preS l (u+1)):TkL l (x+n) q→TkL l x q∨q=s.Price:=fun ⟨a,r,h1,h2,h3⟩=>by
 have:a<u+1:=Quu h (by omega)
 rcases Nat.eq_or_lt_of_le (Nat.le_of_lt_succ this) with rfl |hlt
 ·rw[hu] at h1;cases h1;exact Or.inr h3.symm
 ·refine Or.inl ⟨a,r,h1,?_,h3⟩
  have h4:=Qjg h (show a+1≤u by omega)
  rw[Qgf h1] at h4
  have:=(h.1 r (List.mem_of_getElem? h1)).1
  omega
theorem Q3r {l:List Qaf}(h:Qc3 l) {x q:Int}{u:Nat}{s:Qaf}(hu:l[u]? = some s) (hx:preS l u≤x):FrL l x q→s.Price≤q:=fun ⟨a,r,h1,h2,h3⟩=>by
 have:u<a+1:=Quu h (by omega)
 rw[←h3]
 exact Qxr h (by omega) hu h1
def Qke (L:Nat→Int) (T:Int) (i j:Nat):Prop:=∀k,i≤k→k<j→L k<T
def PosR (L:Nat→Int) (i j:Nat):Prop:=∀k,i≤k→k<j→0<L k
def Conn (L:Nat→Int) (T:Int) (j i:Nat):Prop:=(j≤i∧PosR L j i)∨(i≤j∧Qke L T i j)
def GrI (H:Nat→List Qaf) (x L:Nat→Int) (T:Int) (t:Nat):Prop:=∀i j,i≤t→j≤t→Conn L T j i→∀p q,TkL (H j) (x j) p→FrL (H i) (x i) q→p≤q
def addR (L:Nat→Int) (a b:Nat) (n:Int):Nat→Int:=fun k=>if a≤k∧k<b then L k+n else L k
theorem Qx1 {H:Nat→List Qaf}{x L:Nat→Int}{T n:Int}{t m u:Nat}{s:Qaf}(hs:∀i,i≤t→Qc3 (H i)) (hI:GrI H x L T t) (hmt:m≤t) (hu:(H m)[u]? = some s) (hx:preS (H m) u≤x m) (hn:x m+n≤preS (H m) (u+1)) (hn0:0<n) (hop:Qke L T m t) (hmin:∀i,i≤t→Qke L T i t→∀q,FrL (H i) (x i) q→s.Price≤q) :
  GrI H (setF x m (x m+n)) (addR L m t n) T t:=by
 have hfree:FrL (H m) (x m) s.Price:=⟨u,s,hu,by omega,rfl⟩
 intro i j hi hj hc p q hp hq
 have hq':FrL (H i) (x i) q:=by
  unfold setF at hq
  split at hq
  ·rename_i e;subst e;exact Q0k (by omega) hq
  ·exact hq
 have hle:∀k,L k≤addR L m t n k:=fun k=>by unfold addR;split<;>omega
 have hopen:∀{a b},Qke (addR L m t n) T a b→Qke L T a b:=fun h k h1 h2=>by have:=h k h1 h2;have:=hle k;omega
 have hcase:TkL (H j) (x j) p∨(j=m∧p=s.Price):=by
  unfold setF at hp
  split at hp
  ·rename_i e
   subst e
   rcases Qzu (hs j hj) hu hx hn hp with h |h
   ·exact Or.inl h
   ·exact Or.inr ⟨rfl,h⟩
  ·exact Or.inl hp
 rcases hcase with hp' |⟨rfl,rfl⟩
 ·rcases hc with ⟨hji,hpos⟩ |⟨hij,ho⟩
  ·by_cases hall:PosR L j i
   ·exact hI i j hi hj (Or.inl ⟨hji,hall⟩) p q hp' hq'
   ·-- an edge that is new
    have:∃k,j≤k∧k<i∧¬0<L k:=by
     refine Classical.byContradiction fun hc=>hall fun k h1 h2=>?_
     exact Classical.byContradiction fun h3=>hc ⟨k,h1,h2,h3⟩
    obtain⟨k,k1,k2,k3⟩:=this
    have hk:=hpos k k1 k2
    unfold addR at hk
    split at hk
    ·rename_i hr
     have h1:s.Price≤q:=hmin i hi (fun a a1 a2=>hop a (by omega) a2) q hq'
     have h2:p≤s.Price:=by
      refine hI m j hmt hj ?_ p s.Price hp' hfree
      rcases Nat.le_total j m with hjm |hmj
      ·refine Or.inl ⟨hjm,fun a a1 a2=>?_⟩
       have:=hpos a a1 (by omega)
       unfold addR at this
       rw[if_neg (by omega)] at this
       exact this
      ·exact Or.inr ⟨hmj,fun a a1 a2=>hop a a1 (by omega)⟩
     omega
    ·omega
  ·exact hI i j hi hj (Or.inr ⟨hij,hopen ho⟩) p q hp' hq'
 ·rcases hc with ⟨hji,_⟩ |⟨hij,ho⟩
  ·exact hmin i hi (fun a a1 a2=>hop a (by omega) a2) q hq'
  ·refine hmin i hi (fun a a1 a2=>?_) q hq'
   rcases Nat.lt_or_ge a j with h |h
   ·exact hopen ho a a1 h
   ·exact hop a h a2
theorem Qx2 {H:Nat→List Qaf}{x L:Nat→Int}{T v:Int}{t:Nat}(hI:GrI H x L T t) (hx:x (t+1)=0) (hH:∀i,i≤t+1→Qc3 (H i)) (hv:0<v→∀j,j≤t→x j=0) (hL:L t≤0):GrI H x (setF L t (L t+v)) T (t+1):=by
 have none0:∀{j p},j≤t+1→x j=0→¬TkL (H j) (x j) p:=fun hj h0 ⟨a,s,h1,h2,h3⟩=>by
  have:=Qfq (hH _ hj) a
  omega
 intro i j hi hj hc p q hp hq
 rcases Nat.eq_or_lt_of_le hj with rfl |hj'
 ·exact absurd hp (none0 (Nat.le_refl _) hx)
 ·have hjt:j≤t:=by omega
  by_cases hv0:0<v
  ·exact absurd hp (none0 hj (hv hv0 j hjt))
  ·rcases Nat.eq_or_lt_of_le hi with rfl |hi'
   ·rcases hc with ⟨_,hpos⟩ |⟨h,_⟩
    ·have:=hpos t hjt (Nat.lt_succ_self t)
     unfold setF at this
     rw[if_pos rfl] at this
     omega
    ·omega
   ·refine hI i j (by omega) hjt ?_ p q hp hq
    rcases hc with ⟨h1,h2⟩ |⟨h1,h2⟩
    ·refine Or.inl ⟨h1,fun k a b=>?_⟩
     have:=h2 k a b
     unfold setF at this
     rw[if_neg (by omega)] at this
     exact this
    ·refine Or.inr ⟨h1,fun k a b=>?_⟩
     have:=h2 k a b
     unfold setF at this
     rw[if_neg (by omega)] at this
     exact this
theorem Qv0 {L:Nat→Int}{T:Int}{i j:Nat}(h:Conn L T j i) (hL:0<L i):Conn L T j (i+1):=by
 rcases h with ⟨h1,h2⟩ |⟨h1,h2⟩
 ·refine Or.inl ⟨by omega,fun k a b=>?_⟩
  rcases Nat.eq_or_lt_of_le (Nat.le_of_lt_succ b) with rfl |hlt
  ·exact hL
  ·exact h2 k a hlt
 ·rcases Nat.eq_or_lt_of_le h1 with rfl |hlt
  ·refine Or.inl ⟨by omega,fun k a b=>?_⟩
   rw[show k=i by omega];exact hL
  ·exact Or.inr ⟨hlt,fun k a b=>h2 k (by omega) b⟩
theorem Qv1 {L:Nat→Int}{T:Int}{i j:Nat}(h:Conn L T j (i+1)) (hL:L i<T):Conn L T j i:=by
 rcases h with ⟨h1,h2⟩ |⟨h1,h2⟩
 ·rcases Nat.eq_or_lt_of_le h1 with rfl |hlt
  ·refine Or.inr ⟨by omega,fun k a b=>?_⟩
   rw[show k=i by omega];exact hL
  ·exact Or.inl ⟨by omega,fun k a b=>h2 k a (by omega)⟩
 ·refine Or.inr ⟨by omega,fun k a b=>?_⟩
  rcases Nat.eq_or_lt_of_le a with rfl |hlt
  ·exact hL
  ·exact h2 k hlt b
theorem Qpm (L:Nat→Int) (T:Int) (i:Nat):Conn L T i i:=Or.inl ⟨Nat.le_refl _,fun _ a b=>by omega⟩
def swp1 (L:Nat→Int) (T:Int) (P:Nat→Int) (i:Nat):Nat→Int:=
 let P1:=if 0<L i then setF P (i+1) (max (P (i+1)) (P i)) else P
 if L i<T then setF P1 i (max (P1 i) (P1 (i+1))) else P1
theorem Qov {L:Nat→Int}{T:Int}{P:Nat→Int}{i:Nat}:P i≤swp1 L T P i i∧(0<L i→P i≤swp1 L T P i (i+1))∧P (i+1)≤swp1 L T P i (i+1)∧(L i<T→P (i+1)≤swp1 L T P i i):=by
 unfold swp1 setF
 split<;>split<;>simp<;>omega
theorem Qmm {L:Nat→Int}{T:Int}{P:Nat→Int}{i k:Nat}(h1:k≠i) (h2:k≠i+1):swp1 L T P i k=P k:=by
 unfold swp1 setF
 split<;>split<;>simp[h1,h2]
theorem Quf {L:Nat→Int}{T:Int}{P:Nat→Int}(i k:Nat):P k≤swp1 L T P i k:=by
 obtain⟨h1,_,h2,_⟩:=Qov (L:=L) (T:=T) (P:=P) (i:=i)
 by_cases e1:k=i
 ·subst e1;exact h1
 ·by_cases e2:k=i+1
  ·subst e2;exact h2
  ·rw[Qmm e1 e2];exact Int.le_refl _
theorem Qzx {L:Nat→Int}{T:Int}{P:Nat→Int}(i k:Nat):swp1 L T P i k=P k∨(k=i+1∧0<L i∧swp1 L T P i k=P i)∨(k=i∧L i<T∧swp1 L T P i k=P (i+1)):=by
 by_cases e1:k=i
 ·subst e1
  unfold swp1 setF
  split<;>split<;>simp<;>omega
 ·by_cases e2:k=i+1
  ·subst e2
   unfold swp1 setF
   split<;>split<;>simp<;>omega
  ·exact Or.inl (Qmm e1 e2)
structure SwI (c L:Nat→Int) (T:Int) (n r m:Nat) (P:Nat→Int):Prop where
 up:∀i,i<n→∃j,j<n∧Conn L T j i∧P i=c j
 fw:∀i j,i<n→j≤i→PosR L j i→(i≤m∨0<r)→c j≤P i
 bw:∀i j,j<n→i≤j→Qke L T i j→j≤i+r+(if i<m then 1 else 0)→c j≤P i
theorem Qug (c L:Nat→Int) (T:Int) (n:Nat):SwI c L T n 0 0 c:=
 ⟨fun i h=>⟨i,h,Qpm ..,rfl⟩,fun i j _ h1 _ h2=>by rw[show i=j by omega];exact Int.le_refl _,fun i j _ h1 _ h2=>by rw[show i=j by rw[if_neg (by omega)] at h2;omega];exact Int.le_refl _⟩
theorem Qxf {c L:Nat→Int}{T:Int}{n r m:Nat}{P:Nat→Int}(h:SwI c L T n r m P) (hm:m+1<n):SwI c L T n r (m+1) (swp1 L T P m):=by
 have hmono:=fun k=>Quf (L:=L) (T:=T) (P:=P) m k
 obtain⟨_,s2,_,s4⟩:=Qov (L:=L) (T:=T) (P:=P) (i:=m)
 refine⟨fun i hi=>?_,fun i j hi hji hp hor=>?_,fun i j hj hij ho hle=>?_⟩
 ·rcases Qzx (L:=L) (T:=T) (P:=P) m i with e |⟨rfl,hL,e⟩ |⟨rfl,hL,e⟩
  ·rw[e];exact h.up i hi
  ·obtain⟨j,j1,j2,j3⟩:=h.up m (by omega)
   exact⟨j,j1,Qv0 j2 hL,by rw[e,j3]⟩
  ·obtain⟨j,j1,j2,j3⟩:=h.up (i+1) (by omega)
   exact⟨j,j1,Qv1 j2 hL,by rw[e,j3]⟩
 ·by_cases hold:i≤m∨0<r
  ·exact Int.le_trans (h.fw i j hi hji hp hold) (hmono i)
  ·obtain rfl:i=m+1:=by omega
   rcases Nat.eq_or_lt_of_le hji with rfl |hlt
   ·exact Int.le_trans (h.bw _ _ hi (Nat.le_refl _) (fun k a b=>by omega) (by omega)) (hmono _)
   ·have h1:=h.fw m j (by omega) (by omega) (fun k a b=>hp k a (by omega)) (Or.inl (Nat.le_refl _))
    have h2:=s2 (hp m (by omega) (Nat.lt_succ_self m))
    omega
 ·by_cases hold:j≤i+r+(if i<m then 1 else 0)
  ·exact Int.le_trans (h.bw i j hj hij ho hold) (hmono i)
  ·have him:i=m:=by
    split at hold<;>split at hle<;>omega
   subst him
   rcases Nat.eq_or_lt_of_le hij with rfl |hlt
   ·exact Int.le_trans (h.bw _ _ hj (Nat.le_refl _) ho (by omega)) (hmono _)
   ·rw[if_pos (by omega)] at hle
    have h1:=h.bw (i+1) j hj hlt (fun k a b=>ho k (by omega) b) (by omega)
    have h2:=s4 (ho i (Nat.le_refl _) hlt)
    omega
theorem Quh {c L:Nat→Int}{T:Int}{n r:Nat}{P:Nat→Int}(h:SwI c L T n r (n-1) P):SwI c L T n (r+1) 0 P:=by
 refine⟨h.up,fun i j hi hji hp _=>h.fw i j hi hji hp (Or.inl (by omega)),fun i j hj hij ho hle=>?_⟩
 refine h.bw i j hj hij ho ?_
 rw[if_neg (by omega)] at hle
 split<;>omega
structure SwF (c L:Nat→Int) (T:Int) (n:Nat) (P:Nat→Int):Prop where
 up:∀i,i<n→∃j,j<n∧Conn L T j i∧P i=c j
 lo:∀i,i<n→c i≤P i
 fw:∀i,i+1<n→0<L i→P i≤P (i+1)
 bw:∀i,i+1<n→L i<T→P (i+1)≤P i
theorem Qzy {c L:Nat→Int}{T:Int}{n:Nat}{P:Nat→Int}(h:SwI c L T n n 0 P):SwF c L T n P:=by
 have all:∀i j,i<n→j<n→Conn L T j i→c j≤P i:=fun i j hi hj hc=>by
  rcases hc with ⟨h1,h2⟩ |⟨h1,h2⟩
  ·exact h.fw i j hi h1 h2 (Or.inr (by omega))
  ·exact h.bw i j hj h1 h2 (by omega)
 refine⟨h.up,fun i hi=>all i i hi hi (Qpm ..),fun i hi hL=>?_,fun i hi hL=>?_⟩
 ·obtain⟨j,j1,j2,j3⟩:=h.up i (by omega)
  rw[j3]
  exact all (i+1) j hi j1 (Qv0 j2 hL)
 ·obtain⟨j,j1,j2,j3⟩:=h.up (i+1) hi
  rw[j3]
  exact all i j (by omega) j1 (Qv1 j2 hL)
def topP:List Qaf→Int→Int→Int
 |[],_,c=>c
 |s::l,n,c=>topP l (n-min n s.Amount) (if 0<min n s.Amount then s.Price else c)
theorem Qh6 {s:Qaf}{l:List Qaf}(h:Qc3 (s::l)):Qc3 l:=⟨fun x hx=>h.1 x (List.mem_cons_of_mem _ hx),(List.pairwise_cons.1 h.2).2⟩
theorem Qgy (s:Qaf) (l:List Qaf) (a:Nat):preS (s::l) (a+1)=s.Amount+preS l a:=by
 simp[preS,Qbo]
theorem Qjy {s:Qaf}{l:List Qaf}(h:Qc3 (s::l)) {n p:Int}(hn:0≤n):TkL (s::l) n p↔(0<n∧p=s.Price)∨TkL l (n-min n s.Amount) p:=by
 have hA:=(h.1 s (by simp)).1
 constructor
 ·rintro ⟨a,r,h1,h2,h3⟩
  cases a with
  |zero=>simp at h1;subst h1;rw[Qhy] at h2;exact Or.inl ⟨h2,h3.symm⟩
  |succ a=>rw[Qgy] at h2;exact Or.inr ⟨a,r,by simpa using h1,by omega,h3⟩
 ·rintro (⟨h1,h2⟩ |⟨a,r,h1,h2,h3⟩)
  ·exact⟨0,s,rfl,by rw[Qhy];exact h1,h2.symm⟩
  ·refine⟨a+1,r,by simpa using h1,?_,h3⟩
   have:=Qfq (Qh6 h) a
   rw[Qgy]
   omega
theorem Qvi {s:Qaf}{l:List Qaf}(h:Qc3 (s::l)) {n p:Int}(hn:0≤n):FrL (s::l) n p↔(n<s.Amount∧p=s.Price)∨FrL l (n-min n s.Amount) p:=by
 have hA:=(h.1 s (by simp)).1
 constructor
 ·rintro ⟨a,r,h1,h2,h3⟩
  cases a with
  |zero=>
   simp at h1;subst h1
   rw[Qgy,Qhy] at h2
   exact Or.inl ⟨by omega,h3.symm⟩
  |succ a=>
   rw[Qgy] at h2
   have h5:=(h.1 r (List.mem_of_getElem? h1)).1
   have h6:l[a]? = some r:=by simpa using h1
   have:=Qfq (Qh6 h) a
   rw[Qgf h6] at h2
   exact Or.inr ⟨a,r,h6,by rw[Qgf h6];omega,h3⟩
 ·rintro (⟨h1,h2⟩ |⟨a,r,h1,h2,h3⟩)
  ·exact⟨0,s,rfl,by rw[Qgy,Qhy];omega,h2.symm⟩
  ·refine⟨a+1,r,by simpa using h1,?_,h3⟩
   rw[Qgy]
   omega
theorem Qq5 {l:List Qaf}{n p:Int}:TkL l n p→∃s∈l,s.Price=p:=fun ⟨_,s,h1,_,h3⟩=>⟨s,List.mem_of_getElem? h1,h3⟩
theorem Qnn {l:List Qaf}(h:Qc3 l) {p:Int}:¬TkL l 0 p:=fun ⟨a,_,_,h2,_⟩=>by
 have:=Qfq h a
 omega
theorem Qle:∀{l:List Qaf},Qc3 l→∀{n c:Int},0≤n→(topP l n c=c∧∀p,¬TkL l n p)∨(TkL l n (topP l n c)∧∀p,TkL l n p→p≤topP l n c)
 |[],_,n,c,_=>Or.inl ⟨rfl,fun p ⟨a,s,h1,_⟩=>by simp at h1⟩
 |s::l,h,n,c,hn=>by
  have hA:=(h.1 s (by simp)).1
  rw[topP]
  by_cases hm:0<min n s.Amount
  ·rw[if_pos hm]
   refine Or.inr ?_
   rcases Qle (Qh6 h) (n:=n-min n s.Amount) (c:=s.Price) (by omega) with ⟨h1,h2⟩ |⟨h1,h2⟩
   ·rw[h1]
    refine⟨(Qjy h hn).2 (Or.inl ⟨by omega,rfl⟩),fun p hp=>?_⟩
    rcases(Qjy h hn).1 hp with ⟨_,e⟩ |e
    ·omega
    ·exact absurd e (h2 p)
   ·refine⟨(Qjy h hn).2 (Or.inr h1),fun p hp=>?_⟩
    rcases(Qjy h hn).1 hp with ⟨_,e⟩ |e
    ·obtain⟨r,r1,r2⟩:=Qq5 h1
     have:=(List.pairwise_cons.1 h.2).1 r r1
     omega
    ·exact h2 p e
  ·rw[if_neg hm]
   have h0:n=0:=by omega
   subst h0
   rcases Qle (Qh6 h) (n:=0-min 0 s.Amount) (c:=c) (by omega) with ⟨h1,h2⟩ |⟨h1,h2⟩
   ·exact Or.inl ⟨h1,fun p hp=>Qnn h hp⟩
   ·rw[show(0:Int)-min 0 s.Amount=0 by omega] at h1
    exact absurd h1 (Qnn (Qh6 h))
def shS (P:Int):List Qaf→Int→Bool
 |[],_=>true
 |s::l,y=>!(decide (min y s.Amount>0)&&decide (s.Price>P)||decide (min y s.Amount<s.Amount)&&decide (s.Price<P))&&shS P l (y-min y s.Amount)
theorem Qzb {P:Int}:∀{l:List Qaf},Qc3 l→∀{x:Int},0≤x→(∀p,TkL l x p→p≤P)→(∀q,FrL l x q→P≤q)→shS P l x=true
 |[],_,_,_,_,_=>rfl
 |s::l,h,x,hx,h1,h2=>by
  rw[shS,Qzb (Qh6 h) (by omega) (fun p hp=>h1 p ((Qjy h hx).2 (Or.inr hp))) (fun q hq=>h2 q ((Qvi h hx).2 (Or.inr hq)))]
  have hA:=(h.1 s (by simp)).1
  have a1:min x s.Amount>0→s.Price≤P:=fun hm=>h1 s.Price ((Qjy h hx).2 (Or.inl ⟨by omega,rfl⟩))
  have a2:min x s.Amount<s.Amount→P≤s.Price:=fun hm=>h2 s.Price ((Qvi h hx).2 (Or.inl ⟨by omega,rfl⟩))
  simp only[Bool.and_true,Bool.not_eq_true',Bool.or_eq_false_iff,Bool.and_eq_false_iff,decide_eq_false_iff_not]
  omega
theorem Q0d {a b p P:Int}(h1:a<b→P≤p) (h2:b<a→p≤P):P*(b-a)≤(b-a)*p:=by
 rw[Int.mul_comm P]
 rcases Int.lt_trichotomy a b with h |h |h
 ·exact Int.mul_le_mul_of_nonneg_left (h1 h) (by omega)
 ·subst h;simp
 ·have:=Int.mul_le_mul_of_nonneg_left (h2 h) (show 0≤a-b by omega)
  have e1:(b-a)*P=-((a-b)*P):=by rw[←Int.neg_mul];congr 1;omega
  have e2:(b-a)*p=-((a-b)*p):=by rw[←Int.neg_mul];congr 1;omega
  omega
theorem Qod {P:Int}:∀{l:List Qaf},(∀s∈l,1≤s.Amount)→∀{x y:Int},shS P l x=true→0≤x→x≤Qbo l→0≤y→y≤Qbo l→Qez l x+P*(y-x)≤Qez l y
 |[],_,x,y,_,h1,h2,h3,h4=>by
  simp[Qbo] at h2 h4
  rw[show y=x by omega]
  simp[Qez]
 |s::l,hl,x,y,h,h1,h2,h3,h4=>by
  have hA:=hl s (by simp)
  rw[shS] at h
  simp only[Bool.and_eq_true,Bool.not_eq_true',Bool.or_eq_false_iff,Bool.and_eq_false_iff,decide_eq_false_iff_not] at h
  have hw:Qbo (s::l)=s.Amount+Qbo l:=by simp[Qbo]
  have hw0:0≤Qbo l:=by
   clear h2 h4 hw h
   have:∀l:List Qaf,(∀s∈l,1≤s.Amount)→0≤Qbo l:=fun l=>by
    induction l with
    |nil=>intro _;simp[Qbo]
    |cons a l ih=>
     intro h
     have h1:=h a (by simp)
     have h2:=ih fun x hx=>h x (List.mem_cons_of_mem _ hx)
     have:Qbo (a::l)=a.Amount+Qbo l:=by simp[Qbo]
     omega
   exact this l fun x hx=>hl x (List.mem_cons_of_mem _ hx)
  have ih:=Qod (fun r hr=>hl r (List.mem_cons_of_mem _ hr)) (x:=x-min x s.Amount) (y:=y-min y s.Amount) h.2 (by omega) (by omega) (by omega) (by omega)
  have hg:=Q0d (a:=min x s.Amount) (b:=min y s.Amount) (p:=s.Price) (P:=P) (fun hlt=>by
   have:=h.1.2
   omega) (fun hlt=>by
   have:=h.1.1
   omega)
  rw[Qez,Qez]
  have e:P*(y-x)=P*(y-min y s.Amount-(x-min x s.Amount))+P*(min y s.Amount-min x s.Amount):=by
   rw[←Int.mul_add];congr 1;omega
  have e2:(min y s.Amount-min x s.Amount)*s.Price=min y s.Amount*s.Price-min x s.Amount*s.Price:=Int.sub_mul ..
  omega
def lev (S:Int) (x use:Nat→Int):Nat→Int
 |0=>S+x 0-use 0
 |i+1=>lev S x use i+x (i+1)-use (i+1)
def sumN (f:Nat→Int):Nat→Int
 |0=>0
 |n+1=>sumN f n+f n
structure Qne (H:Nat→List Qaf) (use:Nat→Int) (S T:Int) (n:Nat) (x:Nat→Int):Prop where
 fit:∀i,i<n→0≤x i∧x i≤Qbo (H i)
 tank:∀i,i<n→0≤lev S x use i∧lev S x use i≤T
structure ShOK (H:Nat→List Qaf) (use:Nat→Int) (S T:Int) (n:Nat) (x P:Nat→Int):Prop where
 plan:Qne H use S T n x
 bd:∀i,i<n→0≤P i∧P i≤1000
 sh:∀i,i<n→shS (P i) (H i) (x i)=true
 up:∀i,i+1<n→lev S x use i<T→P (i+1)≤P i
 dn:∀i,i+1<n→0<lev S x use i→P i≤P (i+1)
 last:∀i,i+1=n→lev S x use i=0∨P i=0
theorem Qze {a b:Int}(h:(0≤a∧0≤b)∨(a≤0∧b≤0)):0≤a*b:=by
 rcases h with ⟨h1,h2⟩ |⟨h1,h2⟩
 ·exact Int.mul_nonneg h1 h2
 ·have:=Int.mul_nonneg (show 0≤-a by omega) (show 0≤-b by omega)
  rwa [Int.neg_mul_neg] at this
theorem Qw9 {H:Nat→List Qaf}{use:Nat→Int}{S T:Int}{n:Nat}{x y P:Nat→Int}(hs:∀i,i<n→∀s∈H i,1≤s.Amount) (h:ShOK H use S T n x P) (hy:Qne H use S T n y) :
  sumN (fun i=>Qez (H i) (x i)) n≤sumN (fun i=>Qez (H i) (y i)) n:=by
 have key:∀m,m<n→sumN (fun i=>Qez (H i) (x i)) (m+1)+P m*(lev S y use m-lev S x use m)≤sumN (fun i=>Qez (H i) (y i)) (m+1):=by
  intro m
  induction m with
  |zero=>
   intro hm
   obtain⟨a1,a2⟩:=h.plan.fit 0 hm
   obtain⟨b1,b2⟩:=hy.fit 0 hm
   have:=Qod (hs 0 hm) (h.sh 0 hm) a1 a2 b1 b2
   simp only[sumN,lev]
   rw[show S+y 0-use 0-(S+x 0-use 0)=y 0-x 0 by omega]
   omega
  |succ m ih=>
   intro hm
   have ih':=ih (by omega)
   obtain⟨a1,a2⟩:=h.plan.fit (m+1) hm
   obtain⟨b1,b2⟩:=hy.fit (m+1) hm
   have hg:=Qod (hs (m+1) hm) (h.sh (m+1) hm) a1 a2 b1 b2
   obtain⟨c1,c2⟩:=h.plan.tank m (by omega)
   obtain⟨d1,d2⟩:=hy.tank m (by omega)
   have u1:=h.up m hm
   have u2:=h.dn m hm
   have hn:0≤(P m-P (m+1))*(lev S y use m-lev S x use m):=Qze (by omega)
   rw[Int.sub_mul] at hn
   rw[sumN,sumN.eq_def (fun i=>Qez (H i) (y i)) (m+1+1)]
   dsimp only
   have e:P (m+1)*(lev S y use (m+1)-lev S x use (m+1))=P (m+1)*(lev S y use m-lev S x use m)+P (m+1)*(y (m+1)-x (m+1)):=by
    rw[←Int.mul_add];congr 1;simp only[lev];omega
   omega
 cases n with
 |zero=>exact Int.le_refl _
 |succ n=>
  have h1:=key n (Nat.lt_succ_self n)
  obtain⟨d1,d2⟩:=hy.tank n (Nat.lt_succ_self n)
  obtain⟨p0,_⟩:=h.bd n (Nat.lt_succ_self n)
  have:0≤P n*(lev S y use n-lev S x use n):=Qze (by
   rcases h.last n rfl with e |e
   ·exact Or.inl ⟨p0,by omega⟩
   ·rcases Int.le_total 0 (lev S y use n-lev S x use n) with e' |e'
    ·exact Or.inl ⟨p0,e'⟩
    ·exact Or.inr ⟨by omega,e'⟩)
  omega
theorem Q2p {H:Nat→List Qaf}{use x L P:Nat→Int}{S T:Int}{n:Nat}(hs:∀i,i<n→Qc3 (H i)) (hpl:Qne H use S T n x) (hL:∀i,i<n→L i=lev S x use i) (hI:GrI H x L T (n-1)) (hP:SwF (fun i=>topP (H i) (x i) 0) L T n P) (hlast:∀i,i+1=n→0<L i→∀j,j<n→x j=0):ShOK H use S T n x P:=by
 have tops:∀j,j<n→(topP (H j) (x j) 0=0∧∀p,¬TkL (H j) (x j) p)∨(TkL (H j) (x j) (topP (H j) (x j) 0)∧∀p,TkL (H j) (x j) p→p≤topP (H j) (x j) 0):=fun j hj=>Qle (hs j hj) (hpl.fit j hj).1
 refine⟨hpl,fun i hi=>?_,fun i hi=>?_,fun i hi h=>?_,fun i hi h=>?_,fun i hi=>?_⟩
 ·obtain⟨j,j1,_,j3⟩:=hP.up i hi
  rw[j3]
  rcases tops j j1 with ⟨e,_⟩ |⟨e,_⟩
  ·omega
  ·obtain⟨r,r1,r2⟩:=Qq5 e
   have:=(hs j j1).1 r r1
   omega
 ·refine Qzb (hs i hi) (hpl.fit i hi).1 (fun p hp=>?_) (fun q hq=>?_)
  ·have:=hP.lo i hi
   rcases tops i hi with ⟨_,e⟩ |⟨_,e⟩
   ·exact absurd hp (e p)
   ·have:=e p hp;omega
  ·obtain⟨j,j1,j2,j3⟩:=hP.up i hi
   rw[j3]
   rcases tops j j1 with ⟨e,_⟩ |⟨e,_⟩
   ·obtain⟨b,r,r1,r2,r3⟩:=hq
    have:=(hs i hi).1 r (List.mem_of_getElem? r1)
    omega
   ·exact hI i j (by omega) (by omega) j2 _ q e hq
 ·exact hP.bw i hi (by rw[hL i (by omega)];exact h)
 ·exact hP.fw i hi (by rw[hL i (by omega)];exact h)
 ·rw[←hL i (by omega)]
  by_cases h0:0<L i
  ·refine Or.inr ?_
   obtain⟨j,j1,_,j3⟩:=hP.up i (by omega)
   rw[j3]
   rcases tops j j1 with ⟨e,_⟩ |⟨e,_⟩
   ·exact e
   ·rw[hlast i hi h0 j j1] at e
    exact absurd e (Qnn (hs j j1))
  ·have:=(hpl.tank i (by omega)).1
   rw[←hL i (by omega)] at this
   exact Or.inl (by omega)
end
section
def hrs (h:List Qah) (i:Nat):List Qaf:=match h[i]? with |some x=>x.Stairs |none=>[]
def useF (h:List Qah) (i:Nat):Int:=match h[i]? with |some x=>x.Use |none=>0
def gt (l:List Int) (i:Nat):Int:=l.getD i 0
theorem Qgu {l:List Int}{i:Nat}(h:i<l.length):l[i]? = some (gt l i):=by
 rw[gt,List.getD_eq_getElem?_getD,List.getElem?_eq_getElem h,Option.getD_some]
theorem Qkh {l:List Int}{m:Nat}{v:Int}(h:m<l.length):gt (l.set m v)=setF (gt l) m v:=by
 funext k
 show(l.set m v).getD k 0=if k=m then v else l.getD k 0
 rw[List.getD_eq_getElem?_getD,List.getElem?_set,List.getD_eq_getElem?_getD]
 by_cases e:k=m
 ·subst e
  rw[if_pos rfl,if_pos h,if_pos rfl,Option.getD_some]
 ·rw[if_neg (Ne.symm e),if_neg e]
theorem Qhl {h:List Qah}{i:Nat}{x:Qah}(e:h[i]? = some x):hrs h i=x.Stairs∧useF h i=x.Use:=by
 unfold hrs useF
 rw[e]
 exact⟨rfl,rfl⟩
theorem Qqi (S:Int) (x use:Nat→Int) (m:Nat) (n:Int):∀i,lev S (setF x m (x m+n)) use i=lev S x use i+if m≤i then n else 0
 |0=>by
  unfold lev setF
  by_cases e:0=m
  ·subst e;simp;omega
  ·rw[if_neg e,if_neg (by omega)];omega
 |i+1=>by
  rw[lev,Qqi S x use m n i,lev]
  unfold setF
  by_cases e:i+1=m
  ·subst e;rw[if_pos rfl,if_neg (by omega),if_pos (by omega)];omega
  ·rw[if_neg e]
   by_cases e2:m≤i
   ·rw[if_pos e2,if_pos (by omega)];omega
   ·rw[if_neg e2,if_neg (by omega)];omega
structure PosO (l:List Qaf) (us lf x:Int) (u:Nat):Prop where
 us:us=u
 le:u≤l.length
 at_:∀s,l[u]? = some s→0<lf∧lf≤s.Amount∧x=preS l u+s.Amount-lf
 end_:u=l.length→x=Qbo l
structure Qg5 (hs:List Qah) (T S:Int) (t:Nat) (g:Int) (us lf:Nat→Int) (pl lv:List Int):Prop where
 npl:pl.length=hs.length
 nlv:lv.length=hs.length
 pos:∀i,i<hs.length→∃u,PosO (hrs hs i) (us i) (lf i) (gt pl i) u
 later:∀i,t<i→gt pl i=0
 lvl:∀i,t≤i→gt lv i=0
 tank:∀i,i<t→0≤gt lv i∧gt lv i≤T∧gt lv i=lev S (gt pl) (useF hs) i
 gap:lev S (gt pl) (useF hs) t=g
 inv:GrI (hrs hs) (gt pl) (gt lv) T t
theorem Quv {l:List Qaf}(h:Qc3 l) {us lf x:Int}{u:Nat}(hp:PosO l us lf x u):preS l u≤x∧0≤x∧x≤Qbo l:=by
 have h0:=Qfq h u
 have h1:=Qnw h u
 rcases Nat.lt_or_ge u l.length with hlt |hge
 ·obtain⟨a,b,c⟩:=hp.at_ _ (List.getElem?_eq_getElem hlt)
  have h2:=Qnw h (u+1)
  rw[Qgf (List.getElem?_eq_getElem hlt)] at h2
  omega
 ·have e:u=l.length:=by have:=hp.le;omega
  have h3:=hp.end_ e
  omega
def addL (lv:List Int) (a b:Nat) (n:Int):List Int:=lv.mapIdx fun k x=>if a≤k∧k<b then x+n else x
theorem Qyy (lv:List Int) (a b:Nat) (n:Int):(addL lv a b n).length=lv.length:=by simp[addL]
theorem Q0i {lv:List Int}{a b:Nat}{n:Int}(hb:b≤lv.length):gt (addL lv a b n)=addR (gt lv) a b n:=by
 funext k
 unfold addR addL gt
 rw[List.getD_eq_getElem?_getD,List.getElem?_mapIdx,List.getD_eq_getElem?_getD]
 cases h:lv[k]? with
 |none=>
  have:=List.getElem?_eq_none_iff.1 h
  rw[if_neg (by omega)]
  rfl
 |some x=>simp
theorem Qyx {lv:List Int}{a:Nat}{n:Int}:addL lv a a n=lv:=by
 refine List.ext_getElem? fun k=>?_
 unfold addL
 rw[List.getElem?_mapIdx]
 cases lv[k]? with
 |none=>rfl
 |some x=>simp;omega
theorem Qyw {lv:List Int}{a b:Nat}{n x:Int}(hx:lv[a]? = some x) (hab:a<b):addL (lv.set a (x+n)) (a+1) b n=addL lv a b n:=by
 have ha:=(List.getElem?_eq_some_iff.1 hx).1
 refine List.ext_getElem? fun k=>?_
 unfold addL
 rw[List.getElem?_mapIdx,List.getElem?_mapIdx,List.getElem?_set]
 by_cases e:a=k
 ·subst e
  rw[if_pos rfl,if_pos ha,hx]
  simp only[Option.map_some,Option.some.injEq]
  rw[if_neg (by omega),if_pos (by omega)]
 ·rw[if_neg e]
  cases lv[k]? with
  |none=>rfl
  |some y=>
   simp only[Option.map_some,Option.some.injEq]
   by_cases h:a≤k∧k<b
   ·rw[if_pos h,if_pos (by omega)]
   ·rw[if_neg h,if_neg (by omega)]
theorem Que (N:Nat) (p0:Int) (t:Nat) (n x6:Int) (len:Nat) (p10:List Int) (f1 f2:Nat→Int) (hlen:len≤24) (htl:t≤len):∀(k i:Nat) (lv:List Int),t-i<k→i≤t→lv.length=len→(∀j,i≤j→j<t→-10000000000≤gt lv j+n∧gt lv j+n≤10000000000) →
  Qbs N p0 t n x6 len p10 f1 f2 k i lv=some (f1,f2,p10.set p0.toNat (w64 (x6+n)),addL lv i t n):=by
 intro k
 induction k with
 |zero=>intro i _ h;omega
 |succ k ih=>
  intro i lv h hi hl hb
  rw[Qbs]
  rcases Nat.eq_or_lt_of_le hi with rfl |hlt
  ·rw[show decide ((i:Int)<(i:Int))=false from decide_eq_false (by omega),cond_false,Qyx]
  ·have hx:=Qgu (l:=lv) (i:=i) (by omega)
   have hbi:=hb i (Nat.le_refl _) hlt
   have e1:w64 ((i:Int)+1)=((i+1:Nat):Int):=Qcj (by omega) (by omega)
   have e2:w64 (gt lv i+n)=gt lv i+n:=Qcj (by omega) (by omega)
   simp only[show decide ((i:Int)<(t:Int))=true from decide_eq_true (by omega),cond_true,chk,Int.toNat_natCast,show decide (0≤(i:Int))=true from decide_eq_true (by omega),show decide (i<len)=true from decide_eq_true (by omega),Bool.and_self,hx,Option.bind_some,e1,e2]
   rw[ih (i+1) _ (by omega) (by omega) (by simpa using hl) (fun j h1 h2=>by
    rw[Qkh (by omega)]
    unfold setF
    rw[if_neg (by omega)]
    exact hb j (by omega) h2),Qyw hx hlt]
theorem Qd8 (f:Nat→Int) (k:Nat) (x:Int):setF f k x k=x:=by simp[setF]
theorem Qfg {f:Nat→Int}{k j:Nat}{x:Int}(h:j≠k):setF f k x j=f j:=by simp[setF,h]
theorem Qzw {N:Nat}{hs:List Qah}{T S g n:Int}{t m u:Nat}{us lf:Nat→Int}{pl lv:List Int}{s:Qaf}(hN:2000≤N) (h24:hs.length≤24) (ht:t<hs.length) (hH:∀i,i<hs.length→Qc3 (hrs hs i)) (hw:∀i,i<hs.length→Qbo (hrs hs i)≤6000000000) (hl6:∀i,i<hs.length→(hrs hs i).length≤6) (hT:T≤1000000000) (h:Qg5 hs T S t g us lf pl lv) (hmt:m≤t)
  (hpos:PosO (hrs hs m) (us m) (lf m) (gt pl m) u) (hu:(hrs hs m)[u]? = some s) (hn0:0<n) (hn:n≤lf m) (hroom:∀k,m≤k→k<t→n≤T-gt lv k) (hmin:∀i,i≤t→Qke (gt lv) T i t→∀q,FrL (hrs hs i) (gt pl i) q→s.Price≤q) :
  ∃us' lf' pl' lv',Qdr N m t n T S hs hs.length hs.length us lf pl lv=some (us',lf',pl',lv')∧Qg5 hs T S t (g+n) us' lf' pl' lv'∧(∀i,us i≤us' i)∧(n=lf m→us' m=us m+1)∧gt lv'=addR (gt lv) m t n:=by
 have hm:m<hs.length:=by omega
 have hs':=hH m hm
 obtain⟨hl0,hl1,hx⟩:=hpos.at_ s hu
 have hsm:=hs'.1 s (List.mem_of_getElem? hu)
 have hpl:=Quv hs' hpos
 have hwm:=hw m hm
 have hsu:=Qgf hu
 have hpu:=Qfq hs' u
 have hpw:=Qnw hs' (u+1)
 have hul:=(List.getElem?_eq_some_iff.1 hu).1
 have h6:=hl6 m hm
 have hgm:hs[m]? = some hs[m]:=List.getElem?_eq_getElem hm
 generalize hs[m]=hr at hgm
 obtain⟨hr1,_⟩:=Qhl hgm
 rw[hr1] at hu hul hsu hpw hs' hpos h6 hx hpu
 have hplm:=Qgu (l:=pl) (i:=m) (by rw[h.npl];omega)
 have ex:w64 (gt pl m+n)=gt pl m+n:=Qcj (by omega) (by omega)
 have el:w64 (lf m-n)=lf m-n:=Qcj (by omega) (by omega)
 have eu:w64 (us m+1)=((u+1:Nat):Int):=by rw[hpos.us,Qcj (by omega) (by omega)];omega
 have hlv:=h.nlv
 have hgl:gt (addL lv m t n)=addR (gt lv) m t n:=Q0i (by omega)
 have hgp:gt (pl.set m (gt pl m+n))=setF (gt pl) m (gt pl m+n):=Qkh (by rw[h.npl];omega)
 have base:∀us' lf':Nat→Int,(∀i,i≠m→us' i=us i∧lf' i=lf i)→(∃u',PosO (hrs hs m) (us' m) (lf' m) (gt pl m+n) u')→Qg5 hs T S t (g+n) us' lf' (pl.set m (gt pl m+n)) (addL lv m t n):=fun us' lf' hoth hnew=>by
  refine⟨by rw[List.length_set,h.npl],by rw[Qyy,h.nlv],fun i hi=>?_,fun i hi=>?_,fun i hi=>?_,fun i hi=>?_,?_,?_⟩
  ·rw[hgp]
   by_cases e:i=m
   ·subst e
    rw[Qd8]
    exact hnew
   ·obtain⟨e1,e2⟩:=hoth i e
    rw[Qfg e,e1,e2]
    exact h.pos i hi
  ·rw[hgp,Qfg (by omega)];exact h.later i hi
  ·rw[hgl];unfold addR;rw[if_neg (by omega)];exact h.lvl i hi
  ·obtain⟨t1,t2,t3⟩:=h.tank i hi
   rw[hgl,hgp,Qqi]
   unfold addR
   by_cases e:m≤i
   ·have:=hroom i e hi
    rw[if_pos ⟨e,hi⟩,if_pos e]
    omega
   ·rw[if_neg (by omega),if_neg e]
    omega
  ·rw[hgp,Qqi,if_pos hmt,h.gap]
  ·rw[hgp,hgl]
   exact Qx1 (fun i hi=>hH i (by omega)) h.inv hmt (by rw[hr1];exact hu) (by rw[hr1];omega) (by rw[hr1];omega) hn0 (fun k h1 h2=>by have:=hroom k h1 h2;omega) hmin
 have loop:∀f1 f2,Qbs N m t n (gt pl m) hs.length pl f1 f2 N m lv=some (f1,f2,pl.set m (gt pl m+n),addL lv m t n):=fun f1 f2=>by
  rw[Que N m t n (gt pl m) hs.length pl f1 f2 h24 (by omega) N m lv (by omega) hmt h.nlv (fun j h1 h2=>by
   have:=hroom j h1 h2
   have:=(h.tank j h2).1
   omega),ex,Int.toNat_natCast]
 unfold Qdr
 simp only[chk,Int.toNat_natCast,show decide (0≤(m:Int))=true from decide_eq_true (by omega),show decide (m<hs.length)=true from decide_eq_true hm,show decide (m<24)=true from decide_eq_true (by omega),Bool.and_self,cond_true,hplm,Option.bind_some,Qco,el,eu,Qd8,loop,Qdn hgm]
 by_cases hz:lf m-n=0
 ·simp only[hz,beq_self_eq_true,cond_true]
  by_cases hlast:u+1<hr.Stairs.length
  ·have hg2:hr.Stairs[u+1]? = some hr.Stairs[u+1]:=List.getElem?_eq_getElem hlast
   simp only[show decide (((u+1:Nat):Int)<(hr.Stairs.length:Int))=true from decide_eq_true (by omega),cond_true,Qdn hg2,Option.bind_some]
   refine⟨_,_,_,_,rfl,base _ _ (fun i hi=>⟨Qfg hi,by rw[Qfg hi,Qfg hi]⟩) ⟨u+1,?_⟩,fun i=>?_,fun _=>?_,hgl⟩
   ·rw[Qd8,Qd8,hr1]
    have hA:=hs'.1 _ (List.mem_of_getElem? hg2)
    refine⟨rfl,by omega,fun s' hs2=>?_,fun e=>by omega⟩
    rw[hg2] at hs2
    cases hs2
    omega
   ·unfold setF
    split
    ·rename_i e;subst e;rw[hpos.us];omega
    ·exact Int.le_refl _
   ·rw[Qd8,hpos.us];omega
  ·simp only[show decide (((u+1:Nat):Int)<(hr.Stairs.length:Int))=false from decide_eq_false (by omega),cond_false]
   refine⟨_,_,_,_,rfl,base _ _ (fun i hi=>⟨Qfg hi,by rw[Qfg hi]⟩) ⟨u+1,?_⟩,fun i=>?_,fun _=>?_,hgl⟩
   ·rw[Qd8,hr1]
    refine⟨rfl,by omega,fun s' hs2=>?_,fun e=>?_⟩
    ·have:=(List.getElem?_eq_some_iff.1 hs2).1
     omega
    ·rw[←Qrd,←e]
     omega
   ·unfold setF
    split
    ·rename_i e;subst e;rw[hpos.us];omega
    ·exact Int.le_refl _
   ·rw[Qd8,hpos.us];omega
 ·simp only[show((lf m-n)==0)=false from by simpa using hz,cond_false]
  refine⟨_,_,_,_,rfl,base _ _ (fun i hi=>⟨rfl,Qfg hi⟩) ⟨u,?_⟩,fun i=>Int.le_refl _,fun e=>by omega,hgl⟩
  rw[Qd8,hr1]
  refine⟨hpos.us,hpos.le,fun s' hs2=>?_,fun e=>?_⟩
  ·rw[hu] at hs2
   cases hs2
   omega
  ·have:=hul
   omega
end
section
structure DayP (hs:List Qah) (T:Int):Prop where
  few:hs.length≤24
  ok:∀i,i<hs.length→Qc3 (hrs hs i)
  whole:∀i,i<hs.length→0≤Qbo (hrs hs i)∧Qbo (hrs hs i)≤6000000000
  six:∀i,i<hs.length→(hrs hs i).length≤6
  use:∀i,i<hs.length→0≤useF hs i∧useF hs i≤1000000000
  tank:0≤T∧T≤1000000000
structure Q25 (lv:List Int) (T lack lf:Int) (t i:Nat) (m:Int):Prop where
  pos:0<m
  mlf:m≤lf
  mlack:m≤lack
  room:∀k,i≤k→k<t→m≤T-gt lv k
  why:m=lack∨m=lf∨∃k,i≤k∧k<t∧m=T-gt lv k
structure Q24 (lv:List Int) (T lack:Int) (t c:Nat) (r:Int):Prop where
  pos:0<r
  mlack:r≤lack
  room:∀k,c≤k→k<t→r≤T-gt lv k
  why:r=lack∨∃k,c≤k∧k<t∧r=T-gt lv k
def Qs3 (hs:List Qah) (us lf:Nat→Int) (pl lv:List Int) (T lack:Int) (t c:Nat) (C:Nat→Prop) (b p m:Int):Prop:=
  (b=-1∧∀i,C i→∀q,¬FrL (hrs hs i) (gt pl i) q) ∨
  (∃i u s,c≤i∧i≤t∧b=(i:Nat)∧p=s.Price∧PosO (hrs hs i) (us i) (lf i) (gt pl i) u∧(hrs hs i)[u]? = some s∧Q25 lv T lack (lf i) t i m∧∀i',C i'→∀q,FrL (hrs hs i') (gt pl i') q→s.Price≤q)
theorem Q0c {N:Nat}{hs:List Qah}{T S g:Int}{t c:Nat}{us lf:Nat→Int}{pl lv:List Int}(hd:DayP hs T) (h:Qg5 hs T S t g us lf pl lv) (hc:c<hs.length) :
    ∃u,PosO (hrs hs c) (us c) (lf c) (gt pl c) u∧((u=(hrs hs c).length∧Qdf N c T S hs hs.length hs.length us lf pl lv=some (⟨0,0⟩,false)∧∀q,¬FrL (hrs hs c) (gt pl c) q) ∨
      ∃s,(hrs hs c)[u]? = some s∧Qdf N c T S hs hs.length hs.length us lf pl lv=some (⟨lf c,s.Price⟩,true)∧∀q,FrL (hrs hs c) (gt pl c) q→s.Price≤q):=by
  obtain⟨u,hu⟩:=h.pos c hc
  have h24:=hd.few
  have hok:=hd.ok c hc
  have hg:hs[c]? = some hs[c]:=List.getElem?_eq_getElem hc
  generalize hs[c]=hr at hg
  obtain⟨hr1,_⟩:=Qhl hg
  refine⟨u,hu,?_⟩
  have hpl:=Quv hok hu
  have hle:=hu.le
  unfold Qdf
  simp only[chk,Int.toNat_natCast,show decide (0≤(c:Int))=true from decide_eq_true (by omega),show decide (c<24)=true from decide_eq_true (by omega),Bool.and_self,cond_true,Qdn hg,Option.bind_some,hu.us]
  rw[hr1] at hle hok hpl ⊢
  rcases Nat.eq_or_lt_of_le hle with e |hlt
  · refine Or.inl ⟨e,by simp[e],fun q ⟨b,s,h1,h2,_⟩=>?_⟩
    have:=hu.end_ (by rw[hr1];exact e)
    have:=Qnw hok (b+1)
    rw[hr1] at *
    omega
  · have hs':hr.Stairs[u]? = some hr.Stairs[u]:=List.getElem?_eq_getElem hlt
    refine Or.inr ⟨hr.Stairs[u],hs',?_,fun q hq=>Q3r hok hs' hpl.1 hq⟩
    simp only[Q2m,show decide (u=hr.Stairs.length)=false from decide_eq_false (by omega),cond_false,Qdn hs',Option.bind_some]
theorem Quq {N:Nat}{hs:List Qah}{T S g lack:Int}{t:Nat}{us lf:Nat→Int}{pl lv:List Int}(hd:DayP hs T) (ht:t<hs.length) (h:Qg5 hs T S t g us lf pl lv) (hlack:lack≤1000000000) (K:Int×Int→Option ((Nat→Int)×(Nat→Int)×(List Int)×(List Int))) :
    ∀(c:Nat) (fuel:Nat) (b p m r:Int),c<fuel→c≤t+1→Q24 lv T lack t c r→Qs3 hs us lf pl lv T lack t c (fun i=>c≤i∧i≤t) b p m →
    ∃b' p' m',Qas N t T S hs hs.length hs.length us lf pl lv K fuel b p m r ((c:Int)-1)=K (b',m')∧Qs3 hs us lf pl lv T lack t 0 (fun i=>i≤t∧Qke (gt lv) T i t) b' p' m':=by
  have h24:=hd.few
  obtain⟨T0,T1⟩:=hd.tank
  intro c
  induction c with
  |zero=>
    intro fuel b p m r hf _ _ hb
    obtain⟨n,rfl⟩:∃n,fuel=n+1:=⟨fuel-1,by omega⟩
    refine⟨b,p,m,?_,?_⟩
    · rw[Qas,show decide ((((0:Nat):Int)-1)≥0)=false from decide_eq_false (by omega),cond_false]
    · rcases hb with ⟨h1,h2⟩ |⟨i,u,s,h1,h2,h3,h4,h5,h6,h7,h8⟩
      · exact Or.inl ⟨h1,fun i hi=>h2 i ⟨by omega,hi.1⟩⟩
      · exact Or.inr ⟨i,u,s,h1,h2,h3,h4,h5,h6,h7,fun i' hi'=>h8 i' ⟨by omega,hi'.1⟩⟩
  |succ c ih=>
    intro fuel b p m r hf hct hr hb
    obtain⟨n,rfl⟩:∃n,fuel=n+1:=⟨fuel-1,by omega⟩
    have hct':c≤t:=by omega
    have hcl:c<hs.length:=by omega
    rw[Qas,show(((c+1:Nat):Int)-1)=(c:Int) from by omega,show decide ((c:Int)≥0)=true from decide_eq_true (by omega),cond_true]
    have e1:w64 ((c:Int)-1)=(c:Int)-1:=Qcj (by omega) (by omega)
    simp only[Qco,e1]
    have hr0:=hr.pos
    have key:∀r',Q24 lv T lack t c r'→∃b' p' m',(bif (r'==0) then K (b,m) else(Qdf N c T S hs hs.length hs.length us lf pl lv).bind fun x39=>
        bif x39.2 then
         bif (decide (b<0)) then
          (some (if x39.1.Amount<r' then x39.1.Amount else r')).bind fun x42=>
          Qas N t T S hs hs.length hs.length us lf pl lv K n c x39.1.Price x42 r' ((c:Int)-1)
         else
          bif (decide (x39.1.Price<p)) then
           (some (if x39.1.Amount<r' then x39.1.Amount else r')).bind fun x45=>
           Qas N t T S hs hs.length hs.length us lf pl lv K n c x39.1.Price x45 r' ((c:Int)-1)
          else
           Qas N t T S hs hs.length hs.length us lf pl lv K n b p m r' ((c:Int)-1)
        else
         Qas N t T S hs hs.length hs.length us lf pl lv K n b p m r' ((c:Int)-1))=K (b',m')∧Qs3 hs us lf pl lv T lack t 0 (fun i=>i≤t∧Qke (gt lv) T i t) b' p' m':=by
      intro r' hr'
      have hr0':=hr'.pos
      rw[show(r'==0)=false from beq_eq_false_iff_ne.2 (by omega),cond_false]
      have wide:Qs3 hs us lf pl lv T lack t (c+1) (fun i=>c+1≤i∧i≤t) b p m→(∀q,FrL (hrs hs c) (gt pl c) q→¬b<0∧p≤q)→Qs3 hs us lf pl lv T lack t c (fun i=>c≤i∧i≤t) b p m:=fun hb hq=>by
        rcases hb with ⟨h1,h2⟩ |⟨i,u,s,h1,h2,h3,h4,h5,h6,h7,h8⟩
        · refine Or.inl ⟨h1,fun i hi q hf=>?_⟩
          rcases Nat.eq_or_lt_of_le hi.1 with rfl |hlt
          · have:=(hq q hf).1
            omega
          · exact h2 i ⟨hlt,hi.2⟩ q hf
        · refine Or.inr ⟨i,u,s,by omega,h2,h3,h4,h5,h6,h7,fun i' hi' q hf=>?_⟩
          rcases Nat.eq_or_lt_of_le hi'.1 with rfl |hlt
          · have:=(hq q hf).2
            omega
          · exact h8 i' ⟨hlt,hi'.2⟩ q hf
      obtain⟨u,hu,⟨hend,hn,hno⟩ |⟨s,hs1,hn,hmin⟩⟩:=Q0c (N:=N) hd h hcl
      · rw[hn]
        simp only[Option.bind_some,cond_false]
        exact ih n b p m r' (by omega) (by omega) hr' (wide hb fun q hq=>absurd hq (hno q))
      · rw[hn]
        simp only[Option.bind_some,cond_true]
        have hmost:Q25 lv T lack (lf c) t c (if lf c<r' then lf c else r'):=by
          have:=(hu.at_ s hs1).1
          have h1:=hr'.mlack
          refine⟨by split<;>omega,by split<;>omega,by split<;>omega,fun k k1 k2=>?_,?_⟩
          · have:=hr'.room k k1 k2
            split<;>omega
          · split
            · exact Or.inr (Or.inl rfl)
            · rcases hr'.why with e |⟨k,k1,k2,k3⟩
              · exact Or.inl e
              · exact Or.inr (Or.inr ⟨k,k1,k2,k3⟩)
        have new:(∀i,c+1≤i→i≤t→∀q,FrL (hrs hs i) (gt pl i) q→s.Price≤q)→Qs3 hs us lf pl lv T lack t c (fun i=>c≤i∧i≤t) c s.Price (if lf c<r' then lf c else r'):=fun hall=>by
          refine Or.inr ⟨c,u,s,Nat.le_refl _,hct',rfl,rfl,hu,hs1,hmost,fun i' hi' q hf=>?_⟩
          rcases Nat.eq_or_lt_of_le hi'.1 with rfl |hlt
          · exact hmin q hf
          · exact hall i' hlt hi'.2 q hf
        rcases hb with ⟨h1,h2⟩ |⟨i,u',s',h1,h2,h3,h4,h5,h6,h7,h8⟩
        · rw[show decide (b<0)=true from decide_eq_true (by omega),cond_true]
          exact ih n _ _ _ r' (by omega) (by omega) hr' (new fun i a1 a2 q hq=>absurd hq (h2 i ⟨a1,a2⟩ q))
        · rw[show decide (b<0)=false from decide_eq_false (by omega),cond_false]
          by_cases hlt:s.Price<p
          · rw[show decide (s.Price<p)=true from decide_eq_true hlt,cond_true]
            exact ih n _ _ _ r' (by omega) (by omega) hr' (new fun i a1 a2 q hq=>by have:=h8 i ⟨a1,a2⟩ q hq;omega)
          · rw[show decide (s.Price<p)=false from decide_eq_false hlt,cond_false]
            exact ih n _ _ _ r' (by omega) (by omega) hr' (wide (Or.inr ⟨i,u',s',h1,h2,h3,h4,h5,h6,h7,h8⟩) fun q hq=>⟨by omega,by have:=hmin q hq;omega⟩)
    rcases Nat.eq_or_lt_of_le hct' with rfl |hlt
    · rw[show decide ((c:Int)<(c:Int))=false from decide_eq_false (by omega),cond_false]
      exact key r ⟨hr.pos,hr.mlack,fun k a1 a2=>by omega,by
        rcases hr.why with e |⟨k,k1,k2,_⟩
        · exact Or.inl e
        · omega⟩
    · have hx:=Qgu (l:=lv) (i:=c) (by rw[h.nlv];omega)
      obtain⟨l0,l1,_⟩:=h.tank c hlt
      have e2:w64 (T-gt lv c)=T-gt lv c:=Qcj (by omega) (by omega)
      simp only[show decide ((c:Int)<(t:Int))=true from decide_eq_true (by omega),cond_true,chk,Int.toNat_natCast,show decide (0≤(c:Int))=true from decide_eq_true (by omega),show decide (c<hs.length)=true from decide_eq_true (by omega),Bool.and_self,hx,Option.bind_some,e2]
      by_cases hfull:T-gt lv c=0
      · refine⟨b,p,m,?_,?_⟩
        · rw[show((if T-gt lv c<r then T-gt lv c else r)==0)=true from by rw[beq_iff_eq];split<;>omega,cond_true]
        · have hout:∀i,i≤t∧Qke (gt lv) T i t→c+1≤i∧i≤t:=fun i ⟨a1,a2⟩=>by
            refine⟨?_,a1⟩
            rcases Nat.lt_or_ge c i with h1 |h1
            · exact h1
            · have:=a2 c h1 hlt
              omega
          rcases hb with ⟨h1,h2⟩ |⟨i,u,s,h1,h2,h3,h4,h5,h6,h7,h8⟩
          · exact Or.inl ⟨h1,fun i hi=>h2 i (hout i hi)⟩
          · exact Or.inr ⟨i,u,s,Nat.zero_le _,h2,h3,h4,h5,h6,h7,fun i' hi'=>h8 i' (hout i' hi')⟩
      · refine key _ ⟨by split<;>omega,by have:=hr.mlack;split<;>omega,fun k a1 a2=>?_,?_⟩
        · rcases Nat.eq_or_lt_of_le a1 with rfl |a3
          · split<;>omega
          · have:=hr.room k a3 a2
            split<;>omega
        · by_cases hmin:T-gt lv c<r
          · exact Or.inr ⟨c,Nat.le_refl _,hlt,by rw[if_pos hmin]⟩
          · rw[if_neg hmin]
            rcases hr.why with e |⟨k,k1,k2,k3⟩
            · exact Or.inl e
            · exact Or.inr ⟨k,by omega,k2,k3⟩
def yF (hs:List Qah) (T S:Int):Nat→Int
  |0=>S
  |i+1=>min (yF hs T S i+Qbo (hrs hs i)-useF hs i) T
theorem Qlp (L:Nat→Int) (T:Int) (t:Nat):∀j,j≤t→Qke L T j t→∃i,i≤j∧Qke L T i t∧(i=0∨T≤L (i-1))
  |0,_,h=>⟨0,Nat.le_refl _,h,Or.inl rfl⟩
  |j+1,hj,h=>by
    by_cases hL:L j<T
    · obtain⟨i,h1,h2,h3⟩:=Qlp L T t j (by omega) (fun k a b=>by
        rcases Nat.eq_or_lt_of_le a with rfl |hlt
        · exact hL
        · exact h k hlt b)
      exact⟨i,by omega,h2,h3⟩
    · exact⟨j+1,Nat.le_refl _,h,Or.inr (by simpa using hL)⟩
theorem Qsk {hs:List Qah}{T S g:Int}{t:Nat}{us lf:Nat→Int}{pl lv:List Int}(hd:DayP hs T) (ht:t<hs.length) (h:Qg5 hs T S t g us lf pl lv) (hno:∀i,i≤t∧Qke (gt lv) T i t→∀q,¬FrL (hrs hs i) (gt pl i) q):yF hs T S t+Qbo (hrs hs t)-useF hs t≤g:=by
  obtain⟨i0,h1,h2,h3⟩:=Qlp (gt lv) T t t (Nat.le_refl _) (fun k a b=>by omega)
  have hfull:∀i,i0≤i→i≤t→gt pl i=Qbo (hrs hs i):=fun i a b=>by
    obtain⟨u,hu⟩:=h.pos i (by omega)
    rcases Nat.eq_or_lt_of_le hu.le with e |hlt
    · exact hu.end_ e
    · have hs':(hrs hs i)[u]? = some (hrs hs i)[u]:=List.getElem?_eq_getElem hlt
      obtain⟨c1,c2,c3⟩:=hu.at_ _ hs'
      exact absurd ⟨u,_,hs',by rw[Qgf hs'];omega,rfl⟩ (hno i ⟨b,fun k k1 k2=>h2 k (by omega) k2⟩ _)
  have key:∀d,i0+d≤t→yF hs T S (i0+d)+Qbo (hrs hs (i0+d))-useF hs (i0+d)≤lev S (gt pl) (useF hs) (i0+d):=by
    intro d
    induction d with
    |zero=>
      intro hd0
      have hf:=hfull i0 (Nat.le_refl _) h1
      rcases h3 with rfl |h3
      · simp only[yF,lev,Nat.add_zero];omega
      · cases i0 with
        |zero=>simp only[yF,lev,Nat.add_zero];omega
        |succ i0=>
          have:=(h.tank i0 (by omega)).2.2
          simp only[yF,lev,Nat.add_zero,Nat.add_sub_cancel] at *
          omega
    |succ d ih=>
      intro hd1
      have ih':=ih (by omega)
      have hf:=hfull (i0+(d+1)) (by omega) hd1
      rw[show i0+(d+1)=(i0+d)+1 by omega] at hf ⊢
      simp only[yF,lev]
      omega
  have:=key (t-i0) (by omega)
  rw[show i0+(t-i0)=t by omega,h.gap] at this
  exact this
def muF (hs:List Qah) (T:Int) (t:Nat) (us:Nat→Int) (lv:List Int):Nat→Int:=fun i=>((hrs hs i).length:Int)-us i+if i<t∧gt lv i<T then 1 else 0
theorem Qlf {f g:Nat→Int}:∀{n:Nat},(∀i,i<n→f i≤g i)→sumN f n≤sumN g n
  |0,_=>Int.le_refl _
  |n+1,h=>by
    have:=Qlf (n:=n) fun i hi=>h i (by omega)
    have:=h n (Nat.lt_succ_self n)
    simp only[sumN]
    omega
theorem Qno {f g:Nat→Int}:∀{n k:Nat},(∀i,i<n→f i≤g i)→k<n→f k+1≤g k→sumN f n+1≤sumN g n
  |0,_,_,h,_=>absurd h (Nat.not_lt_zero _)
  |n+1,k,h,hk,h1=>by
    simp only[sumN]
    rcases Nat.eq_or_lt_of_le (Nat.le_of_lt_succ hk) with rfl |hlt
    · have:=Qlf (n:=k) fun i hi=>h i (by omega)
      omega
    · have:=Qno (n:=n) (k:=k) (fun i hi=>h i (by omega)) hlt h1
      have:=h n (Nat.lt_succ_self n)
      omega
theorem Qqb {f:Nat→Int}:∀{n:Nat},(∀i,i<n→0≤f i)→0≤sumN f n
  |0,_=>Int.le_refl _
  |n+1,h=>by
    have:=Qqb (n:=n) fun i hi=>h i (by omega)
    have:=h n (Nat.lt_succ_self n)
    simp only[sumN]
    omega
theorem Qui {f:Nat→Int}{c:Int}:∀{n:Nat},(∀i,i<n→f i≤c)→sumN f n≤c*n
  |0,_=>by simp[sumN]
  |n+1,h=>by
    have:=Qui (n:=n) (c:=c) fun i hi=>h i (by omega)
    have:=h n (Nat.lt_succ_self n)
    simp only[sumN]
    rw[show((n+1:Nat):Int)=(n:Int)+1 by omega,Int.mul_add]
    omega
theorem Q0e {hs:List Qah}{T S g:Int}{t:Nat}{us lf:Nat→Int}{pl lv:List Int}(h:Qg5 hs T S t g us lf pl lv):0≤sumN (muF hs T t us lv) hs.length:=
  Qqb fun i hi=>by
    obtain⟨u,hu⟩:=h.pos i hi
    have:=hu.us
    have:=hu.le
    unfold muF
    split<;>omega
theorem Q3p {hs:List Qah}{T S g:Int}{t:Nat}{us lf:Nat→Int}{pl lv:List Int}(hd:DayP hs T) (h:Qg5 hs T S t g us lf pl lv):sumN (muF hs T t us lv) hs.length≤168:=by
  have h24:=hd.few
  have:=Qui (f:=muF hs T t us lv) (c:=7) (n:=hs.length) fun i hi=>by
    obtain⟨u,hu⟩:=h.pos i hi
    have:=hu.us
    have:=hd.six i hi
    unfold muF
    split<;>omega
  omega
theorem Qvk {N:Nat}{hs:List Qah}{T S hv:Int}{t:Nat}(hN:2000≤N) (hd:DayP hs T) (ht:t<hs.length) (hns:0≤yF hs T S t+Qbo (hrs hs t)-useF hs t) :
    ∀(n:Nat) (lack:Int) (us lf:Nat→Int) (pl lv:List Int),sumN (muF hs T t us lv) hs.length<n→Qg5 hs T S t (hv-lack) us lf pl lv→0≤lack→lack≤1000000000→(0<lack→hv=0) →
    ∃us' lf' pl' lv',Qbe N t T S hs hs.length hs.length n lack us lf pl lv=some (us',lf',pl',lv')∧Qg5 hs T S t hv us' lf' pl' lv'∧(lack=0→pl'=pl):=by
  have h24:=hd.few
  obtain⟨T0,T1⟩:=hd.tank
  intro n
  induction n with
  |zero=>intro lack us lf pl lv hn h;have:=Q0e h;omega
  |succ n ih=>
    intro lack us lf pl lv hn h l0 l1 hz
    rw[Qbe]
    by_cases hpos:lack>0
    · rw[show decide (lack>0)=true from decide_eq_true hpos,cond_true]
      simp only[Qco]
      obtain⟨b,p,m,e,hb⟩:=Quq (N:=N) hd ht h l1 (fun x=>match x with
        |(y17,y18)=>bif (decide (y17<0)) then some (us,lf,pl,lv) else(Qdr N y17 t y18 T S hs hs.length hs.length us lf pl lv).bind fun x22=>Qbe N t T S hs hs.length hs.length n (w64 (lack-y18)) x22.1 x22.2.1 x22.2.2.1 x22.2.2.2) (t+1) N (-1) 0 0 lack (by omega) (Nat.le_refl _) ⟨hpos,Int.le_refl _,fun k a b=>by omega,Or.inl rfl⟩ (Or.inl ⟨rfl,fun i hi=>by omega⟩)
      rw[show(((t+1:Nat):Int)-1)=(t:Int) by omega] at e
      rw[e]
      rcases hb with ⟨h1,h2⟩ |⟨i,u,s,_,h2,h3,h4,h5,h6,h7,h8⟩
      · have:=Qsk hd ht h h2
        have:=hz hpos
        omega
      · subst h3
        dsimp only
        rw[show decide (((i:Nat):Int)<0)=false from decide_eq_false (by omega),cond_false]
        obtain⟨us',lf',pl',lv',k1,k2,k3,k4,k5⟩:=Qzw hN h24 ht hd.ok (fun i hi=>(hd.whole i hi).2) hd.six T1 h h2 h5 h6 h7.pos h7.mlf h7.room (fun i' a1 a2=>h8 i' ⟨a1,a2⟩)
        have m0:=h7.pos
        have m1:=h7.mlack
        rw[k1,Option.bind_some,Qcj (by omega) (by omega)]
        dsimp only
        have hmono:∀j,j<hs.length→muF hs T t us' lv' j≤muF hs T t us lv j:=fun j hj=>by
          have:=k3 j
          unfold muF
          rw[k5]
          unfold addR
          split<;>split<;>omega
        rw[show hv-lack+m=hv-(lack-m) by omega] at k2
        rcases h7.why with e1 |e1 |⟨k,b1,b2,b3⟩
        · subst e1
          cases n with
          |zero=>
            have hle:=Qlf hmono
            have hnn:=Q0e k2
            have hnn0:=Q0e h
            have hge:1≤muF hs T t us lv i:=by
              obtain⟨u',hu'⟩:=h.pos i (by omega)
              have:=(List.getElem?_eq_some_iff.1 h6).1
              have:=h5.us
              unfold muF
              split<;>omega
            have:=Qno (f:=fun j=>if j=i then 0 else muF hs T t us lv j) (g:=muF hs T t us lv) (n:=hs.length) (k:=i) (fun j hj=>by
              split
              · rename_i e;subst e;omega
              · exact Int.le_refl _) (by omega) (by rw[if_pos rfl];omega)
            have:0≤sumN (fun j=>if j=i then 0 else muF hs T t us lv j) hs.length:=Qqb fun j hj=>by
              split
              · exact Int.le_refl _
              · obtain⟨u',hu'⟩:=h.pos j hj
                have:=hu'.us
                have:=hu'.le
                unfold muF
                split<;>omega
            omega
          |succ n=>
            rw[Qbe,show decide (m-m>0)=false from decide_eq_false (by omega),cond_false]
            rw[show hv-(m-m)=hv by omega] at k2
            exact⟨us',lf',pl',lv',rfl,k2,fun e=>by omega⟩
        · obtain⟨a1,a2,a3,a4,a5,a6,_⟩:=ih (lack-m) us' lf' pl' lv' (by
            have:=Qno (k:=i) hmono (by omega) (by
              have:=k4 e1
              have hm':=k3 i
              unfold muF
              rw[k5]
              unfold addR
              split<;>split<;>omega)
            omega) k2 (by omega) (by omega) (fun _=>hz hpos)
          exact⟨a1,a2,a3,a4,a5,a6,fun e=>by omega⟩
        · obtain⟨a1,a2,a3,a4,a5,a6,_⟩:=ih (lack-m) us' lf' pl' lv' (by
            have:=Qno (k:=k) hmono (by omega) (by
              have hm':=k3 k
              unfold muF
              rw[k5]
              unfold addR
              rw[if_pos (c:=i≤k∧k<t) ⟨b1,b2⟩,if_neg (by omega),if_pos (by omega)]
              omega)
            omega) k2 (by omega) (by omega) (fun _=>hz hpos)
          exact⟨a1,a2,a3,a4,a5,a6,fun e=>by omega⟩
    · rw[show decide (lack>0)=false from decide_eq_false hpos,cond_false]
      obtain rfl:lack=0:=by omega
      rw[show hv-0=hv by omega] at h
      exact⟨us,lf,pl,lv,rfl,h,fun _=>rfl⟩
theorem Q0m {N:Nat}{hs:List Qah}{T S hv lack:Int}{t:Nat}{us lf:Nat→Int}{pl lv:List Int}(hN:2000≤N) (hd:DayP hs T) (ht:t<hs.length) (hns:0≤yF hs T S t+Qbo (hrs hs t)-useF hs t) (h:Qg5 hs T S t (hv-lack) us lf pl lv) (l0:0≤lack) (l1:lack≤1000000000) (hz:0<lack→hv=0) :
    ∃us' lf' pl' lv',Qd3 N t lack T S hs hs.length hs.length us lf pl lv=some (us',lf',pl',lv')∧Qg5 hs T S t hv us' lf' pl' lv'∧(lack=0→pl'=pl):=by
  unfold Qd3
  have:=Q3p hd h
  exact Qvk hN hd ht hns N lack us lf pl lv (by omega) h l0 l1 hz
end
section
theorem Quj {h:Qah}(hb:Qgn h=true):Qc3 h.Stairs:=by
 simp only[Qgn,Bool.and_eq_true] at hb
 refine⟨Qls _ _ hb.1.1,?_⟩
 have key:∀(l:List Qaf) (a:Option Qaf),Qf0 a l=true→l.Pairwise (fun a b=>a.Price<b.Price)∧∀x,a=some x→∀y∈l,x.Price<y.Price:=by
  intro l
  induction l with
  |nil=>intro a _;exact⟨List.Pairwise.nil,fun _ _ y hy=>by cases hy⟩
  |cons b l ih=>
   intro a h
   have hb:Qf0 (some b) l=true∧∀x,a=some x→x.Price<b.Price:=by
    cases a with
    |none=>
     simp only[Qf0,Bool.and_eq_true] at h
     exact⟨h.2,fun x e=>by cases e⟩
    |some c=>
     simp only[Qf0,Bool.and_eq_true] at h
     refine⟨h.2,fun x e=>?_⟩
     cases e
     simpa using h.1.2
   obtain⟨i1,i2⟩:=ih (some b) hb.1
   refine⟨List.pairwise_cons.2 ⟨i2 b rfl,i1⟩,fun x e y hy=>?_⟩
   rcases List.mem_cons.1 hy with rfl |hy
   ·exact hb.2 x e
   ·have:=i2 b rfl y hy
    have:=hb.2 x e
    omega
 exact(key _ _ hb.1.1).1
theorem Q3n:Qc3 []:=⟨fun _ h=>(by cases h),List.Pairwise.nil⟩
theorem Qx3 {hs:List Qah}{i:Nat}(h:hs.length≤i):hrs hs i=[]∧useF hs i=0:=by
 unfold hrs useF
 rw[List.getElem?_eq_none h]
 exact⟨rfl,rfl⟩
theorem Qoc {d:GDay}(hd:dayB d=true):DayP d.Hours d.Tank:=by
 obtain⟨ht,_,_,h24⟩:=Qro hd
 have hall:∀i,i<d.Hours.length→∃x,d.Hours[i]? = some x∧x∈d.Hours∧Qgn x=true:=fun i hi=>by
  refine⟨_,List.getElem?_eq_getElem hi,List.getElem_mem hi,?_⟩
  simp only[dayB,Bool.and_eq_true] at hd
  exact List.all_eq_true.1 hd.2 _ (List.getElem_mem hi)
 refine⟨h24,fun i hi=>?_,fun i hi=>?_,fun i hi=>?_,fun i hi=>?_,ht⟩<;>obtain⟨x,x1,x2,x3⟩:=hall i hi<;>obtain⟨e1,e2⟩:=Qhl x1<;>have hp:=Qob hd x2
 ·rw[e1];exact Quj x3
 ·rw[e1]
  have:=Qq4 hp.st
  have:=hp.few
  omega
 ·rw[e1];exact hp.few
 ·rw[e2];exact hp.use
theorem Qxt {hs:List Qah}{T:Int}(hd:DayP hs T) (i:Nat):Qc3 (hrs hs i):=by
 rcases Nat.lt_or_ge i hs.length with h |h
 ·exact hd.ok i h
 ·rw[(Qx3 h).1];exact Q3n
structure Qwn (hs:List Qah) (T S:Int) (i:Nat) (hv:Int) (us lf:Nat→Int) (pl lv:List Int):Prop where
 npl:pl.length=hs.length
 nlv:lv.length=hs.length
 pos:∀i,i<hs.length→∃u,PosO (hrs hs i) (us i) (lf i) (gt pl i) u
 later:∀k,i≤k→gt pl k=0
 lvl:∀k,i≤k→gt lv k=0
 tank:∀k,k<i→0≤gt lv k∧gt lv k≤T∧gt lv k=lev S (gt pl) (useF hs) k
 inv:GrI (hrs hs) (gt pl) (gt lv) T i
 have0:i=0→hv=S
 haven:∀t,t+1=i→lev S (gt pl) (useF hs) t=hv
 hz:0<hv→∀k,gt pl k=0
 bd:0≤hv∧hv≤T
theorem Qsj {N:Nat}{d:GDay}(hN:2000≤N) (hd:DayP d.Hours d.Tank) (hns:∀i,i<d.Hours.length→0≤yF d.Hours d.Tank d.Start i+Qbo (hrs d.Hours i)-useF d.Hours i) (K:(Nat→Int)×(Nat→Int)×(List Int)×(List Int)→Option ((List Int)×(List Int)×Int×Int)) :
  ∀(n m i:Nat) (hv:Int) (us lf:Nat→Int) (pl lv:List Int),m<n→i+m=d.Hours.length→Qwn d.Hours d.Tank d.Start i hv us lf pl lv →
  ∃hv' us' lf' pl' lv',Qcl N d K n hv i us lf pl lv=K (us',lf',pl',lv')∧Qwn d.Hours d.Tank d.Start d.Hours.length hv' us' lf' pl' lv':=by
 have h24:=hd.few
 obtain⟨T0,T1⟩:=hd.tank
 intro n
 induction n with
 |zero=>intro m i _ _ _ _ _ h;omega
 |succ n ih=>
  intro m i hv us lf pl lv hm him h
  rw[Qcl]
  cases m with
  |zero=>
   rw[show decide ((i:Int)<(d.Hours.length:Int))=false from decide_eq_false (by omega),cond_false]
   obtain rfl:i=d.Hours.length:=by omega
   exact⟨hv,us,lf,pl,lv,rfl,h⟩
  |succ m=>
   have hi:i<d.Hours.length:=by omega
   have hg:d.Hours[i]? = some d.Hours[i]:=List.getElem?_eq_getElem hi
   obtain⟨u0,u1⟩:=hd.use i hi
   obtain⟨b0,b1⟩:=h.bd
   have e0:d.Hours[i].Use=useF d.Hours i:=(Qhl hg).2.symm
   have e1:w64 (useF d.Hours i-hv)=useF d.Hours i-hv:=Qcj (by omega) (by omega)
   have e2:w64 (hv-useF d.Hours i)=hv-useF d.Hours i:=Qcj (by omega) (by omega)
   have e3:(if useF d.Hours i-hv>0 then useF d.Hours i-hv else 0)=max 0 (useF d.Hours i-hv):=by split<;>omega
   have e4:(if hv-useF d.Hours i>0 then hv-useF d.Hours i else 0)=max 0 (hv-useF d.Hours i):=by split<;>omega
   have hw:Qg5 d.Hours d.Tank d.Start i (max 0 (hv-useF d.Hours i)-max 0 (useF d.Hours i-hv)) us lf pl lv:=by
    refine⟨h.npl,h.nlv,h.pos,fun k hk=>h.later k (by omega),h.lvl,h.tank,?_,h.inv⟩
    have hx:=h.later i (Nat.le_refl _)
    cases i with
    |zero=>rw[lev,hx,←h.have0 rfl];omega
    |succ t=>rw[lev,hx,h.haven t rfl];omega
   obtain⟨us',lf',pl',lv',k1,k2,k3⟩:=Q0m hN hd hi (hns i hi) hw (by omega) (by omega) (by omega)
   have hx:=Qgu (l:=lv') (i:=i) (by rw[k2.nlv];omega)
   have hl0:=k2.lvl i (Nat.le_refl _)
   rw[hl0] at hx
   have e5:w64 (0+max 0 (hv-useF d.Hours i))=max 0 (hv-useF d.Hours i):=by rw[Qcj (by omega) (by omega)];omega
   have e6:w64 ((i:Int)+1)=((i+1:Nat):Int):=Qcj (by omega) (by omega)
   simp only[show decide ((i:Int)<(d.Hours.length:Int))=true from decide_eq_true (by omega),cond_true,Qdn hg,Option.bind_some,e0,e1,e2,e3,e4,Int.toNat_natCast,k1,chk,show decide (0≤(i:Int))=true from decide_eq_true (by omega),show decide (i<d.Hours.length)=true from decide_eq_true hi,Bool.and_self,hx,e5,e6]
   have hset:gt (lv'.set i (max 0 (hv-useF d.Hours i)))=setF (gt lv') i (gt lv' i+max 0 (hv-useF d.Hours i)):=by
    rw[Qkh (by rw[k2.nlv];omega),hl0,Int.zero_add]
   have hzero:0<max 0 (hv-useF d.Hours i)→∀k,gt pl' k=0:=fun hp=>by
    rw[k3 (by omega)]
    exact h.hz (by omega)
   exact ih m (i+1) _ us' lf' pl' _ (by omega) (by omega) ⟨k2.npl,by rw[List.length_set,k2.nlv],k2.pos,fun k hk=>k2.later k (by omega),fun k hk=>by
     rw[hset,Qfg (by omega)];exact k2.lvl k (by omega),fun k hk=>by
     rw[hset]
     rcases Nat.eq_or_lt_of_le (Nat.le_of_lt_succ hk) with rfl |hlt
     ·rw[Qd8,hl0,k2.gap];omega
     ·rw[Qfg (by omega)];exact k2.tank k hlt,by
     rw[hset]
     exact Qx2 k2.inv (k2.later _ (Nat.lt_succ_self i)) (fun j _=>Qxt hd j) (fun hp j _=>hzero hp j) (by omega),fun e=>by omega,fun t ht=>by
     obtain rfl:t=i:=by omega
     exact k2.gap,hzero,by omega⟩
theorem Qr9 {N:Nat}{d:GDay}(hd:DayP d.Hours d.Tank) (K:(Nat→Int)→Option ((List Int)×(List Int)×Int×Int)):∀(n m i:Nat) (f:Nat→Int),m<n→i+m=d.Hours.length→(∀j,j<i→∀s,(hrs d.Hours j)[0]? = some s→f j=s.Amount) →
  ∃f',Qck N d K n i f=K f'∧∀j,j<d.Hours.length→∀s,(hrs d.Hours j)[0]? = some s→f' j=s.Amount:=by
 have h24:=hd.few
 intro n
 induction n with
 |zero=>intro m i _ h;omega
 |succ n ih=>
  intro m i f hm him hf
  rw[Qck]
  cases m with
  |zero=>
   rw[show decide ((i:Int)<(d.Hours.length:Int))=false from decide_eq_false (by omega),cond_false]
   exact⟨f,rfl,fun j hj=>hf j (by omega)⟩
  |succ m=>
   have hi:i<d.Hours.length:=by omega
   have hg:d.Hours[i]? = some d.Hours[i]:=List.getElem?_eq_getElem hi
   have e0:d.Hours[i].Stairs=hrs d.Hours i:=(Qhl hg).1.symm
   have e6:w64 ((i:Int)+1)=((i+1:Nat):Int):=Qcj (by omega) (by omega)
   simp only[show decide ((i:Int)<(d.Hours.length:Int))=true from decide_eq_true (by omega),cond_true,Qdn hg,Option.bind_some,e0,e6]
   cases hs:hrs d.Hours i with
   |nil=>
    simp only[List.length_nil,show decide (((0:Nat):Int)>0)=false from rfl,cond_false]
    exact ih m (i+1) f (by omega) (by omega) fun j hj s h=>by
     rcases Nat.eq_or_lt_of_le (Nat.le_of_lt_succ hj) with rfl |hlt
     ·rw[hs] at h;simp at h
     ·exact hf j hlt s h
   |cons s l=>
    have e1:getI (s::l) 0=some s:=rfl
    simp only[List.length_cons,show decide (((l.length+1:Nat):Int)>0)=true from decide_eq_true (by omega),cond_true,e1,Option.bind_some,chk,Int.toNat_natCast,show decide (0≤(i:Int))=true from decide_eq_true (by omega),show decide (i<24)=true from decide_eq_true (by omega),Bool.and_self]
    exact ih m (i+1) _ (by omega) (by omega) fun j hj r h=>by
     rcases Nat.eq_or_lt_of_le (Nat.le_of_lt_succ hj) with rfl |hlt
     ·rw[hs] at h
      cases h
      rw[Qd8]
     ·rw[Qfg (by omega)]
      exact hf j hlt r h
theorem Qld (N:Nat) (hs:List Qah) (i:Nat) (hi:i<hs.length) (K:List Int→Option (List Int)):∀(l:List Qaf) (n:Int) (out:List Int),out.length=hs.length →
  ∃out',Qa4 N hs i K (Qig l n) out=K out'∧out'.length=hs.length∧gt out'=setF (gt out) i (topP l n (gt out i))
 |[],n,out,ho=>⟨out,by rw[Qig,Qa4],ho,by
   funext k
   unfold setF topP
   split
   ·rename_i e;rw[e]
   ·rfl⟩
 |s::l,n,out,ho=>by
  rw[Qig,Qa4]
  have hx:=Qgu (l:=out) (i:=i) (by omega)
  by_cases hp:0<min n s.Amount
  ·simp only[show decide (min n s.Amount>0)=true from decide_eq_true hp,cond_true,chk,Int.toNat_natCast,show decide (0≤(i:Int))=true from decide_eq_true (by omega),show decide (i<hs.length)=true from decide_eq_true hi,Bool.and_self,hx,Option.bind_some]
   obtain⟨o,o1,o2,o3⟩:=Qld N hs i hi K l (n-min n s.Amount) (out.set i s.Price) (by simpa using ho)
   refine⟨o,o1,o2,?_⟩
   rw[o3,Qkh (by omega),Qd8,topP,if_pos hp]
   funext k
   unfold setF
   split<;>rfl
  ·simp only[show decide (min n s.Amount>0)=false from decide_eq_false hp,cond_false]
   obtain⟨o,o1,o2,o3⟩:=Qld N hs i hi K l (n-min n s.Amount) out ho
   exact⟨o,o1,o2,by rw[o3,topP,if_neg hp]⟩
theorem Qxc {N:Nat}{hs:List Qah}{T:Int}{pl:List Int}(hN:2000≤N) (hd:DayP hs T) (hpl:pl.length=hs.length) (hfit:∀i,i<hs.length→0≤gt pl i∧gt pl i≤Qbo (hrs hs i)) (K:List Int→Option (List Int)):∀(n m i:Nat) (out:List Int),m<n→i+m=hs.length→out.length=hs.length→(∀j,j<i→gt out j=topP (hrs hs j) (gt pl j) 0)→(∀j,i≤j→gt out j=0) →
  ∃out',Qbg N hs pl K n i out=K out'∧out'.length=hs.length∧∀j,j<hs.length→gt out' j=topP (hrs hs j) (gt pl j) 0:=by
 have h24:=hd.few
 intro n
 induction n with
 |zero=>intro m i _ h;omega
 |succ n ih=>
  intro m i out hm him ho h1 h2
  rw[Qbg]
  cases m with
  |zero=>
   rw[show decide ((i:Int)<(hs.length:Int))=false from decide_eq_false (by omega),cond_false]
   exact⟨out,rfl,ho,fun j hj=>h1 j (by omega)⟩
  |succ m=>
   have hi:i<hs.length:=by omega
   have hg:hs[i]? = some hs[i]:=List.getElem?_eq_getElem hi
   have e0:hs[i].Stairs=hrs hs i:=(Qhl hg).1.symm
   have hx:=Qgu (l:=pl) (i:=i) (by omega)
   obtain⟨f0,f1⟩:=hfit i hi
   have h6:=hd.six i hi
   have hwh:=hd.whole i hi
   have e6:w64 ((i:Int)+1)=((i+1:Nat):Int):=Qcj (by omega) (by omega)
   have htk:=Qml N (hrs hs i) (by omega) (hd.ok i hi).1 N 0 (gt pl i) (by simp;omega) f0 (by omega)
   rw[show((0:Nat):Int)=0 from rfl,List.drop_zero] at htk
   simp only[show decide ((i:Int)<(hs.length:Int))=true from decide_eq_true (by omega),cond_true,Qco,Qdn hg,Qdn hx,Option.bind_some,Qdk,Qdj,e0,htk,e6]
   obtain⟨o,o1,o2,o3⟩:=Qld N hs i hi (fun y57=>Qbg N hs pl K n ((i+1:Nat):Int) y57) (hrs hs i) (gt pl i) out ho
   rw[o1]
   refine ih m (i+1) o (by omega) (by omega) o2 (fun j hj=>?_) (fun j hj=>?_)
   ·rw[o3]
    rcases Nat.eq_or_lt_of_le (Nat.le_of_lt_succ hj) with rfl |hlt
    ·rw[Qd8,h2 j (Nat.le_refl _)]
    ·rw[Qfg (by omega)];exact h1 j hlt
   ·rw[o3,Qfg (by omega)];exact h2 j (by omega)
theorem Qr7 {N:Nat}{hs:List Qah}{T:Int}{lv:List Int}{c:Nat→Int}{r:Nat}(h24:hs.length≤24) (h1:1≤hs.length) (hlv:lv.length=hs.length) (K:List Int→Option (List Int)):∀(n k m:Nat) (out:List Int),k<n→m+k+1=hs.length→out.length=hs.length→SwI c (gt lv) T hs.length r m (gt out) →
  ∃out',Qbh N T hs lv K n m out=K out'∧out'.length=hs.length∧SwI c (gt lv) T hs.length r (hs.length-1) (gt out'):=by
 intro n
 induction n with
 |zero=>intro k m _ h;omega
 |succ n ih=>
  intro k m out hk hmk ho h
  rw[Qbh]
  have e0:w64 ((((hs.length:Int).toNat:Nat):Int)-1)=((hs.length-1:Nat):Int):=by rw[Int.toNat_natCast,Qcj (by omega) (by omega)];omega
  cases k with
  |zero=>
   rw[e0,show decide ((m:Int)<((hs.length-1:Nat):Int))=false from decide_eq_false (by omega),cond_false]
   obtain rfl:m=hs.length-1:=by omega
   exact⟨out,rfl,ho,h⟩
  |succ k=>
   have hm:m+1<hs.length:=by omega
   have e1:w64 ((m:Int)+1)=((m+1:Nat):Int):=Qcj (by omega) (by omega)
   have hl:=Qgu (l:=lv) (i:=m) (by omega)
   have ho1:=Qgu (l:=out) (i:=m) (by omega)
   have ho2:=Qgu (l:=out) (i:=m+1) (by omega)
   have d1:decide (0≤((m+1:Nat):Int))=true:=decide_eq_true (by omega)
   have d2:decide (m+1<hs.length)=true:=decide_eq_true hm
   have d3:decide (0≤(m:Int))=true:=decide_eq_true (by omega)
   have d4:decide (m<hs.length)=true:=decide_eq_true (by omega)
   have e2:∀a b:Int,(if a>b then a else b)=max b a:=fun a b=>by split<;>omega
   have hstep:=Qxf h hm
   rw[e0,show decide ((m:Int)<((hs.length-1:Nat):Int))=true from decide_eq_true (by omega),cond_true]
   simp only[Qco,e1,Qdn hl,Option.bind_some,Int.toNat_natCast,chk,d1,d2,d3,d4,Bool.and_self,ho1,ho2,e2]
   unfold swp1 at hstep
   by_cases hp:0<gt lv m
   ·rw[show decide (gt lv m>0)=true from decide_eq_true hp,cond_true]
    rw[if_pos hp] at hstep
    by_cases hT:gt lv m<T
    ·rw[if_pos hT] at hstep
     have g1:(out.set (m+1) (max (gt out (m+1)) (gt out m)))[m]? = some (gt out m):=by rw[List.getElem?_set_ne (by omega),ho1]
     have g2:(out.set (m+1) (max (gt out (m+1)) (gt out m)))[m+1]? = some (max (gt out (m+1)) (gt out m)):=by rw[List.getElem?_set_self (by omega)]
     rw[show decide (gt lv m<T)=true from decide_eq_true hT,cond_true]
     simp only[g1,g2,Option.bind_some]
     refine ih k (m+1) _ (by omega) (by omega) (by simpa using ho) ?_
     rw[Qkh (by simp;omega),Qkh (by omega)]
     rw[Qfg (j:=m) (by omega),Qd8] at hstep
     exact hstep
    ·rw[if_neg hT] at hstep
     rw[show decide (gt lv m<T)=false from decide_eq_false hT,cond_false]
     refine ih k (m+1) _ (by omega) (by omega) (by simpa using ho) ?_
     rw[Qkh (by omega)]
     exact hstep
   ·rw[show decide (gt lv m>0)=false from decide_eq_false hp,cond_false]
    rw[if_neg hp] at hstep
    by_cases hT:gt lv m<T
    ·rw[if_pos hT] at hstep
     rw[show decide (gt lv m<T)=true from decide_eq_true hT,cond_true]
     refine ih k (m+1) _ (by omega) (by omega) (by simpa using ho) ?_
     rw[Qkh (by omega)]
     exact hstep
    ·rw[if_neg hT] at hstep
     rw[show decide (gt lv m<T)=false from decide_eq_false hT,cond_false]
     exact ih k (m+1) _ (by omega) (by omega) ho hstep
theorem Qsd {N:Nat}{hs:List Qah}{T:Int}{lv:List Int}{c:Nat→Int}(hN:2000≤N) (h24:hs.length≤24) (h1:1≤hs.length) (hlv:lv.length=hs.length) (K:List Int→Option (List Int)):∀(n k r:Nat) (out:List Int),k<n→r+k=hs.length→out.length=hs.length→SwI c (gt lv) T hs.length r 0 (gt out) →
  ∃out',Qba N T hs lv K n r out=K out'∧out'.length=hs.length∧SwI c (gt lv) T hs.length hs.length 0 (gt out'):=by
 intro n
 induction n with
 |zero=>intro k r _ h;omega
 |succ n ih=>
  intro k r out hk hrk ho h
  rw[Qba]
  cases k with
  |zero=>
   rw[show decide ((r:Int)<(hs.length:Int))=false from decide_eq_false (by omega),cond_false]
   obtain rfl:r=hs.length:=by omega
   exact⟨out,rfl,ho,h⟩
  |succ k=>
   have e1:w64 ((r:Int)+1)=((r+1:Nat):Int):=Qcj (by omega) (by omega)
   simp only[show decide ((r:Int)<(hs.length:Int))=true from decide_eq_true (by omega),cond_true,Qco,e1]
   obtain⟨o,o1,o2,o3⟩:=Qr7 (N:=N) h24 h1 hlv (fun y13=>Qba N T hs lv K n ((r+1:Nat):Int) y13) N (hs.length-1) 0 out (by omega) (by omega) ho h
   rw[show((0:Nat):Int)=0 from rfl] at o1
   rw[o1]
   exact ih k (r+1) o (by omega) (by omega) o2 (Quh o3)
theorem Qlu (n i:Nat):gt (List.replicate n 0) i=0:=by
 rw[gt,List.getD_eq_getElem?_getD,List.getElem?_replicate]
 split<;>rfl
theorem Qut {N:Nat}{hs:List Qah}{T S:Int}{pl lv:List Int}{us lf:Nat→Int}(hN:2000≤N) (hd:DayP hs T) (h1:1≤hs.length) (hpl:pl.length=hs.length) (hlv:lv.length=hs.length) (hfit:∀i,i<hs.length→0≤gt pl i∧gt pl i≤Qbo (hrs hs i)) :
  ∃pr,Qcr N T S hs pl lv us lf=some pr∧pr.length=hs.length∧SwF (fun i=>topP (hrs hs i) (gt pl i) 0) (gt lv) T hs.length (gt pr):=by
 have h24:=hd.few
 unfold Qcr
 simp only[Qco,chk,Int.toNat_natCast,show decide (0≤(hs.length:Int))=true from decide_eq_true (by omega),show decide (8*(hs.length:Int)≤281474976710656)=true from decide_eq_true (by omega),show decide ((hs.length:Int)≤9223372036854775807)=true from decide_eq_true (by omega),Bool.and_self,cond_true]
 obtain⟨o,o1,o2,o3⟩:=Qxc hN hd hpl hfit (fun y3=>Qba N T hs lv (fun y5=>some y5) N 0 y3) N hs.length 0 (List.replicate hs.length 0) (by omega) (by omega) (by simp) (fun j hj=>by omega) (fun j _=>Qlu _ _)
 rw[show((0:Nat):Int)=0 from rfl] at o1
 rw[o1]
 have hst:SwI (fun i=>topP (hrs hs i) (gt pl i) 0) (gt lv) T hs.length 0 0 (gt o):=by
  have:=Qug (fun i=>topP (hrs hs i) (gt pl i) 0) (gt lv) T hs.length
  exact⟨fun i hi=>by rw[o3 i hi];exact this.up i hi,fun i j hi hj hp hor=>by rw[o3 i hi];exact this.fw i j hi hj hp hor,fun i j hj hij ho hle=>by rw[o3 i (by omega)];exact this.bw i j hj hij ho hle⟩
 obtain⟨q,q1,q2,q3⟩:=Qsd (N:=N) hN h24 h1 hlv (fun y5=>some y5) N hs.length 0 o (by omega) (by omega) o2 hst
 rw[show((0:Nat):Int)=0 from rfl] at q1
 exact⟨q,q1,q2,Qzy q3⟩
theorem Qyf {N:Nat}{d:GDay}{pl:List Int}(hN:2000≤N) (hd:dayB d=true) (hpl:pl.length=d.Hours.length) (hfit:∀i,i<d.Hours.length→0≤gt pl i∧gt pl i≤Qbo (hrs d.Hours i)) (K:Int→Option ((List Int)×(List Int)×Int×Int)):∀(n m i:Nat),m<n→i+m=d.Hours.length→0≤sumN (fun j=>Qez (hrs d.Hours j) (gt pl j)) i→sumN (fun j=>Qez (hrs d.Hours j) (gt pl j)) i≤6000000000000*i →
  Qb5 N d pl K n (sumN (fun j=>Qez (hrs d.Hours j) (gt pl j)) i) i=K (sumN (fun j=>Qez (hrs d.Hours j) (gt pl j)) d.Hours.length):=by
 have hp:=Qoc hd
 have h24:=hp.few
 intro n
 induction n with
 |zero=>intro m i h;omega
 |succ n ih=>
  intro m i hm him a0 a1
  rw[Qb5]
  cases m with
  |zero=>
   rw[show decide ((i:Int)<(d.Hours.length:Int))=false from decide_eq_false (by omega),cond_false]
   obtain rfl:i=d.Hours.length:=by omega
   rfl
  |succ m=>
   have hi:i<d.Hours.length:=by omega
   have hg:d.Hours[i]? = some d.Hours[i]:=List.getElem?_eq_getElem hi
   have e0:d.Hours[i].Stairs=hrs d.Hours i:=(Qhl hg).1.symm
   have hx:=Qgu (l:=pl) (i:=i) (by omega)
   have hh:=Qob hd (List.getElem_mem hi)
   obtain⟨f0,f1⟩:=hfit i hi
   have hwh:=hp.whole i hi
   have h6:=hh.few
   have hc:=Qvz hh.st f0
   have e6:w64 ((i:Int)+1)=((i+1:Nat):Int):=Qcj (by omega) (by omega)
   have hcs:=Qyg (N:=N) hN hh f0 (by omega)
   rw[e0] at hc hcs h6
   have e7:w64 (sumN (fun j=>Qez (hrs d.Hours j) (gt pl j)) i+Qez (hrs d.Hours i) (gt pl i))=sumN (fun j=>Qez (hrs d.Hours j) (gt pl j)) (i+1):=by
    rw[Qcj (by omega) (by omega)]
    rfl
   simp only[show decide ((i:Int)<(d.Hours.length:Int))=true from decide_eq_true (by omega),cond_true,Qdn hg,Option.bind_some,chk,Int.toNat_natCast,show decide (0≤(i:Int))=true from decide_eq_true (by omega),show decide (i<d.Hours.length)=true from decide_eq_true hi,Bool.and_self,hx,hcs,e6,e7]
   exact ih m (i+1) (by omega) (by omega) (by simp only[sumN];omega) (by simp only[sumN];omega)
def ySum (hs:List Qah) (T S:Int) (i:Nat):Int:=yF hs T S i+Qbo (hrs hs i)-useF hs i
structure Qwl (hs:List Qah) (T S:Int) (i:Nat):Prop where
 lt:i<hs.length
 neg:ySum hs T S i<0
 ahead:∀j,j<i→0≤ySum hs T S j
theorem Qsc {N:Nat}{d:GDay}(hN:2000≤N) (hd:dayB d=true) :
  (∃i,Qwl d.Hours d.Tank d.Start i∧0< - ySum d.Hours d.Tank d.Start i∧- ySum d.Hours d.Tank d.Start i≤useF d.Hours i∧Qev N d=some (((i:Nat):Int),- ySum d.Hours d.Tank d.Start i)) ∨
  ((∀i,i<d.Hours.length→0≤ySum d.Hours d.Tank d.Start i)∧Qev N d=some (-1,0)):=by
 have hp:=Qoc hd
 have h24:=hp.few
 obtain⟨⟨t0,t1⟩,⟨s0,s1⟩,h1,h2⟩:=Qro hd
 have key:∀(n m i:Nat),m<n→i+m=d.Hours.length→(∀j,j<i→0≤ySum d.Hours d.Tank d.Start j)→0≤yF d.Hours d.Tank d.Start i→yF d.Hours d.Tank d.Start i≤d.Tank →
   (∃i',Qwl d.Hours d.Tank d.Start i'∧0< - ySum d.Hours d.Tank d.Start i'∧- ySum d.Hours d.Tank d.Start i'≤useF d.Hours i'∧Qca N d (fun _=>some (-1,0)) n (yF d.Hours d.Tank d.Start i) i=some (((i':Nat):Int),- ySum d.Hours d.Tank d.Start i')) ∨
   ((∀i,i<d.Hours.length→0≤ySum d.Hours d.Tank d.Start i)∧Qca N d (fun _=>some (-1,0)) n (yF d.Hours d.Tank d.Start i) i=some (-1,0)):=by
  intro n
  induction n with
  |zero=>intro m i h;omega
  |succ n ih=>
   intro m i hm him hall y0 y1
   rw[Qca]
   cases m with
   |zero=>
    rw[show decide ((i:Int)<(d.Hours.length:Int))=false from decide_eq_false (by omega),cond_false]
    exact Or.inr ⟨fun j hj=>hall j (by omega),rfl⟩
   |succ m=>
    have hi:i<d.Hours.length:=by omega
    have hg:d.Hours[i]? = some d.Hours[i]:=List.getElem?_eq_getElem hi
    obtain⟨e0,e1⟩:=Qhl hg
    have hh:=Qob hd (List.getElem_mem hi)
    have hwh:=hp.whole i hi
    have hu:=hp.use i hi
    have hw:=Qub hh hN
    rw[←e0] at hw
    have e2:w64 ((i:Int)+1)=((i+1:Nat):Int):=Qcj (by omega) (by omega)
    have e3:w64 (Qbo (hrs d.Hours i)-useF d.Hours i)=Qbo (hrs d.Hours i)-useF d.Hours i:=Qcj (by omega) (by omega)
    have e4:w64 (yF d.Hours d.Tank d.Start i+(Qbo (hrs d.Hours i)-useF d.Hours i))=ySum d.Hours d.Tank d.Start i:=by
     unfold ySum;rw[Qcj (by omega) (by omega)];omega
    have e5:w64 (0-ySum d.Hours d.Tank d.Start i)=- ySum d.Hours d.Tank d.Start i:=by
     unfold ySum;rw[Qcj (by omega) (by omega)];omega
    simp only[show decide ((i:Int)<(d.Hours.length:Int))=true from decide_eq_true (by omega),cond_true,Qdn hg,Option.bind_some,hw,←e1,e2,e3,e4,e5]
    by_cases hneg:ySum d.Hours d.Tank d.Start i<0
    ·rw[show decide (ySum d.Hours d.Tank d.Start i<0)=true from decide_eq_true hneg,cond_true]
     exact Or.inl ⟨i,⟨hi,hneg,hall⟩,by omega,by unfold ySum;omega,rfl⟩
    ·rw[show decide (ySum d.Hours d.Tank d.Start i<0)=false from decide_eq_false hneg,cond_false]
     have e6:(if d.Tank<ySum d.Hours d.Tank d.Start i then d.Tank else ySum d.Hours d.Tank d.Start i)=yF d.Hours d.Tank d.Start (i+1):=by
      rw[yF]
      unfold ySum
      split<;>omega
     rw[e6]
     have e7:yF d.Hours d.Tank d.Start (i+1)=min (ySum d.Hours d.Tank d.Start i) d.Tank:=rfl
     exact ih m (i+1) (by omega) (by omega) (fun j hj=>by
      rcases Nat.eq_or_lt_of_le (Nat.le_of_lt_succ hj) with rfl |hlt
      ·omega
      ·exact hall j hlt) (by omega) (by omega)
 have:=key N d.Hours.length 0 (by omega) (by omega) (fun j hj=>by omega) s0 s1
 exact this
theorem Qj8 {N:Nat}{d:GDay}(hN:2000≤N) (hf:FewP d) (hd:dayB d=true) :
  (∃i,Qwl d.Hours d.Tank d.Start i∧Qbi N d=some ([],[],0,7)) ∨
  ((∀i,i<d.Hours.length→0≤ySum d.Hours d.Tank d.Start i)∧∃pl pr,Qbi N d=some (pl,pr,sumN (fun j=>Qez (hrs d.Hours j) (gt pl j)) d.Hours.length,0)∧pl.length=d.Hours.length∧pr.length=d.Hours.length∧ShOK (hrs d.Hours) (useF d.Hours) d.Start d.Tank d.Hours.length (gt pl) (gt pr)):=by
 have hp:=Qoc hd
 have h24:=hp.few
 obtain⟨⟨t0,t1⟩,⟨s0,s1⟩,h1,h2⟩:=Qro hd
 unfold Qbi
 simp only[Q1d hf hN,hd,Option.bind_some,Bool.not_true,cond_false]
 rcases Qsc hN hd with ⟨i,hi,_,_,e⟩ |⟨hns,e⟩
 ·refine Or.inl ⟨i,hi,?_⟩
  rw[e,Option.bind_some,show decide ((((i:Nat):Int),- ySum d.Hours d.Tank d.Start i).1≥0)=true from decide_eq_true (by dsimp only;omega),cond_true]
 ·refine Or.inr ⟨hns,?_⟩
  simp only[e,Option.bind_some,show decide (((-1:Int),(0:Int)).1≥0)=false from rfl,cond_false,chk,Qco,Int.toNat_natCast,show decide (0≤(d.Hours.length:Int))=true from decide_eq_true (by omega),show decide (8*(d.Hours.length:Int)≤281474976710656)=true from decide_eq_true (by omega),show decide ((d.Hours.length:Int)≤9223372036854775807)=true from decide_eq_true (by omega),Bool.and_self,cond_true]
  obtain⟨f,f1,f2⟩:=Qr9 (N:=N) hp (fun y15=>Qcl N d (fun x=>match x with
   |(y17,y18,y19,y20)=>Qb5 N d y19 (fun y22=>bif decide (d.Hours.length≤y19.length) then bif decide (d.Hours.length≤y20.length) then(Qcr N d.Tank d.Start d.Hours (y19.take d.Hours.length) (y20.take d.Hours.length) y17 y18).bind fun x27=>bif decide (d.Hours.length≤y19.length) then bif decide (d.Hours.length≤x27.length) then some (y19.take d.Hours.length,x27.take d.Hours.length,y22,0) else none else none else none else none) N 0 0) N d.Start 0 (fun _=>0) y15 (List.replicate d.Hours.length 0) (List.replicate d.Hours.length 0)) N d.Hours.length 0 (fun _=>0) (by omega) (by omega) (fun j hj=>by omega)
  rw[show((0:Nat):Int)=0 from rfl] at f1
  rw[f1]
  have hstart:Qwn d.Hours d.Tank d.Start 0 d.Start (fun _=>0) f (List.replicate d.Hours.length 0) (List.replicate d.Hours.length 0):=by
   refine⟨by simp,by simp,fun i hi=>⟨0,rfl,Nat.zero_le _,fun s hs=>?_,fun e=>?_⟩,fun k _=>Qlu _ _,fun k _=>Qlu _ _,fun k hk=>by omega,fun i j _ _ _ p q hpt=>?_,fun _=>rfl,fun t ht=>by omega,fun _ k=>Qlu _ _,⟨s0,s1⟩⟩
   ·have:=f2 i hi s hs
    have hA:=((Qxt hp i).1 s (List.mem_of_getElem? hs)).1
    rw[Qlu,Qhy]
    omega
   ·rw[Qlu]
    rw[List.eq_nil_of_length_eq_zero e.symm]
    rfl
   ·rw[Qlu] at hpt
    exact absurd hpt (Qnn (Qxt hp j))
  obtain⟨hv,us,lf,pl,lv,g1,g2⟩:=Qsj hN hp hns (fun x=>match x with
   |(y17,y18,y19,y20)=>Qb5 N d y19 (fun y22=>bif decide (d.Hours.length≤y19.length) then bif decide (d.Hours.length≤y20.length) then(Qcr N d.Tank d.Start d.Hours (y19.take d.Hours.length) (y20.take d.Hours.length) y17 y18).bind fun x27=>bif decide (d.Hours.length≤y19.length) then bif decide (d.Hours.length≤x27.length) then some (y19.take d.Hours.length,x27.take d.Hours.length,y22,0) else none else none else none else none) N 0 0) N d.Hours.length 0 d.Start (fun _=>0) f (List.replicate d.Hours.length 0) (List.replicate d.Hours.length 0) (by omega) (by omega) hstart
  rw[show((0:Nat):Int)=0 from rfl] at g1
  rw[g1]
  dsimp only
  have hfit:∀i,i<d.Hours.length→0≤gt pl i∧gt pl i≤Qbo (hrs d.Hours i):=fun i hi=>by
   obtain⟨u,hu⟩:=g2.pos i hi
   exact(Quv (Qxt hp i) hu).2
  have hc:=Qyf hN hd g2.npl hfit (fun y22=>bif decide (d.Hours.length≤pl.length) then bif decide (d.Hours.length≤lv.length) then(Qcr N d.Tank d.Start d.Hours (pl.take d.Hours.length) (lv.take d.Hours.length) us lf).bind fun x27=>bif decide (d.Hours.length≤pl.length) then bif decide (d.Hours.length≤x27.length) then some (pl.take d.Hours.length,x27.take d.Hours.length,y22,0) else none else none else none else none) N d.Hours.length 0 (by omega) (by omega) (Int.le_refl _) (by simp[sumN])
  rw[show((0:Nat):Int)=0 from rfl,show sumN (fun j=>Qez (hrs d.Hours j) (gt pl j)) 0=0 from rfl] at hc
  rw[hc]
  have d1:decide (d.Hours.length≤pl.length)=true:=decide_eq_true (by rw[g2.npl];omega)
  have d2:decide (d.Hours.length≤lv.length)=true:=decide_eq_true (by rw[g2.nlv];omega)
  have tk1:pl.take d.Hours.length=pl:=by rw[←g2.npl,List.take_length]
  have tk2:lv.take d.Hours.length=lv:=by rw[←g2.nlv,List.take_length]
  obtain⟨pr,p1,p2,p3⟩:=Qut (S:=d.Start) (us:=us) (lf:=lf) hN hp h1 g2.npl g2.nlv hfit
  have d3:decide (d.Hours.length≤pr.length)=true:=decide_eq_true (by rw[p2];omega)
  have tk3:pr.take d.Hours.length=pr:=by rw[←p2,List.take_length]
  simp only[d1,d2,tk1,tk2,cond_true,p1,Option.bind_some,d3,tk3]
  refine⟨pl,pr,rfl,g2.npl,p2,?_⟩
  have htank:∀i,i<d.Hours.length→0≤gt lv i∧gt lv i≤d.Tank∧gt lv i=lev d.Start (gt pl) (useF d.Hours) i:=g2.tank
  refine Q2p (L:=gt lv) (fun i hi=>hp.ok i hi) ⟨hfit,fun i hi=>?_⟩ (fun i hi=>(htank i hi).2.2) (fun i j hi hj hcn p q=>g2.inv i j (by omega) (by omega) hcn p q) p3 (fun i hi h0 j _=>?_)
  ·obtain⟨a,b,c⟩:=htank i hi
   rw[←c]
   exact⟨a,b⟩
  ·have h3:=g2.haven i hi
   have h4:=(htank i (by omega)).2.2
   exact g2.hz (by omega) j
end
section
theorem Qsa {d:GDay}(hd:dayB d=true):∀i,i<d.Hours.length→∀s∈hrs d.Hours i,1≤s.Amount:=fun i hi s hs=>((Qoc hd).ok i hi).1 s hs |>.1
theorem Qmk {d:GDay}{x:Nat→Int}(h:Qne (hrs d.Hours) (useF d.Hours) d.Start d.Tank d.Hours.length x):∀i,i<d.Hours.length→lev d.Start x (useF d.Hours) i≤ySum d.Hours d.Tank d.Start i:=by
 intro i
 induction i with
 |zero=>
  intro hi
  have:=h.fit 0 hi
  simp only[lev,ySum,yF]
  omega
 |succ i ih=>
  intro hi
  have h1:=ih (by omega)
  have h2:=h.fit (i+1) hi
  have h3:=h.tank i (by omega)
  have e:yF d.Hours d.Tank d.Start (i+1)=min (ySum d.Hours d.Tank d.Start i) d.Tank:=rfl
  unfold ySum
  rw[e]
  simp only[lev]
  omega
end
section
theorem Qj4 {hs:List Qah}{i j:Nat}{x:Qah}(h:j≠i):hrs (hs.set i x) j=hrs hs j∧useF (hs.set i x) j=useF hs j:=by
 unfold hrs useF
 rw[List.getElem?_set_ne (Ne.symm h)]
 exact⟨rfl,rfl⟩
theorem Qj5 {hs:List Qah}{i:Nat}{x:Qah}(h:i<hs.length):hrs (hs.set i x) i=x.Stairs∧useF (hs.set i x) i=x.Use:=by
 unfold hrs useF
 rw[List.getElem?_set_self h]
 exact⟨rfl,rfl⟩
theorem Qux (N:Nat) (h:Qah) (k:(List Qaf)×(List Qah)→Option (List Qah)) (q:List Qah) (hl:h.Stairs.length≤1000):∀(n i:Nat) (acc:List Qaf),(h.Stairs.drop i).length<n→i≤h.Stairs.length→acc.length=i →
  Qb8 N h k n i acc q=k (acc++h.Stairs.drop i,q):=by
 intro n
 induction n with
 |zero=>intro i _ h;exact absurd h (Nat.not_lt_zero _)
 |succ n ih=>
  intro i acc hn hi hacc
  rw[Qb8]
  cases hd:h.Stairs.drop i with
  |nil=>
   have:=Qfk hd
   simp[show ¬((i:Int)<h.Stairs.length) from by omega]
  |cons b l=>
   obtain⟨hg,hd',hlt⟩:=Qey hd
   have e1:w64 ((i:Int)+1)=((i+1:Nat):Int):=Qcj (by omega) (by omega)
   simp only[show decide ((i:Int)<h.Stairs.length)=true from by simpa using hlt,cond_true,Qdn hg,Option.bind_some,e1]
   rw[ih (i+1) (acc++[b]) (by rw[hd'];rw[hd] at hn;simp at hn;omega) hlt (by simp[hacc]),hd']
   simp only[chk,show decide ((acc.length+[b].length)*16≤140737488355328)=true from by simp;omega,cond_true,List.append_assoc,List.cons_append,List.nil_append]
theorem Quy (N:Nat) (d:GDay) (k:List Qah→Option (List Qah)) (hN:2000≤N) (hf:FewP d):∀(n i:Nat) (acc:List Qah),(d.Hours.drop i).length<n→i≤d.Hours.length→acc.length=i →
  Qbx N d k n i acc=k (acc++d.Hours.drop i):=by
 intro n
 induction n with
 |zero=>intro i _ h;exact absurd h (Nat.not_lt_zero _)
 |succ n ih=>
  intro i acc h hi hacc
  have hf1:=hf.1
  rw[Qbx]
  cases hd:d.Hours.drop i with
  |nil=>
   have:=Qfk hd
   simp[show ¬((i:Int)<d.Hours.length) from by omega]
  |cons b l=>
   obtain⟨hg,hd',hlt⟩:=Qey hd
   have hb10:=hf.2 b (List.mem_of_getElem? hg)
   have e1:w64 ((i:Int)+1)=((i+1:Nat):Int):=Qcj (by omega) (by omega)
   simp only[show decide ((i:Int)<d.Hours.length)=true from by simpa using hlt,cond_true,Qdn hg,Option.bind_some,e1,Qco]
   have h2:=Qux N b (fun x=>match x with |(y16,y17)=>chk (decide ((y17.length+([(⟨b.Use,y16⟩:Qah)]).length)*32≤140737488355328)) (Qbx N d k n ((i+1:Nat):Int) (y17++([(⟨b.Use,y16⟩:Qah)])))) acc (by omega) N 0 [] (by simp;omega) (by omega) rfl
   rw[show((0:Nat):Int)=0 from rfl,List.drop_zero,List.nil_append] at h2
   rw[h2]
   dsimp only
   rw[ih (i+1) (acc++[b]) (by rw[hd'];rw[hd] at h;simp at h;omega) hlt (by simp[hacc]),hd']
   simp only[chk,show decide ((acc.length+[(⟨b.Use,b.Stairs⟩:Qah)].length)*32≤140737488355328)=true from by simp;omega,cond_true,List.append_assoc,List.cons_append,List.nil_append]
theorem Qz8 {N:Nat}{d:GDay}(hf:FewP d) (hN:2000≤N):Qee N d=some d.Hours:=by
 unfold Qee
 simp only[Qco]
 have hf1:=hf.1
 have:=Quy N d (fun y2=>some y2) hN hf N 0 [] (by simp;omega) (by omega) rfl
 simpa using this
end
section
theorem chkT {β:Type}{b:Bool}{k:Option β}(h:b=true):chk b k=k:=by subst h;rfl
def Qvd:Option Qaf→List Qaf→Option Qaf
 |a,[]=>a
 |_,b::l=>Qvd (some b) l
theorem Qpd:∀(l:List Qaf) (a:Option Qaf),l≠[]→Qvd a l=l[l.length-1]?
 |[],_,h=>absurd rfl h
 |[b],_,_=>rfl
 |b::c::l,a,_=>by
  rw[Qvd,Qpd (c::l) (some b) (by simp)]
  simp
theorem Qlr {s:Qaf}(hs:stB s=true):∀(l:List Qaf) (a:Option Qaf),Qf0 a l=true→(∀x,Qvd a l=some x→x.Price<s.Price)→Qf0 a (l++[s])=true
 |[],none,_,_=>by simp[Qf0,hs]
 |[],some a,_,h=>by
  have:=h a rfl
  simp[Qf0,hs,this]
 |b::l,none,h,h'=>by
  simp only[List.cons_append,Qf0,Bool.and_eq_true] at h ⊢
  exact⟨h.1,Qlr hs l (some b) h.2 h'⟩
 |b::l,some a,h,h'=>by
  simp only[List.cons_append,Qf0,Bool.and_eq_true] at h ⊢
  exact⟨h.1,Qlr hs l (some b) h.2 h'⟩
theorem Qmn {f g:Nat→Int}:∀{n:Nat},(∀i,i<n→f i=g i)→sumN f n=sumN g n
 |0,_=>rfl
 |n+1,h=>by rw[sumN,sumN,Qmn (n:=n) fun i hi=>h i (by omega),h n (by omega)]
theorem Qq3:∀q:List Qaf,(∀x∈q,1≤x.Amount)→0≤Qbo q
 |[],_=>Int.le_refl _
 |y::q,h=>by
  have h1:=h y (by simp)
  have h2:=Qq3 q fun x hx=>h x (List.mem_cons_of_mem _ hx)
  have:Qbo (y::q)=y.Amount+Qbo q:=by simp[Qbo]
  omega
theorem Qpl {s:Qaf}(hs:0≤s.Amount):∀(l:List Qaf),(∀x∈l,1≤x.Amount)→∀(n:Int),0≤n→n≤Qbo l→Qez (l++[s]) n=Qez l n
 |[],_,n,h0,h1=>by
  have:n=0:=by simp only[Qbo,List.map_nil,List.sum_nil] at h1;omega
  subst this
  simp only[List.nil_append,Qez]
  rw[Int.min_eq_left hs]
  simp
 |b::l,hl,n,h0,h1=>by
  have hb:=hl b (by simp)
  have e:Qbo (b::l)=b.Amount+Qbo l:=by simp[Qbo]
  simp only[List.cons_append,Qez]
  have h2:0≤Qbo l:=Qq3 l fun x hx=>hl x (List.mem_cons_of_mem _ hx)
  rw[e] at h1
  rw[Qpl hs l (fun x hx=>hl x (List.mem_cons_of_mem _ hx)) (n-min n b.Amount) (by omega) (by omega)]
theorem Qrq {N:Nat}{d d':GDay}(hN:2000≤N) (hf:FewP d) (hd:dayB d=true) (hf':FewP d') (hd':dayB d'=true) {x:(List Int)×(List Int)×Int×Int}(hx:Qbi N d=some x) (h0:x.2.2.2=0)
  (hp:∀y,Qne (hrs d.Hours) (useF d.Hours) d.Start d.Tank d.Hours.length y→Qne (hrs d'.Hours) (useF d'.Hours) d'.Start d'.Tank d'.Hours.length y∧sumN (fun i=>Qez (hrs d'.Hours i) (y i)) d'.Hours.length=sumN (fun i=>Qez (hrs d.Hours i) (y i)) d.Hours.length) :
  ∃r,Qbi N d'=some r∧r.2.2.2=0∧r.2.2.1≤x.2.2.1:=by
 rcases Qj8 hN hf hd with ⟨i,hi,e⟩ |⟨hns,pl,pr,e,l1,l2,hsh⟩
 ·rw[e] at hx;cases hx;simp at h0
 ·rw[e] at hx;cases hx
  obtain⟨hp1,hp2⟩:=hp _ hsh.plan
  rcases Qj8 hN hf' hd' with ⟨i,hi,e'⟩ |⟨hns',pl',pr',e',l1',l2',hsh'⟩
  ·have h1:=Qmk hp1 i hi.lt
   have h2:=(hp1.tank i hi.lt).1
   have:=hi.neg
   omega
  ·refine⟨_,e',rfl,?_⟩
   have:=Qw9 (Qsa hd') hsh' hp1
   rw[hp2] at this
   exact this
theorem Qu3 {N:Nat}{d:GDay}(hN:2000≤N) (hf:FewP d) (hd:dayB d=true) {x:(List Int)×(List Int)×Int×Int}(hx:Qbi N d=some x) (h0:x.2.2.2=0) {T:Int}(hT:d.Tank≤T) (hT':T≤1000000000) :
  ∃r,Qbi N ⟨T,d.Start,d.Hours⟩=some r∧r.2.2.2=0∧r.2.2.1≤x.2.2.1:=by
 have hd0:=hd
 simp only[dayB,Bool.and_eq_true,Qh0] at hd0
 refine Qrq (d':=⟨T,d.Start,d.Hours⟩) hN hf hd hf ?_ hx h0 fun y hy=>⟨⟨hy.fit,fun i hi=>?_⟩,rfl⟩
 ·simp only[dayB,Bool.and_eq_true,Qh0]
  obtain⟨⟨⟨a,b⟩,c⟩,e⟩:=hd0
  exact⟨⟨⟨⟨by omega,hT'⟩,by omega,by omega⟩,c⟩,e⟩
 ·have:=hy.tank i hi
  exact⟨this.1,Int.le_trans this.2 hT⟩
theorem Qmv {N:Nat}{d:GDay}(hN:2000≤N) (hf:FewP d) (hd:dayB d=true) {x:(List Int)×(List Int)×Int×Int}(hx:Qbi N d=some x) (h0:x.2.2.2=0) {k:Nat}{h:Qah}(hg:d.Hours[k]? = some h) {s:Qaf}(hs:stB s=true) (hl:¬h.Stairs.length=6)
  (hlast:∀y,Qvd none h.Stairs=some y→y.Price<s.Price) :
  ∃r,Qbi N ⟨d.Tank,d.Start,d.Hours.set k ⟨h.Use,h.Stairs++[s]⟩⟩=some r∧r.2.2.2=0∧r.2.2.1≤x.2.2.1:=by
 have hd0:=hd
 simp only[dayB,Bool.and_eq_true] at hd0
 obtain⟨⟨⟨a,b⟩,c⟩,e⟩:=hd0
 have hkl:k<d.Hours.length:=(List.getElem?_eq_some_iff.1 hg).1
 have hhb:=List.all_eq_true.1 e h (List.mem_of_getElem? hg)
 have hP:=Qkx hhb
 have h6:=hP.few
 have hst:0≤s.Amount:=by
  simp only[stB,Bool.and_eq_true,Qh0] at hs
  omega
 have hnew:Qgn ⟨h.Use,h.Stairs++[s]⟩=true:=by
  unfold Qgn at hhb ⊢
  simp only[Bool.and_eq_true] at hhb ⊢
  exact⟨⟨Qlr hs _ _ hhb.1.1 hlast,hhb.1.2⟩,decide_eq_true (by rw[List.length_append];simp only[List.length_cons,List.length_nil];omega)⟩
 have hmem:∀x∈d.Hours.set k ⟨h.Use,h.Stairs++[s]⟩,Qgn x=true:=fun x hx=>by
  rcases List.mem_or_eq_of_mem_set hx with hm |hm
  ·exact List.all_eq_true.1 e x hm
  ·subst hm;exact hnew
 have huse:useF (d.Hours.set k ⟨h.Use,h.Stairs++[s]⟩)=useF d.Hours:=by
  funext j
  by_cases hj:j=k
  ·subst hj
   rw[(Qj5 hkl).2,(Qhl hg).2]
  ·exact(Qj4 hj).2
 refine Qrq (d':=⟨d.Tank,d.Start,d.Hours.set k ⟨h.Use,h.Stairs++[s]⟩⟩) hN hf hd ⟨?_,fun x hx=>?_⟩ ?_ hx h0 fun y hy=>⟨⟨fun i hi=>?_,fun i hi=>?_⟩,?_⟩
 ·show(d.Hours.set k _).length≤30
  rw[List.length_set];exact hf.1
 ·have:=(Qkx (hmem x hx)).few
  omega
 ·unfold dayB
  rw[Bool.and_eq_true,Bool.and_eq_true,Bool.and_eq_true]
  refine⟨⟨⟨a,b⟩,?_⟩,List.all_eq_true.2 hmem⟩
  show btw ((d.Hours.set k _).length) 1 24=true
  rw[List.length_set];exact c
 ·have hi':i<d.Hours.length:=by
   have:i<(d.Hours.set k ⟨h.Use,h.Stairs++[s]⟩).length:=hi
   rwa [List.length_set] at this
  have hfit:=hy.fit i hi'
  refine⟨hfit.1,?_⟩
  show y i≤Qbo (hrs (d.Hours.set k ⟨h.Use,h.Stairs++[s]⟩) i)
  by_cases hj:i=k
  ·subst hj
   rw[(Qj5 hkl).1]
   rw[(Qhl hg).1] at hfit
   have:Qbo (h.Stairs++[s])=Qbo h.Stairs+s.Amount:=by simp[Qbo]
   show y i≤Qbo (h.Stairs++[s])
   omega
  ·rw[(Qj4 hj).1];exact hfit.2
 ·have hi':i<d.Hours.length:=by
   have:i<(d.Hours.set k ⟨h.Use,h.Stairs++[s]⟩).length:=hi
   rwa [List.length_set] at this
  have:=hy.tank i hi'
  show 0≤lev d.Start y (useF (d.Hours.set k _)) i∧lev d.Start y (useF (d.Hours.set k _)) i≤d.Tank
  rw[huse]
  exact this
 ·show sumN (fun i=>Qez (hrs (d.Hours.set k ⟨h.Use,h.Stairs++[s]⟩) i) (y i)) (d.Hours.set k _).length=_
  rw[List.length_set]
  refine Qmn fun i hi=>?_
  by_cases hj:i=k
  ·subst hj
   have hfit:=hy.fit i hi
   rw[(Qhl hg).1] at hfit
   rw[(Qj5 hkl).1,(Qhl hg).1]
   exact Qpl hst _ (fun x hx=>(hP.st x hx).1) _ hfit.1 hfit.2
  ·rw[(Qj4 hj).1]
theorem Qr6 (d:GDay) (p1 p2 p3 p4:Int) (gd:Qvh d) (g1:Q2o p1) (g2:Q3q p2) (g3:Qzf p3) (g4:Qzf p4):Qe3 (2000+d.Hours.length) d p1 p2 p3 p4=some true:=by
 have hlen:d.Hours.length≤9223372036854775807:=gd.2.2.1
 generalize hM:2000+d.Hours.length=N
 have hN:2000≤N:=by omega
 have b1:0≤p1∧p1≤4294967295:=bounds_u32 g1
 have b2:0≤p2∧p2≤255:=bounds_u8 g2
 have b3:0≤p3∧p3≤65535:=bounds_u16 g3
 have b4:0≤p4∧p4≤65535:=bounds_u16 g4
 obtain⟨b,hb1,hb2⟩:=Q2s (N:=N) hlen (by omega)
 unfold Qe3
 rw[hb1,Option.bind_some,Qxa]
 cases b with
 |false=>rfl
 |true=>
 have hf:=hb2 rfl
 rw[show(!true)=false from rfl,cond_false,Q1c hf hN,Option.bind_some]
 cases hd:dayB d with
 |false=>rfl
 |true=>
 rw[show(!true)=false from rfl,cond_false,Qyh hf hN,Option.bind_some]
 obtain⟨x,hx,hx7⟩:∃x,Qbi N d=some x∧(x.2.2.2=0∨x.2.2.2=7):=by
  rcases Qj8 hN hf hd with ⟨i,hi,e⟩ |⟨hns,pl,pr,e,l1,l2,hsh⟩
  ·exact⟨_,e,.inr rfl⟩
  ·exact⟨_,e,.inl rfl⟩
 rw[hx,Option.bind_some]
 rcases hx7 with h0 |h7
 case inr=>rw[h7];rfl
 rw[h0,show((0:Int) != 0)=false from rfl,cond_false,Qz8 hf hN,Option.bind_some,Option.bind_some]
 obtain⟨ht,hst,hl1,hl24⟩:=Qro hd
 have eP:w64 p1=p1:=Qcj (by omega) (by omega)
 have eT:w64 (d.Tank+w64 p1)=d.Tank+p1:=by rw[eP];exact Qcj (by omega) (by omega)
 rw[eT]
 obtain⟨T,hT,t1,t2⟩:∃T,(if d.Tank+p1<1000000000 then d.Tank+p1 else 1000000000)=T∧d.Tank≤T∧T≤1000000000:=by
  refine⟨_,rfl,?_,?_⟩<;>split<;>omega
 rw[hT]
 have hne:(!d.Hours.isEmpty)=true:=by
  cases hh:d.Hours with
  |nil=>rw[hh] at hl1;simp at hl1
  |cons=>rfl
 obtain⟨r,hr,r0,r1⟩:=Qu3 hN hf hd hx h0 t1 t2
 rw[chkT hne,chkT (decide_eq_true (Nat.le_refl _)),List.take_length,hr,Option.bind_some,r0,show((0:Int) != 0)=false from rfl,cond_false,decide_eq_false (show ¬r.2.2.1>x.2.2.1 by omega),cond_false,Option.bind_some]
 have eQ:w64 p2=p2:=Qcj (by omega) (by omega)
 rw[eQ]
 obtain⟨m,hm,m0,m1⟩:∃m,p2.tmod ((d.Hours.length:Nat):Int)=m∧0≤m∧m<d.Hours.length:=by
  refine⟨_,rfl,Int.tmod_nonneg _ b2.1,Int.tmod_lt_of_pos _ (by omega)⟩
 rw[hm]
 have hkl:m.toNat<d.Hours.length:=by omega
 have hnz:(((d.Hours.length:Nat):Int) != 0)=true:=by
  rw[bne_iff_ne];omega
 obtain⟨h,hg⟩:∃h,d.Hours[m.toNat]? = some h:=⟨_,List.getElem?_eq_getElem hkl⟩
 rw[chkT (decide_eq_true hkl),chkT hnz,chkT hne,chkT (by rw[decide_eq_true m0,decide_eq_true hkl];rfl),hg,Option.bind_some,Option.bind_some,Option.bind_some]
 have hhb:Qgn h=true:=by
  have hd0:=hd
  simp only[dayB,Bool.and_eq_true] at hd0
  exact List.all_eq_true.1 hd0.2 h (List.mem_of_getElem? hg)
 have hP:=Qkx hhb
 have h6:=hP.few
 have eA:w64 (1+w64 p3)=1+p3:=by rw[Qcj (x:=p3) (by omega) (by omega)];exact Qcj (by omega) (by omega)
 have eR:w64 p4=p4:=Qcj (by omega) (by omega)
 obtain⟨q,hq,q0,q1⟩:∃q,p4.tmod 20=q∧0≤q∧q<20:=⟨_,rfl,Int.tmod_nonneg _ b4.1,Int.tmod_lt_of_pos _ (by decide)⟩
 rw[eA,eR,hq]
 have hle:∀z:Qah,(d.Hours.set m.toNat z).length=d.Hours.length:=fun z=>List.length_set
 have hne':∀z:Qah,(!(d.Hours.set m.toNat z).isEmpty)=true:=fun z=>by
  cases hh:d.Hours.set m.toNat z with
  |nil=>have:=hle z;rw[hh] at this;simp at this;omega
  |cons=>rfl
 have tk:∀z:Qah,(d.Hours.set m.toNat z).take d.Hours.length=d.Hours.set m.toNat z:=fun z=>List.take_of_length_le (by rw[hle];exact Nat.le_refl _)
 by_cases hn:(h.Stairs.length:Int)>0
 ·rw[decide_eq_true hn,cond_true]
  have hlt:h.Stairs.length-1<h.Stairs.length:=by omega
  obtain⟨y,hy⟩:∃y,h.Stairs[h.Stairs.length-1]? = some y:=⟨_,List.getElem?_eq_getElem hlt⟩
  have eL:w64 ((h.Stairs.length:Int)-1)=((h.Stairs.length-1:Nat):Int):=by rw[Qcj (by omega) (by omega)];omega
  have by_:=hP.st y (List.mem_of_getElem? hy)
  have eY:w64 (y.Price+1)=y.Price+1:=Qcj (by omega) (by omega)
  have eZ:w64 (y.Price+1+q)=y.Price+1+q:=Qcj (by omega) (by omega)
  rw[eL,Qdn hy,Option.bind_some,Option.bind_some,eY,eZ]
  by_cases h6':h.Stairs.length=6
  ·rw[show((h.Stairs.length:Int)==6)=true from beq_iff_eq.2 (by omega),cond_true];rfl
  rw[show((h.Stairs.length:Int)==6)=false from beq_eq_false_iff_ne.2 (by omega),cond_false]
  by_cases hp:y.Price+1+q>1000
  ·rw[decide_eq_true hp,cond_true];rfl
  rw[decide_eq_false hp,cond_false,Option.bind_some,Option.bind_some]
  obtain⟨v,hv,v0,v1⟩:=Qmv hN hf hd hx h0 hg (s:=⟨1+p3,y.Price+1+q⟩) (by simp only[stB,Bool.and_eq_true,Qh0];omega) h6' (fun z hz=>by
   rw[Qpd _ _ (by intro e;rw[e] at hn;simp at hn),hy] at hz
   cases hz
   show y.Price<y.Price+1+q
   omega)
  rw[chkT (decide_eq_true (by simp only[List.length_cons,List.length_nil];omega)),chkT (hne' _),chkT (decide_eq_true (by rw[hle];exact Nat.le_refl _)),tk,hv,Option.bind_some,v0,show((0:Int)==0)=true from rfl,cond_true,decide_eq_true (show v.2.2.1≤x.2.2.1 from v1),cond_true,Option.bind_some]
 ·rw[decide_eq_false hn,cond_false]
  have e0:h.Stairs=[]:=by
   cases hh:h.Stairs with
   |nil=>rfl
   |cons=>rw[hh] at hn;simp at hn
  have eZ:w64 (0+q)=0+q:=Qcj (by omega) (by omega)
  rw[eZ]
  have h6':¬h.Stairs.length=6:=by rw[e0];simp
  rw[Option.bind_some,show((h.Stairs.length:Int)==6)=false from beq_eq_false_iff_ne.2 (by omega),cond_false,decide_eq_false (show ¬0+q>1000 by omega),cond_false,Option.bind_some,Option.bind_some]
  obtain⟨v,hv,v0,v1⟩:=Qmv hN hf hd hx h0 hg (s:=⟨1+p3,0+q⟩) (by simp only[stB,Bool.and_eq_true,Qh0];omega) h6' (fun z hz=>by
   rw[e0] at hz
   cases hz)
  rw[chkT (decide_eq_true (by simp only[List.length_cons,List.length_nil];omega)),chkT (hne' _),chkT (decide_eq_true (by rw[hle];exact Nat.le_refl _)),tk,hv,Option.bind_some,v0,show((0:Int)==0)=true from rfl,cond_true,decide_eq_true (show v.2.2.1≤x.2.2.1 from v1),cond_true,Option.bind_some]
end
end Go.Proofs.Ytjpfjfdaomckhaa
