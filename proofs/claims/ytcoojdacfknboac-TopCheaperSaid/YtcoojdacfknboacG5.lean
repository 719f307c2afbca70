/-
  The texts X6, X7, PB6, PIa, PIb, PIc, PId, PIs, PIy, PIe, PIf, PIg, PIh, PIi, PIj, PIk, PIl, PIm of the proof, one behind the other. No conditions.
-/
import Derived.Test.YtcoojdacfknboacG4
namespace Go.Proofs.Ytcoojdacfknboac
open _root_.Go.Proofs.Try
open Go.RowKit
set_option maxRecDepth 100000
set_option maxHeartbeats 4000000
set_option synthInstance.maxSize 4000
set_option synthInstance.maxHeartbeats 400000
section
def Qf3 (_N:Nat) (p0 p1 p2:Int):Option Bool:=
  bif (decide (p0≥p1)) then
   some (decide (p0≤p2))
  else
   some false
theorem Qfi (N:Nat) (p0 p1 p2:Int) (r:Bool) (h:Qf3 N p0 p1 p2=some r):Spec prog 12 [(I p0),(I p1),(I p2)] [] (B r) []:=by
  refine sA func12 0 fun _ _ _ hq hd0=>?_
  unfold Qf3 at h
  refine wxz ?_
  refine bfe h (fun hb1 h=>?_) fun hb1 h=>?_
  ·refine wx tbk [(3,rp [(.tmp 9,(B ((decide (p0≥p1)))))] (B true))] ⟨asb hb1 (amv rfl),tv⟩<|Qag ?_
   obtain rfl:=osi h
   exact fend ⟨[(B ((decide (p0≤p2))))],⟨rot,tv⟩,rfl⟩ nll
  ·exact wx tbk [(3,rp [(.tmp 9,(B ((decide (p0≥p1)))))] (B false))] ⟨asb hb1 (amv rfl),tv⟩<|Qag<|frb h
def Qg8 (_N:Nat) (p0:Qat) (p1:Int):Option Bool:=
  bif (decide (p1≥0)) then
   some (decide (p1<p0.Sites))
  else
   some false
theorem Qip (N:Nat) (p0:Qat) (p1:Int) (r:Bool) (h:Qg8 N p0 p1=some r):Spec prog 13 [(.agg (Qf9 p0)),(I p1)] [] (B r) []:=by
  refine sA func13 0 fun _ _ _ hq hd0=>?_
  unfold Qg8 at h
  refine wxz ?_
  refine bfe h (fun hb1 h=>?_) fun hb1 h=>?_
  ·refine wx tbk [(2,rp [(.tmp 6,(B ((decide (p1≥0)))))] (B true))] ⟨asb hb1 (amv rfl),tv⟩<|Qag ?_
   obtain rfl:=osi h
   exact fend ⟨[(B ((decide (p1<p0.Sites))))],⟨rot,tv⟩,rfl⟩ nll
  ·exact wx tbk [(2,rp [(.tmp 6,(B ((decide (p1≥0)))))] (B false))] ⟨asb hb1 (amv rfl),tv⟩<|Qag<|frb h
def Qdm (N:Nat) (p0:Qat) (k5:Unit→Option Int):Nat→Int→Option Int
  |0,_=>none
  |n8+1,y6=>
    bif (decide (y6<(p0.Tests.length:Int))) then
     (getI p0.Tests y6).bind fun x10=>
     (Qg8 N p0 x10.From).bind fun x15=>
     bif (!x15) then
      some 1
     else
      (Qg8 N p0 x10.To).bind fun x18=>
      bif (!x18) then
       some 1
      else
       bif (x10.From==x10.To) then
        some 1
       else
        (Qf3 N x10.Seen.Lo 0 1000000).bind fun x22=>
        bif (!x22) then
         some 1
        else
         (Qf3 N x10.Seen.Hi 0 1000000).bind fun x25=>
         bif (!x25) then
          some 1
         else
          bif (decide (x10.Seen.Lo>x10.Seen.Hi)) then
           some 1
          else
           Qdm N p0 k5 n8 (w64 (y6+1))
    else
     k5 ()
def Qgh (N:Nat) (p0:Qat):Option Int:=
  bif (decide ((p0.Tests.length:Int)>60)) then
   some 3
  else
   (Qf3 N p0.Sites 1 12).bind fun x3=>
   bif (!x3) then
    some 1
   else
    Qcy (fun _=>
      some 0) fun k5:Unit→Option Int=>
    Qdm N p0 k5 N 0
def Q7a (p0:Qat):AV:=.dat 4 (p0.Tests.map Qbf)
def Q1j (p0:Qat):Slot:=.own 2 [[(I p0.Sites),(Q7a p0)]]
def Q69 (p0:Qat):AV:=.agg [(I p0.Sites),(Q7a p0)]
def Qxi (p0:Qat) (x10:Qcc) (x15:Bool):List (Nat×Rec):=[(3,rp [fu 13,((.tmp 25),(Q69 p0)),((.tmp 27),(I x10.From))] (B x15))]
def Qxh p0 x10 x15 (x18:Bool):=hcat (Qxi p0 x10 x15) [(5,rp [((.tmp 29),(B ((!x15))))] (B false)),(9,rp [((.tmp 30),(B false)),fu 13,((.tmp 31),(Q69 p0)),((.tmp 33),(I x10.To))] (B x18))]
def Qxg p0 x10 x15 x18:=hcat (Qxh p0 x10 x15 x18) [(12,rp [((.tmp 36),(B ((!x18))))] (B false))]
def Qxf p0 x10 x15 x18 (x22:Bool):=hcat (Qxg p0 x10 x15 x18) [(19,rp [((.tmp 43),(B ((x10.From==x10.To))))] (B false)),(23,rp [((.tmp 44),(B false)),fu 12,((.tmp 47),(I x10.Seen.Lo)),ci 0,ci 1000000] (B x22))]
def Qxe p0 x10 x15 x18 x22 (x25:Bool):=hcat (Qxf p0 x10 x15 x18 x22) [(26,rp [((.tmp 50),(B ((!x22))))] (B false)),(30,rp [((.tmp 51),(B false)),fu 12,((.tmp 54),(I x10.Seen.Hi)),ci 0,ci 1000000] (B x25))]
theorem Qlv (N:Nat) (p0:Qat) (r:Int) (h:Qgh N p0=some r):Spec prog 11 [(.agg (Qf9 p0))] [] (I r) []:=by
  refine sA func11 0 fun _ _ _ hq hd0=>?_
  unfold Qgh at h
  refine wxz<|wsq ?_
  refine wx tbk [(2,rp _ _)] ⟨alq 4 Qbf p0.Tests underlying22,tv⟩ ?_
  refine bfe h (fun hc1 h=>?_) fun hc1 h=>?_
  ·refine wft hc1<|wxz<|Qag<|Qae ?_
   obtain rfl:=osi h
   exact fend ⟨[I 3],⟨rot,tv⟩,rfl⟩ nll
  ·refine wfn hc1<|Qai<|thn<|wsq ?_
   obtain⟨x3,hf2,h⟩:=bno h
   refine wx tbk [(2,rp _ _)] ⟨apw Qj3 (Qfi N p0.Sites 1 12 _ hf2),tv⟩ ?_
   refine bfe h (fun hc4 h=>?_) fun hc4 h=>?_
   ·refine wft hc4<|wxz<|Qag<|Qae ?_
    obtain rfl:=osi h
    exact fend ⟨[I 1],⟨rot,tv⟩,rfl⟩ nll
   ·refine wfn hc4<|Qai<|thn ?_
    obtain⟨k5,hk_k5,h⟩:=jko h
    refine wjn (τ:=Unit) (fun t=>k5 t=some r) (fun _=>⟨mk 67 [],[]⟩) (fun t h=>?_) ?_
    ·subst hk_k5
     refine wxz<|Qag ?_
     obtain rfl:=osi h
     exact fend ⟨[I 0],⟨rot,tv⟩,rfl⟩ nll
    ·skip
     refine wxz<|Qaf ?_
     refine wmr (mto (n:=67) (l':=[(1,.ref 0 2 0 0),(3,I 0)]) (own':=[(Q1j p0)]) [(1,.ref 0 2 0 0),(3,I 0)] [0] [(Q1j p0)] hq (prr (pw pn)) (qb (lc rwl (lc (rnd Qad) ln)) qn)) ?_
     refine Qbx (τ:=Int) (fun n t=>Qdm N p0 k5 n t=some r) (fun y6=>⟨mk 67 [(1,.ref 0 2 0 0),(3,I y6)],[(Q1j p0)]⟩) (fun t h=>by rw[Qdm] at h;cases h) (fun n8 ih y6 h=>?_) N (0) h
     rw[Qdm] at h
     skip
     refine wsq<|wx tbk [(3,rp _ _)] ⟨alq 4 Qbf p0.Tests underlying22,tv⟩ ?_
     refine bfe h (fun hc9 h=>?_) fun hc9 h=>?_
     ·refine wft hc9<|Qai<|thn<|wsq<|Qaf ?_
      obtain⟨x10,hg11,h⟩:=bno h
      obtain⟨hi12,hj13⟩:=gsm hg11
      refine wx tbk [(3,rp _ _)] ⟨aiq underlying22 ti75 Qbf hi12 hj13,tv⟩ ?_
      obtain⟨x15,hf14,h⟩:=bno h
      refine hpre (A:=(Qxi p0 x10 x15)) ⟨apv Qri (Qip N p0 x10.From _ hf14) (nlc (NLt.agg _ (nlc nll (nlc (nld Qad _) nl0))) (nlc nll nl0)) nll,tv⟩ fun q1_=>?_
      refine bfe h (fun hb16 h=>?_) fun hb16 h=>?_
      ·refine wx tbk (hcat (Qxi p0 x10 x15) [(5,rp [(.tmp 29,(B ((!x15))))] (B true))]) (hap q1_ ⟨asb hb16 (amv rfl),tv⟩)<|wtr<|wxz<|Qag<|Qaq<|Qae<|Qae<|Qaq<|Qae ?_
       obtain rfl:=osi h
       exact fend ⟨[I 1],⟨rot,tv⟩,rfl⟩ nll
      ·obtain⟨x18,hf17,h⟩:=bno h
       refine hpre (A:=(Qxh p0 x10 x15 x18)) (hap q1_ ⟨asb hb16 (amv rfl),ag_ (apv Qri (Qip N p0 x10.To _ hf17) (nlc (NLt.agg _ (nlc nll (nlc (nld Qad _) nl0))) (nlc nll nl0)) nll),tv⟩) fun q2_=>?_
       refine bfe h (fun hb19 h=>?_) fun hb19 h=>?_
       ·refine wx tbk (hcat (Qxh p0 x10 x15 x18) [(12,rp [(.tmp 36,(B ((!x18))))] (B true))]) (hap q2_ ⟨asb hb19 (amv rfl),tv⟩)<|wtr<|wxz<|Qag<|Qaq<|Qae<|Qae<|Qaq<|Qae ?_
        obtain rfl:=osi h
        exact fend ⟨[I 1],⟨rot,tv⟩,rfl⟩ nll
       ·refine hpre (A:=(Qxg p0 x10 x15 x18)) (hap q2_ ⟨asb hb19 (amv rfl),tv⟩) fun q3_=>?_
        refine bfe h (fun hb20 h=>?_) fun hb20 h=>?_
        ·refine wx tbk (hcat (Qxg p0 x10 x15 x18) [(19,rp [(.tmp 43,(B ((x10.From==x10.To))))] (B true))]) (hap q3_ ⟨asb hb20 (amv rfl),tv⟩)<|wtr<|wxz<|Qag<|Qaq<|Qae<|Qae<|Qaq<|Qae ?_
         obtain rfl:=osi h
         exact fend ⟨[I 1],⟨rot,tv⟩,rfl⟩ nll
        ·obtain⟨x22,hf21,h⟩:=bno h
         refine hpre (A:=(Qxf p0 x10 x15 x18 x22)) (hap q3_ ⟨asb hb20 (amv rfl),ag_ (apv Qj3 (Qfi N x10.Seen.Lo 0 1000000 _ hf21) (nlcc (nlc nll nl0)) nll),tv⟩) fun q4_=>?_
         refine bfe h (fun hb23 h=>?_) fun hb23 h=>?_
         ·refine wx tbk (hcat (Qxf p0 x10 x15 x18 x22) [(26,rp [(.tmp 50,(B ((!x22))))] (B true))]) (hap q4_ ⟨asb hb23 (amv rfl),tv⟩)<|wtr<|wxz<|Qag<|Qaq<|Qae<|Qae<|Qaq<|Qae ?_
          obtain rfl:=osi h
          exact fend ⟨[I 1],⟨rot,tv⟩,rfl⟩ nll
         ·obtain⟨x25,hf24,h⟩:=bno h
          refine hpre (A:=(Qxe p0 x10 x15 x18 x22 x25)) (hap q4_ ⟨asb hb23 (amv rfl),ag_ (apv Qj3 (Qfi N x10.Seen.Hi 0 1000000 _ hf24) (nlcc (nlc nll nl0)) nll),tv⟩) fun q5_=>?_
          refine bfe h (fun hb26 h=>?_) fun hb26 h=>?_
          ·refine wx tbk (hcat (Qxe p0 x10 x15 x18 x22 x25) [(33,rp [(.tmp 57,(B ((!x25))))] (B true))]) (hap q5_ ⟨asb hb26 (amv rfl),tv⟩)<|wtr<|wxz<|Qag<|Qaq<|Qae<|Qae<|Qaq<|Qae ?_
           obtain rfl:=osi h
           exact fend ⟨[I 1],⟨rot,tv⟩,rfl⟩ nll
          ·refine wx tbk (hcat (Qxe p0 x10 x15 x18 x22 x25) [(33,rp [(.tmp 57,(B ((!x25))))] (B false))]) (hap q5_ ⟨asb hb26 (amv rfl),tv⟩) ?_
           refine bfe h (fun hc27 h=>?_) fun hc27 h=>?_
           ·refine wft hc27<|wxz<|Qag<|Qaq<|Qae<|Qae<|Qaq<|Qae ?_
            obtain rfl:=osi h
            exact fend ⟨[I 1],⟨rot,tv⟩,rfl⟩ nll
           ·exact wfn hc27<|Qai<|bln<|thn<|wxz1<|thn<|arm (mto (n:=67) [(1,.ref 0 2 0 0),(3,(I (w64 (y6+1))))] [0] [(Q1j p0)] hq (prr (pw pn)) (qb (lc rwl (lc (rnd Qad) ln)) qn)) (ih (w64 (y6+1)) h)
     ·exact wfn hc9<|Qa3<|Qan<|Qan<|Qa2 rfl<|thn<|⟨(),h,(mto (n:=67) [] [] [] hq pn qn)⟩
def Qce (N:Nat) (p1:Qa7) (y7:Int) (k11:Unit→Option Int):Nat→Int→Option Int
  |0,_=>none
  |n15+1,y13=>
    bif (decide (y13<(p1.Inlets.length:Int))) then
     (getI p1.Inlets y13).bind fun x17=>
     (getI p1.Feeds y7).bind fun x21=>
     bif (x17.Site==x21) then
      some 1
     else
      Qce N p1 y7 k11 n15 (w64 (y13+1))
    else
     k11 ()
def Qbz (N:Nat) (p0:Qat) (p1:Qa7) (k6:Unit→Option Int):Nat→Int→Option Int
  |0,_=>none
  |n9+1,y7=>
    bif (decide (y7<(p1.Feeds.length:Int))) then
     Qcy (fun _=>
       Qbz N p0 p1 k6 n9 (w64 (y7+1))) fun k11:Unit→Option Int=>
     Qcy (fun _=>
       Qce N p1 y7 k11 N 0) fun k12:Unit→Option Int=>
     (getI p1.Feeds y7).bind fun x26=>
     (Qg8 N p0 x26).bind fun x31=>
     bif (!x31) then
      some 1
     else
      bif (decide (y7>0)) then
       (getI p1.Feeds (w64 (y7-1))).bind fun x34=>
       bif (decide (x26≤x34)) then
        some 1
       else
        k12 ()
      else
       k12 ()
    else
     k6 ()
def Qby (N:Nat) (k43:Unit→Option Int) (x44:Qba):Nat→Int→Option Int
  |0,_=>none
  |n52+1,y50=>
    bif (decide (y50<(x44.Stairs.length:Int))) then
     (getI x44.Stairs y50).bind fun x54=>
     (Qf3 N x54.Amount 1 1000000).bind fun x59=>
     bif (!x59) then
      some 1
     else
      (Qf3 N x54.Price 0 1000).bind fun x62=>
      bif (!x62) then
       some 1
      else
       bif (decide (y50>0)) then
        (getI x44.Stairs (w64 (y50-1))).bind fun x65=>
        bif (decide (x54.Price≤x65.Price)) then
         some 1
        else
         Qby N k43 x44 n52 (w64 (y50+1))
       else
        Qby N k43 x44 n52 (w64 (y50+1))
    else
     k43 ()
def Qc5 (N:Nat) (p1:Qa7) (y39:Int) (x44:Qba) (k49:Unit→Option Int):Nat→Int→Option Int
  |0,_=>none
  |n72+1,y70=>
    bif (decide (y70<y39)) then
     (getI p1.Inlets y70).bind fun x74=>
     bif (x74.Site==x44.Site) then
      some 1
     else
      Qc5 N p1 y39 x44 k49 n72 (w64 (y70+1))
    else
     k49 ()
def Qcd (N:Nat) (p0:Qat) (p1:Qa7) (k5:Unit→Option Int):Nat→Int→Option Int
  |0,_=>none
  |n41+1,y39=>
    bif (decide (y39<(p1.Inlets.length:Int))) then
     Qcy (fun _=>
       Qcd N p0 p1 k5 n41 (w64 (y39+1))) fun k43:Unit→Option Int=>
     (getI p1.Inlets y39).bind fun x44=>
     Qcy (fun _=>
       Qcy (fun _=>
         Qby N k43 x44 N 0) fun k49:Unit→Option Int=>
       Qc5 N p1 y39 x44 k49 N 0) fun k48:Unit→Option Int=>
     (Qg8 N p0 x44.Site).bind fun x80=>
     bif (!x80) then
      some 1
     else
      (Qf3 N (x44.Stairs.length:Int) 1 6).bind fun x83=>
      bif (!x83) then
       some 1
      else
       k48 ()
    else
     k5 ()
def Qgi (N:Nat) (p0:Qat) (p1:Qa7):Option Int:=
  (Qgh N p0).bind fun x2=>
  bif (x2 != 0) then
   some x2
  else
   Qcy (fun _=>
     Qcy (fun _=>
       Qcy (fun _=>
         some 0) fun k6:Unit→Option Int=>
       Qbz N p0 p1 k6 N 0) fun k5:Unit→Option Int=>
     Qcd N p0 p1 k5 N 0) fun k4:Unit→Option Int=>
   (Qf3 N (p1.Inlets.length:Int) 1 10).bind fun x86=>
   bif (!x86) then
    some 1
   else
    (Qf3 N (p1.Feeds.length:Int) 1 10).bind fun x89=>
    bif (!x89) then
     some 1
    else
     (Qf3 N p1.Factor 1000 100000).bind fun x92=>
     bif (!x92) then
      some 1
     else
      (Qf3 N p1.Horizon 0 100000000).bind fun x95=>
      bif (!x95) then
       some 1
      else
       k4 ()
def Q7c (p0:Qat):AV:=.agg [(I p0.Sites),(.dat 4 (p0.Tests.map Qbf))]
def Qg0 (p0:Qat):Slot:=.own 2 [[(I p0.Sites),(.dat 4 (p0.Tests.map Qbf))]]
def Q7b (p1:Qa7):AV:=.dat 2 (p1.Inlets.map Qa1)
def Qxp (p1:Qa7):AV:=.dat 1 (p1.Feeds.map Qah)
def Qgz (p1:Qa7):Slot:=.own 4 [[(Q7b p1),(Qxp p1),(I p1.Factor),(I p1.Horizon)]]
def Quu (p1:Qa7) (y7 x26:Int) (p0:Qat) (x31:Bool):List (Nat×Rec):=[(4,rp [((.tmp 127),(Qxp p1)),((.tmp 128),(I y7))] (.dptr (Qah x26) 0)),(6,rp [fu 13,((.tmp 125),(Q7c p0)),((.tmp 130),(I x26))] (B x31))]
def Qxo (x44:Qba):AV:=.dat 2 (x44.Stairs.map Qaz)
def Qj5 (x44:Qba):Slot:=.own 2 [[(I x44.Site),(Qxo x44)]]
def Qxn (x54:Qap) (x59:Bool):List (Nat×Rec):=[(2,rp [fu 12,((.tmp 93),(I x54.Amount)),ci 1,ci 1000000] (B x59))]
def Qut x54 x59 (x62:Bool):=hcat (Qxn x54 x59) [(4,rp [((.tmp 95),(B ((!x59))))] (B false)),(7,rp [((.tmp 96),(B false)),fu 12,((.tmp 98),(I x54.Price)),ci 0,ci 1000] (B x62))]
def Qxm (p0:Qat) (x44:Qba) (x80:Bool):List (Nat×Rec):=[(3,rp [fu 13,((.tmp 54),(Q7c p0)),((.tmp 56),(I x44.Site))] (B x80))]
def Qxl (p1:Qa7) (x86:Bool):List (Nat×Rec):=[(2,rp [((.tmp 19),(Q7b p1))] (I ((p1.Inlets.length:Int)))),(3,rp [fu 12,((.tmp 20),(I ((p1.Inlets.length:Int)))),ci 1,ci 10] (B x86))]
def Qxk p1 x86 (x89:Bool):=hcat (Qxl p1 x86) [(5,rp [((.tmp 22),(B ((!x86))))] (B false)),(8,rp [((.tmp 23),(B false)),((.tmp 25),(Qxp p1))] (I ((p1.Feeds.length:Int)))),(9,rp [((.tmp 23),(B false)),fu 12,((.tmp 26),(I ((p1.Feeds.length:Int)))),ci 1,ci 10] (B x89))]
def Qxj p1 x86 x89 (x92:Bool):=hcat (Qxk p1 x86 x89) [(12,rp [((.tmp 29),(B ((!x89))))] (B false)),(15,rp [((.tmp 30),(B false)),fu 12,((.tmp 32),(I p1.Factor)),ci 1000,ci 100000] (B x92))]
theorem Qlw (N:Nat) (p0:Qat) (p1:Qa7) (r:Int) (h:Qgi N p0 p1=some r):Spec prog 5 [(.agg (Qf9 p0)),(.agg (Qhm p1))] [] (I r) []:=by
  refine sA func5 0 fun _ _ _ hq hd0=>?_
  unfold Qgi at h
  refine wxz<|wsq ?_
  obtain⟨x2,hf1,h⟩:=bno h
  refine wx tbk [(1,rp _ _)] ⟨apw Q6q (Qlv N p0 _ hf1),tv⟩<|wxz ?_
  refine bfe h (fun hc3 h=>?_) fun hc3 h=>?_
  ·refine wft hc3<|wxz<|Qag<|Qae ?_
   obtain rfl:=osi h
   exact fend ⟨[I x2],⟨rot,tv⟩,rfl⟩ nll
  ·refine wfn hc3<|Qai<|thn ?_
   obtain⟨k4,hk_k4,h⟩:=jko h
   refine wjn (τ:=Unit) (fun t=>k4 t=some r) (fun _=>⟨mk 170 [(2,.ref 0 2 0 0),(3,.ref 1 4 0 0)],[(Qg0 p0),(Qgz p1)]⟩) (fun t h=>?_) ?_
   ·subst hk_k4
    obtain⟨k5,hk_k5,h⟩:=jko h
    refine wjn (τ:=Unit) (fun t=>k5 t=some r) (fun _=>⟨mk 170 [(2,.ref 0 2 0 0),(3,.ref 1 4 0 0)],[(Qg0 p0),(Qgz p1)]⟩) (fun t h=>?_) ?_
    ·subst hk_k5
     obtain⟨k6,hk_k6,h⟩:=jko h
     refine wjn (τ:=Unit) (fun t=>k6 t=some r) (fun _=>⟨mk 170 [],[]⟩) (fun t h=>?_) ?_
     ·subst hk_k6
      refine wxz<|Qag ?_
      obtain rfl:=osi h
      exact fend ⟨[I 0],⟨rot,tv⟩,rfl⟩ nll
     ·skip
      refine wxz<|Qaf ?_
      refine wmr (mto (n:=170) (l':=[(2,.ref 0 2 0 0),(3,.ref 1 4 0 0),(11,I 0)]) (own':=[(Qg0 p0),(Qgz p1)]) [(2,.ref 0 2 0 0),(3,.ref 1 4 0 0),(11,I 0)] [0,1] [(Qg0 p0),(Qgz p1)] hq (prr (prr (pw pn))) (qb (lc rwl (lc (rnd Qad) ln)) (qb (lc (rnd Qam) (lc (rnd Qal) (lcc ln))) qn))) ?_
      refine Qbx (τ:=Int) (fun n t=>Qbz N p0 p1 k6 n t=some r) (fun y7=>⟨mk 170 [(2,.ref 0 2 0 0),(3,.ref 1 4 0 0),(11,I y7)],[(Qg0 p0),(Qgz p1)]⟩) (fun t h=>by rw[Qbz] at h;cases h) (fun n9 ih y7 h=>?_) N (0) h
      rw[Qbz] at h
      skip
      refine wsq<|wx tbk [(3,rp _ _)] ⟨alq 1 Qah p1.Feeds underlying26,tv⟩ ?_
      refine bfe h (fun hc10 h=>?_) fun hc10 h=>?_
      ·refine wft hc10<|Qai<|thn ?_
       obtain⟨k11,hk_k11,h⟩:=jko h
       refine wjn (τ:=Unit) (fun t=>k11 t=some r) (fun _=>⟨mk 170 [(2,.ref 0 2 0 0),(3,.ref 1 4 0 0),(11,I y7)],[(Qg0 p0),(Qgz p1)]⟩) (fun t h=>?_) ?_
       ·subst hk_k11
        exact wxz1<|thn<|arm (mto (n:=170) [(2,.ref 0 2 0 0),(3,.ref 1 4 0 0),(11,(I (w64 (y7+1))))] [0,1] [(Qg0 p0),(Qgz p1)] hq (prr (prr (pw pn))) (qb (lc rwl (lc (rnd Qad) ln)) (qb (lc (rnd Qam) (lc (rnd Qal) (lcc ln))) qn))) (ih (w64 (y7+1)) h)
       ·skip
        refine Qaf ?_
        obtain⟨k12,hk_k12,h⟩:=jko h
        refine wjn (τ:=Unit) (fun t=>k12 t=some r) (fun _=>⟨mk 170 [(2,.ref 0 2 0 0),(3,.ref 1 4 0 0),(11,I y7)],[(Qg0 p0),(Qgz p1)]⟩) (fun t h=>?_) ?_
        ·subst hk_k12
         refine wxz<|Qaf ?_
         refine wmr (mto (n:=170) (l':=[(2,.ref 0 2 0 0),(3,.ref 1 4 0 0),(11,I y7),(12,I 0)]) (own':=[(Qg0 p0),(Qgz p1)]) [(2,.ref 0 2 0 0),(3,.ref 1 4 0 0),(11,I y7),(12,I 0)] [0,1] [(Qg0 p0),(Qgz p1)] hq (prr (prr (pw (pw pn)))) (qb (lc rwl (lc (rnd Qad) ln)) (qb (lc (rnd Qam) (lc (rnd Qal) (lcc ln))) qn))) ?_
         refine Qbx (τ:=Int) (fun n t=>Qce N p1 y7 k11 n t=some r) (fun y13=>⟨mk 170 [(2,.ref 0 2 0 0),(3,.ref 1 4 0 0),(11,I y7),(12,I y13)],[(Qg0 p0),(Qgz p1)]⟩) (fun t h=>by rw[Qce] at h;cases h) (fun n15 ih y13 h=>?_) N (0) h
         rw[Qce] at h
         skip
         refine wsq<|wx tbk [(3,rp _ _)] ⟨alq 2 Qa1 p1.Inlets underlying25,tv⟩ ?_
         refine bfe h (fun hc16 h=>?_) fun hc16 h=>?_
         ·refine wft hc16<|Qai<|thn<|wsq<|Qaf ?_
          obtain⟨x17,hg18,h⟩:=bno h
          obtain⟨hi19,hj20⟩:=gsm hg18
          obtain⟨x21,hg22,h⟩:=bno h
          obtain⟨hi23,hj24⟩:=gsm hg22
          refine wxd tbk [(3,rp _ _),(9,rp _ _)] ⟨aiq underlying25 ti45 Qa1 hi19 hj20,aiq underlying26 ti3 Qah hi23 hj24,tv⟩ ?_
          refine bfe h (fun hc25 h=>?_) fun hc25 h=>?_
          ·refine wft hc25<|wxz<|Qag<|Qaq<|Qae<|Qae<|Qaq<|Qaq<|Qae<|Qae ?_
           refine Qaq<|Qae ?_
           obtain rfl:=osi h
           exact fend ⟨[I 1],⟨rot,tv⟩,rfl⟩ nll
          ·exact wfn hc25<|Qai<|bln<|thn<|wxz1<|thn<|arm (mto (n:=170) [(2,.ref 0 2 0 0),(3,.ref 1 4 0 0),(11,I y7),(12,(I (w64 (y13+1))))] [0,1] [(Qg0 p0),(Qgz p1)] hq (prr (prr (pw (pw pn)))) (qb (lc rwl (lc (rnd Qad) ln)) (qb (lc (rnd Qam) (lc (rnd Qal) (lcc ln))) qn))) (ih (w64 (y13+1)) h)
         ·exact wfn hc16<|Qa3<|Qan<|Qan<|Qa2 rfl<|bln<|thn<|⟨(),h,(mto (n:=170) [(2,.ref 0 2 0 0),(3,.ref 1 4 0 0),(11,I y7)] [0,1] [(Qg0 p0),(Qgz p1)] hq (prr (prr (pw pn))) (qb (lc rwl (lc (rnd Qad) ln)) (qb (lc (rnd Qam) (lc (rnd Qal) (lcc ln))) qn)))⟩
        ·skip
         obtain⟨x26,hg27,h⟩:=bno h
         obtain⟨hi28,hj29⟩:=gsm hg27
         obtain⟨x31,hf30,h⟩:=bno h
         refine hpre (A:=(Quu p1 y7 x26 p0 x31)) ⟨aiq underlying26 ti3 Qah hi28 hj29,apv Qri (Qip N p0 x26 _ hf30) (nlc (NLt.agg _ (nlc nll (nlc (nld Qad _) nl0))) (nlc nll nl0)) nll,tv⟩ fun q1_=>?_
         refine bfe h (fun hb32 h=>?_) fun hb32 h=>?_
         ·refine wxd tbk (hcat (Quu p1 y7 x26 p0 x31) [(8,rp [(.tmp 132,(B ((!x31))))] (B true))]) (hap q1_ ⟨asb hb32 (amv rfl),tv⟩)<|wtr<|wxz<|Qag<|Qae<|Qaq<|Qae<|Qae<|Qaq<|Qae ?_
          obtain rfl:=osi h
          exact fend ⟨[I 1],⟨rot,tv⟩,rfl⟩ nll
         ·refine bfe h (fun hb33 h=>?_) fun hb33 h=>?_
          ·obtain⟨x34,hg35,h⟩:=bno h
           obtain⟨hi36,hj37⟩:=gsm hg35
           refine wxd tbk (hcat (Quu p1 y7 x26 p0 x31) [(8,rp [(.tmp 132,(B ((!x31))))] (B false)),(11,rp [(.tmp 133,B false),(.tmp 135,(B ((decide (y7>0)))))] (B true)),(15,rp [(.tmp 136,B true),(.tmp 138,(Qxp p1)),(.tmp 139,I y7)] (.dptr (Qah x26) 0)),(21,rp [(.tmp 136,B true),(.tmp 143,(Qxp p1)),(.tmp 145,(I (w64 (y7-1))))] (.dptr (Qah x34) 0))]) (hap q1_ ⟨asb hb32 (amv rfl),asb hb33 (ag_ (amv rfl)),ag_ (aiq underlying26 ti3 Qah hi28 hj29),ag_ (aiq underlying26 ti3 Qah hi36 hj37),tv⟩) ?_
           refine bfe h (fun hc38 h=>?_) fun hc38 h=>?_
           ·refine wft hc38<|wxz<|Qag<|Qae<|Qaq<|Qae<|Qae<|Qaq<|Qae ?_
            obtain rfl:=osi h
            exact fend ⟨[I 1],⟨rot,tv⟩,rfl⟩ nll
           ·exact wfn hc38<|Qai<|thn<|⟨(),h,(mto (n:=170) [(2,.ref 0 2 0 0),(3,.ref 1 4 0 0),(11,I y7)] [0,1] [(Qg0 p0),(Qgz p1)] hq (prr (prr (pw pn))) (qb (lc rwl (lc (rnd Qad) ln)) (qb (lc (rnd Qam) (lc (rnd Qal) (lcc ln))) qn)))⟩
          ·exact wxd tbk (hcat (Quu p1 y7 x26 p0 x31) [(8,rp [(.tmp 132,(B ((!x31))))] (B false)),(11,rp [(.tmp 133,B false),(.tmp 135,(B ((decide (y7>0)))))] (B false))]) (hap q1_ ⟨asb hb32 (amv rfl),asb hb33 (ag_ (amv rfl)),tv⟩)<|wfa<|Qai<|thn<|⟨(),h,(mto (n:=170) [(2,.ref 0 2 0 0),(3,.ref 1 4 0 0),(11,I y7)] [0,1] [(Qg0 p0),(Qgz p1)] hq (prr (prr (pw pn))) (qb (lc rwl (lc (rnd Qad) ln)) (qb (lc (rnd Qam) (lc (rnd Qal) (lcc ln))) qn)))⟩
      ·exact wfn hc10<|Qa3<|Qan<|Qan<|Qa2 rfl<|thn<|⟨(),h,(mto (n:=170) [] [] [] hq pn qn)⟩
    ·skip
     refine wxz<|Qaf ?_
     refine wmr (mto (n:=170) (l':=[(2,.ref 0 2 0 0),(3,.ref 1 4 0 0),(6,I 0)]) (own':=[(Qg0 p0),(Qgz p1)]) [(2,.ref 0 2 0 0),(3,.ref 1 4 0 0),(6,I 0)] [0,1] [(Qg0 p0),(Qgz p1)] hq (prr (prr (pw pn))) (qb (lc rwl (lc (rnd Qad) ln)) (qb (lc (rnd Qam) (lc (rnd Qal) (lcc ln))) qn))) ?_
     refine Qbx (τ:=Int) (fun n t=>Qcd N p0 p1 k5 n t=some r) (fun y39=>⟨mk 170 [(2,.ref 0 2 0 0),(3,.ref 1 4 0 0),(6,I y39)],[(Qg0 p0),(Qgz p1)]⟩) (fun t h=>by rw[Qcd] at h;cases h) (fun n41 ih y39 h=>?_) N (0) h
     rw[Qcd] at h
     skip
     refine wsq<|wx tbk [(3,rp _ _)] ⟨alq 2 Qa1 p1.Inlets underlying25,tv⟩ ?_
     refine bfe h (fun hc42 h=>?_) fun hc42 h=>?_
     ·refine wft hc42<|Qai<|thn ?_
      obtain⟨k43,hk_k43,h⟩:=jko h
      refine wjn (τ:=Unit) (fun t=>k43 t=some r) (fun _=>⟨mk 170 [(2,.ref 0 2 0 0),(3,.ref 1 4 0 0),(6,I y39)],[(Qg0 p0),(Qgz p1)]⟩) (fun t h=>?_) ?_
      ·subst hk_k43
       exact wxz1<|thn<|arm (mto (n:=170) [(2,.ref 0 2 0 0),(3,.ref 1 4 0 0),(6,(I (w64 (y39+1))))] [0,1] [(Qg0 p0),(Qgz p1)] hq (prr (prr (pw pn))) (qb (lc rwl (lc (rnd Qad) ln)) (qb (lc (rnd Qam) (lc (rnd Qal) (lcc ln))) qn))) (ih (w64 (y39+1)) h)
      ·skip
       refine Qaf ?_
       obtain⟨x44,hg45,h⟩:=bno h
       obtain⟨hi46,hj47⟩:=gsm hg45
       refine wx tbk [(3,rp _ _)] ⟨aiq underlying25 ti45 Qa1 hi46 hj47,tv⟩ ?_
       obtain⟨k48,hk_k48,h⟩:=jko h
       refine wjn (τ:=Unit) (fun t=>k48 t=some r) (fun _=>⟨mk 170 [(2,.ref 0 2 0 0),(3,.ref 1 4 0 0),(6,I y39),(7,.ref 2 2 0 0)],[(Qg0 p0),(Qgz p1),(Qj5 x44)]⟩) (fun t h=>?_) ?_
       ·subst hk_k48
        obtain⟨k49,hk_k49,h⟩:=jko h
        refine wjn (τ:=Unit) (fun t=>k49 t=some r) (fun _=>⟨mk 170 [(2,.ref 0 2 0 0),(3,.ref 1 4 0 0),(6,I y39),(7,.ref 2 2 0 0)],[(Qg0 p0),(Qgz p1),(Qj5 x44)]⟩) (fun t h=>?_) ?_
        ·subst hk_k49
         refine wxz<|Qaf ?_
         refine wmr (mto (n:=170) (l':=[(2,.ref 0 2 0 0),(3,.ref 1 4 0 0),(6,I y39),(7,.ref 2 2 0 0),(9,I 0)]) (own':=[(Qg0 p0),(Qgz p1),(Qj5 x44)]) [(2,.ref 0 2 0 0),(3,.ref 1 4 0 0),(6,I y39),(7,.ref 2 2 0 0),(9,I 0)] [0,1,2] [(Qg0 p0),(Qgz p1),(Qj5 x44)] hq (prr (prr (pw (prr (pw pn))))) (qb (lc rwl (lc (rnd Qad) ln)) (qb (lc (rnd Qam) (lc (rnd Qal) (lcc ln))) (qb (lc rwl (lc (rnd Qaw) ln)) qn)))) ?_
         refine Qbx (τ:=Int) (fun n t=>Qby N k43 x44 n t=some r) (fun y50=>⟨mk 170 [(2,.ref 0 2 0 0),(3,.ref 1 4 0 0),(6,I y39),(7,.ref 2 2 0 0),(9,I y50)],[(Qg0 p0),(Qgz p1),(Qj5 x44)]⟩) (fun t h=>by rw[Qby] at h;cases h) (fun n52 ih y50 h=>?_) N (0) h
         rw[Qby] at h
         skip
         refine wsq<|wx tbk [(3,rp _ _)] ⟨alq 2 Qaz x44.Stairs underlying43,tv⟩ ?_
         refine bfe h (fun hc53 h=>?_) fun hc53 h=>?_
         ·refine wft hc53<|Qai<|thn<|wsq<|Qaf ?_
          obtain⟨x54,hg55,h⟩:=bno h
          obtain⟨hi56,hj57⟩:=gsm hg55
          refine wx tbk [(3,rp _ _)] ⟨aiq underlying43 ti48 Qaz hi56 hj57,tv⟩ ?_
          obtain⟨x59,hf58,h⟩:=bno h
          refine hpre (A:=(Qxn x54 x59)) ⟨apv Qj3 (Qfi N x54.Amount 1 1000000 _ hf58) (nlcc (nlc nll nl0)) nll,tv⟩ fun q2_=>?_
          refine bfe h (fun hb60 h=>?_) fun hb60 h=>?_
          ·refine wxd tbk (hcat (Qxn x54 x59) [(4,rp [(.tmp 95,(B ((!x59))))] (B true))]) (hap q2_ ⟨asb hb60 (amv rfl),tv⟩)<|wtr<|wxz<|Qag<|Qaq<|Qae<|Qae<|Qaq<|Qaq<|Qae ?_
           refine Qae<|Qaq<|Qae ?_
           obtain rfl:=osi h
           exact fend ⟨[I 1],⟨rot,tv⟩,rfl⟩ nll
          ·obtain⟨x62,hf61,h⟩:=bno h
           refine hpre (A:=(Qut x54 x59 x62)) (hap q2_ ⟨asb hb60 (amv rfl),ag_ (apv Qj3 (Qfi N x54.Price 0 1000 _ hf61) (nlcc (nlc nll nl0)) nll),tv⟩) fun q3_=>?_
           refine bfe h (fun hb63 h=>?_) fun hb63 h=>?_
           ·refine wxd tbk (hcat (Qut x54 x59 x62) [(10,rp [(.tmp 101,(B ((!x62))))] (B true))]) (hap q3_ ⟨asb hb63 (amv rfl),tv⟩)<|wtr<|wxz<|Qag<|Qaq<|Qae<|Qae<|Qaq<|Qaq<|Qae ?_
            refine Qae<|Qaq<|Qae ?_
            obtain rfl:=osi h
            exact fend ⟨[I 1],⟨rot,tv⟩,rfl⟩ nll
           ·refine bfe h (fun hb64 h=>?_) fun hb64 h=>?_
            ·obtain⟨x65,hg66,h⟩:=bno h
             obtain⟨hi67,hj68⟩:=gsm hg66
             refine wxd tbk (hcat (Qut x54 x59 x62) [(10,rp [(.tmp 101,(B ((!x62))))] (B false)),(13,rp [(.tmp 102,B false),(.tmp 104,(B ((decide (y50>0)))))] (B true)),(20,rp [(.tmp 105,B true),(.tmp 109,(Qxo x44)),(.tmp 111,(I (w64 (y50-1))))] (.dptr (Qaz x65) 0))]) (hap q3_ ⟨asb hb63 (amv rfl),asb hb64 (ag_ (amv rfl)),ag_ (aiq underlying43 ti48 Qaz hi67 hj68),tv⟩) ?_
             refine bfe h (fun hc69 h=>?_) fun hc69 h=>?_
             ·refine wft hc69<|wxz<|Qag<|Qaq<|Qae<|Qae<|Qaq<|Qaq<|Qae<|Qae ?_
              refine Qaq<|Qae ?_
              obtain rfl:=osi h
              exact fend ⟨[I 1],⟨rot,tv⟩,rfl⟩ nll
             ·exact wfn hc69<|Qai<|bln<|thn<|wxz1<|thn<|arm (mto (n:=170) [(2,.ref 0 2 0 0),(3,.ref 1 4 0 0),(6,I y39),(7,.ref 2 2 0 0),(9,(I (w64 (y50+1))))] [0,1,2] [(Qg0 p0),(Qgz p1),(Qj5 x44)] hq (prr (prr (pw (prr (pw pn))))) (qb (lc rwl (lc (rnd Qad) ln)) (qb (lc (rnd Qam) (lc (rnd Qal) (lcc ln))) (qb (lc rwl (lc (rnd Qaw) ln)) qn)))) (ih (w64 (y50+1)) h)
            ·exact wxd tbk (hcat (Qut x54 x59 x62) [(10,rp [(.tmp 101,(B ((!x62))))] (B false)),(13,rp [(.tmp 102,B false),(.tmp 104,(B ((decide (y50>0)))))] (B false))]) (hap q3_ ⟨asb hb63 (amv rfl),asb hb64 (ag_ (amv rfl)),tv⟩)<|wfa<|Qai<|bln<|thn<|wxz1<|thn<|arm (mto (n:=170) [(2,.ref 0 2 0 0),(3,.ref 1 4 0 0),(6,I y39),(7,.ref 2 2 0 0),(9,(I (w64 (y50+1))))] [0,1,2] [(Qg0 p0),(Qgz p1),(Qj5 x44)] hq (prr (prr (pw (prr (pw pn))))) (qb (lc rwl (lc (rnd Qad) ln)) (qb (lc (rnd Qam) (lc (rnd Qal) (lcc ln))) (qb (lc rwl (lc (rnd Qaw) ln)) qn)))) (ih (w64 (y50+1)) h)
         ·exact wfn hc53<|Qa3<|Qan<|Qan<|Qa2 rfl<|bln<|thn<|⟨(),h,(mto (n:=170) [(2,.ref 0 2 0 0),(3,.ref 1 4 0 0),(6,I y39)] [0,1] [(Qg0 p0),(Qgz p1)] hq (prr (prr (pw pn))) (qb (lc rwl (lc (rnd Qad) ln)) (qb (lc (rnd Qam) (lc (rnd Qal) (lcc ln))) qn)))⟩
        ·skip
         refine wxz<|Qaf ?_
         refine wmr (mto (n:=170) (l':=[(2,.ref 0 2 0 0),(3,.ref 1 4 0 0),(6,I y39),(7,.ref 2 2 0 0),(8,I 0)]) (own':=[(Qg0 p0),(Qgz p1),(Qj5 x44)]) [(2,.ref 0 2 0 0),(3,.ref 1 4 0 0),(6,I y39),(7,.ref 2 2 0 0),(8,I 0)] [0,1,2] [(Qg0 p0),(Qgz p1),(Qj5 x44)] hq (prr (prr (pw (prr (pw pn))))) (qb (lc rwl (lc (rnd Qad) ln)) (qb (lc (rnd Qam) (lc (rnd Qal) (lcc ln))) (qb (lc rwl (lc (rnd Qaw) ln)) qn)))) ?_
         refine Qbx (τ:=Int) (fun n t=>Qc5 N p1 y39 x44 k49 n t=some r) (fun y70=>⟨mk 170 [(2,.ref 0 2 0 0),(3,.ref 1 4 0 0),(6,I y39),(7,.ref 2 2 0 0),(8,I y70)],[(Qg0 p0),(Qgz p1),(Qj5 x44)]⟩) (fun t h=>by rw[Qc5] at h;cases h) (fun n72 ih y70 h=>?_) N (0) h
         rw[Qc5] at h
         skip
         refine wsq<|wxz ?_
         refine bfe h (fun hc73 h=>?_) fun hc73 h=>?_
         ·refine wft hc73<|Qai<|thn<|wsq<|Qaf ?_
          obtain⟨x74,hg75,h⟩:=bno h
          obtain⟨hi76,hj77⟩:=gsm hg75
          refine wxd tbk [(3,rp _ _)] ⟨aiq underlying25 ti45 Qa1 hi76 hj77,tv⟩ ?_
          refine bfe h (fun hc78 h=>?_) fun hc78 h=>?_
          ·refine wft hc78<|wxz<|Qag<|Qaq<|Qae<|Qae<|Qaq<|Qae<|Qaq<|Qae ?_
           refine Qae<|Qaq<|Qae ?_
           obtain rfl:=osi h
           exact fend ⟨[I 1],⟨rot,tv⟩,rfl⟩ nll
          ·exact wfn hc78<|Qai<|bln<|thn<|wxz1<|thn<|arm (mto (n:=170) [(2,.ref 0 2 0 0),(3,.ref 1 4 0 0),(6,I y39),(7,.ref 2 2 0 0),(8,(I (w64 (y70+1))))] [0,1,2] [(Qg0 p0),(Qgz p1),(Qj5 x44)] hq (prr (prr (pw (prr (pw pn))))) (qb (lc rwl (lc (rnd Qad) ln)) (qb (lc (rnd Qam) (lc (rnd Qal) (lcc ln))) (qb (lc rwl (lc (rnd Qaw) ln)) qn)))) (ih (w64 (y70+1)) h)
         ·exact wfn hc73<|Qa3<|Qan<|Qan<|Qa2 rfl<|thn<|⟨(),h,(mto (n:=170) [(2,.ref 0 2 0 0),(3,.ref 1 4 0 0),(6,I y39),(7,.ref 2 2 0 0)] [0,1,2] [(Qg0 p0),(Qgz p1),(Qj5 x44)] hq (prr (prr (pw (prr pn)))) (qb (lc rwl (lc (rnd Qad) ln)) (qb (lc (rnd Qam) (lc (rnd Qal) (lcc ln))) (qb (lc rwl (lc (rnd Qaw) ln)) qn))))⟩
       ·skip
        obtain⟨x80,hf79,h⟩:=bno h
        refine hpre (A:=(Qxm p0 x44 x80)) ⟨apv Qri (Qip N p0 x44.Site _ hf79) (nlc (NLt.agg _ (nlc nll (nlc (nld Qad _) nl0))) (nlc nll nl0)) nll,tv⟩ fun q4_=>?_
        refine bfe h (fun hb81 h=>?_) fun hb81 h=>?_
        ·refine wx tbk (hcat (Qxm p0 x44 x80) [(5,rp [(.tmp 58,(B ((!x80))))] (B true))]) (hap q4_ ⟨asb hb81 (amv rfl),tv⟩)<|wtr<|wxz<|Qag<|Qae<|Qaq<|Qae<|Qae<|Qaq<|Qae ?_
         obtain rfl:=osi h
         exact fend ⟨[I 1],⟨rot,tv⟩,rfl⟩ nll
        ·obtain⟨x83,hf82,h⟩:=bno h
         refine wx tbk (hcat (Qxm p0 x44 x80) [(5,rp [(.tmp 58,(B ((!x80))))] (B false)),(8,rp [(.tmp 59,B false),(.tmp 61,(Qxo x44))] (I ((x44.Stairs.length:Int)))),(9,rp [(.tmp 59,B false),fu 12,(.tmp 62,(I ((x44.Stairs.length:Int)))),ci 1,ci 6] (B x83))]) (hap q4_ ⟨asb hb81 (amv rfl),ag_ (alq 2 Qaz x44.Stairs underlying43),ag_ (apv Qj3 (Qfi N (x44.Stairs.length:Int) 1 6 _ hf82) (nlcc (nlc nll nl0)) nll),tv⟩) ?_
         refine bfe h (fun hc84 h=>?_) fun hc84 h=>?_
         ·refine wft hc84<|wxz<|Qag<|Qae<|Qaq<|Qae<|Qae<|Qaq<|Qae ?_
          obtain rfl:=osi h
          exact fend ⟨[I 1],⟨rot,tv⟩,rfl⟩ nll
         ·exact wfn hc84<|Qai<|thn<|⟨(),h,(mto (n:=170) [(2,.ref 0 2 0 0),(3,.ref 1 4 0 0),(6,I y39),(7,.ref 2 2 0 0)] [0,1,2] [(Qg0 p0),(Qgz p1),(Qj5 x44)] hq (prr (prr (pw (prr pn)))) (qb (lc rwl (lc (rnd Qad) ln)) (qb (lc (rnd Qam) (lc (rnd Qal) (lcc ln))) (qb (lc rwl (lc (rnd Qaw) ln)) qn))))⟩
     ·exact wfn hc42<|Qa3<|Qan<|Qan<|Qa2 rfl<|thn<|⟨(),h,(mto (n:=170) [(2,.ref 0 2 0 0),(3,.ref 1 4 0 0)] [0,1] [(Qg0 p0),(Qgz p1)] hq (prr (prr pn)) (qb (lc rwl (lc (rnd Qad) ln)) (qb (lc (rnd Qam) (lc (rnd Qal) (lcc ln))) qn)))⟩
   ·skip
    obtain⟨x86,hf85,h⟩:=bno h
    refine hpre (A:=(Qxl p1 x86)) ⟨alq 2 Qa1 p1.Inlets underlying25,apv Qj3 (Qfi N (p1.Inlets.length:Int) 1 10 _ hf85) (nlcc (nlc nll nl0)) nll,tv⟩ fun q5_=>?_
    refine bfe h (fun hb87 h=>?_) fun hb87 h=>?_
    ·refine wx tbk (hcat (Qxl p1 x86) [(5,rp [(.tmp 22,(B ((!x86))))] (B true))]) (hap q5_ ⟨asb hb87 (amv rfl),tv⟩)<|wtr<|wxz<|Qag<|Qae ?_
     obtain rfl:=osi h
     exact fend ⟨[I 1],⟨rot,tv⟩,rfl⟩ nll
    ·obtain⟨x89,hf88,h⟩:=bno h
     refine hpre (A:=(Qxk p1 x86 x89)) (hap q5_ ⟨asb hb87 (amv rfl),ag_ (alq 1 Qah p1.Feeds underlying26),ag_ (apv Qj3 (Qfi N (p1.Feeds.length:Int) 1 10 _ hf88) (nlcc (nlc nll nl0)) nll),tv⟩) fun q6_=>?_
     refine bfe h (fun hb90 h=>?_) fun hb90 h=>?_
     ·refine wx tbk (hcat (Qxk p1 x86 x89) [(12,rp [(.tmp 29,(B ((!x89))))] (B true))]) (hap q6_ ⟨asb hb90 (amv rfl),tv⟩)<|wtr<|wxz<|Qag<|Qae ?_
      obtain rfl:=osi h
      exact fend ⟨[I 1],⟨rot,tv⟩,rfl⟩ nll
     ·obtain⟨x92,hf91,h⟩:=bno h
      refine hpre (A:=(Qxj p1 x86 x89 x92)) (hap q6_ ⟨asb hb90 (amv rfl),ag_ (apv Qj3 (Qfi N p1.Factor 1000 100000 _ hf91) (nlcc (nlc nll nl0)) nll),tv⟩) fun q7_=>?_
      refine bfe h (fun hb93 h=>?_) fun hb93 h=>?_
      ·refine wx tbk (hcat (Qxj p1 x86 x89 x92) [(18,rp [(.tmp 35,(B ((!x92))))] (B true))]) (hap q7_ ⟨asb hb93 (amv rfl),tv⟩)<|wtr<|wxz<|Qag<|Qae ?_
       obtain rfl:=osi h
       exact fend ⟨[I 1],⟨rot,tv⟩,rfl⟩ nll
      ·obtain⟨x95,hf94,h⟩:=bno h
       refine wx tbk (hcat (Qxj p1 x86 x89 x92) [(18,rp [(.tmp 35,(B ((!x92))))] (B false)),(21,rp [(.tmp 36,B false),fu 12,(.tmp 38,I p1.Horizon),ci 0,ci 100000000] (B x95))]) (hap q7_ ⟨asb hb93 (amv rfl),ag_ (apv Qj3 (Qfi N p1.Horizon 0 100000000 _ hf94) (nlcc (nlc nll nl0)) nll),tv⟩) ?_
       refine bfe h (fun hc96 h=>?_) fun hc96 h=>?_
       ·refine wft hc96<|wxz<|Qag<|Qae ?_
        obtain rfl:=osi h
        exact fend ⟨[I 1],⟨rot,tv⟩,rfl⟩ nll
       ·exact wfn hc96<|Qai<|thn<|⟨(),h,(mto (n:=170) [(2,.ref 0 2 0 0),(3,.ref 1 4 0 0)] [0,1] [(Qg0 p0),(Qgz p1)] hq (prr (prr pn)) (qb (lc rwl (lc (rnd Qad) ln)) (qb (lc (rnd Qam) (lc (rnd Qal) (lcc ln))) qn)))⟩
def Qlo (_N:Nat) (p0:Qat):Option Bool:=
  some (decide ((p0.Tests.length:Int)≤70))
theorem Qq4 (N:Nat) (p0:Qat) (r:Bool) (h:Qlo N p0=some r):Spec prog 4 [(.agg (Qf9 p0))] [] (B r) []:=by
  refine sA func4 0 fun _ _ _ hq hd0=>?_
  unfold Qlo at h
  refine wxz<|wx tbk [(2,rp _ _)] ⟨alq 4 Qbf p0.Tests underlying22,tv⟩<|Qag ?_
  obtain rfl:=osi h
  exact fend ⟨[(B ((decide ((p0.Tests.length:Int)≤70))))],⟨rot,tv⟩,rfl⟩ nll
def Qj8 (_N:Nat) (p0 p1 p2:Int):Option Bool:=
  bif (decide (p0≥p1)) then
   some (decide (p0≤p2))
  else
   some false
theorem Qnt (N:Nat) (p0 p1 p2:Int) (r:Bool) (h:Qj8 N p0 p1 p2=some r):Spec prog 14 [(I p0),(I p1),(I p2)] [] (B r) []:=by
  refine sA func14 0 fun _ _ _ hq hd0=>?_
  unfold Qj8 at h
  refine wxz ?_
  refine bfe h (fun hb1 h=>?_) fun hb1 h=>?_
  ·refine wx tbk [(3,rp [(.tmp 9,(B ((decide (p0≥p1)))))] (B true))] ⟨asb hb1 (amv rfl),tv⟩<|Qag ?_
   obtain rfl:=osi h
   exact fend ⟨[(B ((decide (p0≤p2))))],⟨rot,tv⟩,rfl⟩ nll
  ·exact wx tbk [(3,rp [(.tmp 9,(B ((decide (p0≥p1)))))] (B false))] ⟨asb hb1 (amv rfl),tv⟩<|Qag<|frb h
def Qdy (N:Nat) (p0 p1:List Int) (k2:Unit→Option Bool):Nat→Int→Option Bool
  |0,_=>none
  |n5+1,y3=>
    bif (decide (y3<(p0.length:Int))) then
     (getI p0 y3).bind fun x7=>
     (Qj8 N x7 0 1000000000).bind fun x12=>
     bif (!x12) then
      some false
     else
      (getI p1 y3).bind fun x14=>
      bif (decide (x14>2)) then
       some false
      else
       Qdy N p0 p1 k2 n5 (w64 (y3+1))
    else
     k2 ()
def Qgq (N:Nat) (p0 p1:List Int) (p2:Qe8) (p3:Int):Option Bool:=
  Qcy (fun _=>
    Qcy (fun _=>
      some true) fun k2:Unit→Option Bool=>
    Qdy N p0 p1 k2 N 0) fun k1:Unit→Option Bool=>
  bif ((p1.length:Int) != (p0.length:Int)) then
   some false
  else
   (Qj8 N p3 0 1000000000).bind fun x21=>
   bif (!x21) then
    some false
   else
    bif (decide (p2.a0>1000)) then
     some false
    else
     bif (decide (p2.a2<0)) then
      some false
     else
      bif (decide (p2.a0<p2.a1)) then
       some false
      else
       bif (decide (p2.a1<p2.a2)) then
        some false
       else
        k1 ()
def Q4g (p0:List Int) (y3 x7:Int) (x12:Bool):List (Nat×Rec):=[(2,rp [((.tmp 50),(.dat 1 (p0.map Qah))),((.tmp 51),(I y3))] (.dptr (Qah x7) 0)),(4,rp [fu 14,((.tmp 53),(I x7)),ci 0,ci 1000000000] (B x12))]
def Q4f (p1 p0:List Int):List (Nat×Rec):=[(1,rp [((.tmp 10),(.dat 1 (p1.map c_u8)))] (I ((p1.length:Int)))),(3,rp [((.tmp 12),(.dat 1 (p0.map Qah)))] (I ((p0.length:Int))))]
def Q4e p1 p0 (p3:Int) (x21:Bool):=hcat (Q4f p1 p0) [(5,rp [((.tmp 14),(B (((p1.length:Int) != (p0.length:Int)))))] (B false)),(7,rp [((.tmp 15),(B false)),fu 14,((.tmp 16),(I p3)),ci 0,ci 1000000000] (B x21))]
def Qvp (p2:Qe8):Slot:=.own 3 [[(I p2.a0),(I p2.a1),(I p2.a2)]]
def Q4d p1 p0 p3 x21 (p2:Qe8):=hcat (Q4e p1 p0 p3 x21) [(10,rp [((.tmp 19),(B ((!x21))))] (B false)),(11,rb [((.tmp 20),(B false)),((.tmp 6),(.ref 0 3 (0) 0)),ci 0] [(0,(Qvp p2))] (.ref 0 3 (0) 0))]
def Q4c p1 p0 p3 x21 p2:=hcat (Q4d p1 p0 p3 x21 p2) [(15,rp [((.tmp 24),(B ((decide (p2.a0>1000)))))] (B false)),(16,rb [((.tmp 25),(B false)),((.tmp 6),(.ref 0 3 (0) 0)),ci 2] [(0,(Qvp p2))] (.ref 0 3 (0) 2))]
def Q4b p1 p0 p3 x21 p2:=hcat (Q4c p1 p0 p3 x21 p2) [(20,rp [((.tmp 29),(B ((decide (p2.a2<0)))))] (B false)),(21,rb [((.tmp 30),(B false)),((.tmp 6),(.ref 0 3 (0) 0)),ci 0] [(0,(Qvp p2))] (.ref 0 3 (0) 0)),(23,rb [((.tmp 30),(B false)),((.tmp 6),(.ref 0 3 (0) 0)),ci 1] [(0,(Qvp p2))] (.ref 0 3 (0) 1))]
theorem Ql8 (N:Nat) (p0 p1:List Int) (p2:Qe8) (p3:Int) (r:Bool) (h:Qgq N p0 p1 p2 p3=some r):Spec prog 6 [(.dat 1 (p0.map Qah)),(.dat 1 (p1.map c_u8)),(.agg (Qlq p2)),(I p3)] [] (B r) []:=by
  refine sA func6 0 fun _ _ _ hq hd0=>?_
  unfold Qgq at h
  refine wxz ?_
  obtain⟨k1,hk_k1,h⟩:=jko h
  refine wjn (τ:=Unit) (fun t=>k1 t=some r) (fun _=>⟨mk 63 [(0,(.dat 1 (p0.map Qah))),(1,(.dat 1 (p1.map c_u8)))],[]⟩) (fun t h=>?_) ?_
  ·subst hk_k1
   obtain⟨k2,hk_k2,h⟩:=jko h
   refine wjn (τ:=Unit) (fun t=>k2 t=some r) (fun _=>⟨mk 63 [],[]⟩) (fun t h=>?_) ?_
   ·subst hk_k2
    exact wxz<|Qag<|frb h
   ·skip
    refine wxz<|Qaf ?_
    refine wmr (mto (n:=63) (l':=[(0,(.dat 1 (p0.map Qah))),(1,(.dat 1 (p1.map c_u8))),(9,I 0)]) (own':=[]) [(0,(.dat 1 (p0.map Qah))),(1,(.dat 1 (p1.map c_u8))),(9,I 0)] [] [] hq (pc (rnd Qal) (pc (rnd Qig) (pw pn))) qn) ?_
    refine Qbx (τ:=Int) (fun n t=>Qdy N p0 p1 k2 n t=some r) (fun y3=>⟨mk 63 [(0,(.dat 1 (p0.map Qah))),(1,(.dat 1 (p1.map c_u8))),(9,I y3)],[]⟩) (fun t h=>by rw[Qdy] at h;cases h) (fun n5 ih y3 h=>?_) N (0) h
    rw[Qdy] at h
    skip
    refine wsq<|wx tbk [(2,rp _ _)] ⟨alq 1 Qah p0 underlying26,tv⟩ ?_
    refine bfe h (fun hc6 h=>?_) fun hc6 h=>?_
    ·refine wft hc6<|Qai<|thn<|wsq<|Qaf ?_
     obtain⟨x7,hg8,h⟩:=bno h
     obtain⟨hi9,hj10⟩:=gsm hg8
     obtain⟨x12,hf11,h⟩:=bno h
     refine hpre (A:=(Q4g p0 y3 x7 x12)) ⟨aiq underlying26 ti3 Qah hi9 hj10,apv Q0h (Qnt N x7 0 1000000000 _ hf11) (nlcc (nlc nll nl0)) nll,tv⟩ fun q1_=>?_
     refine bfe h (fun hb13 h=>?_) fun hb13 h=>?_
     ·exact wx tbk (hcat (Q4g p0 y3 x7 x12) [(6,rp [(.tmp 55,(B ((!x12))))] (B true))]) (hap q1_ ⟨asb hb13 (amv rfl),tv⟩)<|wtr<|wxz<|Qag<|Qaq<|Qae<|Qae<|Qaq<|Qae<|frb h
     ·obtain⟨x14,hg15,h⟩:=bno h
      obtain⟨hi16,hj17⟩:=gsm hg15
      refine wx tbk (hcat (Q4g p0 y3 x7 x12) [(6,rp [(.tmp 55,(B ((!x12))))] (B false)),(9,rp [(.tmp 56,B false),(.tmp 57,(.dat 1 (p1.map c_u8))),(.tmp 58,I y3)] (.dptr (c_u8 x14) 0))]) (hap q1_ ⟨asb hb13 (amv rfl),ag_ (aiq underlying29 ti5 c_u8 hi16 hj17),tv⟩) ?_
      refine bfe h (fun hc18 h=>?_) fun hc18 h=>?_
      ·exact wft hc18<|wxz<|Qag<|Qaq<|Qae<|Qae<|Qaq<|Qae<|frb h
      ·exact wfn hc18<|Qai<|bln<|thn<|wxz1<|thn<|arm (mto (n:=63) [(0,(.dat 1 (p0.map Qah))),(1,(.dat 1 (p1.map c_u8))),(9,(I (w64 (y3+1))))] [] [] hq (pc (rnd Qal) (pc (rnd Qig) (pw pn))) qn) (ih (w64 (y3+1)) h)
    ·exact wfn hc6<|Qa3<|Qan<|Qan<|Qa2 rfl<|thn<|⟨(),h,(mto (n:=63) [] [] [] hq pn qn)⟩
  ·skip
   refine hpre (A:=(Q4f p1 p0)) ⟨alq 1 c_u8 p1 underlying29,alq 1 Qah p0 underlying26,tv⟩ fun q2_=>?_
   refine bfe h (fun hb19 h=>?_) fun hb19 h=>?_
   ·exact wx tbk (hcat (Q4f p1 p0) [(5,rp [(.tmp 14,(B (((p1.length:Int) != (p0.length:Int)))))] (B true))]) (hap q2_ ⟨asb hb19 (amv rfl),tv⟩)<|wtr<|wxz<|Qag<|Qae<|frb h
   ·obtain⟨x21,hf20,h⟩:=bno h
    refine hpre (A:=(Q4e p1 p0 p3 x21)) (hap q2_ ⟨asb hb19 (amv rfl),ag_ (apv Q0h (Qnt N p3 0 1000000000 _ hf20) (nlcc (nlc nll nl0)) nll),tv⟩) fun q3_=>?_
    refine bfe h (fun hb22 h=>?_) fun hb22 h=>?_
    ·exact wx tbk (hcat (Q4e p1 p0 p3 x21) [(10,rp [(.tmp 19,(B ((!x21))))] (B true))]) (hap q3_ ⟨asb hb22 (amv rfl),tv⟩)<|wtr<|wxz<|Qag<|Qae<|frb h
    ·refine hpre (A:=(Q4d p1 p0 p3 x21 p2)) (hap q3_ ⟨asb hb22 (amv rfl),ag_ (Qcb rfl underlying30 ti3 (by decide) (by decide) rfl),tv⟩) fun q4_=>?_
     refine bfe h (fun hb23 h=>?_) fun hb23 h=>?_
     ·exact wx tbk (hcat (Q4d p1 p0 p3 x21 p2) [(15,rp [(.tmp 24,(B ((decide (p2.a0>1000)))))] (B true))]) (hap q4_ ⟨asb hb23 (amv rfl),tv⟩)<|wtr<|wxz<|Qag<|Qae<|frb h
     ·refine hpre (A:=(Q4c p1 p0 p3 x21 p2)) (hap q4_ ⟨asb hb23 (amv rfl),ag_ (Qcb rfl underlying30 ti3 (by decide) (by decide) rfl),tv⟩) fun q5_=>?_
      refine bfe h (fun hb24 h=>?_) fun hb24 h=>?_
      ·exact wx tbk (hcat (Q4c p1 p0 p3 x21 p2) [(20,rp [(.tmp 29,(B ((decide (p2.a2<0)))))] (B true))]) (hap q5_ ⟨asb hb24 (amv rfl),tv⟩)<|wtr<|wxz<|Qag<|Qae<|frb h
      ·refine hpre (A:=(Q4b p1 p0 p3 x21 p2)) (hap q5_ ⟨asb hb24 (amv rfl),ag_ (Qcb rfl underlying30 ti3 (by decide) (by decide) rfl),ag_ (Qcb rfl underlying30 ti3 (by decide) (by decide) rfl),tv⟩) fun q6_=>?_
       refine bfe h (fun hb25 h=>?_) fun hb25 h=>?_
       ·exact wx tbk (hcat (Q4b p1 p0 p3 x21 p2) [(27,rp [(.tmp 36,(B ((decide (p2.a0<p2.a1)))))] (B true))]) (hap q6_ ⟨asb hb25 (amv rfl),tv⟩)<|wtr<|wxz<|Qag<|Qae<|frb h
       ·refine wx tbk (hcat (Q4b p1 p0 p3 x21 p2) [(27,rp [(.tmp 36,(B ((decide (p2.a0<p2.a1)))))] (B false)),(28,rb [(.tmp 37,B false),(.tmp 6,.ref 0 3 0 0),ci 1] [(0,(Qvp p2))] (.ref 0 3 0 1)),(30,rb [(.tmp 37,B false),(.tmp 6,.ref 0 3 0 0),ci 2] [(0,(Qvp p2))] (.ref 0 3 0 2))]) (hap q6_ ⟨asb hb25 (amv rfl),ag_ (Qcb rfl underlying30 ti3 (by decide) (by decide) rfl),ag_ (Qcb rfl underlying30 ti3 (by decide) (by decide) rfl),tv⟩) ?_
        refine bfe h (fun hc26 h=>?_) fun hc26 h=>?_
        ·exact wft hc26<|wxz<|Qag<|Qae<|frb h
        ·exact wfn hc26<|Qai<|thn<|⟨(),h,(mto (n:=63) [(0,(.dat 1 (p0.map Qah))),(1,(.dat 1 (p1.map c_u8)))] [] [] hq (pc (rnd Qal) (pc (rnd Qig) pn)) qn)⟩
end
section
def Qcw (N:Nat) (p0:Qat) (p1:Qa7) (p2:List Int) (x5:((List Int)×Int)) (x13:((List Int)×Int)) (k15:Unit→Option Bool):Nat→Int→Option Bool
  |0,_=>none
  |n23+1,y21=>
    bif (decide (y21<(p2.length:Int))) then
     (getI p2 y21).bind fun x25=>
     (Qgs N p0 p1 x25).bind fun x30=>
     (getI x5.1 y21).bind fun x31=>
     (Qgs N p0 p1 x31).bind fun x36=>
     (getI x13.1 y21).bind fun x37=>
     (Qgs N p0 p1 x37).bind fun x42=>
     bif x30.2 then
      bif (!x36.2) then
       some false
      else
       bif (decide (x36.1>x30.1)) then
        some false
       else
        bif x42.2 then
         bif (decide (x36.1>x42.1)) then
          some false
         else
          Qcw N p0 p1 p2 x5 x13 k15 n23 (w64 (y21+1))
        else
         Qcw N p0 p1 p2 x5 x13 k15 n23 (w64 (y21+1))
     else
      bif x42.2 then
       bif (!x36.2) then
        some false
       else
        bif (decide (x36.1>x42.1)) then
         some false
        else
         Qcw N p0 p1 p2 x5 x13 k15 n23 (w64 (y21+1))
      else
       Qcw N p0 p1 p2 x5 x13 k15 n23 (w64 (y21+1))
    else
     k15 ()
def Qh6 (N:Nat) (p0:Qat) (p1:Qa7) (p2 p3:List Int) (p4:Qe8) (p5 p6:Int):Option Bool:=
  Qcy (fun _=>
    chk (decide ((([]:List Int).length+p2.length)*8≤140737488355328))<|
    chk (decide ((([]:List Int).length+p3.length)*1≤140737488355328))<|
    (Qga N (([]:List Int)++p2) (([]:List Int)++p3) p4 p5).bind fun x5=>
    chk (!p3.isEmpty)<|
    chk (decide ((0+p3.length)*1≤140737488355328))<|
    Qcy (fun y8=>
      chk (decide (p3.length≤y8.length))<|
      chk (decide ((([]:List Int).length+p2.length)*8≤140737488355328))<|
      (Qga N (([]:List Int)++p2) (y8.take p3.length) p4 p5).bind fun x13=>
      Qcy (fun _=>
        Qcy (fun _=>
          (Qg3 2000 ).bind fun x17=>
          bif x17 then
           (Qg2 2000 ).bind fun x20=>
           some x20
          else
           some false) fun k15:Unit→Option Bool=>
        Qcw N p0 p1 p2 x5 x13 k15 N 0) fun k14:Unit→Option Bool=>
      bif (x5.2 != 0) then
       some false
      else
       bif (x13.2 != 0) then
        some false
       else
        bif ((x5.1.length:Int) != (p2.length:Int)) then
         some false
        else
         bif ((x13.1.length:Int) != (p2.length:Int)) then
          some false
         else
          k14 ()) fun k9:(List Int)→Option Bool=>
    chk ((p2.length:Int) != 0)<|
    (some ((w64 p6).tmod (p2.length:Int))).bind fun x56=>
    chk (decide (0≤x56)&&decide (x56.toNat<p3.length))<|
    (p3[x56.toNat]?).bind fun x59=>
    bif (decide (x59>0)) then
     chk (decide (0≤x56)&&decide (x56.toNat<p3.length))<|
     (p3[x56.toNat]?).bind fun x63=>
     chk (decide (0≤x56)&&decide (x56.toNat<p3.length))<|
     (p3[x56.toNat]?).bind fun _=>
     k9 (p3.set x56.toNat (IntKind.wrap .u8 (x63-1)))
    else
     k9 p3) fun k1:Unit→Option Bool=>
  (Qlo N p0).bind fun x69=>
  bif (!x69) then
   (Qg3 2000 ).bind fun x72=>
   bif x72 then
    (Qg2 2000 ).bind fun x75=>
    some x75
   else
    some false
  else
   bif (decide ((p1.Inlets.length:Int)>15)) then
    (Qg3 2000 ).bind fun x78=>
    bif x78 then
     (Qg2 2000 ).bind fun x81=>
     some x81
    else
     some false
   else
    bif (decide ((p1.Feeds.length:Int)>15)) then
     (Qg3 2000 ).bind fun x84=>
     bif x84 then
      (Qg2 2000 ).bind fun x87=>
      some x87
     else
      some false
    else
     (Qgi N p0 p1).bind fun x89=>
     bif (x89 != 0) then
      (Qg3 2000 ).bind fun x92=>
      bif x92 then
       (Qg2 2000 ).bind fun x95=>
       some x95
      else
       some false
     else
      bif (decide ((p2.length:Int)<1)) then
       (Qg3 2000 ).bind fun x98=>
       bif x98 then
        (Qg2 2000 ).bind fun x101=>
        some x101
       else
        some false
      else
       bif (decide ((p2.length:Int)>12)) then
        (Qg3 2000 ).bind fun x104=>
        bif x104 then
         (Qg2 2000 ).bind fun x107=>
         some x107
        else
         some false
       else
        (Qgq N p2 p3 p4 p5).bind fun x109=>
        bif (!x109) then
         (Qg3 2000 ).bind fun x112=>
         bif x112 then
          (Qg2 2000 ).bind fun x115=>
          some x115
         else
          some false
        else
         k1 ()
def Qlt (p0:Qat):Slot:=.own 2 [[(I p0.Sites),(.dat 4 (p0.Tests.map Qbf))]]
def Q4a (p1:Qa7):AV:=.dat 2 (p1.Inlets.map Qa1)
def Qls (p1:Qa7):Slot:=.own 4 [[(Q4a p1),(.dat 1 (p1.Feeds.map Qah)),(I p1.Factor),(I p1.Horizon)]]
def Qtc (p4:Qe8):Slot:=.own 3 [[(I p4.a0),(I p4.a1),(I p4.a2)]]
def Q67:AV:=.acc 3 3 1 ((([]:List Int):List Int).map Qah)
def Q3h (p2:List Int):AV:=.acc 4 3 1 ((([]:List Int)++p2:List Int).map Qah)
def Q3g:AV:=.acc 5 5 1 ((([]:List Int):List Int).map c_u8)
def Qw2 (p4:Qe8):AV:=.agg [(I p4.a0),(I p4.a1),(I p4.a2)]
def Qi7 (x5:((List Int)×Int)):AV:=.dat 1 (x5.1.map Qah)
def Q3f (p2:List Int):AV:=.dat 1 ((([]:List Int)++p2:List Int).map Qah)
def Q3e:AV:=.acc 7 5 1 ((([]:List Int):List Int).map c_u8)
def Qxd (y8 p3:List Int):AV:=.dat 1 ((y8.take p3.length:List Int).map c_u8)
def Q3d:AV:=.acc 4 3 1 ((([]:List Int):List Int).map Qah)
def Q3c (p2:List Int):AV:=.acc 5 3 1 ((([]:List Int)++p2:List Int).map Qah)
def Qk3 (x13:((List Int)×Int)):AV:=.dat 1 (x13.1.map Qah)
def Q68 (p0:Qat):AV:=.agg [(I p0.Sites),(.dat 4 (p0.Tests.map Qbf))]
def Q9d (p1:Qa7):AV:=.agg [(Q4a p1),(.dat 1 (p1.Feeds.map Qah)),(I p1.Factor),(I p1.Horizon)]
def Qxc (x30:(Int×Bool)):List (Nat×Rec):=[(1,rp [((.tmp 168),(B x30.2))] (B true))]
def Qus x30 (x36:(Int×Bool)):=hcat (Qxc x30) [(4,rp [((.tmp 169),(B true)),((.tmp 171),(B ((!x36.2))))] (B false))]
def Qxb (x30 x42:(Int×Bool)):List (Nat×Rec):=[(1,rp [((.tmp 168),(B x30.2))] (B false)),(12,rp [((.tmp 178),(B false)),((.tmp 179),(B x42.2))] (B true))]
def Qxa (x5:((List Int)×Int)):List (Nat×Rec):=[(2,rp [((.tmp 113),(B ((x5.2 != 0))))] (B false))]
def Qw9 x5 (x13:((List Int)×Int)) (p2:List Int):=hcat (Qxa x5) [(6,rp [((.tmp 117),(B ((x13.2 != 0))))] (B false)),(8,rp [((.tmp 118),(B false)),((.tmp 119),(Qi7 x5))] (I ((x5.1.length:Int)))),(10,rp [((.tmp 118),(B false)),((.tmp 121),(.dat 1 (p2.map Qah)))] (I ((p2.length:Int))))]
def Qw8 (p0:Qat) (x69:Bool):List (Nat×Rec):=[(1,rp [fu 4,((.tmp 28),(Q68 p0))] (B x69))]
def Qw7 p0 x69 (p1:Qa7):=hcat (Qw8 p0 x69) [(3,rp [((.tmp 30),(B ((!x69))))] (B false)),(6,rp [((.tmp 31),(B false)),((.tmp 33),(Q4a p1))] (I ((p1.Inlets.length:Int))))]
def Qw6 p0 x69 p1:=hcat (Qw7 p0 x69 p1) [(9,rp [((.tmp 36),(B ((decide ((p1.Inlets.length:Int)>15)))))] (B false)),(12,rp [((.tmp 37),(B false)),((.tmp 39),(.dat 1 (p1.Feeds.map Qah)))] (I ((p1.Feeds.length:Int))))]
def Qw5 p0 x69 p1 (x89:Int):=hcat (Qw6 p0 x69 p1) [(15,rp [((.tmp 42),(B ((decide ((p1.Feeds.length:Int)>15)))))] (B false)),(18,rp [((.tmp 43),(B false)),fu 5,((.tmp 44),(Q68 p0)),((.tmp 45),(Q9d p1))] (I x89))]
def Qw4 p0 x69 p1 x89 (p2:List Int):=hcat (Qw5 p0 x69 p1 x89) [(21,rp [((.tmp 48),(B ((x89 != 0))))] (B false)),(23,rp [((.tmp 49),(B false)),((.tmp 50),(.dat 1 (p2.map Qah)))] (I ((p2.length:Int))))]
def Qw3 p0 x69 p1 x89 p2:=hcat (Qw4 p0 x69 p1 x89 p2) [(26,rp [((.tmp 53),(B ((decide ((p2.length:Int)<1)))))] (B false)),(28,rp [((.tmp 54),(B false)),((.tmp 55),(.dat 1 (p2.map Qah)))] (I ((p2.length:Int))))]
theorem Qmt (N:Nat) (p0:Qat) (p1:Qa7) (p2 p3:List Int) (p4:Qe8) (p5 p6:Int) (r:Bool) (h:Qh6 N p0 p1 p2 p3 p4 p5 p6=some r):Spec prog 3 [(.agg (Qf9 p0)),(.agg (Qhm p1)),(.dat 1 (p2.map Qah)),(.dat 1 (p3.map c_u8)),(.agg (Qlq p4)),(I p5),(K .u8 p6)] [] (B r) []:=by
  refine sA func3 0 fun _ _ _ hq hd0=>?_
  unfold Qh6 at h
  refine wxz ?_
  obtain⟨k1,hk_k1,h⟩:=jko h
  refine wjn (τ:=Unit) (fun t=>k1 t=some r) (fun _=>⟨mk 194 [(2,(.dat 1 (p2.map Qah))),(3,(.dat 1 (p3.map c_u8))),(5,I p5),(6,(K .u8 p6)),(7,.ref 0 2 0 0),(8,.ref 1 4 0 0),(11,.ref 2 3 0 0)],[(Qlt p0),(Qls p1),(Qtc p4)]⟩) (fun t h=>?_) ?_
  ·subst hk_k1
   obtain⟨ha2,h⟩:=cko h
   obtain⟨ha3,h⟩:=cko h
   obtain⟨x5,hf4,h⟩:=bno h
   refine wxd tbk [(0,⟨[],[(3,.unused)],Q67,[(3,.tok)],false⟩),(2,⟨[(.tmp 72,Q67),(.tmp 73,(.dat 1 (p2.map Qah)))],[(3,.tok),(4,.unused)],(Q3h p2),[(3,.dead),(4,.tok)],false⟩),(3,⟨[],[(5,.unused)],Q3g,[(5,.tok)],false⟩),(5,⟨[(.tmp 75,Q3g),(.tmp 76,(.dat 1 (p3.map c_u8)))],[(5,.tok),(6,.unused)],(.acc 6 5 1 ((([]:List Int)++p3:List Int).map c_u8)),[(5,.dead),(6,.tok)],false⟩),(8,rp [fu 9,(.tmp 74,(Q3h p2)),(.tmp 77,(.acc 6 5 1 ((([]:List Int)++p3:List Int).map c_u8))),(.tmp 78,(Qw2 p4)),(.tmp 79,I p5)] (.tup [(Qi7 x5),I x5.2]))] ⟨Qid rfl underlying26 ti3 tz3,Qie rfl underlying26 te3 (Base.acc _ _) rfl rfl (Qmu Qah Qt1 _) (Qks Qah ha2) (Qkr Qah ha2 (by decide)) (Qkq Qah) rfl rfl,Qid rfl underlying29 ti5 tz5,Qie rfl underlying29 te5 (Base.acc _ _) rfl rfl (Qmu c_u8 Q3y _) (Qks c_u8 ha3) (Qkr c_u8 ha3 (by decide)) (Qkq c_u8) rfl rfl,awk (rd':=(.func 9,(.fn (.func 9) [] []))::[(.tmp 74,(Q3f p2)),(.tmp 77,(.dat 1 ((([]:List Int)++p3:List Int).map c_u8))),(.tmp 78,(Qw2 p4)),(.tmp 79,I p5)]) ⟨rfl,lrf,rfl,Less.acc,rfl,Less.acc,rfl,lrf,rfl,lrf,tv⟩ (apv Qzz (Qik N (([]:List Int)++p2) (([]:List Int)++p3) p4 p5 _ hf4) (nlc (nld Qal _) (nlc (nld Qig _) (nlc (NLt.agg _ (nlcc (nlc nll nl0))) (nlc nll nl0)))) (NLt.tup _ (nlc (nld Qal _) (nlc nll nl0)))),tv⟩ ?_
   obtain⟨ha7,h⟩:=cko h
   obtain⟨ha6,h⟩:=cko h
   refine wx tbk [(0,⟨[],[(7,.unused)],Q3e,[(7,.tok)],false⟩),(2,⟨[(.tmp 83,Q3e),(.tmp 84,(.dat 1 (p3.map c_u8)))],[(7,.tok),(8,.unused)],(.own 8 1 (0) p3.length),[(7,.dead),(8,(.own 1 (p3.map c_u8)))],false⟩)] ⟨Qid rfl underlying29 ti5 tz5,Qwx rfl underlying29 te5 (Base.acc _ _) rfl rfl (Qji ha7) (Qmu c_u8 Q3y _) (Q28 c_u8 ha6) (Q27 c_u8 ha6 (by decide)) (List.length_map _),tv⟩ ?_
   obtain⟨k9,hk_k9,h⟩:=jko h
   refine wjn (τ:=(List Int)) (fun t=>k9 t=some r) (fun y8=>⟨mk 194 [(2,(.dat 1 (p2.map Qah))),(5,I p5),(7,.ref 0 2 0 0),(8,.ref 1 4 0 0),(11,.ref 2 3 0 0),(15,(Qi7 x5)),(16,I x5.2),(17,(.own 3 1 (0) p3.length))],[(Qlt p0),(Qls p1),(Qtc p4),(.own 1 (y8.map c_u8))]⟩) (fun y8 h=>?_) ?_
   ·subst hk_k9
    obtain⟨hz10,h⟩:=cko h
    refine wmr (Qox [(Qlt p0),(Qls p1),(Qtc p4),(.own 1 (y8.map c_u8))] (Qt3 (n:=194) (m:=1) (xs:=y8.map c_u8) (l':=[(2,(.dat 1 (p2.map Qah))),(5,I p5),(7,.ref 0 2 0 0),(8,.ref 1 4 0 0),(11,.ref 2 3 0 0),(15,(Qi7 x5)),(16,I x5.2),(17,(Qxd y8 p3))]) (own':=[(Qlt p0),(Qls p1),(Qtc p4),.dead]) 3 [(2,(.dat 1 (p2.map Qah))),(5,I p5),(7,.ref 0 2 0 0),(8,.ref 1 4 0 0),(11,.ref 2 3 0 0),(15,(Qi7 x5)),(16,I x5.2),(17,(.own 3 1 (0) p3.length))] (by kernel_rfl) (by kernel_rfl) (by kernel_rfl) ⟨rfl,(.same _),rfl,(.same _),rfl,(.same _),rfl,(.same _),rfl,(.same _),rfl,(.same _),rfl,(.same _),rfl,(Qq6 hz10),tv⟩ (qc Qhj (qc Qhj (qc Qhj (qc .dead qn)))))) ?_
    obtain⟨ha11,h⟩:=cko h
    obtain⟨x13,hf12,h⟩:=bno h
    refine wxd tbk [(0,⟨[],[(4,.unused)],Q3d,[(4,.tok)],false⟩),(2,⟨[(.tmp 103,Q3d),(.tmp 104,(.dat 1 (p2.map Qah)))],[(4,.tok),(5,.unused)],(Q3c p2),[(4,.dead),(5,.tok)],false⟩),(6,rp [fu 9,(.tmp 105,(Q3c p2)),(.tmp 106,(Qxd y8 p3)),(.tmp 107,(Qw2 p4)),(.tmp 108,I p5)] (.tup [(Qk3 x13),I x13.2]))] ⟨Qid rfl underlying26 ti3 tz3,Qie rfl underlying26 te3 (Base.acc _ _) rfl rfl (Qmu Qah Qt1 _) (Qks Qah ha11) (Qkr Qah ha11 (by decide)) (Qkq Qah) rfl rfl,awk (rd':=(.func 9,(.fn (.func 9) [] []))::[(.tmp 105,(Q3f p2)),(.tmp 106,(Qxd y8 p3)),(.tmp 107,(Qw2 p4)),(.tmp 108,I p5)]) ⟨rfl,lrf,rfl,Less.acc,rfl,lrf,rfl,lrf,rfl,lrf,tv⟩ (apv Qzz (Qik N (([]:List Int)++p2) (y8.take p3.length) p4 p5 _ hf12) (nlc (nld Qal _) (nlc (nld Qig _) (nlc (NLt.agg _ (nlcc (nlc nll nl0))) (nlc nll nl0)))) (NLt.tup _ (nlc (nld Qal _) (nlc nll nl0)))),tv⟩ ?_
    obtain⟨k14,hk_k14,h⟩:=jko h
    refine wjn (τ:=Unit) (fun t=>k14 t=some r) (fun _=>⟨mk 194 [(2,(.dat 1 (p2.map Qah))),(7,.ref 0 2 0 0),(8,.ref 1 4 0 0),(15,(Qi7 x5)),(19,(Qk3 x13))],[(Qlt p0),(Qls p1)]⟩) (fun t h=>?_) ?_
    ·subst hk_k14
     obtain⟨k15,hk_k15,h⟩:=jko h
     refine wjn (τ:=Unit) (fun t=>k15 t=some r) (fun _=>⟨mk 194 [],[]⟩) (fun t h=>?_) ?_
     ·subst hk_k15
      obtain⟨x17,hf16,h⟩:=bno h
      refine bfe h (fun hb18 h=>?_) fun hb18 h=>?_
      ·obtain⟨x20,hf19,h⟩:=bno h
       exact wx tbk [(0,rp _ _),(1,rp [(.tmp 190,B x17)] (B true)),(2,rp [(.tmp 191,B true),fu 8] (B x20))] ⟨apw Qja (Qdx 2000  _ hf16),asb hb18 (amv rfl),ag_ (apv Qnv (Qgl 2000  _ hf19) nl0 nll),tv⟩<|Qag<|frb h
      ·exact wx tbk [(0,rp _ _),(1,rp [(.tmp 190,B x17)] (B false))] ⟨apw Qja (Qdx 2000  _ hf16),asb hb18 (amv rfl),tv⟩<|Qag<|frb h
     ·skip
      refine wxz<|Qaf ?_
      refine wmr (mto (n:=194) (l':=[(2,(.dat 1 (p2.map Qah))),(7,.ref 0 2 0 0),(8,.ref 1 4 0 0),(15,(Qi7 x5)),(19,(Qk3 x13)),(21,I 0)]) (own':=[(Qlt p0),(Qls p1)]) [(2,(.dat 1 (p2.map Qah))),(7,.ref 0 2 0 0),(8,.ref 1 4 0 0),(15,(Qi7 x5)),(19,(Qk3 x13)),(21,I 0)] [0,1] [(Qlt p0),(Qls p1)] hq (pc (rnd Qal) (prr (prr (pc (rnd Qal) (pc (rnd Qal) (pw pn)))))) (qb (lc rwl (lc (rnd Qad) ln)) (qb (lc (rnd Qam) (lc (rnd Qal) (lcc ln))) qn))) ?_
      refine Qbx (τ:=Int) (fun n t=>Qcw N p0 p1 p2 x5 x13 k15 n t=some r) (fun y21=>⟨mk 194 [(2,(.dat 1 (p2.map Qah))),(7,.ref 0 2 0 0),(8,.ref 1 4 0 0),(15,(Qi7 x5)),(19,(Qk3 x13)),(21,I y21)],[(Qlt p0),(Qls p1)]⟩) (fun t h=>by rw[Qcw] at h;cases h) (fun n23 ih y21 h=>?_) N (0) h
      rw[Qcw] at h
      skip
      refine wsq<|wx tbk [(2,rp _ _)] ⟨alq 1 Qah p2 underlying26,tv⟩ ?_
      refine bfe h (fun hc24 h=>?_) fun hc24 h=>?_
      ·refine wft hc24<|Qai<|thn<|wsq<|Qaf ?_
       obtain⟨x25,hg26,h⟩:=bno h
       obtain⟨hi27,hj28⟩:=gsm hg26
       obtain⟨x30,hf29,h⟩:=bno h
       refine wxd tbk [(4,rp _ _),(6,rp _ _)] ⟨aiq underlying26 ti3 Qah hi27 hj28,apw Qud (Qkf N p0 p1 x25 _ hf29),tv⟩ ?_
       obtain⟨x31,hg32,h⟩:=bno h
       obtain⟨hi33,hj34⟩:=gsm hg32
       obtain⟨x36,hf35,h⟩:=bno h
       refine wxd tbk [(4,rp _ _),(6,rp _ _)] ⟨aiq underlying26 ti3 Qah hi33 hj34,apw Qud (Qkf N p0 p1 x31 _ hf35),tv⟩ ?_
       obtain⟨x37,hg38,h⟩:=bno h
       obtain⟨hi39,hj40⟩:=gsm hg38
       obtain⟨x42,hf41,h⟩:=bno h
       refine wxd tbk [(4,rp _ _),(6,rp _ _)] ⟨aiq underlying26 ti3 Qah hi39 hj40,apw Qud (Qkf N p0 p1 x37 _ hf41),tv⟩ ?_
       refine bfe h (fun hb43 h=>?_) fun hb43 h=>?_
       ·refine hpre (A:=(Qxc x30)) ⟨asb hb43 (amv rfl),tv⟩ fun q1_=>?_
        refine bfe h (fun hb44 h=>?_) fun hb44 h=>?_
        ·exact wx tbk (hcat (Qxc x30) [(4,rp [(.tmp 169,B true),(.tmp 171,(B ((!x36.2))))] (B true))]) (hap q1_ ⟨asb hb44 (ag_ (amv rfl)),tv⟩)<|wtr<|wxz<|Qag<|Qaq<|Qae<|Qae<|Qaq<|Qae<|frb h
        ·refine hpre (A:=(Qus x30 x36)) (hap q1_ ⟨asb hb44 (ag_ (amv rfl)),tv⟩) fun q2_=>?_
         refine bfe h (fun hb45 h=>?_) fun hb45 h=>?_
         ·exact wx tbk (hcat (Qus x30 x36) [(10,rp [(.tmp 177,(B ((decide (x36.1>x30.1)))))] (B true))]) (hap q2_ ⟨asb hb45 (amv rfl),tv⟩)<|wtr<|wxz<|Qag<|Qaq<|Qae<|Qae<|Qaq<|Qae<|frb h
         ·refine bfe h (fun hb46 h=>?_) fun hb46 h=>?_
          ·refine wx tbk (hcat (Qus x30 x36) [(10,rp [(.tmp 177,(B ((decide (x36.1>x30.1)))))] (B false)),(12,rp [(.tmp 178,B false),(.tmp 179,B x42.2)] (B true)),(15,rp [(.tmp 180,B true),(.tmp 182,(B ((!x36.2))))] (B false))]) (hap q2_ ⟨asb hb45 (amv rfl),asb hb46 (ag_ (amv rfl)),asb hb44 (ag_ (amv rfl)),tv⟩) ?_
           refine bfe h (fun hc47 h=>?_) fun hc47 h=>?_
           ·exact wft hc47<|wxz<|Qag<|Qaq<|Qae<|Qae<|Qaq<|Qae<|frb h
           ·exact wfn hc47<|Qai<|bln<|thn<|wxz1<|thn<|arm (mto (n:=194) [(2,(.dat 1 (p2.map Qah))),(7,.ref 0 2 0 0),(8,.ref 1 4 0 0),(15,(Qi7 x5)),(19,(Qk3 x13)),(21,(I (w64 (y21+1))))] [0,1] [(Qlt p0),(Qls p1)] hq (pc (rnd Qal) (prr (prr (pc (rnd Qal) (pc (rnd Qal) (pw pn)))))) (qb (lc rwl (lc (rnd Qad) ln)) (qb (lc (rnd Qam) (lc (rnd Qal) (lcc ln))) qn))) (ih (w64 (y21+1)) h)
          ·exact wx tbk (hcat (Qus x30 x36) [(10,rp [(.tmp 177,(B ((decide (x36.1>x30.1)))))] (B false)),(12,rp [(.tmp 178,B false),(.tmp 179,B x42.2)] (B false))]) (hap q2_ ⟨asb hb45 (amv rfl),asb hb46 (ag_ (amv rfl)),tv⟩)<|wfa<|Qai<|bln<|thn<|wxz1<|thn<|arm (mto (n:=194) [(2,(.dat 1 (p2.map Qah))),(7,.ref 0 2 0 0),(8,.ref 1 4 0 0),(15,(Qi7 x5)),(19,(Qk3 x13)),(21,(I (w64 (y21+1))))] [0,1] [(Qlt p0),(Qls p1)] hq (pc (rnd Qal) (prr (prr (pc (rnd Qal) (pc (rnd Qal) (pw pn)))))) (qb (lc rwl (lc (rnd Qad) ln)) (qb (lc (rnd Qam) (lc (rnd Qal) (lcc ln))) qn))) (ih (w64 (y21+1)) h)
       ·refine bfe h (fun hb48 h=>?_) fun hb48 h=>?_
        ·refine hpre (A:=(Qxb x30 x42)) ⟨asb hb43 (amv rfl),asb hb48 (ag_ (amv rfl)),tv⟩ fun q3_=>?_
         refine bfe h (fun hb49 h=>?_) fun hb49 h=>?_
         ·exact wx tbk (hcat (Qxb x30 x42) [(15,rp [(.tmp 180,B true),(.tmp 182,(B ((!x36.2))))] (B true))]) (hap q3_ ⟨asb hb49 (ag_ (amv rfl)),tv⟩)<|wtr<|wxz<|Qag<|Qaq<|Qae<|Qae<|Qaq<|Qae<|frb h
         ·refine wx tbk (hcat (Qxb x30 x42) [(15,rp [(.tmp 180,B true),(.tmp 182,(B ((!x36.2))))] (B false))]) (hap q3_ ⟨asb hb49 (ag_ (amv rfl)),tv⟩) ?_
          refine bfe h (fun hc50 h=>?_) fun hc50 h=>?_
          ·exact wft hc50<|wxz<|Qag<|Qaq<|Qae<|Qae<|Qaq<|Qae<|frb h
          ·exact wfn hc50<|Qai<|bln<|thn<|wxz1<|thn<|arm (mto (n:=194) [(2,(.dat 1 (p2.map Qah))),(7,.ref 0 2 0 0),(8,.ref 1 4 0 0),(15,(Qi7 x5)),(19,(Qk3 x13)),(21,(I (w64 (y21+1))))] [0,1] [(Qlt p0),(Qls p1)] hq (pc (rnd Qal) (prr (prr (pc (rnd Qal) (pc (rnd Qal) (pw pn)))))) (qb (lc rwl (lc (rnd Qad) ln)) (qb (lc (rnd Qam) (lc (rnd Qal) (lcc ln))) qn))) (ih (w64 (y21+1)) h)
        ·exact wx tbk [(1,rp [(.tmp 168,B x30.2)] (B false)),(12,rp [(.tmp 178,B false),(.tmp 179,B x42.2)] (B false))] ⟨asb hb43 (amv rfl),asb hb48 (ag_ (amv rfl)),tv⟩<|wfa<|Qai<|bln<|thn<|wxz1<|thn<|arm (mto (n:=194) [(2,(.dat 1 (p2.map Qah))),(7,.ref 0 2 0 0),(8,.ref 1 4 0 0),(15,(Qi7 x5)),(19,(Qk3 x13)),(21,(I (w64 (y21+1))))] [0,1] [(Qlt p0),(Qls p1)] hq (pc (rnd Qal) (prr (prr (pc (rnd Qal) (pc (rnd Qal) (pw pn)))))) (qb (lc rwl (lc (rnd Qad) ln)) (qb (lc (rnd Qam) (lc (rnd Qal) (lcc ln))) qn))) (ih (w64 (y21+1)) h)
      ·exact wfn hc24<|Qa3<|Qan<|Qan<|Qa2 rfl<|thn<|⟨(),h,(mto (n:=194) [] [] [] hq pn qn)⟩
    ·skip
     refine bfe h (fun hb51 h=>?_) fun hb51 h=>?_
     ·exact wx tbk [(2,rp [(.tmp 113,(B ((x5.2 != 0))))] (B true))] ⟨asb hb51 (amv rfl),tv⟩<|wtr<|wxz<|Qag<|Qae<|frb h
     ·refine hpre (A:=(Qxa x5)) ⟨asb hb51 (amv rfl),tv⟩ fun q4_=>?_
      refine bfe h (fun hb52 h=>?_) fun hb52 h=>?_
      ·exact wx tbk (hcat (Qxa x5) [(6,rp [(.tmp 117,(B ((x13.2 != 0))))] (B true))]) (hap q4_ ⟨asb hb52 (amv rfl),tv⟩)<|wtr<|wxz<|Qag<|Qae<|frb h
      ·refine hpre (A:=(Qw9 x5 x13 p2)) (hap q4_ ⟨asb hb52 (amv rfl),ag_ (alq 1 Qah x5.1 underlying26),ag_ (alq 1 Qah p2 underlying26),tv⟩) fun q5_=>?_
       refine bfe h (fun hb53 h=>?_) fun hb53 h=>?_
       ·exact wx tbk (hcat (Qw9 x5 x13 p2) [(13,rp [(.tmp 124,(B (((x5.1.length:Int) != (p2.length:Int)))))] (B true))]) (hap q5_ ⟨asb hb53 (amv rfl),tv⟩)<|wtr<|wxz<|Qag<|Qae<|frb h
       ·refine wx tbk (hcat (Qw9 x5 x13 p2) [(13,rp [(.tmp 124,(B (((x5.1.length:Int) != (p2.length:Int)))))] (B false)),(15,rp [(.tmp 125,B false),(.tmp 126,(Qk3 x13))] (I ((x13.1.length:Int)))),(17,rp [(.tmp 125,B false),(.tmp 128,(.dat 1 (p2.map Qah)))] (I ((p2.length:Int))))]) (hap q5_ ⟨asb hb53 (amv rfl),ag_ (alq 1 Qah x13.1 underlying26),ag_ (alq 1 Qah p2 underlying26),tv⟩) ?_
        refine bfe h (fun hc54 h=>?_) fun hc54 h=>?_
        ·exact wft hc54<|wxz<|Qag<|Qae<|frb h
        ·exact wfn hc54<|Qai<|thn<|⟨(),h,(mto (n:=194) [(2,(.dat 1 (p2.map Qah))),(7,.ref 0 2 0 0),(8,.ref 1 4 0 0),(15,(Qi7 x5)),(19,(Qk3 x13))] [0,1] [(Qlt p0),(Qls p1)] hq (pc (rnd Qal) (prr (prr (pc (rnd Qal) (pc (rnd Qal) pn))))) (qb (lc rwl (lc (rnd Qad) ln)) (qb (lc (rnd Qam) (lc (rnd Qal) (lcc ln))) qn)))⟩
   ·skip
    obtain⟨hz55,h⟩:=cko h
    obtain⟨x56,hl57,h⟩:=bno h
    refine wx tbk [(1,rp [(.tmp 86,(K .u8 p6))] (I (w64 p6))),(3,rp _ _),(4,rp [(.tmp 87,I (w64 p6)),(.tmp 89,(I ((p2.length:Int))))] (I ((w64 p6).tmod (p2.length:Int)))),(5,rp [(.tmp 90,(I ((w64 p6).tmod (p2.length:Int))))] (I x56))] ⟨acv rfl (by rw[underlying5];rfl) underlying3,alq 1 Qah p2 underlying26,Q06 rfl (Q6w hz55),Qfh hl57 (aas rfl),tv⟩ ?_
    obtain⟨hi58,h⟩:=cko h
    obtain⟨hi58a,hi58b⟩:=Qbp hi58
    obtain⟨x59,hg60,h⟩:=bno h
    refine wx tbk [(2,rb [(.tmp 91,(.own 8 1 (0) p3.length)),(.tmp 92,I x56)] [(8,(.own 1 (p3.map c_u8)))] (.ref 8 1 x56.toNat 0)),(3,rb [(.tmp 93,(.ref 8 1 x56.toNat 0))] [(8,(.own 1 (p3.map c_u8)))] (K .u8 x59))] ⟨aio rfl underlying29 ti5 (odt hi58a) (odt hi58b) (Nat.zero_add _),ald rfl ti5 (by decide) (mgt c_u8 hg60) (nle rfl) rfl,tv⟩ ?_
    refine bfe h (fun hc61 h=>?_) fun hc61 h=>?_
    ·refine wft hc61 ?_
     obtain⟨hi62,h⟩:=cko h
     obtain⟨hi62a,hi62b⟩:=Qbp hi62
     obtain⟨x63,hg64,h⟩:=bno h
     obtain⟨hi65,h⟩:=cko h
     obtain⟨hi65a,hi65b⟩:=Qbp hi65
     obtain⟨x66,hg67,h⟩:=bno h
     refine wx1 tbk [(2,rb [(.tmp 96,(.own 8 1 (0) p3.length)),(.tmp 97,I x56)] [(8,(.own 1 (p3.map c_u8)))] (.ref 8 1 x56.toNat 0)),(3,rb [(.tmp 98,(.ref 8 1 x56.toNat 0))] [(8,(.own 1 (p3.map c_u8)))] (K .u8 x63)),(5,rb [(.tmp 96,(.own 8 1 (0) p3.length)),(.tmp 97,I x56)] [(8,(.own 1 (p3.map c_u8)))] (.ref 8 1 x56.toNat 0)),(6,⟨[(.tmp 101,(.ref 8 1 x56.toNat 0)),(.tmp 100,(K .u8 (IntKind.wrap .u8 (x63-1))))],[(8,(.own 1 (p3.map c_u8)))],.any,[(8,(.own 1 ((p3.set x56.toNat (IntKind.wrap .u8 (x63-1)):List Int).map c_u8)))],false⟩)] ⟨aio rfl underlying29 ti5 (odt hi62a) (odt hi62b) (Nat.zero_add _),ald rfl ti5 (by decide) (mgt c_u8 hg64) (nle rfl) rfl,aio rfl underlying29 ti5 (odt hi65a) (odt hi65b) (Nat.zero_add _),ast rfl ti5 (by rfl) (mgt c_u8 hg67) (nle rfl) (Qhf c_u8 rfl),tv⟩<|thn ?_
     exact⟨(p3.set x56.toNat (IntKind.wrap .u8 (x63-1))),h,(mto (n:=194) [(2,(.dat 1 (p2.map Qah))),(5,I p5),(7,.ref 0 2 0 0),(8,.ref 1 4 0 0),(11,.ref 2 3 0 0),(15,(Qi7 x5)),(16,I x5.2),(17,(.own 8 1 (0) p3.length))] [0,1,2,8] [(Qlt p0),(Qls p1),(Qtc p4),(.own 1 ((p3.set x56.toNat (IntKind.wrap .u8 (x63-1)):List Int).map c_u8))] hq (pc (rnd Qal) (pw (prr (prr (prr (pc (rnd Qal) (pw (pc (.rn (Qbj rfl)) pn)))))))) (qb (lc rwl (lc (rnd Qad) ln)) (qb (lc (rnd Qam) (lc (rnd Qal) (lcc ln))) (qb (lcc (lc rwl ln)) (qc (spr Qig) qn)))))⟩
    ·exact wfn hc61<|Qai<|thn<|⟨(p3),h,(mto (n:=194) [(2,(.dat 1 (p2.map Qah))),(5,I p5),(7,.ref 0 2 0 0),(8,.ref 1 4 0 0),(11,.ref 2 3 0 0),(15,(Qi7 x5)),(16,I x5.2),(17,(.own 8 1 (0) p3.length))] [0,1,2,8] [(Qlt p0),(Qls p1),(Qtc p4),(.own 1 (p3.map c_u8))] hq (pc (rnd Qal) (pw (prr (prr (prr (pc (rnd Qal) (pw (pc (.rn (Qbj rfl)) pn)))))))) (qb (lc rwl (lc (rnd Qad) ln)) (qb (lc (rnd Qam) (lc (rnd Qal) (lcc ln))) (qb (lcc (lc rwl ln)) (qc (spr Qig) qn)))))⟩
  ·skip
   obtain⟨x69,hf68,h⟩:=bno h
   refine hpre (A:=(Qw8 p0 x69)) ⟨apv Q83 (Qq4 N p0 _ hf68) (nlc (NLt.agg _ (nlc nll (nlc (nld Qad _) nl0))) nl0) nll,tv⟩ fun q6_=>?_
   refine bfe h (fun hb70 h=>?_) fun hb70 h=>?_
   ·refine wx tbk (hcat (Qw8 p0 x69) [(3,rp [(.tmp 30,(B ((!x69))))] (B true))]) (hap q6_ ⟨asb hb70 (amv rfl),tv⟩)<|wtr ?_
    obtain⟨x72,hf71,h⟩:=bno h
    refine bfe h (fun hb73 h=>?_) fun hb73 h=>?_
    ·obtain⟨x75,hf74,h⟩:=bno h
     exact wx tbk [(0,rp _ _),(1,rp [(.tmp 67,B x72)] (B true)),(2,rp [(.tmp 68,B true),fu 8] (B x75))] ⟨apw Qja (Qdx 2000  _ hf71),asb hb73 (amv rfl),ag_ (apv Qnv (Qgl 2000  _ hf74) nl0 nll),tv⟩<|Qag<|Qae<|frb h
    ·exact wx tbk [(0,rp _ _),(1,rp [(.tmp 67,B x72)] (B false))] ⟨apw Qja (Qdx 2000  _ hf71),asb hb73 (amv rfl),tv⟩<|Qag<|Qae<|frb h
   ·refine hpre (A:=(Qw7 p0 x69 p1)) (hap q6_ ⟨asb hb70 (amv rfl),ag_ (alq 2 Qa1 p1.Inlets underlying25),tv⟩) fun q7_=>?_
    refine bfe h (fun hb76 h=>?_) fun hb76 h=>?_
    ·refine wx tbk (hcat (Qw7 p0 x69 p1) [(9,rp [(.tmp 36,(B ((decide ((p1.Inlets.length:Int)>15)))))] (B true))]) (hap q7_ ⟨asb hb76 (amv rfl),tv⟩)<|wtr ?_
     obtain⟨x78,hf77,h⟩:=bno h
     refine bfe h (fun hb79 h=>?_) fun hb79 h=>?_
     ·obtain⟨x81,hf80,h⟩:=bno h
      exact wx tbk [(0,rp _ _),(1,rp [(.tmp 67,B x78)] (B true)),(2,rp [(.tmp 68,B true),fu 8] (B x81))] ⟨apw Qja (Qdx 2000  _ hf77),asb hb79 (amv rfl),ag_ (apv Qnv (Qgl 2000  _ hf80) nl0 nll),tv⟩<|Qag<|Qae<|frb h
     ·exact wx tbk [(0,rp _ _),(1,rp [(.tmp 67,B x78)] (B false))] ⟨apw Qja (Qdx 2000  _ hf77),asb hb79 (amv rfl),tv⟩<|Qag<|Qae<|frb h
    ·refine hpre (A:=(Qw6 p0 x69 p1)) (hap q7_ ⟨asb hb76 (amv rfl),ag_ (alq 1 Qah p1.Feeds underlying26),tv⟩) fun q8_=>?_
     refine bfe h (fun hb82 h=>?_) fun hb82 h=>?_
     ·refine wx tbk (hcat (Qw6 p0 x69 p1) [(15,rp [(.tmp 42,(B ((decide ((p1.Feeds.length:Int)>15)))))] (B true))]) (hap q8_ ⟨asb hb82 (amv rfl),tv⟩)<|wtr ?_
      obtain⟨x84,hf83,h⟩:=bno h
      refine bfe h (fun hb85 h=>?_) fun hb85 h=>?_
      ·obtain⟨x87,hf86,h⟩:=bno h
       exact wx tbk [(0,rp _ _),(1,rp [(.tmp 67,B x84)] (B true)),(2,rp [(.tmp 68,B true),fu 8] (B x87))] ⟨apw Qja (Qdx 2000  _ hf83),asb hb85 (amv rfl),ag_ (apv Qnv (Qgl 2000  _ hf86) nl0 nll),tv⟩<|Qag<|Qae<|frb h
      ·exact wx tbk [(0,rp _ _),(1,rp [(.tmp 67,B x84)] (B false))] ⟨apw Qja (Qdx 2000  _ hf83),asb hb85 (amv rfl),tv⟩<|Qag<|Qae<|frb h
     ·obtain⟨x89,hf88,h⟩:=bno h
      refine hpre (A:=(Qw5 p0 x69 p1 x89)) (hap q8_ ⟨asb hb82 (amv rfl),ag_ (apv Q82 (Qlw N p0 p1 _ hf88) (nlc (NLt.agg _ (nlc nll (nlc (nld Qad _) nl0))) (nlc (NLt.agg _ (nlc (nld Qam _) (nlc (nld Qal _) (nlcc nl0)))) nl0)) nll),tv⟩) fun q9_=>?_
      refine bfe h (fun hb90 h=>?_) fun hb90 h=>?_
      ·refine wx tbk (hcat (Qw5 p0 x69 p1 x89) [(21,rp [(.tmp 48,(B ((x89 != 0))))] (B true))]) (hap q9_ ⟨asb hb90 (amv rfl),tv⟩)<|wtr ?_
       obtain⟨x92,hf91,h⟩:=bno h
       refine bfe h (fun hb93 h=>?_) fun hb93 h=>?_
       ·obtain⟨x95,hf94,h⟩:=bno h
        exact wx tbk [(0,rp _ _),(1,rp [(.tmp 67,B x92)] (B true)),(2,rp [(.tmp 68,B true),fu 8] (B x95))] ⟨apw Qja (Qdx 2000  _ hf91),asb hb93 (amv rfl),ag_ (apv Qnv (Qgl 2000  _ hf94) nl0 nll),tv⟩<|Qag<|Qae<|frb h
       ·exact wx tbk [(0,rp _ _),(1,rp [(.tmp 67,B x92)] (B false))] ⟨apw Qja (Qdx 2000  _ hf91),asb hb93 (amv rfl),tv⟩<|Qag<|Qae<|frb h
      ·refine hpre (A:=(Qw4 p0 x69 p1 x89 p2)) (hap q9_ ⟨asb hb90 (amv rfl),ag_ (alq 1 Qah p2 underlying26),tv⟩) fun q10_=>?_
       refine bfe h (fun hb96 h=>?_) fun hb96 h=>?_
       ·refine wx tbk (hcat (Qw4 p0 x69 p1 x89 p2) [(26,rp [(.tmp 53,(B ((decide ((p2.length:Int)<1)))))] (B true))]) (hap q10_ ⟨asb hb96 (amv rfl),tv⟩)<|wtr ?_
        obtain⟨x98,hf97,h⟩:=bno h
        refine bfe h (fun hb99 h=>?_) fun hb99 h=>?_
        ·obtain⟨x101,hf100,h⟩:=bno h
         exact wx tbk [(0,rp _ _),(1,rp [(.tmp 67,B x98)] (B true)),(2,rp [(.tmp 68,B true),fu 8] (B x101))] ⟨apw Qja (Qdx 2000  _ hf97),asb hb99 (amv rfl),ag_ (apv Qnv (Qgl 2000  _ hf100) nl0 nll),tv⟩<|Qag<|Qae<|frb h
        ·exact wx tbk [(0,rp _ _),(1,rp [(.tmp 67,B x98)] (B false))] ⟨apw Qja (Qdx 2000  _ hf97),asb hb99 (amv rfl),tv⟩<|Qag<|Qae<|frb h
       ·refine hpre (A:=(Qw3 p0 x69 p1 x89 p2)) (hap q10_ ⟨asb hb96 (amv rfl),ag_ (alq 1 Qah p2 underlying26),tv⟩) fun q11_=>?_
        refine bfe h (fun hb102 h=>?_) fun hb102 h=>?_
        ·refine wx tbk (hcat (Qw3 p0 x69 p1 x89 p2) [(31,rp [(.tmp 58,(B ((decide ((p2.length:Int)>12)))))] (B true))]) (hap q11_ ⟨asb hb102 (amv rfl),tv⟩)<|wtr ?_
         obtain⟨x104,hf103,h⟩:=bno h
         refine bfe h (fun hb105 h=>?_) fun hb105 h=>?_
         ·obtain⟨x107,hf106,h⟩:=bno h
          exact wx tbk [(0,rp _ _),(1,rp [(.tmp 67,B x104)] (B true)),(2,rp [(.tmp 68,B true),fu 8] (B x107))] ⟨apw Qja (Qdx 2000  _ hf103),asb hb105 (amv rfl),ag_ (apv Qnv (Qgl 2000  _ hf106) nl0 nll),tv⟩<|Qag<|Qae<|frb h
         ·exact wx tbk [(0,rp _ _),(1,rp [(.tmp 67,B x104)] (B false))] ⟨apw Qja (Qdx 2000  _ hf103),asb hb105 (amv rfl),tv⟩<|Qag<|Qae<|frb h
        ·obtain⟨x109,hf108,h⟩:=bno h
         refine wx tbk (hcat (Qw3 p0 x69 p1 x89 p2) [(31,rp [(.tmp 58,(B ((decide ((p2.length:Int)>12)))))] (B false)),(36,rp [(.tmp 59,B false),fu 6,(.tmp 60,(.dat 1 (p2.map Qah))),(.tmp 61,(.dat 1 (p3.map c_u8))),(.tmp 62,(Qw2 p4)),(.tmp 63,I p5)] (B x109))]) (hap q11_ ⟨asb hb102 (amv rfl),ag_ (apv Q81 (Ql8 N p2 p3 p4 p5 _ hf108) (nlc (nld Qal _) (nlc (nld Qig _) (nlc (NLt.agg _ (nlcc (nlc nll nl0))) (nlc nll nl0)))) nll),tv⟩) ?_
         refine bfe h (fun hc110 h=>?_) fun hc110 h=>?_
         ·refine wft hc110 ?_
          obtain⟨x112,hf111,h⟩:=bno h
          refine bfe h (fun hb113 h=>?_) fun hb113 h=>?_
          ·obtain⟨x115,hf114,h⟩:=bno h
           exact wx tbk [(0,rp _ _),(1,rp [(.tmp 67,B x112)] (B true)),(2,rp [(.tmp 68,B true),fu 8] (B x115))] ⟨apw Qja (Qdx 2000  _ hf111),asb hb113 (amv rfl),ag_ (apv Qnv (Qgl 2000  _ hf114) nl0 nll),tv⟩<|Qag<|Qae<|frb h
          ·exact wx tbk [(0,rp _ _),(1,rp [(.tmp 67,B x112)] (B false))] ⟨apw Qja (Qdx 2000  _ hf111),asb hb113 (amv rfl),tv⟩<|Qag<|Qae<|frb h
         ·exact wfn hc110<|Qai<|thn<|⟨(),h,(mto (n:=194) [(2,(.dat 1 (p2.map Qah))),(3,(.dat 1 (p3.map c_u8))),(5,I p5),(6,(K .u8 p6)),(7,.ref 0 2 0 0),(8,.ref 1 4 0 0),(11,.ref 2 3 0 0)] [0,1,2] [(Qlt p0),(Qls p1),(Qtc p4)] hq (pc (rnd Qal) (pc (rnd Qig) (pw (pw (prr (prr (prr pn))))))) (qb (lc rwl (lc (rnd Qad) ln)) (qb (lc (rnd Qam) (lc (rnd Qal) (lcc ln))) (qb (lcc (lc rwl ln)) qn))))⟩
end
section
theorem Qbw {x:Int}(h:-9223372036854775808≤x) (h':x≤9223372036854775807):w64 x=x:=by
 unfold w64
 rw[IntKind.wrap_i64]
 omega
theorem w64S {i:Nat}(h:(i:Int)+1≤9223372036854775807):w64 ((i:Int)+1)=((i+1:Nat):Int):=Qbw (by omega) h
theorem dlt {α:Type}{l q:List α}{x:α}{i m:Nat}(hd:l.drop i=x::q) (hd':l.drop (i+1)=q) (h:(l.drop i).length<m+1):(l.drop (i+1)).length<m:=by
 rw[hd']
 rw[hd] at h
 simp at h
 omega
theorem Qdi {α:Type}{l:List α}{i:Nat}{x:α}(h:l[i]? = some x):getI l (i:Int)=some x:=by
 simp[getI,h]
def btw (a lo hi:Int):Bool:=decide (lo≤a)&&decide (a≤hi)
theorem Qe5 {a lo hi:Int}:btw a lo hi=true↔lo≤a∧a≤hi:=by simp[btw]
theorem Qb6 {κ β:Type}(k:κ) (f:κ→Option β):Qcy k f=f k:=by rw[Qcy]
theorem Qc6 {α:Type}{t:List α}{i:Nat}{a:α}{l:List α}(h:t.drop i=a::l):t[i]? = some a∧t.drop (i+1)=l∧i<t.length:=by
 have hlt:i<t.length:=by
  rcases Nat.lt_or_ge i t.length with h' |h'
  ·exact h'
  ·rw[List.drop_eq_nil_of_le h'] at h;cases h
 rw[List.drop_eq_getElem_cons hlt] at h
 injection h with h1 h2
 exact⟨by rw[List.getElem?_eq_getElem hlt,h1],h2,hlt⟩
theorem Qd0 {α:Type}{t:List α}{i:Nat}(h:t.drop i=[]):t.length≤i:=List.drop_eq_nil_iff.1 h
theorem bdp {x y a b:Int}(hx:0≤x) (hx':x≤a) (hy:0≤y) (hy':y≤b) (ha:0≤a):0≤x*y∧x*y≤a*b:=
 ⟨Int.mul_nonneg hx hy,Int.mul_le_mul hx' hy' hy ha⟩
end
section
theorem chkT {β:Type}{b:Bool}{k:Option β}(h:b=true):chk b k=k:=by subst h;rfl
theorem jkk {κ α β:Type}{k:κ→Option α}{f:(κ→Option α)→Option β}{r:Option β}(h:∀K:κ→Option α,(∀y,K y=k y)→f K=r):Qcy k f=r:=by
 rw[Qb6]
 exact h k fun _=>rfl
theorem Qfl (N:Nat) (a lo hi:Int):Qc8 N a lo hi=some (btw a lo hi):=by
 unfold Qc8 btw
 cases decide (lo≤a)<;>rfl
structure Qtb (t:Qat) (x:Qcc):Prop where
 f:0≤x.From∧x.From<t.Sites
 to:0≤x.To∧x.To<t.Sites
 ne:x.From≠x.To
 lo:0≤x.Seen.Lo∧x.Seen.Lo≤x.Seen.Hi
 hi:x.Seen.Hi≤1000000
structure Qhd (t:Qat):Prop where
 l:t.Tests.length≤60
 s:1≤t.Sites∧t.Sites≤12
 t:∀x∈t.Tests,Qtb t x
theorem Qqu {N:Nat}{t:Qat}(h:1≤t.Sites∧t.Sites≤12) (n:Int):Qdk N t n=some (btw n 0 (t.Sites-1)):=by
 unfold Qdk
 rw[Qbw (by omega) (by omega),Qfl,Option.bind_some]
theorem Quh (N:Nat) (t:Qat) (hs:1≤t.Sites∧t.Sites≤12) (hl:t.Tests.length≤60):∀(n i:Nat),(t.Tests.drop i).length<n →
  ∃e,Qdg N t (fun _=>some 0) n i=some e∧(e=0→∀x∈t.Tests.drop i,Qtb t x):=by
 intro n
 induction n with
 |zero=>intro i h;cases h
 |succ n ih=>
  intro i h
  rw[Qdg]
  cases hd:t.Tests.drop i with
  |nil=>
   have:=Qd0 hd
   rw[decide_eq_false (show ¬((i:Int)<t.Tests.length) by omega),cond_false]
   exact⟨0,rfl,fun _ x hx=>by cases hx⟩
  |cons a l=>
   obtain⟨hg,hd',hlt⟩:=Qc6 hd
   rw[decide_eq_true (show(i:Int)<t.Tests.length by omega),cond_true,Qdi hg,Option.bind_some,Qqu hs,Option.bind_some,Qqu hs]
   have one:(1:Int)=0→∀x∈a::l,Qtb t x:=fun h=>absurd h (by decide)
   cases h1:btw a.From 0 (t.Sites-1) with
   |false=>exact⟨1,rfl,one⟩
   |true=>
   rw[show(!true)=false from rfl,cond_false,Option.bind_some]
   cases h2:btw a.To 0 (t.Sites-1) with
   |false=>exact⟨1,rfl,one⟩
   |true=>
   rw[show(!true)=false from rfl,cond_false]
   by_cases h3:a.From=a.To
   ·rw[beq_iff_eq.2 h3];exact⟨1,rfl,one⟩
   rw[beq_eq_false_iff_ne.2 h3,cond_false]
   by_cases h4:a.Seen.Lo<0
   ·rw[decide_eq_true h4];exact⟨1,rfl,one⟩
   rw[decide_eq_false h4,cond_false]
   by_cases h5:a.Seen.Lo>a.Seen.Hi
   ·rw[decide_eq_true h5];exact⟨1,rfl,one⟩
   rw[decide_eq_false h5,cond_false]
   by_cases h6:a.Seen.Hi>1000000
   ·rw[decide_eq_true h6];exact⟨1,rfl,one⟩
   rw[decide_eq_false h6,cond_false,Qbw (by omega) (by omega),show(i:Int)+1=((i+1:Nat):Int) by omega]
   obtain⟨e,he,hv⟩:=ih (i+1) (dlt hd hd' h)
   refine⟨e,he,fun h0 x hx=>?_⟩
   have q1:=Qe5.1 h1
   have q2:=Qe5.1 h2
   rcases List.mem_cons.1 hx with rfl |hx
   ·exact⟨by omega,by omega,h3,by omega,by omega⟩
   ·exact hv h0 x (by rw[hd'];exact hx)
theorem Q0q {N:Nat}{t:Qat}(hN:1000≤N):∃e,Qe7 N t=some e∧(e=0→Qhd t):=by
 unfold Qe7
 by_cases h1:(t.Tests.length:Int)>60
 ·rw[decide_eq_true h1];exact⟨3,rfl,fun h=>absurd h (by decide)⟩
 rw[decide_eq_false h1,cond_false,Qfl,Option.bind_some]
 cases h2:btw t.Sites 1 12 with
 |false=>exact⟨1,rfl,fun h=>absurd h (by decide)⟩
 |true=>
 have hs:=Qe5.1 h2
 rw[show(!true)=false from rfl,cond_false,Qb6]
 obtain⟨e,he,hv⟩:=Quh N t hs (by omega) N 0 (by rw[List.drop_zero];omega)
 exact⟨e,he,fun h0=>⟨by omega,hs,fun x hx=>hv h0 x (by rw[List.drop_zero];exact hx)⟩⟩
def BdR (f:Nat→Int):Prop:=∀i,0≤f i∧f i≤1000000
theorem BdR.set {f:Nat→Int}(h:BdR f) (k:Nat) {x:Int}(h0:0≤x) (h1:x≤1000000):BdR (setF f k x):=fun i=>by
 unfold setF
 split
 ·exact⟨h0,h1⟩
 ·exact h i
theorem ix12 {u:Int}(h0:0≤u) (h1:u<12):(decide (0≤u)&&decide (u.toNat<12))=true:=by
 rw[decide_eq_true h0,decide_eq_true (by omega)]
 rfl
theorem Q97 (N:Nat) {u:Int}(hu:0≤u∧u<12) (k:(Nat→Int)×(Nat→Int)→Option ((Nat→Int)×(Nat→Int))):∀(n j:Nat) (R B:Nat→Int),12-j<n→j≤12→BdR R→∃R' B',BdR R'∧Qb8 N u k n j R B=k (R',B'):=by
 intro n
 induction n with
 |zero=>intro j _ _ h;cases h
 |succ n ih=>
  intro j R B h hj hR
  rw[Qb8]
  by_cases hlt:j<12
  ·have hv:=ix12 (u:=(j:Int)) (by omega) (by omega)
   rw[decide_eq_true (show(j:Int)<12 by omega),cond_true,chkT (ix12 hu.1 hu.2),chkT hv,chkT (ix12 hu.1 hu.2),chkT hv,Qbw (by omega) (by omega),show(j:Int)+1=((j+1:Nat):Int) by omega]
   cases (u != (j:Int)) with
   |false=>exact ih (j+1) _ _ (by omega) (by omega) hR
   |true=>exact ih (j+1) _ _ (by omega) (by omega) (hR.set _ (by decide) (by decide))
  ·rw[decide_eq_false (show ¬(j:Int)<12 by omega)]
   exact⟨R,B,hR,rfl⟩
theorem Q98 {N:Nat}(hN:1000≤N) (k:(Nat→Int)×(Nat→Int)→Option ((Nat→Int)×(Nat→Int))):∀(n j:Nat) (R B:Nat→Int),12-j<n→j≤12→BdR R→∃R' B',BdR R'∧Qb0 N k n j R B=k (R',B'):=by
 intro n
 induction n with
 |zero=>intro j _ _ h;cases h
 |succ n ih=>
  intro j R B h hj hR
  rw[Qb0]
  by_cases hlt:j<12
  ·rw[decide_eq_true (show(j:Int)<12 by omega),cond_true,Qb6]
   obtain⟨R1,B1,h1,e1⟩:=Q97 N (u:=(j:Int)) (by omega) (fun (q:(Nat→Int)×(Nat→Int))=>match q with |(y60,y61)=>Qb0 N k n (w64 ((j:Int)+1)) y60 y61) N 0 R B (by omega) (by omega) hR
   obtain⟨R2,B2,h2,e2⟩:=ih (j+1) R1 B1 (by omega) (by omega) h1
   refine⟨R2,B2,h2,e1.trans ?_⟩
   show Qb0 N k n (w64 ((j:Int)+1)) R1 B1=_
   rw[Qbw (by omega) (by omega),show(j:Int)+1=((j+1:Nat):Int) by omega,e2]
  ·rw[decide_eq_false (show ¬(j:Int)<12 by omega)]
   exact⟨R,B,hR,rfl⟩
def LeR (f g:Nat→Int):Prop:=∀i,f i≤g i
theorem Q8n {N:Nat}{t:Qat}(ht:Qhd t) {x:Qcc}(hx:Qtb t x) (y:Int) (k:(Nat→Int)×(Nat→Int)→Option ((Nat→Int)×(Nat→Int))):∀(n j:Nat) (R B:Nat→Int),12-j<n→(j:Int)≤t.Sites→BdR R →
  ∃R' B',BdR R'∧LeR R' R∧Qb9 N t y k x n j R B=k (R',B'):=by
 have hs:=ht.s
 have hf:=hx.f
 have hto:=hx.to
 have hlo:=hx.lo
 have hhi:=hx.hi
 intro n
 induction n with
 |zero=>intro j _ _ h;cases h
 |succ n ih=>
  intro j R B h hj hR
  rw[Qb9]
  by_cases hlt:(j:Int)<t.Sites
  ·have hv:=ix12 (u:=(j:Int)) (by omega) (by omega)
   have a1:=hR (x.To.toNat*12+(j:Int).toNat)
   have a2:=hR (x.From.toNat*12+(j:Int).toNat)
   rw[decide_eq_true hlt,cond_true,chkT (ix12 (u:=x.To) (by omega) (by omega)),chkT hv,Option.bind_some,Qbw (x:=x.Seen.Hi+_) (by omega) (by omega),chkT (ix12 (u:=x.From) (by omega) (by omega)),chkT hv]
   rw[w64S (i:=j) (by omega)]
   by_cases hc:x.Seen.Hi+R (x.To.toNat*12+(j:Int).toNat)<R (x.From.toNat*12+(j:Int).toNat)
   ·rw[decide_eq_true hc,cond_true,chkT (ix12 (u:=x.From) (by omega) (by omega)),chkT hv,chkT (ix12 (u:=x.From) (by omega) (by omega)),chkT hv]
    obtain⟨R',B',h1,h2,h3⟩:=ih (j+1) (setF R (x.From.toNat*12+(j:Int).toNat) (x.Seen.Hi+R (x.To.toNat*12+(j:Int).toNat))) (setF B (x.From.toNat*12+(j:Int).toNat) y) (by omega) (by omega) (hR.set _ (by omega) (by omega))
    refine⟨R',B',h1,fun i=>Int.le_trans (h2 i) ?_,h3⟩
    unfold setF
    split
    ·rename_i he;rw[he];omega
    ·exact Int.le_refl _
   ·rw[decide_eq_false hc,cond_false]
    exact ih (j+1) R B (by omega) (by omega) hR
  ·rw[decide_eq_false hlt]
   exact⟨R,B,hR,fun _=>Int.le_refl _,rfl⟩
theorem Q8o {N:Nat}{t:Qat}(hN:1000≤N) (ht:Qhd t) (k:(Nat→Int)×(Nat→Int)→Option ((Nat→Int)×(Nat→Int))):∀(n i:Nat) (R B:Nat→Int),(t.Tests.drop i).length<n→BdR R →
  ∃R' B',BdR R'∧LeR R' R∧Qbo N t k n i R B=k (R',B'):=by
 have hl:=ht.l
 have hs:=ht.s
 intro n
 induction n with
 |zero=>intro j _ _ h;cases h
 |succ n ih=>
  intro i R B h hR
  rw[Qbo]
  cases hd:t.Tests.drop i with
  |nil=>
   have:=Qd0 hd
   rw[decide_eq_false (show ¬((i:Int)<t.Tests.length) by omega)]
   exact⟨R,B,hR,fun _=>Int.le_refl _,rfl⟩
  |cons a l=>
   obtain⟨hg,hd',hlt⟩:=Qc6 hd
   have ha:=ht.t a (List.mem_of_getElem? hg)
   rw[decide_eq_true (show(i:Int)<t.Tests.length by omega),cond_true,Qb6,Qdi hg,Option.bind_some]
   obtain⟨R1,B1,h1,l1,e1⟩:=Q8n (N:=N) ht ha (i:Int) (fun (q:(Nat→Int)×(Nat→Int))=>match q with |(y26,y27)=>Qbo N t k n (w64 ((i:Int)+1)) y26 y27) N 0 R B (by omega) (by omega) hR
   obtain⟨R2,B2,h2,l2,e2⟩:=ih (i+1) R1 B1 (dlt hd hd' h) h1
   refine⟨R2,B2,h2,fun i=>Int.le_trans (l2 i) (l1 i),e1.trans ?_⟩
   show Qbo N t k n (w64 ((i:Int)+1)) R1 B1=_
   rw[Qbw (by omega) (by omega),show(i:Int)+1=((i+1:Nat):Int) by omega,e2]
theorem Qr3 {f g:Nat→Int}(h:LeR f g):∀l:List Nat,(l.map f).sum≤(l.map g).sum∧(¬l.map f=l.map g→(l.map f).sum<(l.map g).sum)
 |[]=>⟨Int.le_refl _,fun h=>absurd rfl h⟩
 |a::l=>by
  obtain⟨i1,i2⟩:=Qr3 h l
  have ha:=h a
  simp only[List.map_cons,List.sum_cons]
  refine⟨by omega,fun hn=>?_⟩
  by_cases e:f a=g a
  ·have:¬l.map f=l.map g:=fun e'=>hn (by rw[e,e'])
   have:=i2 this
   omega
  ·omega
def potR (f:Nat→Int):Int:=(arrI 144 f).sum
theorem Q3s {f:Nat→Int}(h:BdR f):∀l:List Nat,0≤(l.map f).sum∧(l.map f).sum≤1000000*l.length
 |[]=>by simp
 |a::l=>by
  have:=Q3s h l
  have:=h a
  simp only[List.map_cons,List.sum_cons,List.length_cons]
  omega
theorem Q3x {f:Nat→Int}(h:BdR f):0≤potR f∧potR f≤144000000:=by
 have:=Q3s h (List.range 144)
 rw[List.length_range] at this
 exact⟨this.1,by have:=this.2;unfold potR arrI;omega⟩
theorem Q5k {N:Nat}{t:Qat}(hN:1000≤N) (ht:Qhd t) (k:(Nat→Int)×(Nat→Int)→Option ((Nat→Int)×(Nat→Int))):∀(n:Nat) (R B:Nat→Int),(potR R).toNat<n→BdR R →
  ∃R' B',BdR R'∧Qa8 N t k n R B=k (R',B'):=by
 have hl:=ht.l
 intro n
 induction n with
 |zero=>intro R _ h;cases h
 |succ n ih=>
  intro R B h hR
  rw[Qa8,Qb6]
  obtain⟨R1,B1,h1,l1,e1⟩:=Q8o hN ht (fun (q:(Nat→Int)×(Nat→Int))=>match q with |(y14,y15)=>bif (arrI 144 y14==arrI 144 R) then k (y14,y15) else Qa8 N t k n y14 y15) N 0 R B (by rw[List.drop_zero];omega) hR
  have e1':Qbo N t (fun (q:(Nat→Int)×(Nat→Int))=>match q with |(y14,y15)=>bif (arrI 144 y14==arrI 144 R) then k (y14,y15) else Qa8 N t k n y14 y15) N 0 R B=bif (arrI 144 R1==arrI 144 R) then k (R1,B1) else Qa8 N t k n R1 B1:=e1
  by_cases he:arrI 144 R1=arrI 144 R
  ·refine⟨R1,B1,h1,e1'.trans ?_⟩
   rw[beq_iff_eq.2 he,cond_true]
  ·have hlt:=(Qr3 l1 (List.range 144)).2 he
   have p1:=Q3x h1
   have:potR R1<potR R:=hlt
   obtain⟨R2,B2,h2,e2⟩:=ih R1 B1 (by omega) h1
   refine⟨R2,B2,h2,e1'.trans ?_⟩
   rw[beq_eq_false_iff_ne.2 he,cond_false,e2]
theorem Qwc {N:Nat}{t:Qat}(hN:150000000≤N) (ht:Qhd t):∃R B,BdR R∧Qet N t=some (R,B):=by
 have hz:BdR fun _=>(0:Int):=fun _=>⟨Int.le_refl 0,show(0:Int)≤1000000 by decide⟩
 unfold Qet
 rw[Qb6]
 obtain⟨R1,B1,h1,e1⟩:=Q98 (N:=N) (by omega) (fun (q:(Nat→Int)×(Nat→Int))=>match q with |(y3,y4)=>Qcy (fun (q:(Nat→Int)×(Nat→Int))=>match q with |(y6,y7)=>some (y6,y7)) fun k8=>Qa8 N t k8 N y3 y4) N 0 _ (fun _=>(0:Int)) (by omega) (by omega) hz
 have p1:=Q3x h1
 obtain⟨R2,B2,h2,e2⟩:=Q5k (N:=N) (by omega) ht (fun (q:(Nat→Int)×(Nat→Int))=>match q with |(y6,y7)=>some (y6,y7)) N R1 B1 (by omega) h1
 refine⟨R2,B2,h2,e1.trans ?_⟩
 show Qcy (fun (q:(Nat→Int)×(Nat→Int))=>match q with |(y6,y7)=>some (y6,y7)) (fun k8=>Qa8 N t k8 N R1 B1)=_
 rw[Qb6]
 exact e2
end
section
theorem Q0p {N:Nat}{t:Qat}(ht:Qhd t) {x:Qcc}(hx:Qtb t x) (a:Int) (l:List Qcc) (R B:Nat→Int):∃b,Qes N x a l R B=some b:=by
 have hs:=ht.s
 have hf:=hx.f
 have hto:=hx.to
 unfold Qes
 rw[chkT (ix12 (by omega) (by omega)),chkT (ix12 (by omega) (by omega))]
 exact⟨_,rfl⟩
theorem Qwm (N:Nat) {t:Qat}(ht:Qhd t) (a:Int) (l:List Qcc) (R B:Nat→Int):∀(n i:Nat),(t.Tests.drop i).length<n→∃e,Qav N t.Tests a (fun _=>some (-1)) l R B n i=some e:=by
 have hl:=ht.l
 intro n
 induction n with
 |zero=>intro i h;cases h
 |succ n ih=>
  intro i h
  rw[Qav]
  cases hd:t.Tests.drop i with
  |nil=>
   have:=Qd0 hd
   rw[decide_eq_false (show ¬((i:Int)<t.Tests.length) by omega),cond_false]
   exact⟨_,rfl⟩
  |cons x q=>
   obtain⟨hg,hd',hlt⟩:=Qc6 hd
   have hx:=ht.t x (List.mem_of_getElem? hg)
   obtain⟨b,hb⟩:=Q0p (N:=N) ht hx a l R B
   rw[decide_eq_true (show(i:Int)<t.Tests.length by omega),cond_true,Qdi hg,Option.bind_some,show(⟨x.From,x.To,(⟨x.Seen.Lo,x.Seen.Hi⟩:Qgr)⟩:Qcc)=x from rfl,hb,Option.bind_some]
   cases b with
   |true=>exact⟨_,rfl⟩
   |false=>
    rw[cond_false,Qbw (by omega) (by omega),show(i:Int)+1=((i+1:Nat):Int) by omega]
    exact ih (i+1) (dlt hd hd' h)
theorem Qwo {N:Nat}{t:Qat}(hN:150000000≤N) (ht:Qhd t):Qdv N t=some (.inl 9)∨∃R B,BdR R∧Qdv N t=some (.inr (0,R,B)):=by
 have hl:=ht.l
 obtain⟨R,B,hR,e⟩:=Qwc hN ht
 obtain⟨c,hc⟩:=Qwm N ht t.Sites t.Tests R B N 0 (by rw[List.drop_zero];omega)
 unfold Qdv
 rw[e,Option.bind_some]
 unfold Qf5 Qcv
 rw[Qb6]
 have hc':Qav N t.Tests t.Sites (fun _=>some (-1)) t.Tests R B N 0=some c:=hc
 rw[hc',Option.bind_some,Option.bind_some]
 cases decide (c≥0) with
 |true=>exact .inl rfl
 |false=>exact .inr ⟨R,B,hR,rfl⟩
theorem Q2v {N:Nat}{t:Qat}(ht:Qhd t) {x:Qcc}(hx:Qtb t x) {R:Nat→Int}(hR:BdR R) (B:Nat→Int) (s:Int) (l:List Qcc) {u v:Int}(hu:0≤u∧u<12) (hv:0≤v∧v<12):∃n,Qe3 N s l R B x u v=some n∧n≤1000000:=by
 have hs:=ht.s
 have hf:=hx.f
 have hto:=hx.to
 have hlo:=hx.lo
 have hhi:=hx.hi
 unfold Qe3
 rw[chkT (ix12 (by omega) (by omega)),chkT (ix12 hu.1 hu.2),chkT (ix12 hv.1 hv.2),chkT (ix12 (by omega) (by omega)),Option.bind_some]
 have a1:=hR (x.From.toNat*12+u.toNat)
 have a2:=hR (v.toNat*12+x.To.toNat)
 refine⟨_,rfl,?_⟩
 rw[Qbw (x:=x.Seen.Lo-_) (by omega) (by omega),Qbw (by omega) (by omega)]
 omega
theorem Qwh {N:Nat}{t:Qat}(ht:Qhd t) {R:Nat→Int}(hR:BdR R) (B:Nat→Int) {u v:Int}(hu:0≤u∧u<12) (hv:0≤v∧v<12):∀(n i:Nat) (a b:Int),(t.Tests.drop i).length<n→0≤a→a≤1000000 →
  ∃a' b',0≤a'∧a'≤1000000∧Qcg N t.Sites t.Tests R B (fun (q:Int×Int)=>match q with |(y2,y3)=>some (y2,y3)) u v n a b i=some (a',b'):=by
 have hl:=ht.l
 intro n
 induction n with
 |zero=>intro i _ _ h;cases h
 |succ n ih=>
  intro i a b h a0 a1
  rw[Qcg]
  cases hd:t.Tests.drop i with
  |nil=>
   have:=Qd0 hd
   rw[decide_eq_false (show ¬((i:Int)<t.Tests.length) by omega),cond_false]
   exact⟨a,b,a0,a1,rfl⟩
  |cons x q=>
   obtain⟨hg,hd',hlt⟩:=Qc6 hd
   have hx:=ht.t x (List.mem_of_getElem? hg)
   obtain⟨m,hm,hm1⟩:=Q2v (N:=N) ht hx hR B t.Sites t.Tests hu hv
   have hn:(t.Tests.drop (i+1)).length<n:=by rw[hd'];rw[hd] at h;simp at h;omega
   rw[decide_eq_true (show(i:Int)<t.Tests.length by omega),cond_true,Qdi hg,Option.bind_some,show(⟨x.From,x.To,(⟨x.Seen.Lo,x.Seen.Hi⟩:Qgr)⟩:Qcc)=x from rfl,hm,Option.bind_some,Qbw (by omega) (by omega),show(i:Int)+1=((i+1:Nat):Int) by omega]
   by_cases hc:m>a
   ·rw[decide_eq_true hc,cond_true]
    exact ih (i+1) m i hn (by omega) hm1
   ·rw[decide_eq_false hc,cond_false]
    exact ih (i+1) a b hn a0 a1
theorem Q2p {N:Nat}{t:Qat}(hN:1000≤N) (ht:Qhd t) {R:Nat→Int}(hR:BdR R) (B:Nat→Int) {u v:Int}(hu:0≤u∧u<12) (hv:0≤v∧v<12):∃a b,0≤a∧a≤1000000∧Qej N t.Sites t.Tests R B u v=some (a,b):=by
 have hl:=ht.l
 unfold Qej
 cases (u==v) with
 |true=>exact⟨0,-1,Int.le_refl 0,by decide,rfl⟩
 |false=>
  rw[cond_false,Qb6]
  exact Qwh ht hR B hu hv N 0 0 (-1) (by rw[List.drop_zero];omega) (Int.le_refl 0) (by decide)
theorem Q6s {N:Nat}{t:Qat}(hN:1000≤N) (ht:Qhd t) {R:Nat→Int}(hR:BdR R) (B:Nat→Int) {u v:Int}(hu:0≤u∧u<12) (hv:0≤v∧v<12) (f:Int):∃c,Qfa N t.Sites t.Tests R B u v f=some c:=by
 obtain⟨a,b,_,_,e⟩:=Q2p hN ht hR B hu hv
 unfold Qfa
 rw[e]
 exact⟨_,rfl⟩
structure Qrs (t:Qat) (n:Int):Prop where
 s:0≤n∧n<t.Sites
theorem Que {N:Nat}{t:Qat}(hN:1000≤N) (ht:Qhd t) {R:Nat→Int}(hR:BdR R) (B:Nat→Int) {b:Qa7}{x:Qba}(hx:Qrs t x.Site) (hf:∀n∈b.Feeds,Qrs t n) (hl:b.Feeds.length≤10):∀(n i:Nat),(b.Feeds.drop i).length<n →
  ∃e,Qbu N b.Feeds t.Sites (fun _=>some (-1)) t.Tests R B x.Site x.Stairs b.Inlets b.Feeds b.Factor b.Horizon n i=some e:=by
 have hs:=ht.s
 have hxs:=hx.s
 intro n
 induction n with
 |zero=>intro i h;cases h
 |succ n ih=>
  intro i h
  rw[Qbu]
  cases hd:b.Feeds.drop i with
  |nil=>
   have:=Qd0 hd
   rw[decide_eq_false (show ¬((i:Int)<b.Feeds.length) by omega),cond_false]
   exact⟨_,rfl⟩
  |cons y q=>
   obtain⟨hg,hd',hlt⟩:=Qc6 hd
   have hy:=(hf y (List.mem_of_getElem? hg)).s
   obtain⟨c,hc⟩:=Q6s (N:=N) hN ht hR B (u:=x.Site) (v:=y) (by omega) (by omega) b.Factor
   rw[decide_eq_true (show(i:Int)<b.Feeds.length by omega),cond_true,Qdi hg,Option.bind_some]
   unfold Qe6
   rw[hc,Option.bind_some,Option.bind_some]
   cases decide (c<b.Horizon) with
   |true=>exact⟨_,rfl⟩
   |false=>
    rw[cond_false,Qbw (by omega) (by omega),show(i:Int)+1=((i+1:Nat):Int) by omega]
    exact ih (i+1) (dlt hd hd' h)
theorem Q0n {N:Nat}{t:Qat}(hN:1000≤N) (ht:Qhd t) {R:Nat→Int}(hR:BdR R) (B:Nat→Int) {b:Qa7}{x:Qba}(hx:Qrs t x.Site) (hf:∀n∈b.Feeds,Qrs t n) (hl:b.Feeds.length≤10):∃c,Qck N t.Sites t.Tests R B b x=some c:=by
 obtain⟨e,he⟩:=Que (N:=N) hN ht hR B hx hf hl N 0 (by rw[List.drop_zero];omega)
 unfold Qck Qea Qeo
 rw[Qb6]
 have he':Qbu N b.Feeds t.Sites (fun _=>some (-1)) t.Tests R B x.Site x.Stairs b.Inlets b.Feeds b.Factor b.Horizon N 0=some e:=he
 rw[he',Option.bind_some,Option.bind_some]
 exact⟨_,rfl⟩
end
section
theorem Qlz (N:Nat) (a lo hi:Int):Qf3 N a lo hi=some (btw a lo hi):=by
 unfold Qf3 btw
 rw[show decide (a≥lo)=decide (lo≤a) from rfl]
 cases decide (lo≤a)<;>rfl
theorem Qn6 (N:Nat) (t:Qat) (n:Int):Qg8 N t n=some (decide (0≤n)&&decide (n<t.Sites)):=by
 unfold Qg8
 rw[show decide (n≥0)=decide (0≤n) from rfl]
 cases decide (0≤n)<;>rfl
theorem Q2d {t:Qat}{n:Int}(h:(decide (0≤n)&&decide (n<t.Sites))=true):0≤n∧n<t.Sites:=by simpa using h
theorem Qtt (N:Nat) (t:Qat) (hs:1≤t.Sites∧t.Sites≤12) (hl:t.Tests.length≤60):∀(n i:Nat),(t.Tests.drop i).length<n →
  ∃e,Qdm N t (fun _=>some 0) n i=some e∧(e=0→∀x∈t.Tests.drop i,Qtb t x):=by
 intro n
 induction n with
 |zero=>intro i h;cases h
 |succ n ih=>
  intro i h
  rw[Qdm]
  cases hd:t.Tests.drop i with
  |nil=>
   have:=Qd0 hd
   rw[decide_eq_false (show ¬((i:Int)<t.Tests.length) by omega),cond_false]
   exact⟨0,rfl,fun _ x hx=>by cases hx⟩
  |cons a l=>
   obtain⟨hg,hd',hlt⟩:=Qc6 hd
   rw[decide_eq_true (show(i:Int)<t.Tests.length by omega),cond_true,Qdi hg,Option.bind_some,Qn6,Option.bind_some,Qn6,Qlz,Qlz]
   have one:(1:Int)=0→∀x∈a::l,Qtb t x:=fun h=>absurd h (by decide)
   cases h1:(decide (0≤a.From)&&decide (a.From<t.Sites)) with
   |false=>exact⟨1,rfl,one⟩
   |true=>
   rw[show(!true)=false from rfl,cond_false,Option.bind_some]
   cases h2:(decide (0≤a.To)&&decide (a.To<t.Sites)) with
   |false=>exact⟨1,rfl,one⟩
   |true=>
   rw[show(!true)=false from rfl,cond_false]
   by_cases h3:a.From=a.To
   ·rw[beq_iff_eq.2 h3];exact⟨1,rfl,one⟩
   rw[beq_eq_false_iff_ne.2 h3,cond_false,Option.bind_some]
   cases h4:btw a.Seen.Lo 0 1000000 with
   |false=>exact⟨1,rfl,one⟩
   |true=>
   rw[show(!true)=false from rfl,cond_false,Option.bind_some]
   cases h5:btw a.Seen.Hi 0 1000000 with
   |false=>exact⟨1,rfl,one⟩
   |true=>
   rw[show(!true)=false from rfl,cond_false]
   by_cases h6:a.Seen.Lo>a.Seen.Hi
   ·rw[decide_eq_true h6];exact⟨1,rfl,one⟩
   rw[decide_eq_false h6,cond_false,Qbw (by omega) (by omega),show(i:Int)+1=((i+1:Nat):Int) by omega]
   obtain⟨e,he,hv⟩:=ih (i+1) (dlt hd hd' h)
   refine⟨e,he,fun h0 x hx=>?_⟩
   have q1:=Q2d h1
   have q2:=Q2d h2
   have q4:=Qe5.1 h4
   have q5:=Qe5.1 h5
   rcases List.mem_cons.1 hx with rfl |hx
   ·exact⟨q1,q2,h3,by omega,by omega⟩
   ·exact hv h0 x (by rw[hd'];exact hx)
theorem Qyo {N:Nat}{t:Qat}(hN:1000≤N):∃e,Qgh N t=some e∧(e=0→Qhd t):=by
 unfold Qgh
 by_cases h1:(t.Tests.length:Int)>60
 ·rw[decide_eq_true h1];exact⟨3,rfl,fun h=>absurd h (by decide)⟩
 rw[decide_eq_false h1,cond_false,Qlz,Option.bind_some]
 cases h2:btw t.Sites 1 12 with
 |false=>exact⟨1,rfl,fun h=>absurd h (by decide)⟩
 |true=>
 have hs:=Qe5.1 h2
 rw[show(!true)=false from rfl,cond_false,Qb6]
 obtain⟨e,he,hv⟩:=Qtt N t hs (by omega) N 0 (by rw[List.drop_zero];omega)
 exact⟨e,he,fun h0=>⟨by omega,hs,fun x hx=>hv h0 x (by rw[List.drop_zero];exact hx)⟩⟩
structure Qn0 (s:Qap):Prop where
 a:1≤s.Amount∧s.Amount≤1000000
 p:0≤s.Price∧s.Price≤1000
structure Qpi (l:List Qap):Prop where
 n:1≤l.length∧l.length≤6
 s:∀x∈l,Qn0 x
 r:∀(j:Nat) (a c:Qap),l[j+1]? = some a→l[j]? = some c→c.Price<a.Price
structure Ql0 (t:Qat) (b:Qa7):Prop where
 il:1≤b.Inlets.length∧b.Inlets.length≤10
 fl:1≤b.Feeds.length∧b.Feeds.length≤10
 fa:1000≤b.Factor∧b.Factor≤100000
 ho:0≤b.Horizon∧b.Horizon≤100000000
 inl:∀x∈b.Inlets,Qrs t x.Site∧Qpi x.Stairs
 fds:∀n∈b.Feeds,Qrs t n
theorem Q5c (N:Nat) (k:Unit→Option Int) (x:Qba) (hx:x.Stairs.length≤6):∀(n i:Nat),(x.Stairs.drop i).length<n →
  Qby N k x n i=some 1∨((∀(j:Nat) a,i≤j→x.Stairs[j]? = some a→Qn0 a∧∀c,0<j→x.Stairs[j-1]? = some c→c.Price<a.Price)∧Qby N k x n i=k ()):=by
 intro n
 induction n with
 |zero=>intro i h;cases h
 |succ n ih=>
  intro i h
  rw[Qby]
  cases hd:x.Stairs.drop i with
  |nil=>
   have:=Qd0 hd
   rw[decide_eq_false (show ¬((i:Int)<x.Stairs.length) by omega),cond_false]
   refine .inr ⟨fun j a hj ha=>?_,rfl⟩
   have:=(List.getElem?_eq_some_iff.1 ha).1
   omega
  |cons y q=>
   obtain⟨hg,hd',hlt⟩:=Qc6 hd
   rw[decide_eq_true (show(i:Int)<x.Stairs.length by omega),cond_true,Qdi hg,Option.bind_some,Qlz,Option.bind_some,Qlz]
   cases h1:btw y.Amount 1 1000000 with
   |false=>exact .inl rfl
   |true=>
   rw[show(!true)=false from rfl,cond_false,Option.bind_some]
   cases h2:btw y.Price 0 1000 with
   |false=>exact .inl rfl
   |true=>
   rw[show(!true)=false from rfl,cond_false]
   have q1:=Qe5.1 h1
   have q2:=Qe5.1 h2
   have e1:w64 ((i:Int)+1)=((i+1:Nat):Int):=by rw[Qbw (by omega) (by omega)];omega
   have hn:(x.Stairs.drop (i+1)).length<n:=by rw[hd'];rw[hd] at h;simp at h;omega
   rw[e1]
   have fin:(∀c,0<i→x.Stairs[i-1]? = some c→c.Price<y.Price)→Qby N k x n ((i+1:Nat):Int)=some 1∨((∀(j:Nat) a,i≤j→x.Stairs[j]? = some a→Qn0 a∧∀c,0<j→x.Stairs[j-1]? = some c→c.Price<a.Price)∧Qby N k x n ((i+1:Nat):Int)=k ()):=fun hr=>by
    rcases ih (i+1) hn with e |⟨hp,e⟩
    ·exact .inl e
    ·refine .inr ⟨fun j a hj ha=>?_,e⟩
     rcases Nat.eq_or_lt_of_le hj with rfl |hlt'
     ·rw[hg] at ha
      cases ha
      exact⟨⟨q1,q2⟩,hr⟩
     ·exact hp j a hlt' ha
   by_cases hp:(i:Int)>0
   ·rw[decide_eq_true hp,cond_true]
    obtain⟨c,hc⟩:∃c,x.Stairs[i-1]? = some c:=⟨_,List.getElem?_eq_getElem (by omega)⟩
    rw[show w64 ((i:Int)-1)=((i-1:Nat):Int) by rw[Qbw (by omega) (by omega)];omega,Qdi hc,Option.bind_some]
    by_cases hpr:y.Price≤c.Price
    ·rw[decide_eq_true hpr];exact .inl rfl
    ·rw[decide_eq_false hpr,cond_false]
     exact fin fun c' _ hc'=>by rw[hc] at hc';cases hc';omega
   ·rw[decide_eq_false hp,cond_false]
    exact fin fun c' h0 _=>absurd h0 (by omega)
theorem Q8k (N:Nat) (b:Qa7) (x:Qba) (k:Unit→Option Int) (hb:b.Inlets.length≤10) (m:Nat) (hm:m<b.Inlets.length):∀(n i:Nat),m-i<n→i≤m→Qc5 N b m x k n i=some 1∨Qc5 N b m x k n i=k ():=by
 intro n
 induction n with
 |zero=>intro i h;cases h
 |succ n ih=>
  intro i h hi
  rw[Qc5]
  by_cases hlt:i<m
  ·obtain⟨c,hc⟩:∃c,b.Inlets[i]? = some c:=⟨_,List.getElem?_eq_getElem (by omega)⟩
   rw[decide_eq_true (show(i:Int)<m by omega),cond_true,Qdi hc,Option.bind_some]
   cases (c.Site==x.Site) with
   |true=>exact .inl rfl
   |false=>
    rw[cond_false,Qbw (by omega) (by omega),show(i:Int)+1=((i+1:Nat):Int) by omega]
    exact ih (i+1) (by omega) (by omega)
  ·rw[decide_eq_false (show ¬(i:Int)<m by omega)]
   exact .inr rfl
theorem Q5u {N:Nat}(hN:1000≤N) (t:Qat) (b:Qa7) (k:Unit→Option Int) (hb:b.Inlets.length≤10):∀(n i:Nat),(b.Inlets.drop i).length<n →
  Qcd N t b k n i=some 1∨((∀x∈b.Inlets.drop i,Qrs t x.Site∧Qpi x.Stairs)∧Qcd N t b k n i=k ()):=by
 intro n
 induction n with
 |zero=>intro i h;cases h
 |succ n ih=>
  intro i h
  rw[Qcd]
  cases hd:b.Inlets.drop i with
  |nil=>
   have:=Qd0 hd
   rw[decide_eq_false (show ¬((i:Int)<b.Inlets.length) by omega),cond_false]
   exact .inr ⟨fun x hx=>(by cases hx),rfl⟩
  |cons x q=>
   obtain⟨hg,hd',hlt⟩:=Qc6 hd
   rw[decide_eq_true (show(i:Int)<b.Inlets.length by omega),cond_true,Qb6,Qdi hg,Option.bind_some,Qb6,Qn6,Option.bind_some]
   cases h1:(decide (0≤x.Site)&&decide (x.Site<t.Sites)) with
   |false=>exact .inl rfl
   |true=>
   rw[show(!true)=false from rfl,cond_false,Qlz,Option.bind_some]
   cases h2:btw x.Stairs.length 1 6 with
   |false=>exact .inl rfl
   |true=>
   have q2:=Qe5.1 h2
   rw[show(!true)=false from rfl,cond_false,Qb6]
   have e1:w64 ((i:Int)+1)=((i+1:Nat):Int):=by rw[Qbw (by omega) (by omega)];omega
   rw[e1]
   rcases Q8k N b x (fun _=>Qby N (fun _=>Qcd N t b k n ((i+1:Nat):Int)) x N 0) hb i hlt N 0 (by omega) (Nat.zero_le _) with e |e
   ·exact .inl e
   ·rcases Q5c N (fun _=>Qcd N t b k n ((i+1:Nat):Int)) x (by omega) N 0 (by rw[List.drop_zero];omega) with e' |⟨hp,e'⟩
    ·exact .inl (e.trans e')
    ·rcases ih (i+1) (dlt hd hd' h) with e3 |⟨hq,e3⟩
     ·exact .inl (e.trans (e'.trans e3))
     ·refine .inr ⟨fun y hy=>?_,e.trans (e'.trans e3)⟩
      rcases List.mem_cons.1 hy with rfl |hy
      ·refine⟨⟨Q2d h1⟩,⟨by omega,by omega⟩,fun s hs=>?_,fun j a c ha hc=>?_⟩
       ·obtain⟨j,hj⟩:=List.getElem?_of_mem hs
        exact(hp j s (Nat.zero_le _) hj).1
       ·exact(hp (j+1) a (Nat.zero_le _) ha).2 c (Nat.succ_pos _) hc
      ·exact hq y (by rw[hd'];exact hy)
theorem Q8y (N:Nat) (b:Qa7) (k:Unit→Option Int) (hb:b.Inlets.length≤10) (m:Nat) {y:Int}(hm:b.Feeds[m]? = some y):∀(n i:Nat),(b.Inlets.drop i).length<n→Qce N b m k n i=some 1∨Qce N b m k n i=k ():=by
 intro n
 induction n with
 |zero=>intro i h;cases h
 |succ n ih=>
  intro i h
  rw[Qce]
  cases hd:b.Inlets.drop i with
  |nil=>
   have:=Qd0 hd
   rw[decide_eq_false (show ¬((i:Int)<b.Inlets.length) by omega),cond_false]
   exact .inr rfl
  |cons x q=>
   obtain⟨hg,hd',hlt⟩:=Qc6 hd
   rw[decide_eq_true (show(i:Int)<b.Inlets.length by omega),cond_true,Qdi hg,Option.bind_some,Qdi hm,Option.bind_some]
   cases (x.Site==y) with
   |true=>exact .inl rfl
   |false=>
    rw[cond_false,Qbw (by omega) (by omega),show(i:Int)+1=((i+1:Nat):Int) by omega]
    exact ih (i+1) (dlt hd hd' h)
theorem Q8z {N:Nat}(hN:1000≤N) (t:Qat) (b:Qa7) (k:Unit→Option Int) (hb:b.Inlets.length≤10) (hf:b.Feeds.length≤10):∀(n i:Nat),(b.Feeds.drop i).length<n →
  Qbz N t b k n i=some 1∨((∀x∈b.Feeds.drop i,Qrs t x)∧Qbz N t b k n i=k ()):=by
 intro n
 induction n with
 |zero=>intro i h;cases h
 |succ n ih=>
  intro i h
  rw[Qbz]
  cases hd:b.Feeds.drop i with
  |nil=>
   have:=Qd0 hd
   rw[decide_eq_false (show ¬((i:Int)<b.Feeds.length) by omega),cond_false]
   exact .inr ⟨fun x hx=>(by cases hx),rfl⟩
  |cons x q=>
   obtain⟨hg,hd',hlt⟩:=Qc6 hd
   have e1:w64 ((i:Int)+1)=((i+1:Nat):Int):=by rw[Qbw (by omega) (by omega)];omega
   rw[decide_eq_true (show(i:Int)<b.Feeds.length by omega),cond_true,Qb6,Qb6,Qdi hg,Option.bind_some,Qn6,Option.bind_some,e1]
   cases h1:(decide (0≤x)&&decide (x<t.Sites)) with
   |false=>exact .inl rfl
   |true=>
   rw[show(!true)=false from rfl,cond_false]
   have fin:Qce N b i (fun _=>Qbz N t b k n ((i+1:Nat):Int)) N 0=some 1∨((∀y∈x::q,Qrs t y)∧Qce N b i (fun _=>Qbz N t b k n ((i+1:Nat):Int)) N 0=k ()):=by
    rcases Q8y N b (fun _=>Qbz N t b k n ((i+1:Nat):Int)) hb i hg N 0 (by rw[List.drop_zero];omega) with e |e
    ·exact .inl e
    ·rcases ih (i+1) (dlt hd hd' h) with e3 |⟨hq,e3⟩
     ·exact .inl (e.trans e3)
     ·refine .inr ⟨fun y hy=>?_,e.trans e3⟩
      rcases List.mem_cons.1 hy with rfl |hy
      ·exact⟨Q2d h1⟩
      ·exact hq y (by rw[hd'];exact hy)
   by_cases hp:(i:Int)>0
   ·rw[decide_eq_true hp,cond_true]
    obtain⟨c,hc⟩:∃c,b.Feeds[i-1]? = some c:=⟨_,List.getElem?_eq_getElem (by omega)⟩
    rw[show w64 ((i:Int)-1)=((i-1:Nat):Int) by rw[Qbw (by omega) (by omega)];omega,Qdi hc,Option.bind_some]
    cases decide (x≤c) with
    |true=>exact .inl rfl
    |false=>exact fin
   ·rw[decide_eq_false hp,cond_false]
    exact fin
theorem Q0u {N:Nat}{t:Qat}{b:Qa7}(hN:1000≤N):∃e,Qgi N t b=some e∧(e=0→Qhd t∧Ql0 t b):=by
 unfold Qgi
 obtain⟨e,he,ht⟩:=Qyo (N:=N) (t:=t) hN
 have one:(1:Int)=0→Qhd t∧Ql0 t b:=fun h=>absurd h (by decide)
 rw[he,Option.bind_some]
 by_cases h0:e=0
 ·have hT:=ht h0
  subst h0
  rw[show((0:Int) != 0)=false from rfl,cond_false,Qb6,Qlz,Option.bind_some]
  cases h1:btw b.Inlets.length 1 10 with
  |false=>exact⟨1,rfl,one⟩
  |true=>
  rw[show(!true)=false from rfl,cond_false,Qlz,Option.bind_some]
  cases h2:btw b.Feeds.length 1 10 with
  |false=>exact⟨1,rfl,one⟩
  |true=>
  rw[show(!true)=false from rfl,cond_false,Qlz,Option.bind_some]
  cases h3:btw b.Factor 1000 100000 with
  |false=>exact⟨1,rfl,one⟩
  |true=>
  rw[show(!true)=false from rfl,cond_false,Qlz,Option.bind_some]
  cases h4:btw b.Horizon 0 100000000 with
  |false=>exact⟨1,rfl,one⟩
  |true=>
  rw[show(!true)=false from rfl,cond_false,Qb6]
  have q1:=Qe5.1 h1
  have q2:=Qe5.1 h2
  rcases Q5u hN t b (fun _=>Qcy (fun _=>some 0) fun k6:Unit→Option Int=>Qbz N t b k6 N 0) (by omega) N 0 (by rw[List.drop_zero];omega) with e3 |⟨hi,e3⟩
  ·exact⟨1,e3,one⟩
  rcases Q8z hN t b (fun _=>some 0) (by omega) (by omega) N 0 (by rw[List.drop_zero];omega) with e4 |⟨hf,e4⟩
  ·exact⟨1,e3.trans ((Qb6 _ _).trans e4),one⟩
  ·rw[List.drop_zero] at hi hf
   exact⟨0,e3.trans ((Qb6 _ _).trans e4),fun _=>⟨hT,⟨by omega,by omega⟩,⟨by omega,by omega⟩,Qe5.1 h3,Qe5.1 h4,hi,hf⟩⟩
 ·rw[show(e != 0)=true from bne_iff_ne.2 h0,cond_true]
  exact⟨e,rfl,fun h=>absurd h h0⟩
end
section
theorem Qtu (N:Nat) (t:Qat) (k:List Qcc→Option Qat) (hl:t.Tests.length≤60):∀(n i:Nat) (acc:List Qcc),(t.Tests.drop i).length<n→acc.length=i→Qeq N t k n i acc=k (acc++t.Tests.drop i):=by
 intro n
 induction n with
 |zero=>intro i _ h;cases h
 |succ n ih=>
  intro i acc h ha
  rw[Qeq]
  cases hd:t.Tests.drop i with
  |nil=>
   have:=Qd0 hd
   rw[decide_eq_false (show ¬((i:Int)<t.Tests.length) by omega),cond_false,List.append_nil]
  |cons x q=>
   obtain⟨hg,hd',hlt⟩:=Qc6 hd
   rw[decide_eq_true (show(i:Int)<t.Tests.length by omega),cond_true,Qdi hg,Option.bind_some,chkT (decide_eq_true (by simp only[List.length_cons,List.length_nil];omega)),Qbw (by omega) (by omega),show(i:Int)+1=((i+1:Nat):Int) by omega,
    ih (i+1) _ (dlt hd hd' h) (by simp[ha]),hd',List.append_assoc]
   rfl
theorem Qyp {N:Nat}{t:Qat}(hN:1000≤N) (ht:Qhd t):Qhs N t=some t:=by
 have hl:=ht.l
 unfold Qhs
 rw[Qb6]
 refine(Qtu N t _ hl N 0 [] (by rw[List.drop_zero];omega) rfl).trans ?_
 rw[List.drop_zero,List.nil_append]
theorem Qr5 (N:Nat) (x:Qba) (k:List Qba×List Int×List Qap→Option Qa7) (a:List Qba) (f:List Int) (hl:x.Stairs.length≤6):∀(n i:Nat) (acc:List Qap),(x.Stairs.drop i).length<n→acc.length=i→Qer N x k n i a f acc=k (a,f,acc++x.Stairs.drop i):=by
 intro n
 induction n with
 |zero=>intro i _ h;cases h
 |succ n ih=>
  intro i acc h ha
  rw[Qer]
  cases hd:x.Stairs.drop i with
  |nil=>
   have:=Qd0 hd
   rw[decide_eq_false (show ¬((i:Int)<x.Stairs.length) by omega),cond_false,List.append_nil]
  |cons y q=>
   obtain⟨hg,hd',hlt⟩:=Qc6 hd
   rw[decide_eq_true (show(i:Int)<x.Stairs.length by omega),cond_true,Qdi hg,Option.bind_some,chkT (decide_eq_true (by simp only[List.length_cons,List.length_nil];omega)),Qbw (by omega) (by omega),show(i:Int)+1=((i+1:Nat):Int) by omega,
    ih (i+1) _ (dlt hd hd' h) (by simp[ha]),hd',List.append_assoc]
   rfl
theorem Qsl {N:Nat}(hN:1000≤N) (b:Qa7) (k:List Qba×List Int→Option Qa7) (f:List Int) (hl:b.Inlets.length≤10) (hs:∀x∈b.Inlets,x.Stairs.length≤6):∀(n i:Nat) (acc:List Qba),(b.Inlets.drop i).length<n→acc.length=i→Qeb N b k n i acc f=k (acc++b.Inlets.drop i,f):=by
 intro n
 induction n with
 |zero=>intro i _ h;cases h
 |succ n ih=>
  intro i acc h ha
  rw[Qeb]
  cases hd:b.Inlets.drop i with
  |nil=>
   have:=Qd0 hd
   rw[decide_eq_false (show ¬((i:Int)<b.Inlets.length) by omega),cond_false,List.append_nil]
  |cons x q=>
   obtain⟨hg,hd',hlt⟩:=Qc6 hd
   have h6:=hs x (List.mem_of_getElem? hg)
   rw[decide_eq_true (show(i:Int)<b.Inlets.length by omega),cond_true,Qb6,Qdi hg,Option.bind_some,Qb6]
   refine(Qr5 N x _ acc f h6 N 0 [] (by rw[List.drop_zero];omega) rfl).trans ?_
   rw[List.drop_zero,List.nil_append]
   refine(chkT (decide_eq_true (by simp only[List.length_cons,List.length_nil];omega))).trans ?_
   show Qeb N b k n (w64 ((i:Int)+1)) (acc++[x]) f=_
   rw[Qbw (by omega) (by omega),show(i:Int)+1=((i+1:Nat):Int) by omega,ih (i+1) _ (dlt hd hd' h) (by simp[ha]),hd',List.append_assoc]
   rfl
theorem Q0v {N:Nat}{t:Qat}{b:Qa7}(hN:1000≤N) (hb:Ql0 t b):Qht N b=some b:=by
 have hi:=hb.il
 have hf:=hb.fl
 unfold Qht
 rw[chkT (decide_eq_true (by simp only[List.length_nil];omega)),Qb6]
 refine(Qsl hN b _ _ hi.2 (fun x hx=>(hb.inl x hx).2.n.2) N 0 [] (by rw[List.drop_zero];omega) rfl).trans ?_
 rw[List.drop_zero,List.nil_append,List.nil_append]
theorem Qr9 (N:Nat) (l:List Int) (hl:l.length≤10):∀(n i:Nat),(l.drop i).length<n→∃b,Qcn N l (fun _=>some true) n i=some b:=by
 intro n
 induction n with
 |zero=>intro i h;cases h
 |succ n ih=>
  intro i h
  rw[Qcn]
  cases hd:l.drop i with
  |nil=>
   have:=Qd0 hd
   rw[decide_eq_false (show ¬((i:Int)<l.length) by omega),cond_false]
   exact⟨_,rfl⟩
  |cons x q=>
   obtain⟨hg,hd',hlt⟩:=Qc6 hd
   have hn:=ih (i+1) (dlt hd hd' h)
   rw[decide_eq_true (show(i:Int)<l.length by omega),cond_true,show w64 ((i:Int)+1)=((i+1:Nat):Int) by rw[Qbw (by omega) (by omega)];omega]
   by_cases hp:(i:Int)>0
   ·obtain⟨c,hc⟩:∃c,l[i-1]? = some c:=⟨_,List.getElem?_eq_getElem (by omega)⟩
    rw[decide_eq_true hp,cond_true,show w64 ((i:Int)-1)=((i-1:Nat):Int) by rw[Qbw (by omega) (by omega)];omega,Qdi hc,Option.bind_some,show Qew N c=some c from rfl,Option.bind_some,Qdi hg,Option.bind_some,show Qew N x=some x from rfl,Option.bind_some]
    cases decide (c≥x) with
    |true=>exact⟨_,rfl⟩
    |false=>exact hn
   ·rw[decide_eq_false hp,cond_false]
    exact hn
theorem Qr8 (N:Nat) (l:List Qap) (hl:l.length≤6):∀(n i:Nat),(l.drop i).length<n→∃b,Qbn N l (fun _=>some true) n i=some b:=by
 intro n
 induction n with
 |zero=>intro i h;cases h
 |succ n ih=>
  intro i h
  rw[Qbn]
  cases hd:l.drop i with
  |nil=>
   have:=Qd0 hd
   rw[decide_eq_false (show ¬((i:Int)<l.length) by omega),cond_false]
   exact⟨_,rfl⟩
  |cons x q=>
   obtain⟨hg,hd',hlt⟩:=Qc6 hd
   have hn:=ih (i+1) (dlt hd hd' h)
   rw[decide_eq_true (show(i:Int)<l.length by omega),cond_true,show w64 ((i:Int)+1)=((i+1:Nat):Int) by rw[Qbw (by omega) (by omega)];omega]
   by_cases hp:(i:Int)>0
   ·obtain⟨c,hc⟩:∃c,l[i-1]? = some c:=⟨_,List.getElem?_eq_getElem (by omega)⟩
    rw[decide_eq_true hp,cond_true,show w64 ((i:Int)-1)=((i-1:Nat):Int) by rw[Qbw (by omega) (by omega)];omega,Qdi hc,Option.bind_some,show Qem N c=some c.Price from rfl,Option.bind_some,Qdi hg,Option.bind_some,show Qem N x=some x.Price from rfl,Option.bind_some]
    cases decide (c.Price≥x.Price) with
    |true=>exact⟨_,rfl⟩
    |false=>exact hn
   ·rw[decide_eq_false hp,cond_false]
    exact hn
theorem Q6x (N:Nat) (s:Qap):∃b,Qe4 N s=some b:=by
 unfold Qe4
 rw[Qfl,Qfl,Option.bind_some,Option.bind_some]
 cases btw s.Amount 1 1000000<;>exact⟨_,rfl⟩
theorem Q0w (N:Nat) (l:List Qap) (hl:l.length≤6):∀(n i:Nat),(l.drop i).length<n→∃b,Qau N l (fun _=>some (-1)) n i=some b:=by
 intro n
 induction n with
 |zero=>intro i h;cases h
 |succ n ih=>
  intro i h
  rw[Qau]
  cases hd:l.drop i with
  |nil=>
   have:=Qd0 hd
   rw[decide_eq_false (show ¬((i:Int)<l.length) by omega),cond_false]
   exact⟨_,rfl⟩
  |cons x q=>
   obtain⟨hg,hd',hlt⟩:=Qc6 hd
   have hn:=ih (i+1) (dlt hd hd' h)
   obtain⟨b,hb⟩:=Q6x N x
   rw[decide_eq_true (show(i:Int)<l.length by omega),cond_true,Qdi hg,Option.bind_some,hb,Option.bind_some,show w64 ((i:Int)+1)=((i+1:Nat):Int) by rw[Qbw (by omega) (by omega)];omega]
   cases b with
   |true=>exact⟨_,rfl⟩
   |false=>exact hn
theorem Qzs {N:Nat}(hN:1000≤N) {x:Qba}(hx:x.Stairs.length≤6):∃b,Qfx N x=some b:=by
 unfold Qfx
 obtain⟨b1,h1⟩:=Qr8 N x.Stairs hx N 0 (by rw[List.drop_zero];omega)
 obtain⟨b2,h2⟩:=Q0w N x.Stairs hx N 0 (by rw[List.drop_zero];omega)
 have h1':Qdr N x.Stairs=some b1:=by unfold Qdr;rw[Qb6];exact h1
 have h2':Qbv N x.Stairs=some (decide (b2≥0)):=by
  unfold Qbv Qcj
  rw[Qb6]
  have:Qau N x.Stairs (fun _=>some (-1)) N 0=some b2:=h2
  rw[this,Option.bind_some]
 rw[Qfl,Option.bind_some,h1',h2']
 cases btw x.Stairs.length 1 6 with
 |false=>exact⟨_,rfl⟩
 |true=>cases b1<;>exact⟨_,rfl⟩
theorem Qt8 (N:Nat) {t:Qat}{b:Qa7}(ht:Qhd t) (u:Nat→Bool) (hl:b.Feeds.length≤10):∀(n i:Nat),(b.Feeds.drop i).length<n→∃e,Qc0 N t b u (fun _=>some 0) n i=some e:=by
 have hs:=ht.s
 intro n
 induction n with
 |zero=>intro i h;cases h
 |succ n ih=>
  intro i h
  rw[Qc0]
  cases hd:b.Feeds.drop i with
  |nil=>
   have:=Qd0 hd
   rw[decide_eq_false (show ¬((i:Int)<b.Feeds.length) by omega),cond_false]
   exact⟨_,rfl⟩
  |cons x q=>
   obtain⟨hg,hd',hlt⟩:=Qc6 hd
   have hn:=ih (i+1) (dlt hd hd' h)
   rw[decide_eq_true (show(i:Int)<b.Feeds.length by omega),cond_true,Qdi hg,Option.bind_some,Qqu hs,Option.bind_some,show w64 ((i:Int)+1)=((i+1:Nat):Int) by rw[Qbw (by omega) (by omega)];omega]
   cases h1:btw x 0 (t.Sites-1) with
   |false=>exact⟨_,rfl⟩
   |true=>
    have:=Qe5.1 h1
    rw[show(!true)=false from rfl,cond_false,chkT (ix12 (by omega) (by omega))]
    cases u x.toNat with
    |true=>exact⟨_,rfl⟩
    |false=>exact hn
theorem Qsk {N:Nat}(hN:1000≤N) {t:Qat}{b:Qa7}(ht:Qhd t) (hb:Ql0 t b):∀(n i:Nat) (u:Nat→Bool),(b.Inlets.drop i).length<n→∃e,Qdh N t b (fun y5=>Qcy (fun _=>some 0) fun k7:Unit→Option Int=>Qc0 N t b y5 k7 N 0) n i u=some e:=by
 have hs:=ht.s
 have hl:=hb.il
 have hf:=hb.fl
 intro n
 induction n with
 |zero=>intro i _ h;cases h
 |succ n ih=>
  intro i u h
  rw[Qdh]
  cases hd:b.Inlets.drop i with
  |nil=>
   have:=Qd0 hd
   rw[decide_eq_false (show ¬((i:Int)<b.Inlets.length) by omega),cond_false,Qb6]
   exact Qt8 N ht u hf.2 N 0 (by rw[List.drop_zero];omega)
  |cons x q=>
   obtain⟨hg,hd',hlt⟩:=Qc6 hd
   obtain⟨r,hr⟩:=Qzs (N:=N) hN (hb.inl x (List.mem_of_getElem? hg)).2.n.2
   rw[decide_eq_true (show(i:Int)<b.Inlets.length by omega),cond_true,Qdi hg,Option.bind_some,Qqu hs,Option.bind_some,show w64 ((i:Int)+1)=((i+1:Nat):Int) by rw[Qbw (by omega) (by omega)];omega]
   cases h1:btw x.Site 0 (t.Sites-1) with
   |false=>exact⟨_,rfl⟩
   |true=>
    have:=Qe5.1 h1
    rw[show(!true)=false from rfl,cond_false,chkT (ix12 (by omega) (by omega))]
    cases u x.Site.toNat with
    |true=>exact⟨_,rfl⟩
    |false=>
     rw[cond_false,hr,Option.bind_some]
     cases r with
     |false=>exact⟨_,rfl⟩
     |true=>
      rw[show(!true)=false from rfl,cond_false,chkT (ix12 (by omega) (by omega))]
      exact ih (i+1) _ (dlt hd hd' h)
theorem Q0r {N:Nat}{t:Qat}{b:Qa7}(hN:1000≤N) (ht:Qhd t) (hb:Ql0 t b):∃e,Qec N t b=some e:=by
 have hl:=hb.il
 have hf:=hb.fl
 unfold Qec
 obtain⟨e,he,_⟩:=Q0q (N:=N) (t:=t) hN
 obtain⟨r,hr⟩:=Qr9 N b.Feeds hf.2 N 0 (by rw[List.drop_zero];omega)
 have hr':Qe9 N b.Feeds=some r:=by unfold Qe9;rw[Qb6];exact hr
 rw[he,Option.bind_some]
 cases (e != 0) with
 |true=>exact⟨_,rfl⟩
 |false=>
 rw[cond_false,Qb6,Qfl,Option.bind_some,Qe5.2 (show(1:Int)≤b.Inlets.length∧(b.Inlets.length:Int)≤10 by omega),show(!true)=false from rfl,cond_false,Qfl,Option.bind_some,Qe5.2 (show(1:Int)≤b.Feeds.length∧(b.Feeds.length:Int)≤10 by omega),show(!true)=false from rfl,cond_false,Qfl,Option.bind_some,Qe5.2 hb.fa,show(!true)=false from rfl,cond_false,Qfl,Option.bind_some,Qe5.2 hb.ho,show(!true)=false from rfl,cond_false,hr',Option.bind_some]
 cases r with
 |false=>exact⟨_,rfl⟩
 |true=>
  rw[show(!true)=false from rfl,cond_false,Qb6]
  exact Qsk hN ht hb N 0 _ (by rw[List.drop_zero];omega)
end
section
def keyP (x:Qaa):Int:=x.Stair.Price
def Srt (l:List Qaa):Prop:=l.Pairwise fun a b=>keyP a≤keyP b
def flt (k:Int) (l:List Qaa):List Qaa:=l.filter fun a=>decide (keyP a=k)
def Qhk (l:List Qaa):Prop:=∀x∈l,-1000000≤x.Stair.Price∧x.Stair.Price≤1000000
theorem Qt9 (x:Qaa):(⟨(⟨x.Stair.Amount,x.Stair.Price⟩:Qap),x.inlet⟩:Qaa)=x:=rfl
theorem Qgx (k:Int) (l r:List Qaa):flt k (l++r)=flt k l++flt k r:=List.filter_append ..
theorem Qq7 {k:Int}{l:List Qaa}(h:∀x∈l,keyP x≠k):flt k l=[]:=by
 unfold flt
 rw[List.filter_eq_nil_iff]
 intro x hx
 simpa using h x hx
theorem Qq8 {k:Int}{l:List Qaa}{x:Qaa}(h:x∈flt k l):x∈l∧keyP x=k:=by
 unfold flt at h
 simpa using h
theorem Qze {l:List Qaa}{x:Qaa}(h:x∈l):x∈flt (keyP x) l:=by
 unfold flt
 simp[h]
structure Stb (xs ys:List Qaa):Prop where
 srt:Srt ys
 eqf:∀k,flt k ys=flt k xs
theorem Stb.mem {xs ys:List Qaa}(h:∀k,flt k ys=flt k xs) {x:Qaa}:x∈ys↔x∈xs:=
 ⟨fun hx=>(Qq8 (h (keyP x)▸Qze hx)).1,fun hx=>(Qq8 ((h (keyP x)).symm▸Qze hx)).1⟩
theorem Qzw:∀(l:List Qaa) (x:Qaa),l.count x=(flt (keyP x) l).count x:=fun l x=>by
 unfold flt
 rw[List.count_filter]
 simp
theorem Stb.perm {xs ys:List Qaa}(h:∀k,flt k ys=flt k xs):ys.Perm xs:=by
 rw[List.perm_iff_count]
 intro x
 rw[Qzw ys,Qzw xs,h]
theorem Stb.len {xs ys:List Qaa}(h:∀k,flt k ys=flt k xs):ys.length=xs.length:=(Stb.perm h).length_eq
theorem Stb.small {xs ys:List Qaa}(h:∀k,flt k ys=flt k xs) (hs:Qhk xs):Qhk ys:=fun x hx=>hs x ((Stb.mem h).1 hx)
theorem Qqq {L1 L2 R1 R2 Z1 Z2:List Qaa}(hL:Srt (L1++L2)) (hR:Srt (R1++R2)) (h1:∀x∈L1,∀y∈R2,keyP x≤keyP y) (h2:∀x∈R1,∀y∈L2,keyP x<keyP y) (z1:Stb (L1++R1) Z1) (z2:Stb (L2++R2) Z2) :
  Stb ((L1++L2)++(R1++R2)) (Z1++Z2):=by
 unfold Srt at hL hR
 rw[List.pairwise_append] at hL hR
 refine⟨?_,fun k=>?_⟩
 ·unfold Srt
  rw[List.pairwise_append]
  refine⟨z1.srt,z2.srt,fun x hx y hy=>?_⟩
  have hx':=(Stb.mem z1.eqf).1 hx
  have hy':=(Stb.mem z2.eqf).1 hy
  rcases List.mem_append.1 hx' with a |a<;>rcases List.mem_append.1 hy' with b |b
  ·exact hL.2.2 x a y b
  ·exact h1 x a y b
  ·exact Int.le_of_lt (h2 x a y b)
  ·exact hR.2.2 x a y b
 ·rw[Qgx,z1.eqf,z2.eqf,Qgx,Qgx,Qgx,Qgx,Qgx]
  have key:flt k R1++flt k L2=flt k L2++flt k R1:=by
   cases h:flt k R1 with
   |nil=>simp
   |cons x l=>
    have hx:x∈flt k R1:=by rw[h];exact List.mem_cons_self ..
    have hn:flt k L2=[]:=Qq7 fun y hy e=>by
     have:=h2 x (Qq8 hx).1 y hy
     rw[(Qq8 hx).2,e] at this
     exact absurd this (Int.lt_irrefl _)
    rw[hn]
    simp
  rw[List.append_assoc,List.append_assoc,←List.append_assoc (flt k R1),key]
  simp
theorem Qin {l:List Qaa}(h:Srt l):Stb l l:=⟨h,fun _=>rfl⟩
theorem Qyr:Srt []:=List.Pairwise.nil
theorem at0 {α:Type}(L:List α) (x:α) (M:List α):(L++x::M)[L.length]? = some x:=by
 rw[List.getElem?_append_right (Nat.le_refl _),Nat.sub_self]
 rfl
theorem at1 {α:Type}(L:List α) (x y:α) (M:List α):(L++x::y::M)[L.length+1]? = some y:=by
 rw[List.getElem?_append_right (by omega),Nat.add_sub_cancel_left]
 rfl
theorem set0 {α:Type}(L:List α) (x y:α) (M:List α):(L++x::M).set L.length y=L++y::M:=by
 rw[List.set_append_right _ _ (Nat.le_refl _),Nat.sub_self]
 rfl
theorem set1 {α:Type}(L:List α) (x y z:α) (M:List α):(L++x::y::M).set (L.length+1) z=L++x::z::M:=by
 rw[List.set_append_right _ _ (by omega),Nat.add_sub_cancel_left]
 rfl
theorem at_i {α:Type}{D L M:List α}{x:α}{i:Nat}(h:D=L++x::M) (hi:L.length=i):D[i]? = some x:=by subst h hi;exact at0 ..
theorem Qvj {N:Nat}{a b:Qaa}(ha:-1000000≤a.Stair.Price∧a.Stair.Price≤1000000) (hb:-1000000≤b.Stair.Price∧b.Stair.Price≤1000000):Qb3 N a b=some (keyP a-keyP b):=by
 unfold Qb3 Qhc keyP
 simp only[Option.bind_some]
 rw[Qbw (by omega) (by omega)]
theorem half (x y:Nat) (h:x+y≤1000000):w64 ((IntKind.wrap .u64 (w64 ((x:Int)+(y:Int))))/2)=(((x+y)/2:Nat):Int):=by
 have e1:w64 ((x:Int)+(y:Int))=((x+y:Nat):Int):=by rw[Qbw (by omega) (by omega)];omega
 have e2:IntKind.wrap .u64 ((x+y:Nat):Int)=((x+y:Nat):Int):=by
  rw[IntKind.wrap_u64]
  omega
 rw[e1,e2,Qbw (by omega) (by omega)]
 omega
section
variable {N len : Nat}
theorem Qzr (a:Nat) (K:List Qaa→Option (List Qaa)) (x:Qaa) (A R:List Qaa) (hA:A.length=a) (hlen:len≤1000) (hx:-1000000≤x.Stair.Price∧x.Stair.Price≤1000000):∀(n:Nat) (P Q:List Qaa),P.length<n→Qhk P→(∀q∈Q,keyP x<keyP q)→A.length+P.length+1+Q.length+R.length=len →
  ∃P1 P2,P=P1++P2∧(∀y,P1.getLast? = some y→keyP y≤keyP x)∧(∀q∈P2++Q,keyP x<keyP q) ∧
  Qa0 N len a K n ((A.length+P.length:Nat):Int) (A++P++x::(Q++R))=K (A++P1++x::(P2++Q++R)):=by
 intro n
 induction n with
 |zero=>intro P _ h;cases h
 |succ n ih=>
  intro P Q hn hP hQ hl
  rw[Qa0]
  simp only[Qcy]
  rcases List.eq_nil_or_concat P with rfl |⟨P',y,rfl⟩
  ·refine⟨[],[],rfl,fun y h=>by simp at h,by simpa using hQ,?_⟩
   rw[show decide (((A.length+[].length:Nat):Int)>(a:Int))=false from decide_eq_false (by simp;omega)]
   simp
  ·rw[List.concat_eq_append] at *
   have hl':(P'++[y]).length=P'.length+1:=by simp
   rw[hl'] at hn hl
   have e0:((A.length+(P'++[y]).length:Nat):Int)=(((A++P').length+1:Nat):Int):=by simp;omega
   have e1:w64 ((((A++P').length+1:Nat):Int)-1)=(((A++P').length:Nat):Int):=by
    rw[Qbw (by simp;omega) (by simp;omega)];omega
   have eD:A++(P'++[y])++x::(Q++R)=(A++P')++y::x::(Q++R):=by simp
   have hAP:(A++P').length=A.length+P'.length:=by simp
   rw[e0,eD,show decide ((((A++P').length+1:Nat):Int)>(a:Int))=true from decide_eq_true (by omega),e1]
   have d1:decide (0≤(((A++P').length+1:Nat):Int))=true:=decide_eq_true (by omega)
   have d2:decide ((A++P').length+1<len)=true:=decide_eq_true (by omega)
   have d3:decide (0≤(((A++P').length:Nat):Int))=true:=decide_eq_true (by omega)
   have d4:decide ((A++P').length<len)=true:=decide_eq_true (by omega)
   have hy:=hP y (by simp)
   simp only[cond_true,chk,Int.toNat_natCast,d1,d2,d3,d4,Bool.and_self,at0,at1,Option.bind_some,Qt9,Qvj hx hy,set0,set1]
   by_cases hxy:keyP x<keyP y
   ·rw[show decide (keyP x-keyP y<0)=true from decide_eq_true (by omega),cond_true]
    obtain⟨P1,P2,h1,h2,h3,h4⟩:=ih P' (y::Q) (by omega) (fun z hz=>hP z (by simp[hz])) (fun q hq=>by
     rcases List.mem_cons.1 hq with rfl |hq
     ·exact hxy
     ·exact hQ q hq) (by simp;omega)
    refine⟨P1,P2++[y],by rw[h1];simp,h2,by simpa using h3,?_⟩
    have:=h4
    rw[←hAP] at this
    simp only[List.append_assoc,List.cons_append,List.nil_append] at this ⊢
    exact this
   ·rw[show decide (keyP x-keyP y<0)=false from decide_eq_false (by omega),cond_false]
    refine⟨P'++[y],[],by simp,fun z hz=>?_,by simpa using hQ,by simp⟩
    rw[List.getLast?_concat] at hz
    cases hz
    omega
theorem Q5d {P1 P2:List Qaa}{x:Qaa}(h:Srt (P1++P2)) (h1:∀y,P1.getLast? = some y→keyP y≤keyP x) (h2:∀q∈P2,keyP x<keyP q):Stb (P1++P2++[x]) (P1++x::P2):=by
 have hp:=h
 unfold Srt at hp
 rw[List.pairwise_append] at hp
 have hall:∀y∈P1,keyP y≤keyP x:=by
  rcases List.eq_nil_or_concat P1 with rfl |⟨Q,z,rfl⟩
  ·intro y hy;cases hy
  ·rw[List.concat_eq_append] at *
   have hz:=h1 z (by simp)
   intro y hy
   rcases List.mem_append.1 hy with a |a
   ·have:=hp.1
    rw[List.pairwise_append] at this
    exact Int.le_trans (this.2.2 y a z (by simp)) hz
   ·rw[List.mem_singleton] at a
    subst a
    exact hz
 refine⟨?_,fun k=>?_⟩
 ·unfold Srt
  rw[List.pairwise_append,List.pairwise_cons]
  refine⟨hp.1,⟨fun q hq=>Int.le_of_lt (h2 q hq),hp.2.1⟩,fun y hy q hq=>?_⟩
  rcases List.mem_cons.1 hq with rfl |hq
  ·exact hall y hy
  ·exact hp.2.2 y hy q hq
 ·rw[show P1++x::P2=P1++([x]++P2) from rfl,Qgx,Qgx,Qgx,Qgx,List.append_assoc]
  congr 1
  by_cases e:keyP x=k
  ·have:flt k P2=[]:=Qq7 fun q hq he=>by have:=h2 q hq;omega
   rw[this]
   simp
  ·have:flt k [x]=[]:=Qq7 fun q hq he=>by rw[List.mem_singleton] at hq;subst hq;exact e he
   rw[this]
   simp
theorem Qzq (a b:Nat) (A B:List Qaa) (hA:A.length=a) (hlen:len≤1000) (hN:len<N):∀(n:Nat) (P S:List Qaa),S.length<n→Srt P→Qhk P→Qhk S→1≤P.length→A.length+P.length+S.length=b→b+B.length=len →
  ∃Z,Stb (P++S) Z∧Qas N len a b n ((A.length+P.length:Nat):Int) (A++P++(S++B))=some (A++Z++B):=by
 intro n
 induction n with
 |zero=>intro P S h;cases h
 |succ n ih=>
  intro P S hn hP sP sS h1 hb hl
  rw[Qas]
  cases S with
  |nil=>
   refine⟨P,by simpa using Qin hP,?_⟩
   rw[show decide (((A.length+P.length:Nat):Int)<(b:Int))=false from decide_eq_false (by simp at hb;omega)]
   simp
  |cons x S=>
   simp only[List.length_cons] at hn hb
   rw[show decide (((A.length+P.length:Nat):Int)<(b:Int))=true from decide_eq_true (by omega),cond_true]
   simp only[Qcy]
   obtain⟨P1,P2,e1,e2,e3,e4⟩:=Qzr (N:=N) (len:=len) a (fun y8=>Qas N len a b n (w64 (((A.length+P.length:Nat):Int)+1)) y8) x A (S++B) hA hlen (sS x (by simp)) N P [] (by omega) sP (by simp) (by simp;omega)
   simp only[List.append_nil,List.nil_append] at e3 e4
   have hst:=Q5d (x:=x) (e1▸hP) e2 e3
   obtain⟨Z,z1,z2⟩:=ih (P1++x::P2) S (by omega) hst.srt (Stb.small hst.eqf (fun z hz=>by
    rcases List.mem_append.1 hz with h |h
    ·exact sP z (e1▸h)
    ·rw[List.mem_singleton] at h;subst h;exact sS z (by simp))) (fun z hz=>sS z (by simp[hz])) (by simp;omega) (by rw[e1] at hb;simp at hb ⊢;omega) hl
   refine⟨Z,⟨z1.srt,fun k=>?_⟩,?_⟩
   ·rw[z1.eqf,Qgx,hst.eqf,←Qgx,e1]
    simp
   ·have e5:w64 (((A.length+P.length:Nat):Int)+1)=((A.length+(P1++x::P2).length:Nat):Int):=by
     rw[Qbw (by omega) (by omega),e1]
     simp
     omega
    rw[e5] at e4
    have:=z2
    simp only[List.append_assoc,List.cons_append] at this e4 ⊢
    rw[e5,e4,this]
theorem Q30 (a b:Nat) (A S B:List Qaa) (hA:A.length=a) (hlen:len≤1000) (hN:len<N) (hS:Qhk S) (hb:a+S.length=b) (hl:b+B.length=len):∃Z,Stb S Z∧Qbe N len a b (A++S++B)=some (A++Z++B):=by
 unfold Qbe
 have e1:w64 ((a:Int)+1)=((a+1:Nat):Int):=Qbw (by omega) (by omega)
 rw[e1]
 cases S with
 |nil=>
  refine⟨[],Qin Qyr,?_⟩
  cases N with
  |zero=>omega
  |succ n=>
   rw[Qas,show decide (((a+1:Nat):Int)<(b:Int))=false from decide_eq_false (by simp at hb;omega)]
   rfl
 |cons x S=>
  obtain⟨Z,h1,h2⟩:=Qzq (N:=N) (len:=len) a b A B hA hlen hN N [x] S (by simp at hb;omega) (List.pairwise_singleton ..) (fun z hz=>hS z (by rw[List.mem_singleton] at hz;subst hz;simp)) (fun z hz=>hS z (by simp[hz])) (by simp) (by simp at hb ⊢;omega) hl
  refine⟨Z,h1,?_⟩
  rw[hA] at h2
  simpa using h2
theorem Q2a (a b c:Nat) (hlen:len≤1000) (B:List Qaa):∀(n i:Nat) (X Y A M:List Qaa),X.length<n→X.length=Y.length→A.length=a+i→A.length+X.length+M.length=b+i→i+X.length=c→A.length+X.length+M.length+Y.length+B.length=len →
  Qa9 N len a b c n i (A++X++M++Y++B)=some (A++Y++M++X++B):=by
 intro n
 induction n with
 |zero=>intro i X Y A M h;cases h
 |succ n ih=>
  intro i X Y A M hn hxy ha hb hc hl
  rw[Qa9]
  cases X with
  |nil=>
   cases Y with
   |cons _ _=>simp at hxy
   |nil=>
    rw[show decide ((i:Int)<(c:Int))=false from decide_eq_false (by simp at hc;omega)]
    rfl
  |cons x X=>
   cases Y with
   |nil=>simp at hxy
   |cons y Y=>
    simp only[List.length_cons] at hn hxy hb hc hl
    have e1:w64 ((b:Int)+(i:Int))=((b+i:Nat):Int):=Qbw (by omega) (by omega)
    have e2:w64 ((a:Int)+(i:Int))=((a+i:Nat):Int):=Qbw (by omega) (by omega)
    have e3:w64 ((i:Int)+1)=((i+1:Nat):Int):=Qbw (by omega) (by omega)
    have d1:decide (0≤((b+i:Nat):Int))=true:=decide_eq_true (by omega)
    have d2:decide (b+i<len)=true:=decide_eq_true (by omega)
    have d3:decide (0≤((a+i:Nat):Int))=true:=decide_eq_true (by omega)
    have d4:decide (a+i<len)=true:=decide_eq_true (by omega)
    have g1:(A++x::X++M++y::Y++B)[b+i]? = some y:=at_i (L:=A++x::X++M) (M:=Y++B) (by simp) (by simp;omega)
    have g2:(A++x::X++M++y::Y++B)[a+i]? = some x:=at_i (L:=A) (M:=X++M++y::Y++B) (by simp) ha
    have g3:(A++x::X++M++y::Y++B).set (a+i) y=A++y::X++M++y::Y++B:=by
     rw[←ha]
     simp[set0]
    have g4:(A++y::X++M++y::Y++B)[b+i]? = some y:=at_i (L:=A++y::X++M) (M:=Y++B) (by simp) (by simp;omega)
    have g5:(A++y::X++M++y::Y++B).set (b+i) x=(A++[y])++X++(M++[x])++Y++B:=by
     have hh:b+i=(A++y::X++M).length:=by simp;omega
     rw[hh]
     have:=set0 (A++y::X++M) y x (Y++B)
     simp only[List.append_assoc,List.cons_append,List.nil_append] at this ⊢
     exact this
    rw[show decide ((i:Int)<(c:Int))=true from decide_eq_true (by omega)]
    simp only[cond_true,e1,e2,e3,chk,d1,d2,d3,d4,Bool.and_self,Int.toNat_natCast,g1,g2,Option.bind_some,Qt9,g3,g4,g5]
    rw[ih (i+1) X Y (A++[y]) (M++[x]) (by omega) (by omega) (by simp;omega) (by simp;omega) (by omega) (by simp;omega)]
    simp
theorem Qyq (a b c:Nat) (hlen:len≤1000) (hN:len<N) (A X M Y B:List Qaa) (hxy:X.length=Y.length) (ha:A.length=a) (hb:a+X.length+M.length=b) (hc:X.length=c) (hl:A.length+X.length+M.length+Y.length+B.length=len) :
  Qbm N len a b c (A++X++M++Y++B)=some (A++Y++M++X++B):=
 Q2a a b c hlen B N 0 X Y A M (by omega) hxy (by omega) (by omega) (by omega) hl
theorem Q2h (m:Nat) (hlen:len≤1000) (hN:len<N):∀(n:Nat) (A X Y B:List Qaa),X.length+Y.length<n→0<X.length→0<Y.length→A.length+X.length=m→A.length+X.length+Y.length+B.length=len →
  Qa5 N len m (fun ⟨y2,y3⟩=>(Qbm N len (w64 ((m:Int)-y2)) m y2 y3).bind fun x6=>some x6) n (X.length:Int) (Y.length:Int) (A++X++Y++B)=some (A++Y++X++B):=by
 intro n
 induction n with
 |zero=>intro A X Y B h;cases h
 |succ n ih=>
  intro A X Y B hn hx hy hm hl
  rw[Qa5]
  have e1:w64 ((m:Int)-(X.length:Int))=(A.length:Int):=by rw[Qbw (by omega) (by omega)];omega
  by_cases he:X.length=Y.length
  ·rw[show((X.length:Int) != (Y.length:Int))=false from by simp[he]]
   simp only[cond_false,e1]
   have:=Qyq (N:=N) (len:=len) A.length m X.length hlen hN A X [] Y B he rfl (by simp;omega) rfl (by simp;omega)
   simp only[List.append_nil] at this
   rw[this]
   rfl
  ·rw[show((X.length:Int) != (Y.length:Int))=true from by simp;omega]
   simp only[cond_true]
   by_cases hgt:Y.length<X.length
   ·rw[show decide ((X.length:Int)>(Y.length:Int))=true from decide_eq_true (by omega),cond_true,e1]
    obtain⟨X1,X2,hX,hX1⟩:∃X1 X2,X=X1++X2∧X1.length=Y.length:=⟨X.take Y.length,X.drop Y.length,(List.take_append_drop ..).symm,by simp;omega⟩
    subst hX
    simp only[List.length_append] at hn hx hm hl hgt he e1 ⊢
    have:=Qyq (N:=N) (len:=len) A.length m Y.length hlen hN A X1 X2 Y B hX1 rfl (by omega) hX1 (by omega)
    rw[←List.append_assoc A X1 X2,this]
    simp only[Option.bind_some]
    have e2:w64 (((X1.length+X2.length:Nat):Int)-(Y.length:Int))=(X2.length:Int):=by rw[Qbw (by omega) (by omega)];omega
    have ih':=ih (A++Y) X2 X1 B (by omega) (by omega) (by omega) (by simp;omega) (by simp;omega)
    rw[e2]
    rw[hX1] at ih'
    rw[ih']
    simp
   ·rw[show decide ((X.length:Int)>(Y.length:Int))=false from decide_eq_false (by omega),cond_false,e1]
    obtain⟨Y1,Y2,hY,hY2⟩:∃Y1 Y2,Y=Y1++Y2∧Y2.length=X.length:=⟨Y.take (Y.length-X.length),Y.drop (Y.length-X.length),(List.take_append_drop ..).symm,by simp;omega⟩
    subst hY
    simp only[List.length_append] at hn hy hl hgt he ⊢
    have e2:w64 (w64 ((m:Int)+((Y1.length+Y2.length:Nat):Int))-(X.length:Int))=((m+Y1.length:Nat):Int):=by
     rw[Qbw (x:=(m:Int)+((Y1.length+Y2.length:Nat):Int)) (by omega) (by omega),Qbw (by omega) (by omega)];omega
    have:=Qyq (N:=N) (len:=len) A.length (m+Y1.length) X.length hlen hN A X Y1 Y2 B hY2.symm rfl (by omega) rfl (by omega)
    rw[e2,←List.append_assoc (A++X) Y1 Y2,this]
    simp only[Option.bind_some]
    have e3:w64 (((Y1.length+Y2.length:Nat):Int)-(X.length:Int))=(Y1.length:Int):=by rw[Qbw (by omega) (by omega)];omega
    have ih':=ih A Y2 Y1 (X++B) (by omega) (by omega) (by omega) (by omega) (by simp;omega)
    rw[e3]
    rw[hY2] at ih'
    rw[show A++Y2++Y1++X++B=A++Y2++Y1++(X++B) from by simp,ih']
    simp
theorem Q8m (a m b:Nat) (hlen:len≤1000) (hN:len<N) (A X Y B:List Qaa) (hx:0<X.length) (hy:0<Y.length) (ha:A.length=a) (hm:a+X.length=m) (hb:m+Y.length=b) (hl:b+B.length=len) :
  Qca N len a m b (A++X++Y++B)=some (A++Y++X++B):=by
 unfold Qca
 have e1:w64 ((m:Int)-(a:Int))=(X.length:Int):=by rw[Qbw (by omega) (by omega)];omega
 have e2:w64 ((b:Int)-(m:Int))=(Y.length:Int):=by rw[Qbw (by omega) (by omega)];omega
 simp only[Qcy,e1,e2]
 exact Q2h m hlen hN N A X Y B (by omega) hx hy (by omega) (by omega)
end
end
section
section
variable {N len : Nat}
def Anti (p:Nat→Bool) (lo hi:Nat):Prop:=∀i j,lo≤i→i<j→j<hi→p j=true→p i=true
theorem Qt6 {x y:Nat}(h:x<y):x≤(x+y)/2∧(x+y)/2<y:=by omega
theorem Q94 (a:Nat) (D:List Qaa) (p:Nat→Bool) (lo hi:Nat) (hp:Anti p lo hi) (hhi:hi≤len) (hlen:len≤1000) (hal:a<len) (hev:∀c,lo≤c→c<hi→∃u v,D[c]? = some u∧D[a]? = some v∧(-1000000≤u.Stair.Price∧u.Stair.Price≤1000000)∧(-1000000≤v.Stair.Price∧v.Stair.Price≤1000000)∧decide (keyP u<keyP v)=p c) :
    ∀(n x y:Nat),y-x<n→x≤y→lo≤x→y≤hi→(∀i,lo≤i→i<x→p i=true)→(∀i,y≤i→i<hi→p i=false) →
    ∃r,x≤r∧r≤y∧(∀i,lo≤i→i<r→p i=true)∧(∀i,r≤i→i<hi→p i=false)∧∀K:Int→Option (List Qaa),slices_symMergeCmpFunc_inject_offerX_2_loop5 N len a D K n x y=K r:=by
  intro n
  induction n with
  |zero=>intro x y h;cases h
  |succ n ih=>
    intro x y hn hxy h1 h2 h3 h4
    have ex:=fun K:Int→Option (List Qaa)=>slices_symMergeCmpFunc_inject_offerX_2_loop5.eq_2 N len a D K x y n
    rcases Nat.eq_or_lt_of_le hxy with rfl |hlt
    · refine⟨x,Nat.le_refl _,Nat.le_refl _,h3,h4,fun K=>?_⟩
      rw[ex,show decide ((x:Int)<(x:Int))=false from decide_eq_false (by omega)]
      rfl
    · have hb:=Qt6 hlt
      obtain⟨u,v,g1,g2,g3,g4,g5⟩:=hev ((x+y)/2) (by omega) (by omega)
      have e1:w64 ((((x+y)/2:Nat):Int)+1)=(((x+y)/2+1:Nat):Int):=Qbw (by omega) (by omega)
      have d1:decide (0≤(((x+y)/2:Nat):Int))=true:=decide_eq_true (by omega)
      have d2:decide ((x+y)/2<len)=true:=decide_eq_true (by omega)
      have d3:decide (0≤(a:Int))=true:=decide_eq_true (by omega)
      have d4:decide (a<len)=true:=decide_eq_true hal
      rw[show decide ((x:Int)<(y:Int))=true from decide_eq_true (by omega)] at ex
      simp only[cond_true,half x y (by omega),Option.bind_some,chk,Int.toNat_natCast,d1,d2,d3,d4,Bool.and_self,g1,g2,Qt9,Qvj g3 g4,e1] at ex
      cases hpc:p ((x+y)/2) with
      |true=>
        rw[hpc] at g5
        rw[show decide (keyP u-keyP v<0)=true from decide_eq_true (by have:=of_decide_eq_true g5;omega)] at ex
        obtain⟨r,r1,r2,r3,r4,r5⟩:=ih ((x+y)/2+1) y (by omega) (by omega) (by omega) h2 (fun i i1 i2=>by
          rcases Nat.eq_or_lt_of_le (Nat.le_of_lt_succ i2) with rfl |hlt'
          · exact hpc
          · exact hp i _ i1 hlt' (by omega) hpc) h4
        exact⟨r,by omega,r2,r3,r4,fun K=>(ex K).trans (r5 K)⟩
      |false=>
        rw[hpc] at g5
        rw[show decide (keyP u-keyP v<0)=false from decide_eq_false (by have:=of_decide_eq_false g5;omega)] at ex
        obtain⟨r,r1,r2,r3,r4,r5⟩:=ih x ((x+y)/2) (by omega) (by omega) h1 (by omega) h3 (fun i i1 i2=>by
          rcases Nat.eq_or_lt_of_le i1 with rfl |hlt'
          · exact hpc
          · cases hpi:p i with
            |false=>rfl
            |true=>rw[hp _ i (by omega) hlt' i2 hpi] at hpc;cases hpc)
        exact⟨r,r1,by omega,r3,r4,fun K=>(ex K).trans (r5 K)⟩
theorem Q95 (m:Nat) (D:List Qaa) (p:Nat→Bool) (lo hi:Nat) (hp:Anti p lo hi) (hhi:hi≤len) (hlen:len≤1000) (hal:m<len) (hev:∀c,lo≤c→c<hi→∃u v,D[m]? = some u∧D[c]? = some v∧(-1000000≤u.Stair.Price∧u.Stair.Price≤1000000)∧(-1000000≤v.Stair.Price∧v.Stair.Price≤1000000)∧(!decide (keyP u<keyP v))=p c) :
    ∀(n x y:Nat),y-x<n→x≤y→lo≤x→y≤hi→(∀i,lo≤i→i<x→p i=true)→(∀i,y≤i→i<hi→p i=false) →
    ∃r,x≤r∧r≤y∧(∀i,lo≤i→i<r→p i=true)∧(∀i,r≤i→i<hi→p i=false)∧∀K:Int→Option (List Qaa),slices_symMergeCmpFunc_inject_offerX_2_loop3 N len m D K n x y=K r:=by
  intro n
  induction n with
  |zero=>intro x y h;cases h
  |succ n ih=>
    intro x y hn hxy h1 h2 h3 h4
    have ex:=fun K:Int→Option (List Qaa)=>slices_symMergeCmpFunc_inject_offerX_2_loop3.eq_2 N len m D K x y n
    rcases Nat.eq_or_lt_of_le hxy with rfl |hlt
    · refine⟨x,Nat.le_refl _,Nat.le_refl _,h3,h4,fun K=>?_⟩
      rw[ex,show decide ((x:Int)<(x:Int))=false from decide_eq_false (by omega)]
      rfl
    · have hb:=Qt6 hlt
      obtain⟨u,v,g1,g2,g3,g4,g5⟩:=hev ((x+y)/2) (by omega) (by omega)
      have e1:w64 ((((x+y)/2:Nat):Int)+1)=(((x+y)/2+1:Nat):Int):=Qbw (by omega) (by omega)
      have d1:decide (0≤(((x+y)/2:Nat):Int))=true:=decide_eq_true (by omega)
      have d2:decide ((x+y)/2<len)=true:=decide_eq_true (by omega)
      have d3:decide (0≤(m:Int))=true:=decide_eq_true (by omega)
      have d4:decide (m<len)=true:=decide_eq_true hal
      rw[show decide ((x:Int)<(y:Int))=true from decide_eq_true (by omega)] at ex
      simp only[cond_true,half x y (by omega),Option.bind_some,chk,Int.toNat_natCast,d1,d2,d3,d4,Bool.and_self,g1,g2,Qt9,Qvj g3 g4,e1] at ex
      cases hpc:p ((x+y)/2) with
      |true=>
        rw[hpc,Bool.not_eq_true'] at g5
        rw[show decide (keyP u-keyP v<0)=false from decide_eq_false (by have:=of_decide_eq_false g5;omega)] at ex
        obtain⟨r,r1,r2,r3,r4,r5⟩:=ih ((x+y)/2+1) y (by omega) (by omega) (by omega) h2 (fun i i1 i2=>by
          rcases Nat.eq_or_lt_of_le (Nat.le_of_lt_succ i2) with rfl |hlt'
          · exact hpc
          · exact hp i _ i1 hlt' (by omega) hpc) h4
        exact⟨r,by omega,r2,r3,r4,fun K=>(ex K).trans (r5 K)⟩
      |false=>
        rw[hpc,Bool.not_eq_false'] at g5
        rw[show decide (keyP u-keyP v<0)=true from decide_eq_true (by have:=of_decide_eq_true g5;omega)] at ex
        obtain⟨r,r1,r2,r3,r4,r5⟩:=ih x ((x+y)/2) (by omega) (by omega) h1 (by omega) h3 (fun i i1 i2=>by
          rcases Nat.eq_or_lt_of_le i1 with rfl |hlt'
          · exact hpc
          · cases hpi:p i with
            |false=>rfl
            |true=>rw[hp _ i (by omega) hlt' i2 hpi] at hpc;cases hpc)
        exact⟨r,r1,by omega,r3,r4,fun K=>(ex K).trans (r5 K)⟩
theorem Q96 (q:Nat) (D:List Qaa) (p:Nat→Bool) (lo hi:Nat) (hp:Anti p lo hi) (hhi:hi≤len) (hlen:len≤1000) (hq:∀c,lo≤c→c<hi→c≤q∧q-c<len) (hev:∀c,lo≤c→c<hi→∃u v,D[q-c]? = some u∧D[c]? = some v∧(-1000000≤u.Stair.Price∧u.Stair.Price≤1000000)∧(-1000000≤v.Stair.Price∧v.Stair.Price≤1000000)∧(!decide (keyP u<keyP v))=p c) :
    ∀(n x y:Nat),y-x<n→x≤y→lo≤x→y≤hi→(∀i,lo≤i→i<x→p i=true)→(∀i,y≤i→i<hi→p i=false) →
    ∃r,x≤r∧r≤y∧(∀i,lo≤i→i<r→p i=true)∧(∀i,r≤i→i<hi→p i=false)∧∀K:Int→Option (List Qaa),slices_symMergeCmpFunc_inject_offerX_2_loop1 N len D q K n x y=K r:=by
  intro n
  induction n with
  |zero=>intro x y h;cases h
  |succ n ih=>
    intro x y hn hxy h1 h2 h3 h4
    have ex:=fun K:Int→Option (List Qaa)=>slices_symMergeCmpFunc_inject_offerX_2_loop1.eq_2 N len D q K x y n
    rcases Nat.eq_or_lt_of_le hxy with rfl |hlt
    · refine⟨x,Nat.le_refl _,Nat.le_refl _,h3,h4,fun K=>?_⟩
      rw[ex,show decide ((x:Int)<(x:Int))=false from decide_eq_false (by omega)]
      rfl
    · have hb:=Qt6 hlt
      obtain⟨u,v,g1,g2,g3,g4,g5⟩:=hev ((x+y)/2) (by omega) (by omega)
      obtain⟨q1,q2⟩:=hq ((x+y)/2) (by omega) (by omega)
      have e1:w64 ((((x+y)/2:Nat):Int)+1)=(((x+y)/2+1:Nat):Int):=Qbw (by omega) (by omega)
      have e2:w64 ((q:Int)-(((x+y)/2:Nat):Int))=((q-(x+y)/2:Nat):Int):=by rw[Qbw (by omega) (by omega)];omega
      have d1:decide (0≤(((x+y)/2:Nat):Int))=true:=decide_eq_true (by omega)
      have d2:decide ((x+y)/2<len)=true:=decide_eq_true (by omega)
      have d3:decide (0≤((q-(x+y)/2:Nat):Int))=true:=decide_eq_true (by omega)
      have d4:decide (q-(x+y)/2<len)=true:=decide_eq_true q2
      rw[show decide ((x:Int)<(y:Int))=true from decide_eq_true (by omega)] at ex
      simp only[cond_true,half x y (by omega),Option.bind_some,e2,chk,Int.toNat_natCast,d1,d2,d3,d4,Bool.and_self,g1,g2,Qt9,Qvj g3 g4,e1] at ex
      cases hpc:p ((x+y)/2) with
      |true=>
        rw[hpc,Bool.not_eq_true'] at g5
        rw[show decide (keyP u-keyP v<0)=false from decide_eq_false (by have:=of_decide_eq_false g5;omega)] at ex
        obtain⟨r,r1,r2,r3,r4,r5⟩:=ih ((x+y)/2+1) y (by omega) (by omega) (by omega) h2 (fun i i1 i2=>by
          rcases Nat.eq_or_lt_of_le (Nat.le_of_lt_succ i2) with rfl |hlt'
          · exact hpc
          · exact hp i _ i1 hlt' (by omega) hpc) h4
        exact⟨r,by omega,r2,r3,r4,fun K=>(ex K).trans (r5 K)⟩
      |false=>
        rw[hpc,Bool.not_eq_false'] at g5
        rw[show decide (keyP u-keyP v<0)=true from decide_eq_true (by have:=of_decide_eq_true g5;omega)] at ex
        obtain⟨r,r1,r2,r3,r4,r5⟩:=ih x ((x+y)/2) (by omega) (by omega) h1 (by omega) h3 (fun i i1 i2=>by
          rcases Nat.eq_or_lt_of_le i1 with rfl |hlt'
          · exact hpc
          · cases hpi:p i with
            |false=>rfl
            |true=>rw[hp _ i (by omega) hlt' i2 hpi] at hpc;cases hpc)
        exact⟨r,r1,by omega,r3,r4,fun K=>(ex K).trans (r5 K)⟩
theorem Q8t (hlen:len≤1000) (K:List Qaa→Option (List Qaa)) (x:Qaa) (i:Nat):∀(n:Nat) (A R B:List Qaa),R.length<n→A.length+R.length+1=i→A.length+1+R.length+B.length=len →
    Qbb N len i K n (A.length:Int) (A++x::(R++B))=K (A++R++x::B):=by
  intro n
  induction n with
  |zero=>intro A R B h;cases h
  |succ n ih=>
    intro A R B hn hi hl
    rw[Qbb]
    have e0:w64 ((i:Int)-1)=((i-1:Nat):Int):=by rw[Qbw (by omega) (by omega)];omega
    rw[e0]
    cases R with
    |nil=>
      rw[show decide ((A.length:Int)<((i-1:Nat):Int))=false from decide_eq_false (by simp at hi;omega)]
      simp
    |cons y R=>
      simp only[List.length_cons] at hn hi hl
      have e1:w64 ((A.length:Int)+1)=((A.length+1:Nat):Int):=Qbw (by omega) (by omega)
      have d1:decide (0≤((A.length+1:Nat):Int))=true:=decide_eq_true (by omega)
      have d2:decide (A.length+1<len)=true:=decide_eq_true (by omega)
      have d3:decide (0≤(A.length:Int))=true:=decide_eq_true (by omega)
      have d4:decide (A.length<len)=true:=decide_eq_true (by omega)
      rw[show decide ((A.length:Int)<((i-1:Nat):Int))=true from decide_eq_true (by omega)]
      simp only[cond_true,e1,chk,Int.toNat_natCast,d1,d2,d3,d4,Bool.and_self,List.cons_append,at0,at1,Option.bind_some,Qt9,set0,set1]
      have ih':=ih (A++[y]) R B (by omega) (by simp;omega) (by simp;omega)
      have e2:(((A++[y]).length:Nat):Int)=((A.length+1:Nat):Int):=by simp
      rw[e2] at ih'
      simpa using ih'
theorem Q2n (hlen:len≤1000) (K:List Qaa→Option (List Qaa)) (x:Qaa) (i:Nat):∀(n:Nat) (A R B:List Qaa),R.length<n→A.length=i→A.length+1+R.length+B.length=len →
    Qbc N len i K n ((A.length+R.length:Nat):Int) (A++R++x::B)=K (A++x::(R++B)):=by
  intro n
  induction n with
  |zero=>intro A R B h;cases h
  |succ n ih=>
    intro A R B hn hi hl
    rw[Qbc]
    rcases List.eq_nil_or_concat R with rfl |⟨R',y,rfl⟩
    · rw[show decide (((A.length+[].length:Nat):Int)>(i:Int))=false from decide_eq_false (by simp;omega)]
      simp
    · rw[List.concat_eq_append] at *
      have hl':(R'++[y]).length=R'.length+1:=by simp
      rw[hl'] at hn hl
      have e0:((A.length+(R'++[y]).length:Nat):Int)=(((A++R').length+1:Nat):Int):=by simp;omega
      have hAP:(A++R').length=A.length+R'.length:=by simp
      have e1:w64 ((((A++R').length+1:Nat):Int)-1)=(((A++R').length:Nat):Int):=by
        rw[Qbw (by omega) (by omega)];omega
      have eD:A++(R'++[y])++x::B=(A++R')++y::x::B:=by simp
      rw[e0,eD,show decide ((((A++R').length+1:Nat):Int)>(i:Int))=true from decide_eq_true (by omega),e1]
      have d1:decide (0≤(((A++R').length+1:Nat):Int))=true:=decide_eq_true (by omega)
      have d2:decide ((A++R').length+1<len)=true:=decide_eq_true (by omega)
      have d3:decide (0≤(((A++R').length:Nat):Int))=true:=decide_eq_true (by omega)
      have d4:decide ((A++R').length<len)=true:=decide_eq_true (by omega)
      simp only[cond_true,chk,Int.toNat_natCast,d1,d2,d3,d4,Bool.and_self,at0,at1,Option.bind_some,Qt9,set0,set1]
      have ih':=ih A R' (y::B) (by omega) hi (by simp;omega)
      rw[←hAP] at ih'
      simpa using ih'
theorem idx {D A S B:List Qaa}{a:Nat}(h:D=A++S++B) (ha:A.length=a) {c:Nat}(h1:a≤c) (h2:c<a+S.length):∃u,D[c]? = some u∧u∈S∧S[c-a]? = some u:=by
  have hlt:c-a<S.length:=by omega
  refine⟨S[c-a],?_,List.getElem_mem hlt,List.getElem?_eq_getElem hlt⟩
  subst h
  rw[List.append_assoc,List.getElem?_append_right (by omega),List.getElem?_append_left (by omega),ha,List.getElem?_eq_getElem hlt]
theorem Qns {S:List Qaa}(h:Srt S) {i j:Nat}{u v:Qaa}(hij:i≤j) (hi:S[i]? = some u) (hj:S[j]? = some v):keyP u≤keyP v:=by
  rcases Nat.eq_or_lt_of_le hij with rfl |hlt
  · rw[hi] at hj;cases hj;exact Int.le_refl _
  · obtain⟨hi1,hi2⟩:=List.getElem?_eq_some_iff.1 hi
    obtain⟨hj1,hj2⟩:=List.getElem?_eq_some_iff.1 hj
    have:=List.pairwise_iff_getElem.1 h i j hi1 hj1 hlt
    rw[hi2,hj2] at this
    exact this
theorem cut {α:Type}(S:List α) (k:Nat) (h:k≤S.length):∃S1 S2,S=S1++S2∧S1.length=k:=⟨S.take k,S.drop k,(List.take_append_drop ..).symm,by simp;omega⟩
theorem Qnu {S:List Qaa}{x:Qaa}(h:x∈S):∃i,i<S.length∧S[i]? = some x:=by
  obtain⟨i,hi⟩:=List.getElem?_of_mem h
  exact⟨i,(List.getElem?_eq_some_iff.1 hi).1,hi⟩
theorem Qir {A B:List Qaa}(h:Srt (A++B)):Srt A:=(List.pairwise_append.1 h).1
theorem Qiq {A B:List Qaa}(h:Srt (A++B)):Srt B:=(List.pairwise_append.1 h).2.1
theorem Qm1 {u v:Qaa}(h:(!decide (keyP u<keyP v))=true):keyP v≤keyP u:=by
  simp only[Bool.not_eq_true',decide_eq_false_iff_not] at h
  omega
theorem Qsg {u v:Qaa}(h:(!decide (keyP u<keyP v))=false):keyP u<keyP v:=by
  simpa using h
theorem seek (hlen:len≤1000) (hN:len<N) {A L R B:List Qaa}{a m b:Nat}(ha:A.length=a) (hm:a+L.length=m) (hb:m+R.length=b) (hl:b+B.length=len) (hL:Srt L) (hR:Srt R) (sL:Qhk L) (sR:Qhk R) (hL0:0<L.length) (hR0:0<R.length) :
    ∃s,a≤s∧s≤m∧s≤(a+b)/2∧(a+b)/2+m≤b+s ∧
      (∀u v,a<s→s-1<m→(a+b)/2+m-s<b→L[s-1-a]? = some u→R[(a+b)/2-s]? = some v→keyP u≤keyP v) ∧
      (∀u v,s<m→s<(a+b)/2→L[s-a]? = some u→R[(a+b)/2-s-1]? = some v→keyP v<keyP u) ∧
      ∀K:Int→Option (List Qaa),(bif decide ((m:Int)>(((a+b)/2:Nat):Int)) then(some (w64 ((w64 ((((a+b)/2:Nat):Int)+(m:Int)))-(b:Int)))).bind (fun x50=>slices_symMergeCmpFunc_inject_offerX_2_loop1 N len (A++L++R++B) (((a+b)/2+m-1:Nat):Int) K N x50 (((a+b)/2:Nat):Int))
        else slices_symMergeCmpFunc_inject_offerX_2_loop1 N len (A++L++R++B) (((a+b)/2+m-1:Nat):Int) K N (a:Int) (m:Int))=K s:=by
  generalize hmid:(a+b)/2=mid
  have hD1:A++L++R++B=A++L++(R++B):=by simp
  have hD2:A++L++R++B=(A++L)++R++B:=rfl
  have hAL:(A++L).length=m:=by simp;omega
  have gL:=fun c (h1:a≤c) (h2:c<m)=>idx hD1 ha h1 (by omega:c<a+L.length)
  have gR:=fun c (h1:m≤c) (h2:c<b)=>idx hD2 hAL h1 (by omega:c<m+R.length)
  let p:Nat→Bool:=fun c=>match (A++L++R++B)[mid+m-1-c]?,(A++L++R++B)[c]? with |some u,some v=>!decide (keyP u<keyP v) |_,_=>false
  have hpe:∀c u v,(A++L++R++B)[mid+m-1-c]? = some u→(A++L++R++B)[c]? = some v→p c=!decide (keyP u<keyP v):=fun c u v h1 h2=>by
    show(match (A++L++R++B)[mid+m-1-c]?,(A++L++R++B)[c]? with |some u,some v=>!decide (keyP u<keyP v) |_,_=>false)=_
    rw[h1,h2]
  have main:∀s0 r0:Nat,a≤s0→s0≤r0→r0≤m→r0≤mid→(s0=a∨s0+b=mid+m)→(r0=m∨r0=mid)→mid+m≤b+s0 →
      ∃s,s0≤s∧s≤r0 ∧
      (∀u v,a<s→s-1<m→mid+m-s<b→L[s-1-a]? = some u→R[mid-s]? = some v→keyP u≤keyP v) ∧
      (∀u v,s<m→s<mid→L[s-a]? = some u→R[mid-s-1]? = some v→keyP v<keyP u) ∧
      ∀K:Int→Option (List Qaa),slices_symMergeCmpFunc_inject_offerX_2_loop1 N len (A++L++R++B) ((mid+m-1:Nat):Int) K N (s0:Int) (r0:Int)=K s:=by
    intro s0 r0 h1 h2 h3 h4 h5 h6 h7
    have ev:∀c,s0≤c→c<r0→∃u v,(A++L++R++B)[mid+m-1-c]? = some u∧(A++L++R++B)[c]? = some v∧u∈R∧v∈L∧R[mid-1-c]? = some u∧L[c-a]? = some v:=fun c c1 c2=>by
      obtain⟨v,v1,v2,v3⟩:=gL c (by omega) (by omega)
      obtain⟨u,u1,u2,u3⟩:=gR (mid+m-1-c) (by omega) (by omega)
      rw[show mid+m-1-c-m=mid-1-c from by omega] at u3
      exact⟨u,v,u1,v1,u2,v2,u3,v3⟩
    have anti:Anti p s0 r0:=fun i j i1 i2 i3 hj=>by
      obtain⟨u,v,u1,v1,_,_,u3,v3⟩:=ev i i1 (by omega)
      obtain⟨u',v',u1',v1',_,_,u3',v3'⟩:=ev j (by omega) i3
      rw[hpe j u' v' u1' v1'] at hj
      rw[hpe i u v u1 v1]
      have e1:=Qm1 hj
      have e2:=Qns hL (by omega:i-a≤j-a) v3 v3'
      have e3:=Qns hR (by omega:mid-1-j≤mid-1-i) u3' u3
      simp only[Bool.not_eq_true',decide_eq_false_iff_not]
      omega
    obtain⟨s,s1,s2,s3,s4,s5⟩:=Q96 (N:=N) (len:=len) (mid+m-1) (A++L++R++B) p s0 r0 anti (by omega) hlen (fun c c1 c2=>by omega) (fun c c1 c2=>by
      obtain⟨u,v,u1,v1,u2,v2,_,_⟩:=ev c c1 c2
      exact⟨u,v,u1,v1,sR u u2,sL v v2,(hpe c u v u1 v1).symm⟩) N s0 r0 (by omega) h2 (Nat.le_refl _) (Nat.le_refl _) (fun i i1 i2=>by omega) (fun i i1 i2=>by omega)
    refine⟨s,s1,s2,fun u v q1 q2 q3 hu hv=>?_,fun u v q1 q2 hu hv=>?_,s5⟩
    · rcases Nat.eq_or_lt_of_le s1 with e |hlt
      · omega
      · have hp:=s3 (s-1) (by omega) (by omega)
        obtain⟨u',v',u1,v1,_,_,u3,v3⟩:=ev (s-1) (by omega) (by omega)
        rw[hpe (s-1) u' v' u1 v1] at hp
        rw[show mid-1-(s-1)=mid-s from by omega,hv] at u3
        rw[hu] at v3
        cases u3
        cases v3
        exact Qm1 hp
    · rcases Nat.eq_or_lt_of_le s2 with e |hlt
      · omega
      · have hp:=s4 s (Nat.le_refl _) hlt
        obtain⟨u',v',u1,v1,_,_,u3,v3⟩:=ev s (by omega) hlt
        rw[hpe s u' v' u1 v1] at hp
        rw[show mid-1-s=mid-s-1 from by omega,hv] at u3
        rw[hu] at v3
        cases u3
        cases v3
        exact Qsg hp
  by_cases hc:m>mid
  · obtain⟨s,q1,q2,q3,q4,q5⟩:=main (mid+m-b) mid (by omega) (by omega) (by omega) (by omega) (Or.inr (by omega)) (Or.inr rfl) (by omega)
    refine⟨s,by omega,by omega,by omega,by omega,q3,q4,fun K=>?_⟩
    have e1:w64 ((w64 ((mid:Int)+(m:Int)))-(b:Int))=((mid+m-b:Nat):Int):=by
      rw[Qbw (x:=(mid:Int)+(m:Int)) (by omega) (by omega),Qbw (by omega) (by omega)];omega
    rw[show decide ((m:Int)>(mid:Int))=true from decide_eq_true (by omega),cond_true,Option.bind_some,e1]
    exact q5 K
  · obtain⟨s,q1,q2,q3,q4,q5⟩:=main a m (by omega) (by omega) (by omega) (by omega) (Or.inl rfl) (Or.inl rfl) (by omega)
    refine⟨s,by omega,by omega,by omega,by omega,q3,q4,fun K=>?_⟩
    rw[show decide ((m:Int)>(mid:Int))=false from decide_eq_false (by omega),cond_false]
    exact q5 K
theorem Q9c {S T:List Qaa}(hS:Srt S) (hT:Srt T) (h:∀u v,S[S.length-1]? = some u→T[0]? = some v→keyP u≤keyP v):∀x∈S,∀y∈T,keyP x≤keyP y:=by
  intro x hx y hy
  obtain⟨i,i1,i2⟩:=Qnu hx
  obtain⟨j,j1,j2⟩:=Qnu hy
  obtain⟨u,hu⟩:∃u,S[S.length-1]? = some u:=⟨_,List.getElem?_eq_getElem (by omega)⟩
  obtain⟨v,hv⟩:∃v,T[0]? = some v:=⟨_,List.getElem?_eq_getElem (by omega)⟩
  have:=h u v hu hv
  have:=Qns hS (by omega:i≤S.length-1) i2 hu
  have:=Qns hT (Nat.zero_le j) hv j2
  omega
theorem Q9b {S T:List Qaa}(hS:Srt S) (hT:Srt T) (h:∀u v,S[S.length-1]? = some u→T[0]? = some v→keyP u<keyP v):∀x∈S,∀y∈T,keyP x<keyP y:=by
  intro x hx y hy
  obtain⟨i,i1,i2⟩:=Qnu hx
  obtain⟨j,j1,j2⟩:=Qnu hy
  obtain⟨u,hu⟩:∃u,S[S.length-1]? = some u:=⟨_,List.getElem?_eq_getElem (by omega)⟩
  obtain⟨v,hv⟩:∃v,T[0]? = some v:=⟨_,List.getElem?_eq_getElem (by omega)⟩
  have:=h u v hu hv
  have:=Qns hS (by omega:i≤S.length-1) i2 hu
  have:=Qns hT (Nat.zero_le j) hv j2
  omega
end
theorem Q3r {len:Nat}(hlen:len≤1000):∀(n:Nat) (A L R B:List Qaa) (a m b:Nat),A.length=a→a+L.length=m→m+R.length=b→b+B.length=len→0<L.length→0<R.length→Srt L→Srt R→Qhk L→Qhk R→len+(L.length+R.length)<n →
    ∃Z,Stb (L++R) Z∧Qax n len a m b (A++L++R++B)=some (A++Z++B):=by
  intro n
  induction n with
  |zero=>intro A L R B a m b _ _ _ _ _ _ _ _ _ _ h;cases h
  |succ N ih=>
    intro A L R B a m b ha hm hb hl hL0 hR0 hL hR sL sR hn
    have hN:len<N:=by omega
    rw[Qax]
    unfold Qcu
    have e1:w64 ((m:Int)-(a:Int))=(L.length:Int):=by rw[Qbw (by omega) (by omega)];omega
    have e2:w64 ((b:Int)-(m:Int))=(R.length:Int):=by rw[Qbw (by omega) (by omega)];omega
    have hD1:A++L++R++B=A++L++(R++B):=by simp
    have hD2:A++L++R++B=(A++L)++R++B:=rfl
    have hAL:(A++L).length=m:=by simp;omega
    have gL:=fun c (h1:a≤c) (h2:c<m)=>idx hD1 ha h1 (by omega:c<a+L.length)
    have gR:=fun c (h1:m≤c) (h2:c<b)=>idx hD2 hAL h1 (by omega:c<m+R.length)
    simp only[Qcy,e1,e2]
    by_cases hL1:L.length=1
    · rw[show((L.length:Int)==1)=true from by simp[hL1],cond_true]
      obtain⟨x,rfl⟩:=List.length_eq_one_iff.1 hL1
      have hx:(A++[x]++R++B)[a]? = some x:=at_i (L:=A) (M:=R++B) (by simp) ha
      have sx:=sL x (by simp)
      let p:Nat→Bool:=fun c=>match (A++[x]++R++B)[c]? with |some u=>decide (keyP u<keyP x) |none=>false
      have hpe:∀c u,(A++[x]++R++B)[c]? = some u→p c=decide (keyP u<keyP x):=fun c u h=>by
        show(match (A++[x]++R++B)[c]? with |some u=>decide (keyP u<keyP x) |none=>false)=_
        rw[h]
      have anti:Anti p m b:=fun i j i1 i2 i3 hj=>by
        obtain⟨u,u1,_,u3⟩:=gR i i1 (by omega)
        obtain⟨v,v1,_,v3⟩:=gR j (by omega) i3
        rw[hpe j v v1,decide_eq_true_eq] at hj
        rw[hpe i u u1,decide_eq_true_eq]
        have:=Qns hR (by omega:i-m≤j-m) u3 v3
        omega
      obtain⟨r,r1,r2,r3,r4,r5⟩:=Q94 (N:=N) (len:=len) a (A++[x]++R++B) p m b anti (by omega) hlen (by simp at hm;omega) (fun c c1 c2=>by
        obtain⟨u,u1,u2,_⟩:=gR c c1 c2
        exact⟨u,x,u1,hx,sR u u2,sx,(hpe c u u1).symm⟩) N m b (by omega) (by omega) (Nat.le_refl _) (Nat.le_refl _) (fun i i1 i2=>by omega) (fun i i1 i2=>by omega)
      obtain⟨R1,R2,hRR,hR1⟩:=cut R (r-m) (by omega)
      have c1:∀y∈R1,keyP y<keyP x:=fun y hy=>by
        obtain⟨i,i1,i2⟩:=Qnu hy
        obtain⟨u,u1,_,u3⟩:=gR (m+i) (by omega) (by omega)
        have:=r3 (m+i) (by omega) (by omega)
        rw[hpe _ u u1,decide_eq_true_eq] at this
        rw[hRR,show m+i-m=i from by omega,List.getElem?_append_left i1,i2] at u3
        cases u3
        exact this
      have c2:∀y∈R2,keyP x≤keyP y:=fun y hy=>by
        obtain⟨i,i1,i2⟩:=Qnu hy
        have hlR:R.length=R1.length+R2.length:=by rw[hRR];simp
        obtain⟨u,u1,_,u3⟩:=gR (r+i) (by omega) (by omega)
        have:=r4 (r+i) (by omega) (by omega)
        rw[hpe _ u u1,decide_eq_false_iff_not] at this
        rw[hRR,show r+i-m=R1.length+i from by omega,List.getElem?_append_right (by omega),Nat.add_sub_cancel_left,i2] at u3
        cases u3
        omega
      have hR':=hR
      rw[hRR] at hR'
      refine⟨R1++(x::R2),?_,?_⟩
      · have:=Qqq (L1:=[]) (L2:=[x]) (R1:=R1) (R2:=R2) (Z1:=R1) (Z2:=x::R2) (List.pairwise_singleton ..) hR' (fun _ h=>by cases h) (fun y hy z hz=>by
          rw[List.mem_singleton] at hz
          subst hz
          exact c1 y hy) (Qin (Qir hR')) (Qin (List.pairwise_cons.2 ⟨c2,Qiq hR'⟩))
        rw[hRR]
        simpa using this
      · rw[r5]
        have:=Q8t (N:=N) hlen (fun y95=>some y95) x r N A R1 (R2++B) (by omega) (by simp at hm;omega) (by rw[hRR] at hb;simp at hb hm ⊢;omega)
        rw[ha] at this
        rw[hRR]
        simp only[List.append_assoc,List.cons_append,List.nil_append] at this ⊢
        exact this
    · rw[show((L.length:Int)==1)=false from by simp;omega,cond_false]
      by_cases hR1:R.length=1
      · rw[show((R.length:Int)==1)=true from by simp[hR1],cond_true]
        obtain⟨y,rfl⟩:=List.length_eq_one_iff.1 hR1
        have hy:(A++L++[y]++B)[m]? = some y:=at_i (L:=A++L) (M:=B) (by simp) hAL
        have sy:=sR y (by simp)
        let p:Nat→Bool:=fun c=>match (A++L++[y]++B)[c]? with |some v=>!decide (keyP y<keyP v) |none=>false
        have hpe:∀c v,(A++L++[y]++B)[c]? = some v→p c=!decide (keyP y<keyP v):=fun c v h=>by
          show(match (A++L++[y]++B)[c]? with |some v=>!decide (keyP y<keyP v) |none=>false)=_
          rw[h]
        have anti:Anti p a m:=fun i j i1 i2 i3 hj=>by
          obtain⟨u,u1,_,u3⟩:=gL i i1 (by omega)
          obtain⟨v,v1,_,v3⟩:=gL j (by omega) i3
          rw[hpe j v v1] at hj
          rw[hpe i u u1]
          have h1:=Qm1 hj
          have h2:=Qns hL (by omega:i-a≤j-a) u3 v3
          simp only[Bool.not_eq_true',decide_eq_false_iff_not]
          omega
        obtain⟨r,r1,r2,r3,r4,r5⟩:=Q95 (N:=N) (len:=len) m (A++L++[y]++B) p a m anti (by omega) hlen (by simp at hb;omega) (fun c c1 c2=>by
          obtain⟨v,v1,v2,_⟩:=gL c c1 c2
          exact⟨y,v,hy,v1,sy,sL v v2,(hpe c v v1).symm⟩) N a m (by omega) (by omega) (Nat.le_refl _) (Nat.le_refl _) (fun i i1 i2=>by omega) (fun i i1 i2=>by omega)
        obtain⟨L1,L2,hLL,hLl⟩:=cut L (r-a) (by omega)
        have hlL:L.length=L1.length+L2.length:=by rw[hLL];simp
        have c1:∀z∈L1,keyP z≤keyP y:=fun z hz=>by
          obtain⟨i,i1,i2⟩:=Qnu hz
          obtain⟨u,u1,_,u3⟩:=gL (a+i) (by omega) (by omega)
          have:=r3 (a+i) (by omega) (by omega)
          rw[hpe _ u u1] at this
          rw[hLL,show a+i-a=i from by omega,List.getElem?_append_left i1,i2] at u3
          cases u3
          exact Qm1 this
        have c2:∀z∈L2,keyP y<keyP z:=fun z hz=>by
          obtain⟨i,i1,i2⟩:=Qnu hz
          obtain⟨u,u1,_,u3⟩:=gL (r+i) (by omega) (by omega)
          have:=r4 (r+i) (by omega) (by omega)
          rw[hpe _ u u1] at this
          rw[hLL,show r+i-a=L1.length+i from by omega,List.getElem?_append_right (by omega),Nat.add_sub_cancel_left,i2] at u3
          cases u3
          exact Qsg this
        have hL':=hL
        rw[hLL] at hL'
        refine⟨(L1++[y])++L2,?_,?_⟩
        · have hs:Srt (L1++[y]):=List.pairwise_append.2 ⟨Qir hL',List.pairwise_singleton ..,fun z hz w hw=>by
            rw[List.mem_singleton] at hw
            subst hw
            exact c1 z hz⟩
          have:=Qqq (L1:=L1) (L2:=L2) (R1:=[y]) (R2:=[]) (Z1:=L1++[y]) (Z2:=L2) hL' (List.pairwise_singleton ..) (fun _ _ _ h=>by cases h) (fun z hz w hw=>by
            rw[List.mem_singleton] at hz
            subst hz
            exact c2 w hw) (Qin hs) (by simpa using Qin (Qiq hL'))
          rw[hLL]
          simpa using this
        · rw[r5]
          have:=Q2n (N:=N) hlen (fun y55=>some y55) y r N (A++L1) L2 B (by omega) (by simp;omega) (by simp at hb ⊢;omega)
          have e3:(((A++L1).length+L2.length:Nat):Int)=(m:Int):=by simp;omega
          rw[e3] at this
          rw[hLL]
          simp only[List.append_assoc,List.cons_append,List.nil_append] at this ⊢
          exact this
      · rw[show((R.length:Int)==1)=false from by simp;omega,cond_false]
        obtain⟨s,s1,s2,s3,s4,s5,s6,s7⟩:=seek (N:=N) hlen hN ha hm hb hl hL hR sL sR hL0 hR0
        generalize hmid:(a+b)/2=mid at s3 s4 s5 s6 s7
        have e3:w64 ((IntKind.wrap .u64 (w64 ((a:Int)+(b:Int))))/2)=(mid:Int):=by rw[half a b (by omega),hmid]
        have e4:w64 ((w64 ((mid:Int)+(m:Int)))-1)=((mid+m-1:Nat):Int):=by
          rw[Qbw (x:=(mid:Int)+(m:Int)) (by omega) (by omega),Qbw (by omega) (by omega)];omega
        have e5:w64 ((w64 ((mid:Int)+(m:Int)))-(s:Int))=((mid+m-s:Nat):Int):=by
          rw[Qbw (x:=(mid:Int)+(m:Int)) (by omega) (by omega),Qbw (by omega) (by omega)];omega
        rw[e3]
        simp only[Option.bind_some,e4]
        have s7':=fun K=>s7 K
        simp only[Option.bind_some] at s7'
        rw[s7']
        simp only[e5]
        obtain⟨L1,L2,hLL,hL1'⟩:=cut L (s-a) (by omega)
        obtain⟨R1,R2,hRR,hR1'⟩:=cut R (mid-s) (by omega)
        have hlL:L.length=L1.length+L2.length:=by rw[hLL];simp
        have hlR:R.length=R1.length+R2.length:=by rw[hRR];simp
        have hL':=hL
        rw[hLL] at hL'
        have hR':=hR
        rw[hRR] at hR'
        have c1:∀x∈L1,∀y∈R2,keyP x≤keyP y:=fun x hx y hy=>Q9c (Qir hL') (Qiq hR') (fun u v hu hv=>by
          have l1:0<L1.length:=List.length_pos_of_mem hx
          have l2:0<R2.length:=List.length_pos_of_mem hy
          refine s5 u v (by omega) (by omega) (by omega) ?_ ?_
          · rw[hLL,List.getElem?_append_left (by omega),show s-1-a=L1.length-1 from by omega];exact hu
          · rw[hRR,List.getElem?_append_right (by omega),show mid-s-R1.length=0 from by omega];exact hv) x hx y hy
        have c2:∀x∈R1,∀y∈L2,keyP x<keyP y:=fun x hx y hy=>Q9b (Qir hR') (Qiq hL') (fun u v hu hv=>by
          have l1:0<R1.length:=List.length_pos_of_mem hx
          have l2:0<L2.length:=List.length_pos_of_mem hy
          refine s6 v u (by omega) (by omega) ?_ ?_
          · rw[hLL,List.getElem?_append_right (by omega),show s-a-L1.length=0 from by omega];exact hv
          · rw[hRR,List.getElem?_append_left (by omega),show mid-s-1=R1.length-1 from by omega];exact hu) x hx y hy
        have rot:∀K:List Qaa→Option (List Qaa),(bif decide ((s:Int)<(m:Int)) then bif decide ((m:Int)<((mid+m-s:Nat):Int)) then(Qca N len s m ((mid+m-s:Nat):Int) (A++L++R++B)).bind fun x31=>K x31 else K (A++L++R++B) else K (A++L++R++B))=K (A++L1++R1++(L2++R2++B)):=by
          intro K
          have ed:A++L++R++B=(A++L1)++L2++R1++(R2++B):=by rw[hLL,hRR];simp
          by_cases q1:s<m
          · rw[show decide ((s:Int)<(m:Int))=true from decide_eq_true (by omega),cond_true]
            by_cases q2:m<mid+m-s
            · rw[show decide ((m:Int)<((mid+m-s:Nat):Int))=true from decide_eq_true (by omega),cond_true,ed,
                Q8m (N:=N) (len:=len) s m (mid+m-s) hlen hN (A++L1) L2 R1 (R2++B) (by omega) (by omega) (by simp;omega) (by omega) (by omega) (by simp;omega),Option.bind_some]
              simp
            · rw[show decide ((m:Int)<((mid+m-s:Nat):Int))=false from decide_eq_false (by omega),cond_false,ed]
              have:R1=[]:=List.eq_nil_of_length_eq_zero (by omega)
              rw[this]
              simp
          · rw[show decide ((s:Int)<(m:Int))=false from decide_eq_false (by omega),cond_false,ed]
            have:L2=[]:=List.eq_nil_of_length_eq_zero (by omega)
            rw[this]
            simp
        have sL1:Qhk L1:=fun z hz=>sL z (by rw[hLL];simp[hz])
        have sL2:Qhk L2:=fun z hz=>sL z (by rw[hLL];simp[hz])
        have sR1:Qhk R1:=fun z hz=>sR z (by rw[hRR];simp[hz])
        have sR2:Qhk R2:=fun z hz=>sR z (by rw[hRR];simp[hz])
        have one:∃Z1,Stb (L1++R1) Z1∧∀K:List Qaa→Option (List Qaa),(bif decide ((a:Int)<(s:Int)) then bif decide ((s:Int)<(mid:Int)) then(Qax N len a s mid (A++L1++R1++(L2++R2++B))).bind fun x27=>K x27 else K (A++L1++R1++(L2++R2++B)) else K (A++L1++R1++(L2++R2++B)))=K (A++Z1++(L2++R2++B)):=by
          by_cases q1:a<s
          · by_cases q2:s<mid
            · obtain⟨Z1,z1,z2⟩:=ih A L1 R1 (L2++R2++B) a s mid ha (by omega) (by omega) (by simp;omega) (by omega) (by omega) (Qir hL') (Qir hR') sL1 sR1 (by omega)
              refine⟨Z1,z1,fun K=>?_⟩
              rw[show decide ((a:Int)<(s:Int))=true from decide_eq_true (by omega),show decide ((s:Int)<(mid:Int))=true from decide_eq_true (by omega),z2]
              rfl
            · have:R1=[]:=List.eq_nil_of_length_eq_zero (by omega)
              refine⟨L1++R1,by rw[this,List.append_nil];exact Qin (Qir hL'),fun K=>?_⟩
              rw[show decide ((a:Int)<(s:Int))=true from decide_eq_true (by omega),show decide ((s:Int)<(mid:Int))=false from decide_eq_false (by omega)]
              simp
          · have:L1=[]:=List.eq_nil_of_length_eq_zero (by omega)
            refine⟨L1++R1,by rw[this,List.nil_append];exact Qin (Qir hR'),fun K=>?_⟩
            rw[show decide ((a:Int)<(s:Int))=false from decide_eq_false (by omega)]
            simp
        obtain⟨Z1,z1,k1⟩:=one
        have hz1:Z1.length=L1.length+R1.length:=by rw[Stb.len z1.eqf];simp
        have two:∃Z2,Stb (L2++R2) Z2∧(bif decide ((mid:Int)<((mid+m-s:Nat):Int)) then bif decide (((mid+m-s:Nat):Int)<(b:Int)) then(Qax N len mid ((mid+m-s:Nat):Int) b (A++Z1++(L2++R2++B))).bind fun x23=>some x23 else some (A++Z1++(L2++R2++B)) else some (A++Z1++(L2++R2++B)))=some (A++(Z1++Z2)++B):=by
          by_cases q1:mid<mid+m-s
          · by_cases q2:mid+m-s<b
            · obtain⟨Z2,z2,z3⟩:=ih (A++Z1) L2 R2 B mid (mid+m-s) b (by simp;omega) (by omega) (by omega) hl (by omega) (by omega) (Qiq hL') (Qiq hR') sL2 sR2 (by omega)
              refine⟨Z2,z2,?_⟩
              rw[show decide ((mid:Int)<((mid+m-s:Nat):Int))=true from decide_eq_true (by omega),show decide (((mid+m-s:Nat):Int)<(b:Int))=true from decide_eq_true (by omega)]
              rw[show A++Z1++(L2++R2++B)=(A++Z1)++L2++R2++B from by simp,z3]
              simp
            · have:R2=[]:=List.eq_nil_of_length_eq_zero (by omega)
              refine⟨L2++R2,by rw[this,List.append_nil];exact Qin (Qiq hL'),?_⟩
              rw[show decide ((mid:Int)<((mid+m-s:Nat):Int))=true from decide_eq_true (by omega),show decide (((mid+m-s:Nat):Int)<(b:Int))=false from decide_eq_false (by omega)]
              simp
          · have:L2=[]:=List.eq_nil_of_length_eq_zero (by omega)
            refine⟨L2++R2,by rw[this,List.nil_append];exact Qin (Qiq hR'),?_⟩
            rw[show decide ((mid:Int)<((mid+m-s:Nat):Int))=false from decide_eq_false (by omega)]
            simp
        obtain⟨Z2,z2,k2⟩:=two
        refine⟨Z1++Z2,?_,?_⟩
        · rw[hLL,hRR]
          exact Qqq hL' hR' c1 c2 z1 z2
        · rw[rot,k1,k2]
inductive Bl (bs:Nat):List Qaa→Prop
  |short {l:List Qaa}:l.length≤bs→Srt l→Bl bs l
  |cons {l r:List Qaa}:l.length=bs→Srt l→Bl bs r→Bl bs (l++r)
theorem Bl.one {bs:Nat}{l:List Qaa}(h:Bl bs l) (hl:l.length≤bs):Srt l:=by
  cases h with
  |short _ hs=>exact hs
  |cons h1 h2 h3=>
    rename_i l r
    have:r=[]:=List.eq_nil_of_length_eq_zero (by simp at hl;omega)
    rw[this,List.append_nil]
    exact h2
section
variable {N len : Nat}
theorem Q2z (hlen:len≤1000) (hN:len<N) (K:Int×List Qaa→Option (List Qaa)) :
    ∀(n:Nat) (A S:List Qaa),S.length<n→A.length+S.length=len→Qhk S →
    ∃D T,S.length=D.length+T.length∧T.length<20∧Qhk T∧(∀k,flt k (D++T)=flt k S)∧(∀Z,T.length=Z.length→Srt Z→Bl 20 (D++Z)) ∧
      Qbg N len len K n (A.length:Int) ((A.length+20:Nat):Int) (A++S)=K (((A++D).length:Nat),A++D++T):=by
  intro n
  induction n with
  |zero=>intro A S h;cases h
  |succ n ih=>
    intro A S hn hl hS
    rw[Qbg]
    by_cases hc:20≤S.length
    · rw[show decide (((A.length+20:Nat):Int)≤(len:Int))=true from decide_eq_true (by omega),cond_true]
      obtain⟨S1,S2,hSS,hS1⟩:=cut S 20 hc
      have hlS:S.length=S1.length+S2.length:=by rw[hSS];simp
      obtain⟨Z,z1,z2⟩:=Q30 (N:=N) (len:=len) A.length (A.length+20) A S1 S2 rfl hlen hN (fun z hz=>hS z (by rw[hSS];simp[hz])) (by omega) (by omega)
      have hZ:=Stb.len z1.eqf
      have e1:w64 (((A.length+20:Nat):Int)+20)=(((A++Z).length+20:Nat):Int):=by
        rw[Qbw (by omega) (by omega)];simp;omega
      have e2:((A.length+20:Nat):Int)=(((A++Z).length:Nat):Int):=by simp;omega
      obtain⟨D,T,d1,d2,d3,d4,d5,d6⟩:=ih (A++Z) S2 (by omega) (by simp;omega) (fun z hz=>hS z (by rw[hSS];simp[hz]))
      refine⟨Z++D,T,by simp;omega,d2,d3,fun k=>?_,fun W hW sW=>?_,?_⟩
      · rw[List.append_assoc,Qgx,z1.eqf,d4,←Qgx,hSS]
      · rw[List.append_assoc]
        exact .cons (by omega) z1.srt (d5 W hW sW)
      · rw[hSS,←List.append_assoc A S1 S2,z2,Option.bind_some,e1,e2,d6]
        simp
    · rw[show decide (((A.length+20:Nat):Int)≤(len:Int))=false from decide_eq_false (by omega),cond_false]
      exact⟨[],S,by simp,by omega,hS,fun _=>rfl,fun Z hZ sZ=>.short (by simp;omega) sZ,by simp⟩
theorem Bl.two {bs:Nat}(h0:1≤bs) {S:List Qaa}(h:Bl bs S) (hl:bs<S.length):∃L R,S=L++R∧L.length=bs∧Srt L∧Bl bs R:=by
  cases h with
  |short h1 _=>omega
  |cons h1 h2 h3=>exact⟨_,_,rfl,h1,h2,h3⟩
theorem Bl.next {bs:Nat}(h0:1≤bs) {S:List Qaa}(h:Bl bs S) (hl:bs≤S.length):∃L R,S=L++R∧L.length=bs∧Srt L∧Bl bs R:=by
  rcases Nat.eq_or_lt_of_le hl with e |hlt
  · exact⟨S,[],by simp,e.symm,h.one (by omega),.short (Nat.zero_le _) Qyr⟩
  · exact h.two h0 hlt
theorem Qyy (hlen:len≤1000) (hN:2*len<N) {bs:Nat}(h0:1≤bs) (hbs:bs≤1000) (K:List Qaa→Option (List Qaa)) :
    ∀(n:Nat) (A S:List Qaa),S.length<n→A.length+S.length=len→Qhk S→Bl bs S →
    ∃S',Bl (2*bs) S'∧(∀k,flt k S'=flt k S)∧Qbh N len len bs (fun ⟨y13,y14⟩=>
       bif (decide ((w64 (y13+(bs:Int)))<(len:Int))) then
        (Qax N len y13 (w64 (y13+(bs:Int))) len y14).bind fun x18=>K x18
       else K y14) n (A.length:Int) ((A.length+2*bs:Nat):Int) (A++S)=K (A++S'):=by
  intro n
  induction n with
  |zero=>intro A S h;cases h
  |succ n ih=>
    intro A S hn hl hS hB
    rw[Qbh]
    have e0:w64 ((A.length:Int)+(bs:Int))=((A.length+bs:Nat):Int):=Qbw (by omega) (by omega)
    have e9:w64 (2*(bs:Int))=((2*bs:Nat):Int):=by rw[Qbw (by omega) (by omega)];omega
    by_cases hc:2*bs≤S.length
    · rw[show decide (((A.length+2*bs:Nat):Int)≤(len:Int))=true from decide_eq_true (by omega),cond_true,e0,e9]
      obtain⟨L,S1,hS1,l1,l2,l3⟩:=hB.next h0 (by omega)
      have q1:S.length=L.length+S1.length:=by rw[hS1];simp
      obtain⟨R,S2,hS2,r1,r2,r3⟩:=l3.next h0 (by omega)
      have q2:S1.length=R.length+S2.length:=by rw[hS2];simp
      have sS1:Qhk S1:=fun z hz=>hS z (by rw[hS1];simp[hz])
      obtain⟨Z,z1,z2⟩:=Q3r hlen N A L R S2 A.length (A.length+bs) (A.length+2*bs) rfl (by omega) (by omega) (by omega) (by omega) (by omega) l2 r2 (fun z hz=>hS z (by rw[hS1];simp[hz])) (fun z hz=>sS1 z (by rw[hS2];simp[hz])) (by omega)
      have hZ:=Stb.len z1.eqf
      simp only[List.length_append] at hZ
      have e1:w64 (((A.length+2*bs:Nat):Int)+((2*bs:Nat):Int))=(((A++Z).length+2*bs:Nat):Int):=by
        rw[Qbw (by omega) (by omega)];simp;omega
      have e2:((A.length+2*bs:Nat):Int)=(((A++Z).length:Nat):Int):=by simp;omega
      obtain⟨S',s1,s2,s3⟩:=ih (A++Z) S2 (by omega) (by simp;omega) (fun z hz=>sS1 z (by rw[hS2];simp[hz])) r3
      refine⟨Z++S',.cons (by omega) z1.srt s1,fun k=>?_,?_⟩
      · rw[Qgx,z1.eqf,s2,←Qgx,hS1,hS2,List.append_assoc]
      · rw[hS1,hS2,show A++(L++(R++S2))=A++L++R++S2 from by simp,z2,Option.bind_some,e1,Option.bind_some,e2,s3]
        simp
    · rw[show decide (((A.length+2*bs:Nat):Int)≤(len:Int))=false from decide_eq_false (by omega),cond_false]
      simp only[e0]
      by_cases hc2:bs<S.length
      · rw[show decide (((A.length+bs:Nat):Int)<(len:Int))=true from decide_eq_true (by omega),cond_true]
        obtain⟨L,R,hS1,l1,l2,l3⟩:=hB.two h0 hc2
        have q1:S.length=L.length+R.length:=by rw[hS1];simp
        obtain⟨Z,z1,z2⟩:=Q3r hlen N A L R [] A.length (A.length+bs) len rfl (by omega) (by omega) (by simp) (by omega) (by omega) l2 (l3.one (by omega)) (fun z hz=>hS z (by rw[hS1];simp[hz])) (fun z hz=>hS z (by rw[hS1];simp[hz])) (by omega)
        have hZ:=Stb.len z1.eqf
        simp only[List.length_append] at hZ
        refine⟨Z,.short (by omega) z1.srt,fun k=>by rw[z1.eqf,hS1],?_⟩
        rw[hS1,show A++(L++R)=A++L++R++[] from by simp,z2,Option.bind_some,List.append_nil]
      · rw[show decide (((A.length+bs:Nat):Int)<(len:Int))=false from decide_eq_false (by omega),cond_false]
        exact⟨S,.short (by omega) (hB.one (by omega)),fun _=>rfl,rfl⟩
theorem Qzt (hlen:len≤1000) (hN:2*len<N):∀(n bs:Nat) (D:List Qaa),len-bs<n→1≤bs→bs≤1000→D.length=len→Qhk D→Bl bs D →
    ∃D',Srt D'∧(∀k,flt k D'=flt k D)∧Qar N len len n bs D=some D':=by
  intro n
  induction n with
  |zero=>intro bs D h;cases h
  |succ n ih=>
    intro bs D hn h0 hbs hl hS hB
    rw[Qar]
    by_cases hc:bs<len
    · rw[show decide ((bs:Int)<(len:Int))=true from decide_eq_true (by omega),cond_true]
      have e1:w64 (2*(bs:Int))=((0+2*bs:Nat):Int):=by rw[Qbw (by omega) (by omega)];omega
      have e2:w64 ((bs:Int)*2)=((2*bs:Nat):Int):=by rw[Qbw (by omega) (by omega)];omega
      simp only[Qcy,e1,e2]
      obtain⟨S',s1,s2,s3⟩:=Qyy (N:=N) hlen hN h0 hbs (fun x=>Qar N len len n ((2*bs:Nat):Int) x) N [] D (by omega) (by simpa using hl) hS hB
      simp only[List.length_nil,List.nil_append,show((0:Nat):Int)=0 from rfl] at s3
      have hS':=Stb.len s2
      by_cases hb2:2*bs≤1000
      · obtain⟨D',d1,d2,d3⟩:=ih (2*bs) S' (by omega) (by omega) hb2 (by omega) (Stb.small s2 hS) s1
        exact⟨D',d1,fun k=>(d2 k).trans (s2 k),s3.trans d3⟩
      · refine⟨S',s1.one (by omega),s2,s3.trans ?_⟩
        cases n with
        |zero=>omega
        |succ n=>
          rw[Qar,show decide (((2*bs:Nat):Int)<(len:Int))=false from decide_eq_false (by omega)]
          rfl
    · rw[show decide ((bs:Int)<(len:Int))=false from decide_eq_false (by omega),cond_false]
      exact⟨D,hB.one (by omega),fun _=>rfl,rfl⟩
end
theorem Q5h {N:Nat}{D:List Qaa}(hlen:D.length≤1000) (hN:2*D.length<N) (h20:1000<N) (hS:Qhk D):∃D',Stb D D'∧Qcl N D.length D=some D':=by
  unfold Qcl Qb4 Qdj
  simp only[Qcy]
  obtain⟨A,T,d1,d2,d3,d4,d5,d6⟩:=Q2z (N:=N) (len:=D.length) hlen (by omega) (fun ⟨y2,y3⟩=>(Qbe N D.length y2 D.length y3).bind fun x6=>Qar N D.length D.length N 20 x6) N [] D (by omega) (by simp) hS
  simp only[List.length_nil,List.nil_append,Nat.zero_add,show((0:Nat):Int)=0 from rfl,show((20:Nat):Int)=20 from rfl] at d6
  obtain⟨Z,z1,z2⟩:=Q30 (N:=N) (len:=D.length) A.length D.length A T [] rfl hlen (by omega) d3 (by omega) (by simp)
  rw[List.append_nil,List.append_nil] at z2
  have hZ:=Stb.len z1.eqf
  have hf:∀k,flt k (A++Z)=flt k D:=fun k=>by rw[Qgx,z1.eqf,←Qgx,d4]
  obtain⟨D',e1,e2,e3⟩:=Qzt (N:=N) (len:=D.length) hlen hN N 20 (A++Z) (by omega) (by omega) (by omega) (Stb.len hf) (Stb.small hf hS) (d5 Z hZ.symm z1.srt)
  refine⟨D',⟨e1,fun k=>(e2 k).trans (hf k)⟩,?_⟩
  rw[d6]
  simp only[z2,Option.bind_some]
  rw[show(20:Int)=((20:Nat):Int) from rfl,e3]
  rfl
end
section
def Qk1:List Qap→Int→Int
 |[],_=>0
 |s::l,n=>min n s.Amount*s.Price+Qk1 l (n-min n s.Amount)
def Qii (l:List Qap):Int:=(l.map (·.Amount)).sum
def Qn4:List Qaa→Int→Int
 |[],m=>m
 |o::l,m=>Qn4 l (m-min m o.Stair.Amount)
def Qsy:List Qaa→Int→Int
 |[],_=>0
 |o::l,m=>min m o.Stair.Amount*o.Stair.Price+Qsy l (m-min m o.Stair.Amount)
def Qix (i:Int):List Qaa→Int→Int
 |[],_=>0
 |o::l,m=>(if o.inlet=i then min m o.Stair.Amount else 0)+Qix i l (m-min m o.Stair.Amount)
def ofO (i:Int) (D:List Qaa):List Qap:=(D.filter fun o=>decide (o.inlet=i)).map (·.Stair)
def OffV (D:List Qaa):Prop:=∀o∈D,Qn0 o.Stair
theorem Qn7 (i:Int) (o:Qaa) (l:List Qaa):ofO i (o::l)=if o.inlet=i then o.Stair::ofO i l else ofO i l:=by
 unfold ofO
 rw[List.filter_cons]
 by_cases h:o.inlet=i
 ·rw[if_pos h,if_pos (decide_eq_true h),List.map_cons]
 ·rw[if_neg h,if_neg (by simpa using h)]
theorem Qpt:∀(D:List Qaa),OffV D→∀(m m':Int),0≤m'→m'≤m→Qn4 D m'≤Qn4 D m
 |[],_,m,m',_,h=>h
 |o::l,hD,m,m',h0,h=>by
  have ho:=(hD o (by simp)).a
  simp only[Qn4]
  exact Qpt l (fun x hx=>hD x (List.mem_cons_of_mem _ hx)) _ _ (by omega) (by omega)
theorem Qp6:∀(D:List Qaa),OffV D→∀(m m':Int),0≤m'→m'≤m→Qsy D m'≤Qsy D m
 |[],_,m,m',_,h=>Int.le_refl _
 |o::l,hD,m,m',h0,h=>by
  have ho:=(hD o (by simp)).a
  have hp:=(hD o (by simp)).p
  have:=Qp6 l (fun x hx=>hD x (List.mem_cons_of_mem _ hx)) (m-min m o.Stair.Amount) (m'-min m' o.Stair.Amount) (by omega) (by omega)
  have h2:min m' o.Stair.Amount*o.Stair.Price≤min m o.Stair.Amount*o.Stair.Price:=Int.mul_le_mul_of_nonneg_right (by omega) hp.1
  simp only[Qsy]
  omega
theorem Qp0 (i:Int):∀(D:List Qaa),OffV D→Qix i D 0=0
 |[],_=>rfl
 |o::l,hD=>by
  have ho:=(hD o (by simp)).a
  have e:min (0:Int) o.Stair.Amount=0:=by omega
  simp only[Qix]
  rw[e,Int.sub_zero,Qp0 i l fun x hx=>hD x (List.mem_cons_of_mem _ hx)]
  split<;>rfl
theorem Qm0 (i:Int):∀(D:List Qaa),OffV D→∀(m:Int),0≤m→0≤Qix i D m∧Qix i D m≤Qii (ofO i D)
 |[],_,m,h=>⟨Int.le_refl _,Int.le_refl _⟩
 |o::l,hD,m,h=>by
  have ho:=(hD o (by simp)).a
  have:=Qm0 i l (fun x hx=>hD x (List.mem_cons_of_mem _ hx)) (m-min m o.Stair.Amount) (by omega)
  rw[Qn7]
  simp only[Qix]
  by_cases hi:o.inlet=i
  ·rw[if_pos hi,if_pos hi]
   have:Qii (o.Stair::ofO i l)=o.Stair.Amount+Qii (ofO i l):=by simp[Qii]
   omega
  ·rw[if_neg hi,if_neg hi]
   omega
theorem Qp5:∀(l:List Qap),(∀s∈l,1≤s.Amount)→Qk1 l 0=0
 |[],_=>rfl
 |s::l,h=>by
  have hs:=h s (by simp)
  have e:min (0:Int) s.Amount=0:=by omega
  simp only[Qk1]
  rw[e,Int.sub_zero,Qp5 l fun x hx=>h x (List.mem_cons_of_mem _ hx)]
  simp
theorem Q0k (i:Int) (o:Qaa) (l:List Qaa) (hD:OffV (o::l)) (m:Int) (h:0≤m) :
  Qk1 (ofO i (o::l)) (Qix i (o::l) m)=(if o.inlet=i then min m o.Stair.Amount*o.Stair.Price else 0)+Qk1 (ofO i l) (Qix i l (m-min m o.Stair.Amount)):=by
 have ho:=(hD o (by simp)).a
 have hl:OffV l:=fun x hx=>hD x (List.mem_cons_of_mem _ hx)
 rw[Qn7]
 simp only[Qix]
 by_cases hi:o.inlet=i
 ·rw[if_pos hi,if_pos hi,if_pos hi]
  simp only[Qk1]
  have hb:=Qm0 i l hl (m-min m o.Stair.Amount) (by omega)
  by_cases hf:o.Stair.Amount≤m
  ·rw[show min m o.Stair.Amount=o.Stair.Amount by omega] at hb ⊢
   rw[show min (o.Stair.Amount+Qix i l (m-o.Stair.Amount)) o.Stair.Amount=o.Stair.Amount by omega,show o.Stair.Amount+Qix i l (m-o.Stair.Amount)-o.Stair.Amount=Qix i l (m-o.Stair.Amount) by omega]
  ·rw[show min m o.Stair.Amount=m by omega,Int.sub_self,Qp0 i l hl,Int.add_zero,show min m o.Stair.Amount=m by omega,Int.sub_self]
 ·rw[if_neg hi,if_neg hi,if_neg hi,Int.zero_add,Int.zero_add]
def sumI (f:Nat→Int):Nat→Int
 |0=>0
 |n+1=>sumI f n+f n
theorem Qpq {f g:Nat→Int}:∀{n:Nat},(∀i,i<n→f i=g i)→sumI f n=sumI g n
 |0,_=>rfl
 |n+1,h=>by rw[sumI,sumI,Qpq (n:=n) fun i hi=>h i (by omega),h n (by omega)]
theorem Qu2 (f g:Nat→Int):∀n,sumI (fun i=>f i+g i) n=sumI f n+sumI g n
 |0=>rfl
 |n+1=>by rw[sumI,sumI,sumI,Qu2 f g n];omega
theorem Qr4:∀n,sumI (fun _=>0) n=0
 |0=>rfl
 |n+1=>by rw[sumI,Qr4 n];rfl
theorem Qu1 {c:Int}{x:Int}:∀n:Nat,0≤c→sumI (fun i=>if c=(i:Int) then x else 0) n=if c<n then x else 0
 |0,h=>by rw[if_neg (by omega)];rfl
 |n+1,h=>by
  rw[sumI,Qu1 n h]
  by_cases h1:c<n
  ·rw[if_pos h1,if_neg (by omega),if_pos (by omega),Int.add_zero]
  ·rw[if_neg h1,Int.zero_add]
   by_cases h2:c=(n:Int)
   ·rw[if_pos h2,if_pos (by omega)]
   ·rw[if_neg h2,if_neg (by omega)]
theorem Qvh (n:Nat):∀(D:List Qaa),OffV D→(∀o∈D,0≤o.inlet∧o.inlet<n)→∀(m:Int),0≤m→sumI (fun i=>Qk1 (ofO i D) (Qix i D m)) n=Qsy D m
 |[],_,_,m,_=>Qr4 n
 |o::l,hD,hi,m,h=>by
  have ho:=(hD o (by simp)).a
  have hx:=hi o (by simp)
  have ih:=Qvh n l (fun x hx=>hD x (List.mem_cons_of_mem _ hx)) (fun x hx=>hi x (List.mem_cons_of_mem _ hx)) (m-min m o.Stair.Amount) (by omega)
  rw[Qpq fun i _=>Q0k (i:Int) o l hD m h,Qu2,Qu1 n hx.1,if_pos hx.2,ih]
  rfl
end
section
def offL (cl:Qba→Bool):Nat→List Qba→List Qaa
 |_,[]=>[]
 |i,x::l=>(if cl x=true then[] else x.Stairs.map fun s=>(⟨s,(i:Int)⟩:Qaa))++offL cl (i+1) l
theorem off8 {N:Nat}{t:Qat}{b:Qa7}{R B:Nat→Int}{x:Qba}{c:Bool}(e:Int) (hc:Qck N t.Sites t.Tests R B b x=some c) (hx:x.Stairs.length≤6) (m:Int) (k:List Qaa→Option ((List Int)×Int×Int)):∀(n i:Nat) (acc:List Qaa),(x.Stairs.drop i).length<n→acc.length+(x.Stairs.drop i).length≤1000 →
  Qd3 N t b (e,R,B) m k x n i acc=k (acc++(if c=true then[] else(x.Stairs.drop i).map fun s=>(⟨s,m⟩:Qaa))):=by
 intro n
 induction n with
 |zero=>intro i _ h;cases h
 |succ n ih=>
  intro i acc h ha
  rw[Qd3]
  cases hd:x.Stairs.drop i with
  |nil=>
   have:=Qd0 hd
   rw[decide_eq_false (show ¬((i:Int)<x.Stairs.length) by omega),cond_false,List.map_nil,ite_self,List.append_nil]
  |cons s q=>
   obtain⟨hg,hd',hlt⟩:=Qc6 hd
   rw[hd] at h ha
   simp only[List.length_cons] at h ha
   have e1:w64 ((i:Int)+1)=((i+1:Nat):Int):=by rw[Qbw (by omega) (by omega)];omega
   have hcc:Qck N t.Sites t.Tests ((e,R,B):Int×(Nat→Int)×(Nat→Int)).2.1 ((e,R,B):Int×(Nat→Int)×(Nat→Int)).2.2 b x=some c:=hc
   rw[decide_eq_true (show(i:Int)<x.Stairs.length by omega),cond_true,Qdi hg,Option.bind_some,hcc,Option.bind_some,e1]
   cases c with
   |true=>
    rw[show(!true)=false from rfl,cond_false,ih (i+1) acc (by rw[hd'];omega) (by rw[hd'];omega)]
    rfl
   |false=>
    rw[show(!false)=true from rfl,cond_true,chkT (decide_eq_true (by simp only[List.length_cons,List.length_nil];omega)),ih (i+1) _ (by rw[hd'];omega) (by rw[hd',List.length_append,List.length_cons,List.length_nil];omega),hd',List.append_assoc]
    rfl
theorem off7 {N:Nat}(hN:1000≤N) {t:Qat}{b:Qa7}{R B:Nat→Int}(e:Int) (cl:Qba→Bool) (hc:∀x∈b.Inlets,Qck N t.Sites t.Tests R B b x=some (cl x)) (h10:b.Inlets.length≤10) (h6:∀x∈b.Inlets,x.Stairs.length≤6) (k:List Qaa→Option ((List Int)×Int×Int)):∀(n i:Nat) (acc:List Qaa),(b.Inlets.drop i).length<n→acc.length+6*(b.Inlets.drop i).length≤1000 →
  Qd4 N t b (e,R,B) k n i acc=k (acc++offL cl i (b.Inlets.drop i)):=by
 intro n
 induction n with
 |zero=>intro i _ h;cases h
 |succ n ih=>
  intro i acc h ha
  rw[Qd4]
  cases hd:b.Inlets.drop i with
  |nil=>
   have:=Qd0 hd
   rw[decide_eq_false (show ¬((i:Int)<b.Inlets.length) by omega),cond_false,offL,List.append_nil]
  |cons x q=>
   obtain⟨hg,hd',hlt⟩:=Qc6 hd
   rw[hd] at h ha
   simp only[List.length_cons] at h ha
   have hm:=List.mem_of_getElem? hg
   have hx:=h6 x hm
   have e1:w64 ((i:Int)+1)=((i+1:Nat):Int):=by rw[Qbw (by omega) (by omega)];omega
   rw[decide_eq_true (show(i:Int)<b.Inlets.length by omega),cond_true,Qb6,Qdi hg,Option.bind_some]
   refine(off8 e (hc x hm) hx (i:Int) _ N 0 acc (by rw[List.drop_zero];omega) (by rw[List.drop_zero];omega)).trans ?_
   rw[List.drop_zero]
   show Qd4 N t b (e,R,B) k n (w64 ((i:Int)+1)) (acc++if cl x=true then[] else x.Stairs.map fun s=>(⟨s,(i:Int)⟩:Qaa))=_
   rw[e1,ih (i+1) _ (by rw[hd'];omega) (by
    rw[hd',List.length_append]
    split
    ·simp only[List.length_nil];omega
    ·rw[List.length_map];omega),hd',offL,List.append_assoc]
theorem Q9r (N:Nat) (o:Qaa) (ho:Qn0 o.Stair) (nI:Nat) (hi:0≤o.inlet∧o.inlet<nI) (m p:Int) (ms:List Int) (hm:0≤m) (hl:ms.length=nI) (hb:∀x∈ms,0≤x∧x+m≤1000000) (hm1:m≤1000000) :
  ∃p' ms',Qel N o m nI p ms=some (m-min m o.Stair.Amount,p',ms')∧ms'.length=nI∧(∀x∈ms',0≤x∧x+(m-min m o.Stair.Amount)≤1000000)∧∀(i:Nat) (x:Int),ms[i]? = some x→ms'[i]? = some (x+if o.inlet=(i:Int) then min m o.Stair.Amount else 0):=by
 have ha:=ho.a
 unfold Qel
 rw[Option.bind_some]
 have e:(if o.Stair.Amount<m then o.Stair.Amount else m)=min m o.Stair.Amount:=by split<;>omega
 rw[e]
 by_cases h0:min m o.Stair.Amount>0
 ·have hk:o.inlet.toNat<ms.length:=by omega
  obtain⟨y,hy⟩:∃y,ms[o.inlet.toNat]? = some y:=⟨_,List.getElem?_eq_getElem hk⟩
  have hyb:=hb y (List.mem_of_getElem? hy)
  have hch:(decide (0≤o.inlet)&&decide (o.inlet.toNat<nI))=true:=by rw[decide_eq_true hi.1,decide_eq_true (by omega)];rfl
  rw[decide_eq_true h0,cond_true,chkT hch,hy,Option.bind_some,chkT hch,Option.bind_some,Qbw (x:=m-_) (by omega) (by omega),Qbw (x:=y+_) (by omega) (by omega)]
  refine⟨_,_,rfl,by rw[List.length_set];exact hl,fun x hx=>?_,fun i x hx=>?_⟩
  ·rcases List.mem_or_eq_of_mem_set hx with hm' |rfl
   ·have:=hb x hm';omega
   ·omega
  ·by_cases hj:o.inlet=(i:Int)
   ·have:o.inlet.toNat=i:=by omega
    rw[this] at hy hk ⊢
    rw[hy] at hx
    cases hx
    rw[List.getElem?_set_self hk,if_pos hj]
   ·rw[List.getElem?_set_ne (by omega),hx,if_neg hj,Int.add_zero]
 ·rw[decide_eq_false h0,cond_false]
  have hz:min m o.Stair.Amount=0:=by omega
  have:m=0:=by omega
  refine⟨p,ms,by rw[hz,Int.sub_zero],hl,fun x hx=>by have:=hb x hx;omega,fun i x hx=>?_⟩
  rw[hz,ite_self,Int.add_zero,hx]
theorem Q9q (N:Nat) (b:Qa7) (D D0:List Qaa) (hD:OffV D) (hDl:D0.length=D.length) (h60:D.length≤1000) (hi:∀o∈D,0≤o.inlet∧o.inlet<b.Inlets.length) (k:Int×Int×(List Int)→Option ((List Int)×Int×Int)):∀(n j:Nat) (m p:Int) (ms:List Int),(D.drop j).length<n→0≤m→m≤1000000→ms.length=b.Inlets.length→(∀x∈ms,0≤x∧x+m≤1000000) →
  ∃p' ms',Qdo N b D0 k D n j m p ms=k (Qn4 (D.drop j) m,p',ms')∧ms'.length=b.Inlets.length∧(∀x∈ms',0≤x∧x≤1000000)∧∀(i:Nat) (x:Int),ms[i]? = some x→ms'[i]? = some (x+Qix i (D.drop j) m):=by
 intro n
 induction n with
 |zero=>intro j _ _ _ h;cases h
 |succ n ih=>
  intro j m p ms h m0 m1 hl hb
  rw[Qdo]
  cases hd:D.drop j with
  |nil=>
   have:=Qd0 hd
   rw[decide_eq_false (show ¬((j:Int)<((D0.length:Nat):Int)) by omega),cond_false]
   exact⟨p,ms,rfl,hl,fun x hx=>by have:=hb x hx;omega,fun i x hx=>by rw[hx,Qix,Int.add_zero]⟩
  |cons o q=>
   obtain⟨hg,hd',hlt⟩:=Qc6 hd
   have hmem:=List.mem_of_getElem? hg
   have ho:=hD o hmem
   have ha:=ho.a
   obtain⟨p1,ms1,e1,l1,b1,q1⟩:=Q9r N o ho b.Inlets.length (hi o hmem) m p ms m0 hl hb m1
   have hch:(decide (0≤(j:Int))&&decide ((j:Int).toNat<D0.length))=true:=by rw[decide_eq_true (by omega),decide_eq_true (by omega)];rfl
   rw[decide_eq_true (show(j:Int)<((D0.length:Nat):Int) by omega),cond_true,chkT hch,Int.toNat_natCast,hg,Option.bind_some,Int.toNat_natCast,show(⟨(⟨o.Stair.Amount,o.Stair.Price⟩:Qap),o.inlet⟩:Qaa)=o from rfl,e1,Option.bind_some]
   obtain⟨p2,ms2,e2,l2,b2,q2⟩:=ih (j+1) (m-min m o.Stair.Amount) p1 ms1 (dlt hd hd' h) (by omega) (by omega) l1 b1
   rw[hd'] at e2 q2
   refine⟨p2,ms2,?_,l2,b2,fun i x hx=>?_⟩
   ·show Qdo N b D0 k D n (w64 ((j:Int)+1)) (m-min m o.Stair.Amount) p1 ms1=_
    rw[Qbw (by omega) (by omega),show(j:Int)+1=((j+1:Nat):Int) by omega,e2]
    rfl
   ·rw[q2 i _ (q1 i x hx)]
    simp only[Qix]
    congr 1
    omega
end
section
theorem Qoo:∀(l2 l1:List Qap),l1.Perm l2→l1.Pairwise (fun a b=>a.Price≤b.Price)→l2.Pairwise (fun a b=>a.Price<b.Price)→l1=l2
 |[],l1,h,_,_=>List.Perm.eq_nil h
 |b::l2,[],h,_,_=>by have:=h.length_eq;simp at this
 |b::l2,a::l1,h,h1,h2=>by
  have ha:a∈b::l2:=h.mem_iff.1 (by simp)
  have hb:b∈a::l1:=h.mem_iff.2 (by simp)
  obtain⟨p1,q1⟩:=List.pairwise_cons.1 h1
  obtain⟨p2,q2⟩:=List.pairwise_cons.1 h2
  have e:a=b:=by
   rcases List.mem_cons.1 ha with e |ha'
   ·exact e
   ·have h3:=p2 a ha'
    rcases List.mem_cons.1 hb with e |hb'
    ·exact e.symm
    ·have:=p1 b hb'
     omega
  subst e
  rw[Qoo l2 l1 (List.Perm.cons_inv h) q1 q2]
theorem Qr7:∀(l:List Qap),(∀(j:Nat) (a c:Qap),l[j+1]? = some a→l[j]? = some c→c.Price<a.Price)→l.Pairwise fun a b=>a.Price<b.Price
 |[],_=>List.Pairwise.nil
 |[x],_=>by simp
 |x::y::l,h=>by
  have ih:=Qr7 (y::l) fun j a c h1 h2=>h (j+1) a c (by simpa using h1) (by simpa using h2)
  have hxy:=h 0 y x (by simp) (by simp)
  refine List.pairwise_cons.2 ⟨fun z hz=>?_,ih⟩
  rcases List.mem_cons.1 hz with rfl |hz
  ·exact hxy
  ·have:=(List.pairwise_cons.1 ih).1 z hz
   omega
theorem Qt2 (i:Int) (a b:List Qaa):ofO i (a++b)=ofO i a++ofO i b:=by unfold ofO;rw[List.filter_append,List.map_append]
theorem Qu7 (i:Int):∀(l:List Qap),ofO i (l.map fun s=>(⟨s,i⟩:Qaa))=l
 |[]=>rfl
 |s::l=>by
  rw[List.map_cons,Qn7]
  simp only[if_true]
  rw[Qu7 i l]
theorem Qow {i m:Int}(h:m≠i):∀(l:List Qap),ofO i (l.map fun s=>(⟨s,m⟩:Qaa))=[]
 |[]=>rfl
 |s::l=>by
  rw[List.map_cons,Qn7]
  simp only[if_neg h]
  exact Qow h l
theorem Qy3 (cl:Qba→Bool) {i:Nat}:∀(l:List Qba) (k:Nat),i<k→ofO (i:Int) (offL cl k l)=[]
 |[],_,_=>rfl
 |x::l,k,h=>by
  rw[offL,Qt2,Qy3 cl l (k+1) (by omega),List.append_nil]
  split
  ·rfl
  ·exact Qow (by omega) _
theorem Qy2 (cl:Qba→Bool) {x:Qba}:∀(l:List Qba) (k i:Nat),l[i]? = some x→ofO ((k+i:Nat):Int) (offL cl k l)=if cl x=true then[] else x.Stairs
 |[],_,_,h=>by simp at h
 |y::l,k,0,h=>by
  simp at h
  subst h
  rw[offL,Qt2,Nat.add_zero,Qy3 cl l (k+1) (by omega),List.append_nil]
  split
  ·rfl
  ·exact Qu7 _ _
 |y::l,k,i+1,h=>by
  rw[offL,Qt2,show k+(i+1)=(k+1)+i by omega,Qy2 cl l (k+1) i (by simpa using h)]
  have:ofO (((k+1)+i:Nat):Int) (if cl y=true then[] else y.Stairs.map fun s=>(⟨s,(k:Int)⟩:Qaa))=[]:=by
   split
   ·rfl
   ·exact Qow (by omega) _
  rw[this,List.nil_append]
theorem Q8r (cl:Qba→Bool):∀(l:List Qba) (k:Nat),(∀x∈l,Qpi x.Stairs)→(∀o∈offL cl k l,Qn0 o.Stair∧(k:Int)≤o.inlet∧o.inlet<(k:Int)+l.length)∧(offL cl k l).length≤6*l.length
 |[],_,_=>⟨fun o ho=>(by cases ho),Nat.le_refl _⟩
 |x::l,k,h=>by
  obtain⟨i1,i2⟩:=Q8r cl l (k+1) fun y hy=>h y (List.mem_cons_of_mem _ hy)
  have hx:=h x (by simp)
  have h6:=hx.n
  refine⟨fun o ho=>?_,?_⟩
  ·rw[offL] at ho
   rcases List.mem_append.1 ho with ho |ho
   ·split at ho
    ·cases ho
    ·obtain⟨s,hs,rfl⟩:=List.mem_map.1 ho
     refine⟨hx.s s hs,?_,?_⟩
     ·exact Int.le_refl _
     ·simp only[List.length_cons];omega
   ·have:=i1 o ho
    simp only[List.length_cons]
    exact⟨this.1,by omega,by omega⟩
  ·rw[offL,List.length_append,List.length_cons]
   split
   ·simp only[List.length_nil];omega
   ·rw[List.length_map];omega
theorem Qwg {D D':List Qaa}(h:Stb D D') (i:Int) (hr:(ofO i D).Pairwise fun a b=>a.Price<b.Price):ofO i D'=ofO i D:=by
 refine Qoo _ _ ?_ ?_ hr
 ·unfold ofO
  exact((Stb.perm h.2).filter _).map _
 ·unfold ofO
  refine List.pairwise_map.2 ?_
  exact(h.1.sublist List.filter_sublist).imp fun hab=>hab
end
section
theorem Q5n {N:Nat}(hN:1000≤N):Qcm N=some []:=by
 obtain⟨n,rfl⟩:∃n,N=n+1:=⟨N-1,by omega⟩
 have e1:Qbq (n+1) 0 0=some ():=by
  unfold Qbq
  rw[show w64 (0+1)=1 from by decide,Qbd]
  rfl
 have e2:Qcx (n+1) 0=some ():=by
  unfold Qcx
  rw[Qb6,Qbr,show decide ((20:Int)≤0)=false from rfl,cond_false,e1,Option.bind_some,Qbi]
  rfl
 unfold Qcm Qb5
 rw[e2]
 rfl
structure OffS (b:Qa7) (cl:Qba→Bool) (D:List Qaa):Prop where
 v:OffV D
 i:∀o∈D,0≤o.inlet∧o.inlet<b.Inlets.length
 n:D.length≤60
 o:∀(i:Nat) x,b.Inlets[i]? = some x→ofO (i:Int) D=if cl x=true then[] else x.Stairs
theorem Q2e {N:Nat}{t:Qat}{b:Qa7}(hN:150000000≤N) (hb:Ql0 t b) {R B:Nat→Int}(h0:Qec N t b=some 0) (hk:Qdv N t=some (.inr (0,R,B))) (cl:Qba→Bool) (hc:∀x∈b.Inlets,Qck N t.Sites t.Tests R B b x=some (cl x)) :
  ∃D,OffS b cl D∧∀m,0≤m→m≤1000000→∃p ms,ms.length=b.Inlets.length∧(∀(i:Nat),i<b.Inlets.length→ms[i]? = some (Qix i D m))∧Qeu N t b m=some (bif decide (Qn4 D m>0) then([],0,11) else(ms,p,0)):=by
 have hl:=hb.il
 have h6:∀x∈b.Inlets,x.Stairs.length≤6:=fun x hx=>(hb.inl x hx).2.n.2
 obtain⟨v1,v2⟩:=Q8r cl b.Inlets 0 fun x hx=>(hb.inl x hx).2
 generalize hD0:offL cl 0 b.Inlets=D0 at v1 v2
 have hof:∀(i:Nat) x,b.Inlets[i]? = some x→ofO (i:Int) D0=if cl x=true then[] else x.Stairs:=fun i x hx=>by
  have:=Qy2 cl b.Inlets 0 i hx
  rw[Nat.zero_add,hD0] at this
  exact this
 have hsm:Qhk D0:=fun o ho=>by have:=(v1 o ho).1.p;exact⟨by omega,by omega⟩
 obtain⟨D,hst,hso⟩:=Q5h (N:=N) (D:=D0) (by omega) (by omega) (by omega) hsm
 have hmem:∀o,o∈D↔o∈D0:=fun o=>(Stb.perm hst.2).mem_iff
 have hlen:D.length=D0.length:=(Stb.perm hst.2).length_eq
 have hS:OffS b cl D:=by
  refine⟨fun o ho=>(v1 o ((hmem o).1 ho)).1,fun o ho=>by have:=(v1 o ((hmem o).1 ho)).2;omega,by omega,fun i x hx=>?_⟩
  rw[Qwg hst,hof i x hx]
  rw[hof i x hx]
  split
  ·exact List.Pairwise.nil
  ·exact Qr7 _ (hb.inl x (List.mem_of_getElem? hx)).2.r
 refine⟨D,hS,fun m m0 m1=>?_⟩
 have hrep:∀x∈List.replicate b.Inlets.length (0:Int),0≤x∧x+m≤1000000:=fun x hx=>by
  rw[List.eq_of_mem_replicate hx];omega
 have hr0:∀(i:Nat),i<b.Inlets.length→(List.replicate b.Inlets.length (0:Int))[i]? = some 0:=fun i hi=>by
  rw[List.getElem?_replicate,if_pos hi]
 have hlp:(decide (0≤(b.Inlets.length:Int))&&decide (8*(b.Inlets.length:Int)≤281474976710656)&&decide ((b.Inlets.length:Int)≤9223372036854775807))=true:=by
  rw[decide_eq_true (by omega),decide_eq_true (by omega),decide_eq_true (by omega)];rfl
 unfold Qeu
 rw[h0,Option.bind_some,show((0:Int) != 0)=false from rfl,cond_false,Qfl,Option.bind_some,Qe5.2 ⟨m0,m1⟩,show(!true)=false from rfl,cond_false,hk,Option.bind_some]
 dsimp only[Sum.elim_inr]
 rw[show((0:Int) != 0)=false from rfl,cond_false]
 have hfin:∀(k98:Int×Int×(List Int)→Option ((List Int)×Int×Int)),∃p ms,ms.length=b.Inlets.length∧(∀(i:Nat),i<b.Inlets.length→ms[i]? = some (Qix i D m))∧(bif D0.isEmpty then(Qcm N).bind fun x103=>Qeh N b k98 x103 N 0 m 0 (List.replicate (b.Inlets.length:Int).toNat 0) else(Qcl N D0.length D0).bind fun x122=>Qdo N b D0 k98 x122 N 0 m 0 (List.replicate (b.Inlets.length:Int).toNat 0))=k98 (Qn4 D m,p,ms):=fun k98=>by
  rw[Int.toNat_natCast]
  cases he:D0.isEmpty with
  |true=>
   have hz:=List.isEmpty_iff.1 he
   rw[hz] at hlen
   have hz':D=[]:=List.length_eq_zero_iff.1 hlen
   obtain⟨n,hn⟩:∃n,N=n+1:=⟨N-1,by omega⟩
   refine⟨0,List.replicate b.Inlets.length 0,List.length_replicate,fun i hi=>by rw[hr0 i hi,hz'];rfl,?_⟩
   rw[cond_true,Q5n (by omega),Option.bind_some,hz',hn,Qeh]
   rfl
  |false=>
   rw[cond_false,hso,Option.bind_some]
   obtain⟨p,ms,e,l,_,q⟩:=Q9q N b D D0 hS.v hlen.symm (by have:=hS.n;omega) hS.i k98 N 0 m 0 (List.replicate b.Inlets.length 0) (by rw[List.drop_zero];have:=hS.n;omega) m0 m1 List.length_replicate hrep
   rw[List.drop_zero] at e q
   exact⟨p,ms,l,fun i hi=>by rw[q i 0 (hr0 i hi),Int.zero_add],e⟩
 obtain⟨p,ms,l,q,e⟩:=hfin fun x=>bif decide (x.1>0) then some ([],0,11) else chk (decide ((b.Inlets.length:Int).toNat≤x.2.2.length)) (some (x.2.2.take (b.Inlets.length:Int).toNat,x.2.1,0))
 refine⟨p,ms,l,q,?_⟩
 rw[Qb6]
 refine(off7 (N:=N) (by omega) 0 cl hc hl.2 h6 _ N 0 [] (by rw[List.drop_zero];omega) (by rw[List.drop_zero,List.length_nil];omega)).trans ?_
 rw[List.drop_zero,List.nil_append,hD0]
 refine(chkT hlp).trans ?_
 rw[Qb6]
 refine e.trans ?_
 cases decide (Qn4 D m>0) with
 |true=>rfl
 |false=>
  rw[cond_false,cond_false]
  dsimp only
  rw[chkT (decide_eq_true (by rw[Int.toNat_natCast,l];exact Nat.le_refl _)),Int.toNat_natCast,List.take_of_length_le (by rw[l];exact Nat.le_refl _)]
end
section
theorem Qv7 (N:Nat) (x:Qba) (hs:∀s∈x.Stairs,Qn0 s) (hx:x.Stairs.length≤6):∀(n i:Nat) (a:Int),(x.Stairs.drop i).length<n→0≤a→a≤1000000*i→Qc9 N x (fun y1=>some y1) n a i=some (a+Qii (x.Stairs.drop i)):=by
 intro n
 induction n with
 |zero=>intro i _ h;cases h
 |succ n ih=>
  intro i a h a0 a1
  rw[Qc9]
  cases hd:x.Stairs.drop i with
  |nil=>
   have:=Qd0 hd
   rw[decide_eq_false (show ¬((i:Int)<x.Stairs.length) by omega),cond_false]
   simp[Qii]
  |cons s q=>
   obtain⟨hg,hd',hlt⟩:=Qc6 hd
   have ha:=(hs s (List.mem_of_getElem? hg)).a
   rw[decide_eq_true (show(i:Int)<x.Stairs.length by omega),cond_true,Qdi hg,Option.bind_some,Qbw (x:=(i:Int)+1) (by omega) (by omega),Qbw (x:=a+s.Amount) (by omega) (by omega),show(i:Int)+1=((i+1:Nat):Int) by omega,
    ih (i+1) _ (dlt hd hd' h) (by omega) (by omega),hd']
   have:Qii (s::q)=s.Amount+Qii q:=by simp[Qii]
   rw[this,Int.add_assoc]
theorem Q17 {N:Nat}(hN:1000≤N) {x:Qba}(hx:Qpi x.Stairs):Qfw N x=some (Qii x.Stairs):=by
 have h6:=hx.n
 unfold Qfw
 rw[Qb6]
 refine(Qv7 N x hx.s h6.2 N 0 0 (by rw[List.drop_zero];omega) (Int.le_refl 0) (by omega)).trans ?_
 rw[List.drop_zero,Int.zero_add]
theorem Q0l (N:Nat) (x:Qba) (hs:∀s∈x.Stairs,Qn0 s) (hx:x.Stairs.length≤6):∀(n i:Nat) (m a:Int),(x.Stairs.drop i).length<n→0≤m→m≤1000000→0≤a→a≤1000000000*i→Qdf N x (fun y1=>some y1) n m a i=some (a+Qk1 (x.Stairs.drop i) m)∧0≤Qk1 (x.Stairs.drop i) m∧Qk1 (x.Stairs.drop i) m≤1000000000*(x.Stairs.drop i).length:=by
 intro n
 induction n with
 |zero=>intro i _ _ h;cases h
 |succ n ih=>
  intro i m a h m0 m1 a0 a1
  rw[Qdf]
  cases hd:x.Stairs.drop i with
  |nil=>
   have:=Qd0 hd
   rw[decide_eq_false (show ¬((i:Int)<x.Stairs.length) by omega),cond_false]
   exact⟨by rw[Qk1,Int.add_zero],Int.le_refl _,by rw[Qk1];exact Int.le_refl _⟩
  |cons s q=>
   obtain⟨hg,hd',hlt⟩:=Qc6 hd
   have hsv:=hs s (List.mem_of_getElem? hg)
   have ha:=hsv.a
   have hp:=hsv.p
   have e:(if s.Amount<m then s.Amount else m)=min m s.Amount:=by split<;>omega
   have hb:=bdp (x:=min m s.Amount) (y:=s.Price) (a:=1000000) (b:=1000) (by omega) (by omega) hp.1 hp.2 (by decide)
   obtain⟨i1,i2,i3⟩:=ih (i+1) (m-min m s.Amount) (a+min m s.Amount*s.Price) (dlt hd hd' h) (by omega) (by omega) (by omega) (by omega)
   rw[hd'] at i1 i2 i3
   rw[decide_eq_true (show(i:Int)<x.Stairs.length by omega),cond_true,Qdi hg,Option.bind_some,Option.bind_some,Option.bind_some,e,Qbw (x:=min m s.Amount*s.Price) (by omega) (by omega),Qbw (x:=m-min m s.Amount) (by omega) (by omega),Qbw (x:=a+min m s.Amount*s.Price) (by omega) (by omega),w64S (i:=i) (by omega),i1]
   simp only[Qk1,List.length_cons]
   exact⟨by rw[Int.add_assoc],by omega,by omega⟩
theorem Q6r {N:Nat}(hN:1000≤N) {x:Qba}(hx:Qpi x.Stairs) {m:Int}(m0:0≤m) (m1:m≤1000000):Qf8 N x m=some (Qk1 x.Stairs m)∧0≤Qk1 x.Stairs m∧Qk1 x.Stairs m≤6000000000:=by
 have h6:=hx.n
 unfold Qf8
 rw[Qb6]
 obtain⟨e,b0,b1⟩:=Q0l N x hx.s h6.2 N 0 m 0 (by rw[List.drop_zero];omega) m0 m1 (Int.le_refl 0) (by omega)
 rw[List.drop_zero] at e b0 b1
 refine⟨?_,b0,by omega⟩
 rw[Int.zero_add] at e
 exact e
theorem Qt5 {N:Nat}(hN:1000≤N) {t:Qat}{b:Qa7}(hb:Ql0 t b) {ms:List Int}(hl:ms.length=b.Inlets.length) (hm:∀(i:Nat) x y,b.Inlets[i]? = some x→ms[i]? = some y→0≤y∧y≤Qii x.Stairs):∀(n i:Nat),(ms.drop i).length<n→Qc3 N b (fun _=>some ((ms.length:Int)==(b.Inlets.length:Int))) ms n i=some true:=by
 have h10:=hb.il
 intro n
 induction n with
 |zero=>intro i h;cases h
 |succ n ih=>
  intro i h
  rw[Qc3]
  cases hd:ms.drop i with
  |nil=>
   have:=Qd0 hd
   rw[decide_eq_false (show ¬((i:Int)<ms.length) by omega),cond_false,hl]
   simp
  |cons y q=>
   obtain⟨hg,hd',hlt⟩:=Qc6 hd
   obtain⟨x,hx⟩:∃x,b.Inlets[i]? = some x:=⟨_,List.getElem?_eq_getElem (by omega)⟩
   have hv:=(hb.inl x (List.mem_of_getElem? hx)).2
   rw[decide_eq_true (show(i:Int)<ms.length by omega),cond_true,Qdi hg,Option.bind_some,decide_eq_false (show ¬(i:Int)≥b.Inlets.length by omega),cond_false,Qdi hx,Option.bind_some,Q17 hN hv,Option.bind_some,Qfl,Option.bind_some,Qe5.2 (hm i x y hx hg),show(!true)=false from rfl,cond_false,Qbw (by omega) (by omega),show(i:Int)+1=((i+1:Nat):Int) by omega]
   exact ih (i+1) (dlt hd hd' h)
end
section
theorem Qwl {N:Nat}(hN:1000≤N) {t:Qat}{b:Qa7}(hb:Ql0 t b) {ms:List Int}(g f:Nat→Int) (hm:∀(i:Nat),i<b.Inlets.length→ms[i]? = some (g i)∧0≤g i∧g i≤1000000) (hf:∀(i:Nat) x,b.Inlets[i]? = some x→f i=Qk1 x.Stairs (g i)):∀(n i:Nat),(b.Inlets.drop i).length<n→i≤b.Inlets.length→0≤sumI f i→sumI f i≤6000000000*i →
  Qev N b ms (fun y7=>some (y7,0)) n (sumI f i) i=some (sumI f b.Inlets.length,0):=by
 have h10:=hb.il
 intro n
 induction n with
 |zero=>intro i h;cases h
 |succ n ih=>
  intro i h hi s0 s1
  rw[Qev]
  cases hd:b.Inlets.drop i with
  |nil=>
   have:=Qd0 hd
   rw[decide_eq_false (show ¬((i:Int)<b.Inlets.length) by omega),cond_false,show i=b.Inlets.length by omega]
  |cons x q=>
   obtain⟨hg,hd',hlt⟩:=Qc6 hd
   have hv:=(hb.inl x (List.mem_of_getElem? hg)).2
   obtain⟨m1,m2,m3⟩:=hm i hlt
   obtain⟨c1,c2,c3⟩:=Q6r hN hv m2 m3
   rw[decide_eq_true (show(i:Int)<b.Inlets.length by omega),cond_true,Qdi hg,Option.bind_some,Qdi m1,Option.bind_some,c1,Option.bind_some,←hf i x hg]
   rw[←hf i x hg] at c2 c3
   rw[Qbw (x:=sumI f i+f i) (by omega) (by omega),w64S (i:=i) (by omega)]
   exact ih (i+1) (dlt hd hd' h) hlt (by rw[sumI];omega) (by rw[sumI];omega)
theorem Q5r {D:List Qaa}(hD:OffV D) (i:Int):∀m,0≤m→Qix i D m≤m:=by
 induction D with
 |nil=>exact fun m h=>h
 |cons o l ih=>
  intro m h
  have ho:=(hD o (by simp)).a
  have:=ih (fun x hx=>hD x (List.mem_cons_of_mem _ hx)) (m-min m o.Stair.Amount) (by omega)
  simp only[Qix]
  split<;>omega
theorem Q2w {N:Nat}(hN:150000000≤N) {t:Qat}{b:Qa7}(hb:Ql0 t b) (h0:Qec N t b=some 0) {cl:Qba→Bool}{D:List Qaa}(hS:OffS b cl D) {m:Int}(m0:0≤m) (m1:m≤1000000) {ms:List Int}(hl:ms.length=b.Inlets.length) (hm:∀(i:Nat),i<b.Inlets.length→ms[i]? = some (Qix i D m)) :
  Qhz N t b ms=some (Qsy D m,0):=by
 have h10:=hb.il
 have bd:∀(i:Nat),0≤Qix (i:Int) D m∧Qix (i:Int) D m≤1000000:=fun i=>by
  have h1:=(Qm0 (i:Int) D hS.v m m0).1
  have h2:=Q5r hS.v (i:Int) m m0
  omega
 have hw:∀(i:Nat) x y,b.Inlets[i]? = some x→ms[i]? = some y→0≤y∧y≤Qii x.Stairs:=fun i x y hx hy=>by
  have hi:=(List.getElem?_eq_some_iff.1 hx).1
  rw[hm i hi] at hy
  cases hy
  have h1:=Qm0 (i:Int) D hS.v m m0
  rw[hS.o i x hx] at h1
  refine⟨h1.1,?_⟩
  by_cases hc:cl x=true
  ·rw[if_pos hc] at h1
   have:0≤Qii x.Stairs:=by
    have hv:=(hb.inl x (List.mem_of_getElem? hx)).2.s
    generalize x.Stairs=l at hv
    induction l with
    |nil=>exact Int.le_refl _
    |cons s l ih=>
     have:=ih fun y hy=>hv y (List.mem_cons_of_mem _ hy)
     have:=(hv s (by simp)).a
     have:Qii (s::l)=s.Amount+Qii l:=by simp[Qii]
     omega
   have:Qii ([]:List Qap)=0:=rfl
   omega
  ·rw[if_neg hc] at h1
   exact h1.2
 have hmas:Qfb N b ms=some true:=by
  unfold Qfb
  rw[Qb6]
  exact Qt5 (by omega) hb hl hw N 0 (by rw[List.drop_zero];omega)
 unfold Qhz
 rw[h0,Option.bind_some,show((0:Int) != 0)=false from rfl,cond_false,hmas,Option.bind_some,show(!true)=false from rfl,cond_false,Qb6]
 refine(Qwl (N:=N) (by omega) hb (fun i=>Qix (i:Int) D m) (fun i=>Qk1 (ofO (i:Int) D) (Qix (i:Int) D m)) (fun i hi=>⟨hm i hi,bd i⟩) (fun i x hx=>?_) N 0 (by rw[List.drop_zero];omega) (Nat.zero_le _) (Int.le_refl 0) (by show(0:Int)≤6000000000*((0:Nat):Int);omega)).trans ?_
 ·rw[hS.o i x hx]
  by_cases hc:cl x=true
  ·rw[if_pos hc]
   have h1:=Qm0 (i:Int) D hS.v m m0
   rw[hS.o i x hx,if_pos hc] at h1
   have:Qii ([]:List Qap)=0:=rfl
   rw[show Qix (i:Int) D m=0 by omega,Qp5 _ fun s hs=>((hb.inl x (List.mem_of_getElem? hx)).2.s s hs).a.1]
   rfl
  ·rw[if_neg hc]
 ·rw[Qvh b.Inlets.length D hS.v hS.i m m0]
theorem Qwe {N:Nat}(hN:150000000≤N) {t:Qat}{b:Qa7}(ht:Qhd t) (hb:Ql0 t b):∃f:Int→Int×Bool,(∀m,Qgs N t b m=some (f m))∧∀m m',0≤m'→m'≤m→(f m).2=true→(f m').2=true∧(f m').1≤(f m).1:=by
 obtain⟨e,he⟩:=Q0r (N:=N) (by omega) ht hb
 have hpr:∀m q,Qeu N t b m=some q→Qgs N t b m=bif (q.2.2 != 0) then some (0,false) else(Qhz N t b q.1).bind fun x13=>some (x13.1,(x13.2==0)):=fun m q hq=>by
  unfold Qgs
  rw[Qyp (by omega) ht,Option.bind_some,Q0v (by omega) hb,Option.bind_some,hq,Option.bind_some,Option.bind_some,Option.bind_some]
 have bad:(∀m,∃q,Qeu N t b m=some q∧q.2.2≠0)→∃f:Int→Int×Bool,(∀m,Qgs N t b m=some (f m))∧∀m m',0≤m'→m'≤m→(f m).2=true→(f m').2=true∧(f m').1≤(f m).1:=fun h=>by
  refine⟨fun _=>(0,false),fun m=>?_,fun m m' _ _ h=>by simp at h⟩
  obtain⟨q,hq,h0⟩:=h m
  rw[hpr m q hq,show(q.2.2 != 0)=true from bne_iff_ne.2 h0,cond_true]
 by_cases h0:e=0
 ·subst h0
  rcases Qwo hN ht with hk |⟨R,B,hR,hk⟩
  ·refine bad fun m=>?_
   unfold Qeu
   rw[he,Option.bind_some,show((0:Int) != 0)=false from rfl,cond_false,Qfl,Option.bind_some,hk,Option.bind_some]
   cases btw m 0 1000000 with
   |false=>exact⟨_,rfl,by decide⟩
   |true=>exact⟨([],0,9),rfl,by decide⟩
  ·obtain⟨D,hS,hsh⟩:=Q2e hN hb he hk (fun x=>(Qck N t.Sites t.Tests R B b x).getD false) fun x hx=>by
    obtain⟨c,hc⟩:=Q0n (N:=N) (by omega) ht hR B (hb.inl x hx).1 hb.fds hb.fl.2
    rw[hc]
    rfl
   refine⟨fun m=>if 0≤m∧m≤1000000∧Qn4 D m≤0 then(Qsy D m,true) else(0,false),fun m=>?_,fun m m' h1 h2 h3=>?_⟩
   ·show _=some (if 0≤m∧m≤1000000∧Qn4 D m≤0 then(Qsy D m,true) else(0,false))
    by_cases hm:0≤m∧m≤1000000
    ·obtain⟨p,ms,l,q,e⟩:=hsh m hm.1 hm.2
     rw[hpr m _ e]
     by_cases hr:Qn4 D m>0
     ·rw[decide_eq_true hr,if_neg (by omega)]
      rfl
     ·rw[decide_eq_false hr,cond_false,if_pos ⟨hm.1,hm.2,by omega⟩]
      rw[show((0:Int) != 0)=false from rfl,cond_false,Q2w hN hb he hS hm.1 hm.2 l q]
      rfl
    ·rw[if_neg (by omega)]
     have hsx:Qeu N t b m=some ([],0,2):=by
      unfold Qeu
      rw[he,Option.bind_some,show((0:Int) != 0)=false from rfl,cond_false,Qfl,Option.bind_some,show btw m 0 1000000=false from by
       cases hbt:btw m 0 1000000 with
       |false=>rfl
       |true=>exact absurd (Qe5.1 hbt) hm]
      rfl
     rw[hpr m _ hsx]
     rfl
   ·dsimp only at h3 ⊢
    by_cases hm:0≤m∧m≤1000000∧Qn4 D m≤0
    ·have r1:=Qpt D hS.v m m' h1 h2
     rw[if_pos hm,if_pos ⟨h1,by omega,by omega⟩]
     exact⟨rfl,Qp6 D hS.v m m' h1 h2⟩
    ·rw[if_neg hm] at h3
     simp at h3
 ·refine bad fun m=>?_
  unfold Qeu
  rw[he,Option.bind_some,show(e != 0)=true from bne_iff_ne.2 h0,cond_true]
  exact⟨_,rfl,h0⟩
end
section
theorem Q6u:Qg2 2000=some true:=by decide +kernel
set_option maxRecDepth 100000 in
theorem Q6y:Qg3 2000=some true:=by decide +kernel
def Qky (k:Qe8) (c:Int):Int:=if c=0 then k.a0 else if c=1 then k.a1 else k.a2
theorem Q5b {β:Type}(L i:Nat) (hi:i<L) (hL:L≤1000) (y:List Int) (hl:y.length=L) (v ramp o:Int) (hr:0≤ramp∧ramp≤1000000000) (ho:0≤o∧o≤1000000000) (hprev:0<i→y[i-1]? = some o) (K:List Int→Option β) :
  (chk (decide (0≤(i:Int))&&decide ((i:Int).toNat<(L:Int).toNat))<|(y[(i:Int).toNat]?).bind fun _=>bif (decide ((i:Int)>0)) then(chk (decide (0≤(i:Int))&&decide ((i:Int).toNat<(L:Int).toNat))<|((y.set (i:Int).toNat v)[(i:Int).toNat]?).bind fun x29=>chk (decide (0≤w64 ((i:Int)-1))&&decide ((w64 ((i:Int)-1)).toNat<(L:Int).toNat))<|((y.set (i:Int).toNat v)[(w64 ((i:Int)-1)).toNat]?).bind fun x32=>chk (decide (0≤(i:Int))&&decide ((i:Int).toNat<(L:Int).toNat))<|((y.set (i:Int).toNat v)[(i:Int).toNat]?).bind fun _=>K ((y.set (i:Int).toNat v).set (i:Int).toNat (if (w64 (x32+ramp))<x29 then w64 (x32+ramp) else x29))) else K (y.set (i:Int).toNat v))=K (y.set i (if 0<i then min v (o+ramp) else v)):=by
 have hy:i<y.length:=by omega
 have c1:(decide (0≤(i:Int))&&decide ((i:Int).toNat<(L:Int).toNat))=true:=by rw[decide_eq_true (by omega),decide_eq_true (by omega)];rfl
 rw[chkT c1,Int.toNat_natCast,List.getElem?_eq_getElem hy,Option.bind_some]
 by_cases h0:0<i
 ·have e1:w64 ((i:Int)-1)=((i-1:Nat):Int):=by rw[Qbw (by omega) (by omega)];omega
  have c2:(decide (0≤((i-1:Nat):Int))&&decide ((((i-1:Nat):Int)).toNat<(L:Int).toNat))=true:=by rw[decide_eq_true (by omega),decide_eq_true (by omega)];rfl
  rw[decide_eq_true (show(i:Int)>0 by omega),cond_true,e1,List.getElem?_set_self hy,Option.bind_some,chkT (by rw[Int.toNat_natCast] at c1;exact c1),chkT c2,Int.toNat_natCast,List.getElem?_set_ne (by omega),hprev h0,Option.bind_some,chkT (by rw[Int.toNat_natCast] at c1;exact c1),Option.bind_some,List.set_set,if_pos h0,Qbw (by omega) (by omega)]
  congr 2
  split<;>omega
 ·rw[decide_eq_false (show ¬(i:Int)>0 by omega),cond_false,if_neg h0]
def vI (plan col:List Int) (k:Qe8) (i:Nat):Int:=plan.getD i 0*Qky k (col.getD i 0)/1000
def outI (plan col:List Int) (k:Qe8) (ramp:Int):Nat→Int
 |0=>vI plan col k 0
 |i+1=>min (vI plan col k (i+1)) (outI plan col k ramp i+ramp)
structure Qpn (plan col:List Int) (k:Qe8) (ramp:Int):Prop where
 n:plan.length≤500
 l:col.length=plan.length
 p:∀x∈plan,0≤x∧x≤1000000000
 c:∀x∈col,x=0∨x=1∨x=2
 k0:k.a0≤1000
 k1:k.a1≤k.a0
 k2:k.a2≤k.a1
 k3:0≤k.a2
 r:0≤ramp∧ramp≤1000000000
theorem Q5t {plan col:List Int}{k:Qe8}{ramp:Int}(h:Qpn plan col k ramp) (c:Int):0≤Qky k c∧Qky k c≤1000:=by
 have:=h.k0
 have:=h.k1
 have:=h.k2
 have:=h.k3
 unfold Qky
 split
 ·omega
 ·split<;>omega
theorem v_bd {plan col:List Int}{k:Qe8}{ramp:Int}(h:Qpn plan col k ramp) {i:Nat}{x c:Int}(hx:plan[i]? = some x) (hc:col[i]? = some c):vI plan col k i=x*Qky k c/1000∧0≤x*Qky k c∧x*Qky k c≤1000000000000∧0≤vI plan col k i∧vI plan col k i≤x:=by
 have hp:=h.p x (List.mem_of_getElem? hx)
 have hk:=Q5t h c
 have e:vI plan col k i=x*Qky k c/1000:=by
  unfold vI
  rw[List.getD_eq_getElem?_getD,List.getD_eq_getElem?_getD,hx,hc]
  rfl
 have hb:=bdp (x:=x) (y:=Qky k c) (a:=1000000000) (b:=1000) hp.1 hp.2 hk.1 hk.2 (by decide)
 have h2:x*Qky k c≤x*1000:=Int.mul_le_mul_of_nonneg_left hk.2 hp.1
 exact⟨e,hb.1,by omega,by rw[e];omega,by rw[e];omega⟩
theorem Qu6 {plan col:List Int}{k:Qe8}{ramp:Int}(h:Qpn plan col k ramp):∀(i:Nat) {x c:Int},plan[i]? = some x→col[i]? = some c→0≤outI plan col k ramp i∧outI plan col k ramp i≤x
 |0,x,c,hx,hc=>by have:=v_bd h hx hc;rw[outI];omega
 |i+1,x,c,hx,hc=>by
  have hi:i+1<plan.length:=(List.getElem?_eq_some_iff.1 hx).1
  have hl:=h.l
  have:=v_bd h hx hc
  have ih:=Qu6 h i (List.getElem?_eq_getElem (show i<plan.length by omega)) (List.getElem?_eq_getElem (show i<col.length by omega))
  have:=h.r
  rw[outI]
  omega
theorem Q2k (plan col:List Int) (k:Qe8) (ramp:Int) (i:Nat):outI plan col k ramp i=if 0<i then min (vI plan col k i) (outI plan col k ramp (i-1)+ramp) else vI plan col k i:=by
 cases i with
 |zero=>rfl
 |succ i=>rw[if_pos (Nat.succ_pos i)];rfl
theorem Q2r {N:Nat}{plan col:List Int}{k:Qe8}{ramp:Int}(h:Qpn plan col k ramp) (K:List Int→Option (List Int×Int)):∀(n i:Nat) (y:List Int),plan.length-i<n→i≤plan.length→y.length=plan.length→(∀j,j<i→y[j]? = some (outI plan col k ramp j)) →
  ∃y',y'.length=plan.length∧(∀j,j<plan.length→y'[j]? = some (outI plan col k ramp j))∧Qbl N plan col k ramp K n i y=K y':=by
 have hn:=h.n
 have hl:=h.l
 intro n
 induction n with
 |zero=>intro i _ h;cases h
 |succ n ih=>
  intro i y hm hi hy hp
  rw[Qbl]
  by_cases hlt:i<plan.length
  ·obtain⟨x,hx⟩:∃x,plan[i]? = some x:=⟨_,List.getElem?_eq_getElem hlt⟩
   obtain⟨c,hc⟩:∃c,col[i]? = some c:=⟨_,List.getElem?_eq_getElem (show i<col.length by omega)⟩
   obtain⟨v1,v2,v3,v4,v5⟩:=v_bd h hx hc
   have hob:=Qu6 h i hx hc
   have hpx:=h.p x (List.mem_of_getElem? hx)
   rw[decide_eq_true (show(i:Int)<plan.length by omega),cond_true,Qdi hx,Option.bind_some,Qdi hc,Option.bind_some]
   have hprev:∃o,(0≤o∧o≤1000000000)∧(0<i→y[i-1]? = some o)∧(0<i→o=outI plan col k ramp (i-1)):=by
    by_cases h0:0<i
    ·have hb:=Qu6 h (i-1) (List.getElem?_eq_getElem (show i-1<plan.length by omega)) (List.getElem?_eq_getElem (show i-1<col.length by omega))
     have hq:=h.p _ (List.getElem_mem (show i-1<plan.length by omega))
     exact⟨_,⟨hb.1,by omega⟩,fun _=>hp (i-1) (by omega),fun _=>rfl⟩
    ·exact⟨0,by omega,fun h=>absurd h h0,fun h=>absurd h h0⟩
   obtain⟨o,ob,op,oe⟩:=hprev
   have fin:∀v,v=vI plan col k i→∃y',y'.length=plan.length∧(∀j,j<plan.length→y'[j]? = some (outI plan col k ramp j))∧Qbl N plan col k ramp K n (w64 ((i:Int)+1)) (y.set i (if 0<i then min v (o+ramp) else v))=K y':=fun v hv=>by
    have e2:(if 0<i then min v (o+ramp) else v)=outI plan col k ramp i:=by
     rw[Q2k,hv]
     split
     ·rename_i h0;rw[oe h0]
     ·rfl
    rw[e2,w64S (i:=i) (by omega)]
    refine ih (i+1) _ (by omega) hlt (by rw[List.length_set];exact hy) fun j hj=>?_
    by_cases hji:j=i
    ·subst hji;rw[List.getElem?_set_self (by omega)]
    ·rw[List.getElem?_set_ne (fun e=>hji e.symm)];exact hp j (by omega)
   have kv:∀a,a=Qky k c→(w64 ((w64 (x*a)).tdiv 1000))=vI plan col k i:=fun a ha=>by
    rw[ha,Qbw (x:=x*Qky k c) (by omega) (by omega),Int.tdiv_eq_ediv_of_nonneg v2,Qbw (by omega) (by omega),v1]
   rcases h.c c (List.mem_of_getElem? hc) with rfl |rfl |rfl
   ·obtain⟨y',a1,a2,a3⟩:=fin _ (kv k.a0 rfl)
    exact⟨y',a1,a2,(Q5b plan.length i hlt (by omega) y hy _ ramp o h.r ob op fun q=>Qbl N plan col k ramp K n (w64 ((i:Int)+1)) q).trans a3⟩
   ·obtain⟨y',a1,a2,a3⟩:=fin _ (kv k.a1 rfl)
    exact⟨y',a1,a2,(Q5b plan.length i hlt (by omega) y hy _ ramp o h.r ob op fun q=>Qbl N plan col k ramp K n (w64 ((i:Int)+1)) q).trans a3⟩
   ·obtain⟨y',a1,a2,a3⟩:=fin _ (kv k.a2 rfl)
    exact⟨y',a1,a2,(Q5b plan.length i hlt (by omega) y hy _ ramp o h.r ob op fun q=>Qbl N plan col k ramp K n (w64 ((i:Int)+1)) q).trans a3⟩
  ·rw[decide_eq_false (show ¬(i:Int)<plan.length by omega)]
   exact⟨y,hy,fun j hj=>hp j (by omega),rfl⟩
end
section
theorem Q32 (N:Nat) (a lo hi:Int):Qj8 N a lo hi=some (btw a lo hi):=by
 unfold Qj8 btw
 rw[show decide (a≥lo)=decide (lo≤a) from rfl]
 cases decide (lo≤a)<;>rfl
theorem Q31 (N:Nat) (a lo hi:Int):Qhi N a lo hi=some (btw a lo hi):=by
 unfold Qhi btw
 cases decide (lo≤a)<;>rfl
theorem Qwa (N:Nat) {plan col:List Int}(hn:plan.length≤500) (hl:col.length=plan.length) (hc:∀x∈col,0≤x):∀(n i:Nat),(plan.drop i).length<n →
  ∃b,Qdy N plan col (fun _=>some true) n i=some b∧(b=true→(∀x∈plan.drop i,0≤x∧x≤1000000000)∧∀x∈col.drop i,x=0∨x=1∨x=2):=by
 intro n
 induction n with
 |zero=>intro i h;cases h
 |succ n ih=>
  intro i h
  rw[Qdy]
  cases hd:plan.drop i with
  |nil=>
   have:=Qd0 hd
   rw[decide_eq_false (show ¬((i:Int)<plan.length) by omega),cond_false]
   refine⟨true,rfl,fun _=>⟨fun x hx=>(by cases hx),fun x hx=>?_⟩⟩
   rw[List.drop_eq_nil_iff.2 (by omega)] at hx
   cases hx
  |cons x q=>
   obtain⟨hg,hd',hlt⟩:=Qc6 hd
   obtain⟨c,hcg⟩:∃c,col[i]? = some c:=⟨_,List.getElem?_eq_getElem (show i<col.length by omega)⟩
   have hcd:col.drop i=c::col.drop (i+1):=by
    have hi:i<col.length:=by omega
    rw[List.drop_eq_getElem_cons hi]
    rw[List.getElem?_eq_getElem hi] at hcg
    cases hcg
    rfl
   have c0:=hc c (List.mem_of_getElem? hcg)
   rw[decide_eq_true (show(i:Int)<plan.length by omega),cond_true,Qdi hg,Option.bind_some,Q32,Option.bind_some]
   cases h1:btw x 0 1000000000 with
   |false=>exact⟨false,rfl,fun h=>by cases h⟩
   |true=>
   rw[show(!true)=false from rfl,cond_false,Qdi hcg,Option.bind_some]
   by_cases h2:c>2
   ·rw[decide_eq_true h2];exact⟨false,rfl,fun h=>by cases h⟩
   rw[decide_eq_false h2,cond_false,Qbw (by omega) (by omega),show(i:Int)+1=((i+1:Nat):Int) by omega]
   obtain⟨b,hb,hv⟩:=ih (i+1) (dlt hd hd' h)
   refine⟨b,hb,fun h=>?_⟩
   obtain⟨v1,v2⟩:=hv h
   rw[hd'] at v1
   rw[hcd]
   refine⟨fun y hy=>?_,fun y hy=>?_⟩
   ·rcases List.mem_cons.1 hy with rfl |hy
    ·exact Qe5.1 h1
    ·exact v1 y hy
   ·rcases List.mem_cons.1 hy with rfl |hy
    ·omega
    ·exact v2 y hy
theorem Q2g {N:Nat}(hN:1000≤N) {plan col:List Int}{k:Qe8}{ramp:Int}(hn:plan.length≤500) (hc:∀x∈col,0≤x):∃b,Qgq N plan col k ramp=some b∧(b=true→Qpn plan col k ramp):=by
 unfold Qgq
 rw[Qb6]
 by_cases hl:col.length=plan.length
 ·rw[show((col.length:Int) != (plan.length:Int))=false from by rw[hl];simp,cond_false,Q32,Option.bind_some]
  cases h1:btw ramp 0 1000000000 with
  |false=>exact⟨false,rfl,fun h=>by cases h⟩
  |true=>
  rw[show(!true)=false from rfl,cond_false]
  by_cases h2:k.a0>1000
  ·rw[decide_eq_true h2];exact⟨false,rfl,fun h=>by cases h⟩
  rw[decide_eq_false h2,cond_false]
  by_cases h3:k.a2<0
  ·rw[decide_eq_true h3];exact⟨false,rfl,fun h=>by cases h⟩
  rw[decide_eq_false h3,cond_false]
  by_cases h4:k.a0<k.a1
  ·rw[decide_eq_true h4];exact⟨false,rfl,fun h=>by cases h⟩
  rw[decide_eq_false h4,cond_false]
  by_cases h5:k.a1<k.a2
  ·rw[decide_eq_true h5];exact⟨false,rfl,fun h=>by cases h⟩
  rw[decide_eq_false h5,cond_false,Qb6]
  obtain⟨b,hb,hv⟩:=Qwa N hn hl hc N 0 (by rw[List.drop_zero];omega)
  refine⟨b,hb,fun h=>?_⟩
  obtain⟨v1,v2⟩:=hv h
  rw[List.drop_zero] at v1 v2
  exact⟨hn,hl,v1,v2,by omega,by omega,by omega,by omega,Qe5.1 h1⟩
 ·rw[show((col.length:Int) != (plan.length:Int))=true from by rw[bne_iff_ne];omega]
  exact⟨false,rfl,fun h=>by cases h⟩
theorem Q1h (N:Nat) {l:List Int}(hn:l.length≤500) (hl:∀x∈l,0≤x∧x≤1000000000):∀(n i:Nat),(l.drop i).length<n→Qbt N l (fun _=>some (-1)) n i=some (-1):=by
 intro n
 induction n with
 |zero=>intro i h;cases h
 |succ n ih=>
  intro i h
  rw[Qbt]
  cases hd:l.drop i with
  |nil=>
   have:=Qd0 hd
   rw[decide_eq_false (show ¬((i:Int)<l.length) by omega),cond_false]
  |cons x q=>
   obtain⟨hg,hd',hlt⟩:=Qc6 hd
   unfold Qgm Qfy
   rw[decide_eq_true (show(i:Int)<l.length by omega),cond_true,Qdi hg,Option.bind_some,Q31,Option.bind_some,Option.bind_some,Option.bind_some,Qe5.2 (hl x (List.mem_of_getElem? hg)),show(!true)=false from rfl,cond_false,Qbw (by omega) (by omega),show(i:Int)+1=((i+1:Nat):Int) by omega]
   exact ih (i+1) (dlt hd hd' h)
theorem Q1g (N:Nat) {l:List Int}(hn:l.length≤500) (hl:∀x∈l,x=0∨x=1∨x=2):∀(n i:Nat),(l.drop i).length<n→Qbk N l (fun _=>some (-1)) n i=some (-1):=by
 intro n
 induction n with
 |zero=>intro i h;cases h
 |succ n ih=>
  intro i h
  rw[Qbk]
  cases hd:l.drop i with
  |nil=>
   have:=Qd0 hd
   rw[decide_eq_false (show ¬((i:Int)<l.length) by omega),cond_false]
  |cons x q=>
   obtain⟨hg,hd',hlt⟩:=Qc6 hd
   have hx:=hl x (List.mem_of_getElem? hg)
   unfold Qfz Qhl
   rw[decide_eq_true (show(i:Int)<l.length by omega),cond_true,Qdi hg,Option.bind_some,Option.bind_some,Option.bind_some,decide_eq_true (show x≤2 by omega),show(!true)=false from rfl,cond_false,Qbw (by omega) (by omega),show(i:Int)+1=((i+1:Nat):Int) by omega]
   exact ih (i+1) (dlt hd hd' h)
theorem Qsm {N:Nat}(hN:1000≤N) {plan col:List Int}{k:Qe8}{ramp:Int}(h:Qpn plan col k ramp):∃l,Qga N plan col k ramp=some (l,0)∧l.length=plan.length∧∀j,j<plan.length→l[j]? = some (outI plan col k ramp j):=by
 have hn:=h.n
 have hl:=h.l
 have a1:Qgg N plan=some true:=by
  unfold Qgg Qd9 Qen
  rw[Qb6]
  have:Qbt N plan (fun _=>some (-1)) N 0=some (-1):=Q1h N hn h.p N 0 (by rw[List.drop_zero];omega)
  rw[this]
  rfl
 have a2:Qfn N col=some true:=by
  unfold Qfn Qdt Qd5
  rw[Qb6]
  have:Qbk N col (fun _=>some (-1)) N 0=some (-1):=Q1g N (by omega) h.c N 0 (by rw[List.drop_zero];omega)
  rw[this]
  rfl
 have hlp:(decide (0≤(plan.length:Int))&&decide (8*(plan.length:Int)≤281474976710656)&&decide ((plan.length:Int)≤9223372036854775807))=true:=by
  rw[decide_eq_true (by omega),decide_eq_true (by omega),decide_eq_true (by omega)];rfl
 obtain⟨y,y1,y2,y3⟩:=Q2r (N:=N) h (fun y6=>chk (decide ((plan.length:Int).toNat≤y6.length)) (some (y6.take ((plan.length:Int).toNat),0))) N 0 (List.replicate (plan.length:Int).toNat 0) (by omega) (Nat.zero_le _) (by rw[List.length_replicate];omega) (fun j hj=>absurd hj (Nat.not_lt_zero _))
 refine⟨y,?_,y1,y2⟩
 unfold Qga
 rw[Qb6,decide_eq_false (show ¬(plan.length:Int)>500 by omega),cond_false,Qb6,a1,Option.bind_some,show(!true)=false from rfl,cond_false,show((col.length:Int) != (plan.length:Int))=false from by rw[hl];simp,cond_false,a2,Option.bind_some,show(!true)=false from rfl,cond_false]
 unfold Qfy
 rw[Q31,Option.bind_some,Option.bind_some,Qe5.2 h.r,show(!true)=false from rfl]
 show(bif false then some ([],1) else _)=_
 rw[cond_false,decide_eq_false (show ¬k.a0>1000 by have:=h.k0;omega),cond_false,decide_eq_false (show ¬k.a1>k.a0 by have:=h.k1;omega),cond_false,decide_eq_false (show ¬k.a2>k.a1 by have:=h.k2;omega),cond_false,decide_eq_false (show ¬k.a2<0 by have:=h.k3;omega),cond_false]
 refine(chkT hlp).trans ?_
 rw[Qb6]
 refine y3.trans ?_
 rw[chkT (decide_eq_true (by rw[Int.toNat_natCast,y1];exact Nat.le_refl _)),Int.toNat_natCast,List.take_of_length_le (by rw[y1];exact Nat.le_refl _)]
end
section
theorem Qzn {plan col:List Int}{k:Qe8}{ramp:Int}(h:Qpn plan col k ramp) {c d:Int}(hc:c=0∨c=1∨c=2) (hd:d=c∨d=c-1) (h0:0≤d):Qky k c≤Qky k d:=by
 have:=h.k1
 have:=h.k2
 rcases hd with rfl |rfl
 ·exact Int.le_refl _
 ·rcases hc with rfl |rfl |rfl
  ·omega
  ·exact h.k1
  ·exact h.k2
theorem Q2l {plan col ease:List Int}{k:Qe8}{ramp:Int}(h:Qpn plan col k ramp) (h':Qpn plan ease k ramp) (he:∀(i:Nat) c d,col[i]? = some c→ease[i]? = some d→Qky k c≤Qky k d):∀(i:Nat),i<plan.length→outI plan col k ramp i≤outI plan ease k ramp i:=by
 have hl:=h.l
 have hl':=h'.l
 have vm:∀i,i<plan.length→vI plan col k i≤vI plan ease k i:=fun i hi=>by
  have hx:=List.getElem?_eq_getElem hi
  have hc:=List.getElem?_eq_getElem (show i<col.length by omega)
  have hd:=List.getElem?_eq_getElem (show i<ease.length by omega)
  have a:=v_bd h hx hc
  have b:=v_bd h' hx hd
  have hp:=h.p _ (List.getElem_mem hi)
  have hm:=Int.mul_le_mul_of_nonneg_left (he i _ _ hc hd) hp.1
  rw[a.1,b.1]
  omega
 intro i
 induction i with
 |zero=>exact fun hi=>vm 0 hi
 |succ i ih=>
  intro hi
  have h1:=vm (i+1) hi
  have h2:=ih (by omega)
  rw[outI,outI]
  omega
theorem Q5s {N:Nat}{t:Qat}{b:Qa7}(f:Int→Int×Bool) (hf:∀m,Qgs N t b m=some (f m)) (hm:∀m m',0≤m'→m'≤m→(f m).2=true→(f m').2=true∧(f m').1≤(f m).1) {plan:List Int}(x y:(List Int)×Int) (hn:plan.length≤12) (hx:∀(i:Nat) p,plan[i]? = some p→∃a c,x.1[i]? = some a∧y.1[i]? = some c∧0≤a∧a≤p∧a≤c) (K:Unit→Option Bool) (hK:K ()=some true):∀(n i:Nat),(plan.drop i).length<n→Qcw N t b plan x y K n i=some true:=by
 intro n
 induction n with
 |zero=>intro i h;cases h
 |succ n ih=>
  intro i h
  rw[Qcw]
  cases hd:plan.drop i with
  |nil=>
   have:=Qd0 hd
   rw[decide_eq_false (show ¬((i:Int)<plan.length) by omega),cond_false,hK]
  |cons p q=>
   obtain⟨hg,hd',hlt⟩:=Qc6 hd
   obtain⟨a,c,ha,hc,a0,a1,a2⟩:=hx i p hg
   have hn:=ih (i+1) (dlt hd hd' h)
   rw[decide_eq_true (show(i:Int)<plan.length by omega),cond_true,Qdi hg,Option.bind_some,hf,Option.bind_some,Qdi ha,Option.bind_some,hf,Option.bind_some,Qdi hc,Option.bind_some,hf,Option.bind_some,show w64 ((i:Int)+1)=((i+1:Nat):Int) by rw[Qbw (by omega) (by omega)];omega,hn]
   have m1:=hm p a a0 a1
   have m2:=hm c a a0 a2
   cases h1:(f p).2 with
   |true=>
    obtain⟨q1,q2⟩:=m1 h1
    rw[q1,cond_true,show(!true)=false from rfl,cond_false,decide_eq_false (show ¬(f a).1>(f p).1 by omega),cond_false]
    cases h2:(f c).2 with
    |true=>rw[cond_true,decide_eq_false (show ¬(f a).1>(f c).1 by have:=(m2 h2).2;omega),cond_false]
    |false=>rfl
   |false=>
    rw[cond_false]
    cases h2:(f c).2 with
    |true=>rw[(m2 h2).1,cond_true,show(!true)=false from rfl,cond_false,decide_eq_false (show ¬(f a).1>(f c).1 by have:=(m2 h2).2;omega),cond_false]
    |false=>rfl
theorem Qui (t:Qat) (b:Qa7) (plan col:List Int) (k:Qe8) (ramp at_:Int) (_:Qso t) (_:Qss b) (_:Qt7 plan) (gc:Q33 col) (_:Qst k) (_:Qi9 ramp) (ga:Q5x at_):Qh6 150000000 t b plan col k ramp at_=some true:=by
 generalize hN:(150000000:Nat)=N
 have hN':150000000≤N:=by omega
 have ba:0≤at_∧at_≤255:=bounds_u8 ga
 have hc0:∀x∈col,0≤x∧x≤255:=fun x hx=>bounds_u8 (gc.2.1 x hx)
 unfold Qh6
 rw[Q6y,Q6u]
 refine jkk fun K1 hK1=>?_
 unfold Qlo
 rw[Option.bind_some]
 cases decide ((t.Tests.length:Int)≤70) with
 |false=>rfl
 |true=>
 rw[show(!true)=false from rfl,cond_false]
 cases decide ((b.Inlets.length:Int)>15) with
 |true=>rfl
 |false=>
 rw[cond_false]
 cases decide ((b.Feeds.length:Int)>15) with
 |true=>rfl
 |false=>
 obtain⟨e,he,hv⟩:=Q0u (N:=N) (t:=t) (b:=b) (by omega)
 rw[cond_false,he,Option.bind_some]
 by_cases h0:e=0
 case neg=>rw[show(e != 0)=true from bne_iff_ne.2 h0];rfl
 subst h0
 obtain⟨ht,hb⟩:=hv rfl
 rw[show((0:Int) != 0)=false from rfl,cond_false]
 by_cases h1:(plan.length:Int)<1
 ·rw[decide_eq_true h1];rfl
 rw[decide_eq_false h1,cond_false]
 by_cases h2:(plan.length:Int)>12
 ·rw[decide_eq_true h2];rfl
 rw[decide_eq_false h2,cond_false]
 obtain⟨r,hr,hp⟩:=Q2g (N:=N) (plan:=plan) (col:=col) (k:=k) (ramp:=ramp) (by omega) (by omega) fun x hx=>(hc0 x hx).1
 rw[hr,Option.bind_some]
 cases r with
 |false=>rfl
 |true=>
 have hP:=hp rfl
 have hl:=hP.l
 rw[show(!true)=false from rfl,cond_false,hK1]
 obtain⟨l,i1,i2,i3⟩:=Qsm (N:=N) (by omega) hP
 rw[List.nil_append,List.nil_append,chkT (decide_eq_true (by simp only[List.length_nil];omega)),chkT (decide_eq_true (by simp only[List.length_nil];omega)),i1,Option.bind_some,chkT (by cases col with |nil=>simp at hl;omega |cons=>rfl),chkT (decide_eq_true (by omega))]
 refine jkk fun K9 hK9=>?_
 have fin:∀ease:List Int,Qpn plan ease k ramp→(∀(i:Nat) c d,col[i]? = some c→ease[i]? = some d→Qky k c≤Qky k d)→K9 ease=some true:=fun ease hE hke=>by
  have hle:=hE.l
  obtain⟨l',j1,j2,j3⟩:=Qsm (N:=N) (by omega) hE
  obtain⟨f,hf,hfm⟩:=Qwe hN' ht hb
  rw[hK9,chkT (decide_eq_true (by omega)),chkT (decide_eq_true (by simp only[List.length_nil];omega)),List.take_of_length_le (by omega),j1,Option.bind_some]
  refine jkk fun K14 hK14=>?_
  rw[show((l.length:Int) != (plan.length:Int))=false from by rw[i2];simp,show((l'.length:Int) != (plan.length:Int))=false from by rw[j2];simp]
  show K14 ()=some true
  rw[hK14,Qb6]
  refine Q5s f hf hfm (l,0) (l',0) (by omega) (fun i p hpi=>?_) _ rfl N 0 (by rw[List.drop_zero];omega)
  have hi:=(List.getElem?_eq_some_iff.1 hpi).1
  have ho:=Qu6 hP i hpi (List.getElem?_eq_getElem (show i<col.length by omega))
  exact⟨_,_,i3 i hi,j3 i hi,ho.1,ho.2,Q2l hP hE hke i hi⟩
 have same:=fin col hP fun i c d h h'=>by rw[h] at h';cases h';exact Int.le_refl _
 have ea:w64 at_=at_:=Qbw (by omega) (by omega)
 rw[chkT (by rw[bne_iff_ne];omega),Option.bind_some,ea]
 obtain⟨m,hm,m0,m1⟩:∃m,at_.tmod (plan.length:Int)=m∧0≤m∧m<plan.length:=⟨_,rfl,Int.tmod_nonneg _ ba.1,Int.tmod_lt_of_pos _ (by omega)⟩
 rw[hm]
 have hk:m.toNat<col.length:=by omega
 have hch:(decide (0≤m)&&decide (m.toNat<col.length))=true:=by rw[decide_eq_true m0,decide_eq_true hk];rfl
 obtain⟨c,hc⟩:∃c,col[m.toNat]? = some c:=⟨_,List.getElem?_eq_getElem hk⟩
 rw[chkT hch,hc,Option.bind_some]
 by_cases hg:c>0
 ·have hcv:=hP.c c (List.mem_of_getElem? hc)
  have hw:IntKind.wrap .u8 (c-1)=c-1:=by rcases hcv with rfl |rfl |rfl<;>first |omega |decide
  rw[decide_eq_true hg,cond_true,chkT hch,Option.bind_some,chkT hch,Option.bind_some,hw]
  refine fin _ ⟨hP.n,by rw[List.length_set];exact hl,hP.p,fun x hx=>?_,hP.k0,hP.k1,hP.k2,hP.k3,hP.r⟩ fun i c' d h h'=>?_
  ·rcases List.mem_or_eq_of_mem_set hx with hx |rfl
   ·exact hP.c x hx
   ·rcases hcv with rfl |rfl |rfl<;>omega
  ·by_cases hi:m.toNat=i
   ·subst hi
    rw[hc] at h
    cases h
    rw[List.getElem?_set_self hk] at h'
    cases h'
    exact Qzn hP hcv (.inr rfl) (by omega)
   ·rw[List.getElem?_set_ne hi,h] at h'
    cases h'
    exact Int.le_refl _
 ·rw[decide_eq_false hg,cond_false]
  exact same
end
end Go.Proofs.Ytcoojdacfknboac
