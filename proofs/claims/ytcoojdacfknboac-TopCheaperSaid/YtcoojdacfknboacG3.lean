/-
  The texts X2, X3 of the proof, one behind the other. No conditions.
-/
import Derived.Test.YtcoojdacfknboacG2
namespace Go.Proofs.Ytcoojdacfknboac
open _root_.Go.Proofs.Try
open Go.RowKit
set_option maxRecDepth 100000
set_option maxHeartbeats 4000000
set_option synthInstance.maxSize 4000
set_option synthInstance.maxHeartbeats 400000
section
def Qc8 (_N:Nat) (p0 p1 p2:Int):Option Bool:=
  bif (decide (p1≤p0)) then
   some (decide (p0≤p2))
  else
   some false
theorem Qde (N:Nat) (p0 p1 p2:Int) (r:Bool) (h:Qc8 N p0 p1 p2=some r):Spec prog 34 [(I p0),(I p1),(I p2)] [] (B r) []:=by
  refine sA func34 0 fun _ _ _ hq hd0=>?_
  unfold Qc8 at h
  refine wxz ?_
  refine bfe h (fun hb1 h=>?_) fun hb1 h=>?_
  ·refine wx tbk [(3,rp [(.tmp 9,(B ((decide (p1≤p0)))))] (B true))] ⟨asb hb1 (amv rfl),tv⟩<|Qag ?_
   obtain rfl:=osi h
   exact fend ⟨[(B ((decide (p0≤p2))))],⟨rot,tv⟩,rfl⟩ nll
  ·exact wx tbk [(3,rp [(.tmp 9,(B ((decide (p1≤p0)))))] (B false))] ⟨asb hb1 (amv rfl),tv⟩<|Qag<|frb h
def Qdk (N:Nat) (p0:Qat) (p1:Int):Option Bool:=
  (Qc8 N p1 0 (w64 (p0.Sites-1))).bind fun x2=>
  some x2
theorem Qek (N:Nat) (p0:Qat) (p1:Int) (r:Bool) (h:Qdk N p0 p1=some r):Spec prog 43 [(.agg (Qf9 p0)),(I p1)] [] (B r) []:=by
  refine sA func43 0 fun _ _ _ hq hd0=>?_
  unfold Qdk at h
  refine wxz ?_
  obtain⟨x2,hf1,h⟩:=bno h
  exact wx tbk [(4,rp _ _)] ⟨apw Qjn (Qde N p1 0 (w64 (p0.Sites-1)) _ hf1),tv⟩<|Qag<|frb h
def Qdg (N:Nat) (p0:Qat) (k5:Unit→Option Int):Nat→Int→Option Int
  |0,_=>none
  |n8+1,y6=>
    bif (decide (y6<(p0.Tests.length:Int))) then
     (getI p0.Tests y6).bind fun x10=>
     (Qdk N p0 x10.From).bind fun x15=>
     bif (!x15) then
      some 1
     else
      (Qdk N p0 x10.To).bind fun x18=>
      bif (!x18) then
       some 1
      else
       bif (x10.From==x10.To) then
        some 1
       else
        bif (decide (x10.Seen.Lo<0)) then
         some 1
        else
         bif (decide (x10.Seen.Lo>x10.Seen.Hi)) then
          some 1
         else
          bif (decide (x10.Seen.Hi>1000000)) then
           some 1
          else
           Qdg N p0 k5 n8 (w64 (y6+1))
    else
     k5 ()
def Qe7 (N:Nat) (p0:Qat):Option Int:=
  bif (decide ((p0.Tests.length:Int)>60)) then
   some 3
  else
   (Qc8 N p0.Sites 1 12).bind fun x3=>
   bif (!x3) then
    some 1
   else
    Qcy (fun _=>
      some 0) fun k5:Unit→Option Int=>
    Qdg N p0 k5 N 0
def z9_0 (p0:Qat):AV:=.dat 4 (p0.Tests.map Qbf)
def z9_1 (p0:Qat):Slot:=.own 2 [[(I p0.Sites),(z9_0 p0)]]
def z9_2 (p0:Qat):AV:=.agg [(I p0.Sites),(z9_0 p0)]
def Q39 (p0:Qat) (x10:Qcc) (x15:Bool):List (Nat×Rec):=[(3,rp [fu 43,((.tmp 20),(z9_2 p0)),((.tmp 22),(I x10.From))] (B x15))]
def Q38 p0 x10 x15 (x18:Bool):=hcat (Q39 p0 x10 x15) [(5,rp [((.tmp 24),(B ((!x15))))] (B false)),(9,rp [((.tmp 25),(B false)),fu 43,((.tmp 26),(z9_2 p0)),((.tmp 28),(I x10.To))] (B x18))]
def Q37 p0 x10 x15 x18:=hcat (Q38 p0 x10 x15 x18) [(12,rp [((.tmp 31),(B ((!x18))))] (B false))]
def Q1i p0 x10 x15 x18:=hcat (Q37 p0 x10 x15 x18) [(19,rp [((.tmp 38),(B ((x10.From==x10.To))))] (B false))]
theorem Qi0 (N:Nat) (p0:Qat) (r:Int) (h:Qe7 N p0=some r):Spec prog 42 [(.agg (Qf9 p0))] [] (I r) []:=by
  refine sA func42 0 fun _ _ _ hq hd0=>?_
  unfold Qe7 at h
  refine wxz<|wsq ?_
  refine wx tbk [(2,rp _ _)] ⟨alq 4 Qbf p0.Tests underlying57,tv⟩ ?_
  refine bfe h (fun hc1 h=>?_) fun hc1 h=>?_
  ·refine wft hc1<|wxz<|Qag<|Qae ?_
   obtain rfl:=osi h
   exact fend ⟨[I 3],⟨rot,tv⟩,rfl⟩ nll
  ·refine wfn hc1<|Qai<|thn<|wsq ?_
   obtain⟨x3,hf2,h⟩:=bno h
   refine wx tbk [(2,rp _ _)] ⟨apw Qjn (Qde N p0.Sites 1 12 _ hf2),tv⟩ ?_
   refine bfe h (fun hc4 h=>?_) fun hc4 h=>?_
   ·refine wft hc4<|wxz<|Qag<|Qae ?_
    obtain rfl:=osi h
    exact fend ⟨[I 1],⟨rot,tv⟩,rfl⟩ nll
   ·refine wfn hc4<|Qai<|thn ?_
    obtain⟨k5,hk_k5,h⟩:=jko h
    refine wjn (τ:=Unit) (fun t=>k5 t=some r) (fun _=>⟨mk 61 [],[]⟩) (fun t h=>?_) ?_
    ·subst hk_k5
     refine wxz<|Qag ?_
     obtain rfl:=osi h
     exact fend ⟨[I 0],⟨rot,tv⟩,rfl⟩ nll
    ·skip
     refine wx tbk [(2,rp _ _)] ⟨alq 4 Qbf p0.Tests underlying57,tv⟩<|Qaf ?_
     refine wmr (mto (n:=61) (l':=[(1,.ref 0 2 0 0),(14,(z9_0 p0)),(15,(I ((p0.Tests.length:Int)))),(16,I 0)]) (own':=[(z9_1 p0)]) [(1,.ref 0 2 0 0),(14,(z9_0 p0)),(15,(I ((p0.Tests.length:Int)))),(16,I 0)] [0] [(z9_1 p0)] hq (prr (pc (rnd Qad) (pw (pw pn)))) (qb (lc rwl (lc (rnd Qad) ln)) qn)) ?_
     refine Qbx (τ:=Int) (fun n t=>Qdg N p0 k5 n t=some r) (fun y6=>⟨mk 61 [(1,.ref 0 2 0 0),(14,(z9_0 p0)),(15,(I ((p0.Tests.length:Int)))),(16,I y6)],[(z9_1 p0)]⟩) (fun t h=>by rw[Qdg] at h;cases h) (fun n8 ih y6 h=>?_) N (0) h
     rw[Qdg] at h
     skip
     refine wxz<|wsq ?_
     refine bfe h (fun hc9 h=>?_) fun hc9 h=>?_
     ·refine wft hc9<|Qai<|thn<|wsq<|Qaf ?_
      obtain⟨x10,hg11,h⟩:=bno h
      obtain⟨hi12,hj13⟩:=gsm hg11
      refine wx tbk [(0,rp _ _)] ⟨aiq underlying57 ti56 Qbf hi12 hj13,tv⟩ ?_
      obtain⟨x15,hf14,h⟩:=bno h
      refine hpre (A:=(Q39 p0 x10 x15)) ⟨apv Qnh (Qek N p0 x10.From _ hf14) (nlc (NLt.agg _ (nlc nll (nlc (nld Qad _) nl0))) (nlc nll nl0)) nll,tv⟩ fun q1_=>?_
      refine bfe h (fun hb16 h=>?_) fun hb16 h=>?_
      ·refine wx tbk (hcat (Q39 p0 x10 x15) [(5,rp [(.tmp 24,(B ((!x15))))] (B true))]) (hap q1_ ⟨asb hb16 (amv rfl),tv⟩)<|wtr<|wxz<|Qag<|Qaq<|Qae<|Qae<|Qaq<|Qae ?_
       obtain rfl:=osi h
       exact fend ⟨[I 1],⟨rot,tv⟩,rfl⟩ nll
      ·obtain⟨x18,hf17,h⟩:=bno h
       refine hpre (A:=(Q38 p0 x10 x15 x18)) (hap q1_ ⟨asb hb16 (amv rfl),ag_ (apv Qnh (Qek N p0 x10.To _ hf17) (nlc (NLt.agg _ (nlc nll (nlc (nld Qad _) nl0))) (nlc nll nl0)) nll),tv⟩) fun q2_=>?_
       refine bfe h (fun hb19 h=>?_) fun hb19 h=>?_
       ·refine wx tbk (hcat (Q38 p0 x10 x15 x18) [(12,rp [(.tmp 31,(B ((!x18))))] (B true))]) (hap q2_ ⟨asb hb19 (amv rfl),tv⟩)<|wtr<|wxz<|Qag<|Qaq<|Qae<|Qae<|Qaq<|Qae ?_
        obtain rfl:=osi h
        exact fend ⟨[I 1],⟨rot,tv⟩,rfl⟩ nll
       ·refine hpre (A:=(Q37 p0 x10 x15 x18)) (hap q2_ ⟨asb hb19 (amv rfl),tv⟩) fun q3_=>?_
        refine bfe h (fun hb20 h=>?_) fun hb20 h=>?_
        ·refine wx tbk (hcat (Q37 p0 x10 x15 x18) [(19,rp [(.tmp 38,(B ((x10.From==x10.To))))] (B true))]) (hap q3_ ⟨asb hb20 (amv rfl),tv⟩)<|wtr<|wxz<|Qag<|Qaq<|Qae<|Qae<|Qaq<|Qae ?_
         obtain rfl:=osi h
         exact fend ⟨[I 1],⟨rot,tv⟩,rfl⟩ nll
        ·refine hpre (A:=(Q1i p0 x10 x15 x18)) (hap q3_ ⟨asb hb20 (amv rfl),tv⟩) fun q4_=>?_
         refine bfe h (fun hb21 h=>?_) fun hb21 h=>?_
         ·refine wx tbk (hcat (Q1i p0 x10 x15 x18) [(25,rp [(.tmp 44,(B ((decide (x10.Seen.Lo<0)))))] (B true))]) (hap q4_ ⟨asb hb21 (amv rfl),tv⟩)<|wtr<|wxz<|Qag<|Qaq<|Qae<|Qae<|Qaq<|Qae ?_
          obtain rfl:=osi h
          exact fend ⟨[I 1],⟨rot,tv⟩,rfl⟩ nll
         ·refine bfe h (fun hb22 h=>?_) fun hb22 h=>?_
          ·refine wx tbk (hcat (Q1i p0 x10 x15 x18) [(25,rp [(.tmp 44,(B ((decide (x10.Seen.Lo<0)))))] (B false)),(34,rp [(.tmp 53,(B ((decide (x10.Seen.Lo>x10.Seen.Hi)))))] (B true))]) (hap q4_ ⟨asb hb21 (amv rfl),asb hb22 (amv rfl),tv⟩)<|wtr<|wxz<|Qag<|Qaq<|Qae<|Qae<|Qaq<|Qae ?_
           obtain rfl:=osi h
           exact fend ⟨[I 1],⟨rot,tv⟩,rfl⟩ nll
          ·refine wx tbk (hcat (Q1i p0 x10 x15 x18) [(25,rp [(.tmp 44,(B ((decide (x10.Seen.Lo<0)))))] (B false)),(34,rp [(.tmp 53,(B ((decide (x10.Seen.Lo>x10.Seen.Hi)))))] (B false))]) (hap q4_ ⟨asb hb21 (amv rfl),asb hb22 (amv rfl),tv⟩) ?_
           refine bfe h (fun hc23 h=>?_) fun hc23 h=>?_
           ·refine wft hc23<|wxz<|Qag<|Qaq<|Qae<|Qae<|Qaq<|Qae ?_
            obtain rfl:=osi h
            exact fend ⟨[I 1],⟨rot,tv⟩,rfl⟩ nll
           ·exact wfn hc23<|Qai<|bln<|thn<|wxz1<|thn<|arm (mto (n:=61) [(1,.ref 0 2 0 0),(14,(z9_0 p0)),(15,(I ((p0.Tests.length:Int)))),(16,(I (w64 (y6+1))))] [0] [(z9_1 p0)] hq (prr (pc (rnd Qad) (pw (pw pn)))) (qb (lc rwl (lc (rnd Qad) ln)) qn)) (ih (w64 (y6+1)) h)
     ·exact wfn hc9<|Qa3<|Qan<|Qan<|Qa2 rfl<|thn<|⟨(),h,(mto (n:=61) [] [] [] hq pn qn)⟩
def Qdv (N:Nat) (p0:Qat):Option (Int⊕(Int×(Nat→Int)×(Nat→Int))):=
  (Qet N p0).bind fun x6=>
  (Qf5 N p0.Sites p0.Tests x6.1 x6.2).bind fun x8=>
  bif (decide (x8≥0)) then
   some (.inl 9)
  else
   some (.inr (0,x6.1,x6.2))
abbrev Q8i (p0:Qat):AV:=.dat 4 (p0.Tests.map Qbf)
abbrev Q16 (p0:Qat):AV:=.agg [(I p0.Sites),(Q8i p0)]
def Qyn (p0:Qat) (x6:((Nat→Int)×(Nat→Int))):Slot:=.own 290 [((I p0.Sites)::(Q8i p0)::(arrF 144 x6.1++arrF 144 x6.2))]
theorem Qi8 (N:Nat) (p0:Qat) (r:(Int⊕(Int×(Nat→Int)×(Nat→Int)))) (h:Qdv N p0=some r):Spec prog 35 [(Q16 p0)] [] (((Sum.elim (fun r=>(.tup [(.lit (.pointer none)),(I r)])) (fun r=>(.tup [(.ref 0 290 (0) 0),(I r.1)]))):(Int⊕(Int×(Nat→Int)×(Nat→Int)))→AV) r) (((Sum.elim (fun r=>[]) (fun r=>[(.own 290 [((I p0.Sites)::(.dat 4 (p0.Tests.map Qbf))::(arrF 144 r.2.1++arrF 144 r.2.2))])])):(Int⊕(Int×(Nat→Int)×(Nat→Int)))→List Slot) r):=by
  refine sF func35 1 fun _ _ _ hq hd0=>?_
  unfold Qdv at h
  refine wxz ?_
  obtain⟨x6,hf5,h⟩:=bno h
  refine wx tbk [(1,⟨_,_,_,_,false⟩)] ⟨acq [(Q16 p0)] [] [(Qyn p0 x6)] (.ref 1 290 0 0) [1] Q59 (Qju N p0 _ hf5) (Qb1 (rnc (.plain _ (NLt.agg _ (nlc nll (nlc (nld Qad _) nl0)))) rn0)) Qak (slc (Qaj (rnc (.plain _ nll) (rnc (pld Qad) (Qdd (Qa6 fun _=>(.plain _ nll)) (Qa6 fun _=>(.plain _ nll)))))) Qak) (Qfg rfl),tv⟩<|wsq ?_
  obtain⟨x8,hf7,h⟩:=bno h
  refine wx tbk [(1,⟨_,_,_,_,false⟩)] ⟨acq [.ref 1 290 0 0] [(Qyn p0 x6)] [(Qyn p0 x6)] (I x8) [1] Q58 (Qka N p0.Sites p0.Tests x6.1 x6.2 _ hf7) (Qb1 (rnc (Qa4 rfl) rn0)) (slc (Qaj (rnc (.plain _ nll) (rnc (pld Qad) (Qdd (Qa6 fun _=>(.plain _ nll)) (Qa6 fun _=>(.plain _ nll)))))) Qak) (slc (Qaj (rnc (.plain _ nll) (rnc (pld Qad) (Qdd (Qa6 fun _=>(.plain _ nll)) (Qa6 fun _=>(.plain _ nll)))))) Qak) (.plain _ nll),tv⟩ ?_
  refine bfe h (fun hc9 h=>?_) fun hc9 h=>?_
  ·refine wft hc9<|wxz ?_
   refine wmr (mto (n:=11) (l':=[(2,(.lit (.pointer none))),(3,I 9)]) (own':=[]) [(2,(.lit (.pointer none))),(3,I 9)] [] [] hq (pw (pw pn)) qn)<|Qag<|Qae ?_
   obtain rfl:=osi h
   exact⟨_,Mor.rfl,Qko (vs:=[(.lit (.pointer none)),I 9]) ⟨rot,rot,tv⟩ rfl (NLt.tup _ (nlc (NLt.of0 nll) (nlc (NLt.of0 nll) nl0))) (by kernel_rfl) Qld⟩
  ·refine wfn hc9<|Qai<|thn<|wxz ?_
   refine wmr (mto (n:=11) (l':=[(2,.ref 0 290 0 0),(3,I 0)]) (own':=[(Qyn p0 x6)]) [(2,.ref 1 290 0 0),(3,I 0)] [1] [(Qyn p0 x6)] hq (prr (pw pn)) (qb (lc rwl (lc (rnd Qad) (Qdd (Qa6 fun _=>rwl) (Qa6 fun _=>rwl)))) qn))<|Qag ?_
   obtain rfl:=osi h
   exact⟨_,Mor.rfl,Qko (vs:=[.ref 0 290 0 0,I 0]) ⟨rot,rot,tv⟩ rfl (NLt.tup _ (nlc (NLt.ref _ _ _ _ (by decide)) (nlc (NLt.of0 nll) nl0))) (by kernel_rfl) (Qqt (Qtv (nlc (NLt.of0 nll) (nlc (NLt.of0 (nld Qad _)) (Qdb Qb2 Qb2)))) Qld)⟩
theorem Qiz (N:Nat) (p0:Qat) (r:Int) (h:Qdv N p0=some (.inl r)):Spec prog 35 [(Q16 p0)] [] (.tup [(.lit (.pointer none)),I r]) []:=Qi8 N p0 _ h
theorem Qiy (N:Nat) (p0:Qat) (r:(Int×(Nat→Int)×(Nat→Int))) (h:Qdv N p0=some (.inr r)):Spec prog 35 [(Q16 p0)] [] (.tup [.ref 0 290 0 0,I r.1]) [(.own 290 [((I p0.Sites)::(.dat 4 (p0.Tests.map Qbf))::(arrF 144 r.2.1++arrF 144 r.2.2))])]:=Qi8 N p0 _ h
def Qhb (N:Nat) (p0:Qat) (p1 p2:Int):Option (Int⊕(Int×(Nat→Int)×(Nat→Int))):=
  (Qe7 N p0).bind fun x6=>
  bif (x6 != 0) then
   some (.inl x6)
  else
   (Qdk N p0 p1).bind fun x9=>
   bif (!x9) then
    some (.inl 2)
   else
    (Qdk N p0 p2).bind fun x12=>
    bif (!x12) then
     some (.inl 2)
    else
     (Qdv N p0).bind (
      Sum.elim (fun x16=>
        some (.inl x16))
      (fun x17=>
        some (.inr (x17.1,x17.2.1,x17.2.2))))
abbrev z8_0 (p0:Qat):AV:=.dat 4 (p0.Tests.map Qbf)
abbrev z8_2 (p0:Qat):AV:=.agg [(I p0.Sites),(z8_0 p0)]
def z8_5 (p0:Qat) (p1:Int) (x9:Bool):List (Nat×Rec):=[(2,rp [fu 43,((.tmp 14),(z8_2 p0)),((.tmp 15),(I p1))] (B x9))]
def z8_4 (p0:Qat) (x17:(Int×(Nat→Int)×(Nat→Int))):Slot:=.own 290 [((I p0.Sites)::(z8_0 p0)::(arrF 144 x17.2.1++arrF 144 x17.2.2))]
theorem Qjw (N:Nat) (p0:Qat) (p1 p2:Int) (r:(Int⊕(Int×(Nat→Int)×(Nat→Int)))) (h:Qhb N p0 p1 p2=some r):Spec prog 25 [(z8_2 p0),(I p1),(I p2)] [] (((Sum.elim (fun r=>(.tup [(.lit (.pointer none)),(I r)])) (fun r=>(.tup [(.ref 0 290 (0) 0),(I r.1)]))):(Int⊕(Int×(Nat→Int)×(Nat→Int)))→AV) r) (((Sum.elim (fun r=>[]) (fun r=>[(.own 290 [((I p0.Sites)::(.dat 4 (p0.Tests.map Qbf))::(arrF 144 r.2.1++arrF 144 r.2.2))])])):(Int⊕(Int×(Nat→Int)×(Nat→Int)))→List Slot) r):=by
  refine sF func25 1 fun _ _ _ hq hd0=>?_
  unfold Qhb at h
  refine wxz<|wsq ?_
  obtain⟨x6,hf5,h⟩:=bno h
  refine wx tbk [(1,rp _ _)] ⟨apw Qz9 (Qi0 N p0 _ hf5),tv⟩<|wxz ?_
  refine bfe h (fun hc7 h=>?_) fun hc7 h=>?_
  ·refine wft hc7<|wxz ?_
   refine wmr (mto (n:=28) (l':=[(6,(.lit (.pointer none))),(7,I x6)]) (own':=[]) [(6,(.lit (.pointer none))),(7,I x6)] [] [] hq (pw (pw pn)) qn)<|Qag<|Qae ?_
   obtain rfl:=osi h
   exact⟨_,Mor.rfl,Qko (vs:=[(.lit (.pointer none)),I x6]) ⟨rot,rot,tv⟩ rfl (NLt.tup _ (nlc (NLt.of0 nll) (nlc (NLt.of0 nll) nl0))) (by kernel_rfl) Qld⟩
  ·refine wfn hc7<|Qai<|thn<|wsq ?_
   obtain⟨x9,hf8,h⟩:=bno h
   refine hpre (A:=(z8_5 p0 p1 x9)) ⟨apv Qnh (Qek N p0 p1 _ hf8) (nlc (NLt.agg _ (nlc nll (nlc (nld Qad _) nl0))) (nlc nll nl0)) nll,tv⟩ fun q1_=>?_
   refine bfe h (fun hb10 h=>?_) fun hb10 h=>?_
   ·refine wx tbk (hcat (z8_5 p0 p1 x9) [(4,rp [(.tmp 17,(B ((!x9))))] (B true))]) (hap q1_ ⟨asb hb10 (amv rfl),tv⟩)<|wtr<|wxz ?_
    refine wmr (mto (n:=28) (l':=[(6,(.lit (.pointer none))),(7,I 2)]) (own':=[]) [(6,(.lit (.pointer none))),(7,I 2)] [] [] hq (pw (pw pn)) qn)<|Qag<|Qae ?_
    obtain rfl:=osi h
    exact⟨_,Mor.rfl,Qko (vs:=[(.lit (.pointer none)),I 2]) ⟨rot,rot,tv⟩ rfl (NLt.tup _ (nlc (NLt.of0 nll) (nlc (NLt.of0 nll) nl0))) (by kernel_rfl) Qld⟩
   ·obtain⟨x12,hf11,h⟩:=bno h
    refine wx tbk (hcat (z8_5 p0 p1 x9) [(4,rp [(.tmp 17,(B ((!x9))))] (B false)),(7,rp [(.tmp 18,B false),fu 43,(.tmp 19,(z8_2 p0)),(.tmp 20,I p2)] (B x12))]) (hap q1_ ⟨asb hb10 (amv rfl),ag_ (apv Qnh (Qek N p0 p2 _ hf11) (nlc (NLt.agg _ (nlc nll (nlc (nld Qad _) nl0))) (nlc nll nl0)) nll),tv⟩) ?_
    refine bfe h (fun hc13 h=>?_) fun hc13 h=>?_
    ·refine wft hc13<|wxz ?_
     refine wmr (mto (n:=28) (l':=[(6,(.lit (.pointer none))),(7,I 2)]) (own':=[]) [(6,(.lit (.pointer none))),(7,I 2)] [] [] hq (pw (pw pn)) qn)<|Qag<|Qae ?_
     obtain rfl:=osi h
     exact⟨_,Mor.rfl,Qko (vs:=[(.lit (.pointer none)),I 2]) ⟨rot,rot,tv⟩ rfl (NLt.tup _ (nlc (NLt.of0 nll) (nlc (NLt.of0 nll) nl0))) (by kernel_rfl) Qld⟩
    ·refine wfn hc13<|Qai<|thn ?_
     obtain⟨x15,hf14,h⟩:=bno h
     rcases x15 with x16 |x17
     ·replace h:=Q5a h
      refine wx tbk [(1,rp _ _)] ⟨acq [(z8_2 p0)] [] [] (.tup [(.lit (.pointer none)),I x16]) [] Qre (Qiz N p0 _ hf14) (Qb1 (rnc (.plain _ (NLt.agg _ (nlc nll (nlc (nld Qad _) nl0)))) rn0)) Qak Qak (.plain _ (NLt.tup _ (nlcc nl0))),tv⟩ ?_
      refine wmr (mto (n:=28) (l':=[(6,(.lit (.pointer none))),(7,I x16)]) (own':=[]) [(6,(.lit (.pointer none))),(7,I x16)] [] [] hq (pw (pw pn)) qn)<|Qag ?_
      obtain rfl:=osi h
      exact⟨_,Mor.rfl,Qko (vs:=[(.lit (.pointer none)),I x16]) ⟨rot,rot,tv⟩ rfl (NLt.tup _ (nlc (NLt.of0 nll) (nlc (NLt.of0 nll) nl0))) (by kernel_rfl) Qld⟩
     ·replace h:=Q49 h
      refine wx tbk [(1,⟨_,_,_,_,false⟩)] ⟨acq [(z8_2 p0)] [] [(z8_4 p0 x17)] (.tup [.ref 1 290 0 0,I x17.1]) [1] Qre (Qiy N p0 _ hf14) (Qb1 (rnc (.plain _ (NLt.agg _ (nlc nll (nlc (nld Qad _) nl0)))) rn0)) Qak (slc (Qaj (rnc (.plain _ nll) (rnc (pld Qad) (Qdd (Qa6 fun _=>(.plain _ nll)) (Qa6 fun _=>(.plain _ nll)))))) Qak) (Qyv (rnc (Qfg rfl) (rnc (.plain _ nll) rn0))),tv⟩ ?_
      refine wmr (mto (n:=28) (l':=[(6,.ref 0 290 0 0),(7,I x17.1)]) (own':=[(z8_4 p0 x17)]) [(6,.ref 1 290 0 0),(7,I x17.1)] [1] [(z8_4 p0 x17)] hq (prr (pw pn)) (qb (lc rwl (lc (rnd Qad) (Qdd (Qa6 fun _=>rwl) (Qa6 fun _=>rwl)))) qn))<|Qag ?_
      obtain rfl:=osi h
      exact⟨_,Mor.rfl,Qko (vs:=[.ref 0 290 0 0,I x17.1]) ⟨rot,rot,tv⟩ rfl (NLt.tup _ (nlc (NLt.ref _ _ _ _ (by decide)) (nlc (NLt.of0 nll) nl0))) (by kernel_rfl) (Qqt (Qtv (nlc (NLt.of0 nll) (nlc (NLt.of0 (nld Qad _)) (Qdb Qb2 Qb2)))) Qld)⟩
theorem Qmc (N:Nat) (p0:Qat) (p1 p2 r:Int) (h:Qhb N p0 p1 p2=some (.inl r)):Spec prog 25 [(z8_2 p0),I p1,I p2] [] (.tup [(.lit (.pointer none)),I r]) []:=Qjw N p0 p1 p2 _ h
theorem Qmb (N:Nat) (p0:Qat) (p1 p2:Int) (r:(Int×(Nat→Int)×(Nat→Int))) (h:Qhb N p0 p1 p2=some (.inr r)):Spec prog 25 [(z8_2 p0),I p1,I p2] [] (.tup [.ref 0 290 0 0,I r.1]) [(.own 290 [((I p0.Sites)::(.dat 4 (p0.Tests.map Qbf))::(arrF 144 r.2.1++arrF 144 r.2.2))])]:=Qjw N p0 p1 p2 _ h
def Qf4 (_N:Nat) (p0 p1:Int):Option (Int×Int):=
  bif (p0==p1) then
   some (0,(-1))
  else
   none
theorem Qhv (N:Nat) (p0 p1:Int) (r:(Int×Int)) (h:Qf4 N p0 p1=some r):Spec prog 26 [(.lit (.pointer none)),(I p0),(I p1)] [] (.tup [(I r.1),(I r.2)]) []:=by
  refine sA func26 0 fun _ _ _ hq hd0=>?_
  unfold Qf4 at h
  refine wxz<|wxz<|wsq<|wxz ?_
  refine bfe h (fun hc1 h=>?_) fun hc1 h=>?_
  ·refine wft hc1<|wxz<|Qag<|Qae ?_
   obtain rfl:=osi h
   exact fie [I 0,(I ((-1)))] ⟨rot,rot,tv⟩
  ·refine wfn hc1<|Qai<|thn ?_
   refine wx tbk [(1,rp [(.tmp 16,(.lit (.pointer none)))] (.fn (.func 44) [(.lit (.pointer none))] []))] ⟨Qfm (fs:=[(.lit (.pointer none))]) (cs:=[]) rfl rfl rfl rfl,tv⟩<|wsq ?_
   cases h
def Qf7 (_N:Nat) (_p0 _p1:Int):Option Unit:=
  some ()
abbrev Q44:AV:=.fn (.func 46) [] [(.ref 0 1 (0) 0),(.ref 1 1 (0) 0),(.ref 2 1 (0) 0)]
abbrev Q45:Slot:=.own 1 [[(.lit (.pointer none))]]
def Q8h:AV:=.fn (.func 46) [] [(.ref 1 1 (0) 0),(.ref 2 1 (0) 0),(.ref 0 1 (0) 0)]
theorem Qhx (N:Nat) (p0 p1:Int) (r:Unit) (h:Qf7 N p0 p1=some r):Spec prog 28 [(.lit (.pointer none)),(I p0),(I p1)] [] Q44 [(.own 1 [[(I p0)]]),(.own 1 [[(I p1)]]),Q45]:=by
  refine sF func28 3 fun _ _ _ hq hd0=>?_
  unfold Qf7 at h
  refine wxz<|wx tbk [(0,rp [(.tmp 4,.ref 1 1 0 0),(.tmp 5,.ref 2 1 0 0),(.tmp 3,.ref 0 1 0 0)] Q8h)] ⟨Qfm (fs:=[]) (cs:=[.ref 1 1 0 0,.ref 2 1 0 0,.ref 0 1 0 0]) rfl rfl rfl rfl,tv⟩ ?_
  refine wmr (mto (n:=8) (l':=[(6,Q44)]) (own':=[(.own 1 [[I p0]]),(.own 1 [[I p1]]),Q45]) [(6,Q8h)] [1,2,0] [(.own 1 [[I p0]]),(.own 1 [[I p1]]),Q45] hq (pc (.rn (Qao rn0 (rnc (rqr rfl) (rnc (rqr rfl) (rnc (rqr rfl) rn0))))) pn) (qb (lc rwl ln) (qb (lc rwl ln) (qb (lc rwl ln) qn))))<|Qag ?_
  obtain rfl:=osi h
  exact⟨_,Mor.rfl,fio [Q44] ⟨rot,tv⟩⟩
def Qha (_N:Nat) (p0 p1:Int):Option (List Int):=
  bif (p0 != p1) then
   none
  else
   some ([])
theorem Qkb (N:Nat) (p0 p1:Int) (r:List Int) (h:Qha N p0 p1=some r):Qpj prog 46 [(.ref 0 1 (0) 0),(.ref 1 1 (0) 0),(.ref 2 1 (0) 0)] [(.own 1 [[(I p0)]]),(.own 1 [[(I p1)]]),(.own 1 [[(.lit (.pointer none))]])] (fun x=>[(.int .i64 x)]) r:=by
  refine Qps func46 rfl rfl (fun X φ0 w0 l J hq hy=>?_)
  unfold Qha at h
  refine Qaf<|Qrn 17<|Q1c<|wsq ?_
  refine bfe h (fun hb1 h=>?_) fun hb1 h=>?_
  ·cases h
  ·refine wxd tbk [(3,rp [(.tmp 7,(B ((p0 != p1))))] (B false))] ⟨asb hb1 (amv rfl),tv⟩<|wfa<|Qa3<|Qan<|Qan<|Qa2 rfl ?_
   obtain rfl:=osi h
   exact Or.inl (by kernel_rfl)
def Qc2 (N:Nat) (k3:(List Int)→Option (List Int)):(List Int)→(List Int)→Option (List Int)
  |[],y6=>
    k3 (y6)
  |x9::q10,y6=>
    chk (decide ((y6.length+([x9]).length)*8≤140737488355328))<|
    Qc2 N k3 q10 (y6++([x9]))
def Qfr (N:Nat) (p0 p1:Int):Option (List Int):=
  Qcy (fun y2=>
    some y2) fun k3:(List Int)→Option (List Int)=>
  (Qha N p0 p1).bind fun q4=>
  Qc2 N k3 q4 ([])
abbrev Q43:AV:=.fn (.func 46) [] [(.ref 0 1 (0) 0),(.ref 1 1 (0) 0),(.ref 2 1 (0) 0)]
abbrev Q15:Slot:=.own 1 [[(.lit (.pointer none))]]
theorem Qiw (N:Nat) (p0 p1:Int) (r:List Int) (h:Qfr N p0 p1=some r):Spec prog 45 [nilS,Q43] [(.own 1 [[(I p0)]]),(.own 1 [[(I p1)]]),Q15] (.dat 1 (r.map Qah)) [.dead,.dead,.dead]:=by
  refine sF func45 3 fun _ _ _ hq hd0=>?_
  unfold Qfr at h
  refine wxz ?_
  obtain⟨k3,hk_k3,h⟩:=jko h
  refine wjn (τ:=(List Int)) (fun t=>k3 t=some r) (fun y2=>⟨mk 13 [(2,.ref 3 1 0 0)],[.dead,.dead,.dead,(.own 1 [[(.acc 4 3 1 (y2.map Qah))]]),.tok]⟩) (fun y2 h=>?_) ?_
  ·subst hk_k3
   refine wxz<|wmr (mto (n:=13) (l':=[(4,(.dat 1 (y2.map Qah)))]) (own':=[.dead,.dead,.dead]) [(4,(.acc 4 3 1 (y2.map Qah)))] [0,1,2] [.dead,.dead,.dead] hq (pc (.dat _ _ _ _ (Qeg Qal _)) pn) (qc .dead (qc .dead (qc .dead qn))))<|Qag ?_
   obtain rfl:=osi h
   exact⟨_,Mor.rfl,fio [(.dat 1 (y2.map Qah))] ⟨rot,tv⟩⟩
  ·skip
   refine wxz<|Qaf ?_
   obtain⟨q4,hL5,h⟩:=bno h
   refine wmr (mto (n:=13) (l':=[(2,.ref 3 1 0 0),(6,Q43)]) (own':=[(.own 1 [[I p0]]),(.own 1 [[I p1]]),Q15,(.own 1 [[nilS]])]) [(2,.ref 3 1 0 0),(6,Q43)] [0,1,2,3] [(.own 1 [[I p0]]),(.own 1 [[I p1]]),Q15,(.own 1 [[nilS]])] hq (prr (pc (.rn (Qao rn0 (rnc (rqr rfl) (rnc (rqr rfl) (rnc (rqr rfl) rn0))))) pn)) (qb (lc rwl ln) (qb (lc rwl ln) (qb (lc rwl ln) (qb (lc rwl ln) qn))))) ?_
   refine wmr (Qmx (n:=4) (ty:=3) (m:=1) (q:=3) (mq:=1) (c:=[nilS]) 0 (by kernel_rfl) (by kernel_rfl) (by kernel_rfl) (by decide)) ?_
   refine Qqb (τ:=((List Int))) (kb:=4) (caps:=[.ref 0 1 0 0,.ref 1 1 0 0,.ref 2 1 0 0]) (σr:=[(.own 1 [[I p0]]),(.own 1 [[I p1]]),Q15]) (encs:=fun x=>[(.int .i64 x)]) (fun x=>[I x]) [0,1,2] (fun n hn=>hq n (Nat.le_trans (nle rfl) hn)) hd0 (Qkb N p0 p1 _ hL5) Qz7 (by kernel_rfl) (by kernel_rfl) (Qb1 (rnc (Qfg rfl) (rnc (Qfg rfl) (rnc (Qfg rfl) rn0)))) (slc (Qaj (rnc (.plain _ nll) rn0)) (slc (Qaj (rnc (.plain _ nll) rn0)) (slc (Qaj (rnc (.plain _ nll) rn0)) Qak))) (by kernel_rfl) (fun _=>rfl) (fun x=>⟨lrf,tv⟩) (Q3z (Qn8 (NLt.ref _ _ _ _ (by decide)) (Qn8 (NLt.fn _ _ _ nl0 (nlc (NLt.ref _ _ _ _ (by decide)) (nlc (NLt.ref _ _ _ _ (by decide)) (nlc (NLt.ref _ _ _ _ (by decide)) nl0)))) Qy5))) (fun y6=>[.dead,.dead,.dead,(.own 1 [[(.acc 4 3 1 (y6.map Qah))]]),.tok]) (fun _=>rfl) (fun _=>rfl) (fun l t=>Qc2 N k3 l t=some r) ([]) h (by kernel_rfl) ?_ ?_
   ·intro l11 o12 X15 φ16 w17 hφ14 x9 q10 y6 h
    rw[Qc2] at h
    refine wxz1 ?_
    refine⟨by kernel_rfl,fun o13=>?_⟩
    refine Qaf ?_
    obtain⟨ha18,h⟩:=cko h
    refine wx1 tbk [(2,rp [(.tmp 9,I x9)] (.dat 1 (([x9]:List Int).map Qah))),(3,⟨[(.tmp 8,(.acc 4 3 1 (y6.map Qah))),(.tmp 10,(.dat 1 (([x9]:List Int).map Qah)))],[(4,.tok),(6,.unused)],(.acc 6 3 1 ((y6++([x9]):List Int).map Qah)),[(4,.dead),(6,.tok)],false⟩)] ⟨Qfj (vs:=[I x9]) rfl underlying26 ti3 tz3 rfl (by decide) rfl (by decide) (by rfl) (by rfl) (by rfl) rfl,Qie rfl underlying26 te3 (Base.acc _ _) rfl rfl (by rfl) (Qks Qah ha18) (Qkr Qah ha18 (by decide)) (Qkq Qah) rfl rfl,tv⟩<|bln ?_
    exact⟨(y6++([x9])),h,Q3w (own':=[.dead,.dead,.dead,(.own 1 [[(.acc 4 3 1 (((y6++([x9])):List Int).map Qah))]]),.tok,(.far (farL l11 o13))]) [0,1,2,3,6,5] [.dead,.dead,.dead,(.own 1 [[(.acc 6 3 1 ((y6++([x9]):List Int).map Qah))]]),.tok,(.far (farL l11 o13))] (by kernel_rfl) (by kernel_rfl) ⟨.dead,.dead,.dead,(spb (lc (.rn (Qff rfl (Qeg Qal _))) ln)),.tok,.far _,tv⟩⟩
   ·intro y6 h
    rw[Qc2] at h
    exact bln<|thn<|⟨(y6),h,(mto (n:=13) [(2,.ref 3 1 0 0)] [0,1,2,3,4] [.dead,.dead,.dead,(.own 1 [[(.acc 4 3 1 (y6.map Qah))]]),.tok] hq (prr pn) (qc .dead (qc .dead (qc .dead (qb (lc (.rn (Qff rfl (Qeg Qal _))) ln) (qc .tok qn))))))⟩
def Qf2 (N:Nat) (p0 p1:Int):Option (List Int):=
  (Qfr N p0 p1).bind fun x3=>
  some x3
abbrev Q8g:AV:=.fn (.func 46) [] [(.ref 0 1 (0) 0),(.ref 1 1 (0) 0),(.ref 2 1 (0) 0)]
abbrev Q8f:Slot:=.own 1 [[(.lit (.pointer none))]]
theorem Qhr (N:Nat) (p0 p1:Int) (r:List Int) (h:Qf2 N p0 p1=some r):Spec prog 27 [Q8g] [(.own 1 [[(I p0)]]),(.own 1 [[(I p1)]]),Q8f] (.dat 1 (r.map Qah)) [.dead,.dead,.dead]:=by
  refine sF func27 3 fun _ _ _ hq hd0=>?_
  unfold Qf2 at h
  refine wxz ?_
  obtain⟨x3,hf2,h⟩:=bno h
  refine wx tbk [(1,⟨_,_,_,_,false⟩)] ⟨acq [nilS,Q8g] [(.own 1 [[I p0]]),(.own 1 [[I p1]]),Q8f] [.dead,.dead,.dead] (.dat 1 (x3.map Qah)) [0,1,2] Qz8 (Qiw N p0 p1 _ hf2) (Qb1 (rnc (.plain _ nll) (rnc (Qao rn0 (rnc (Qa4 rfl) (rnc (Qa4 rfl) (rnc (Qa4 rfl) rn0)))) rn0))) (slc (Qaj (rnc (.plain _ nll) rn0)) (slc (Qaj (rnc (.plain _ nll) rn0)) (slc (Qaj (rnc (.plain _ nll) rn0)) Qak))) (slc .dead (slc .dead (slc .dead Qak))) (pld Qal),tv⟩ ?_
  refine wmr (mto (n:=5) (l':=[(2,(.dat 1 (x3.map Qah)))]) (own':=[.dead,.dead,.dead]) [(2,(.dat 1 (x3.map Qah)))] [0,1,2] [.dead,.dead,.dead] hq (pc (rnd Qal) pn) (qc .dead (qc .dead (qc .dead qn))))<|Qag ?_
  obtain rfl:=osi h
  exact⟨_,Mor.rfl,fio [(.dat 1 (x3.map Qah))] ⟨rot,tv⟩⟩
def Qe3 (_N:Nat) (_p0:Int) (_p1:List Qcc) (p2 _p3:(Nat→Int)) (p4:Qcc) (p5 p6:Int):Option Int:=
  chk (decide (0≤p4.From)&&decide (p4.From.toNat<12))<|
  chk (decide (0≤p5)&&decide (p5.toNat<12))<|
  chk (decide (0≤p6)&&decide (p6.toNat<12))<|
  chk (decide (0≤p4.To)&&decide (p4.To.toNat<12))<|
  (some (w64 ((w64 (p4.Seen.Lo-(p2 (p4.From.toNat*12+p5.toNat))))-(p2 (p6.toNat*12+p4.To.toNat))))).bind fun x5=>
  some x5
abbrev Qm9 (p1:List Qcc):AV:=.dat 4 (p1.map Qbf)
theorem Qj9 (N:Nat) (p0:Int) (p1:List Qcc) (p2 p3:(Nat→Int)) (p4:Qcc) (p5 p6 r:Int) (h:Qe3 N p0 p1 p2 p3 p4 p5 p6=some r):Spec prog 44 [(.dptr ((I p0)::(Qm9 p1)::(arrF 144 p2++arrF 144 p3)) 0),(.agg [(I p4.From),(I p4.To),(I p4.Seen.Lo),(I p4.Seen.Hi)]),(I p5),(I p6)] [] (I r) []:=by
  refine sA func44 0 fun _ _ _ hq hd0=>?_
  unfold Qe3 at h
  refine wxz ?_
  obtain⟨hi1,h⟩:=cko h
  obtain⟨hi1a,hi1b⟩:=Qbp hi1
  obtain⟨hi2,h⟩:=cko h
  obtain⟨hi2a,hi2b⟩:=Qbp hi2
  obtain⟨hi3,h⟩:=cko h
  obtain⟨hi3a,hi3b⟩:=Qbp hi3
  obtain⟨hi4,h⟩:=cko h
  obtain⟨hi4a,hi4b⟩:=Qbp hi4
  obtain⟨x5,hl6,h⟩:=bno h
  refine wxd tbk [(9,rp [(.tmp 17,(.dptr ((I p0)::(Qm9 p1)::(arrF 144 p2++arrF 144 p3)) 2)),(.tmp 14,I p4.From)] (.dptr ((I p0)::(Qm9 p1)::(arrF 144 p2++arrF 144 p3)) (2+p4.From.toNat*12))),(10,rp [(.tmp 18,(.dptr ((I p0)::(Qm9 p1)::(arrF 144 p2++arrF 144 p3)) (2+p4.From.toNat*12))),(.tmp 15,I p5)] (.dptr ((I p0)::(Qm9 p1)::(arrF 144 p2++arrF 144 p3)) ((2+p4.From.toNat*12)+p5.toNat*1))),(11,rp [(.tmp 19,(.dptr ((I p0)::(Qm9 p1)::(arrF 144 p2++arrF 144 p3)) ((2+p4.From.toNat*12)+p5.toNat*1)))] (I (p2 (p4.From.toNat*12+p5.toNat)))),(19,rp [(.tmp 27,(.dptr ((I p0)::(Qm9 p1)::(arrF 144 p2++arrF 144 p3)) 2)),(.tmp 23,I p6)] (.dptr ((I p0)::(Qm9 p1)::(arrF 144 p2++arrF 144 p3)) (2+p6.toNat*12))),(20,rp [(.tmp 28,(.dptr ((I p0)::(Qm9 p1)::(arrF 144 p2++arrF 144 p3)) (2+p6.toNat*12))),(.tmp 25,I p4.To)] (.dptr ((I p0)::(Qm9 p1)::(arrF 144 p2++arrF 144 p3)) ((2+p6.toNat*12)+p4.To.toNat*1))),(21,rp [(.tmp 29,(.dptr ((I p0)::(Qm9 p1)::(arrF 144 p2++arrF 144 p3)) ((2+p6.toNat*12)+p4.To.toNat*1)))] (I (p2 (p6.toNat*12+p4.To.toNat)))),(22,rp [(.tmp 21,(I (w64 (p4.Seen.Lo-(p2 (p4.From.toNat*12+p5.toNat)))))),(.tmp 30,(I (p2 (p6.toNat*12+p4.To.toNat))))] (I x5))] ?_ ?_
  ·exact⟨Qd8 rfl underlying104 Qlc (odt hi1a) (odt hi1b) rfl,Qd8 rfl underlying102 ti3 (odt hi2a) (odt hi2b) rfl,ald_ rfl ti3 (by decide) (Qhp (n:=144) (off:=2) (k:=p4.From.toNat*12+p5.toNat) (lt2 (odt hi1b) (odt hi2b) rfl) (by omega) (nle rfl)) (Qjj (pre:=[I p0,(Qm9 p1)]) (post:=arrF 144 p3) (n:=144) (off:=2) (k:=p4.From.toNat*12+p5.toNat) (f:=p2) (by kernel_rfl) rfl (lt2 (odt hi1b) (odt hi2b) rfl) (by omega)),Qd8 rfl underlying104 Qlc (odt hi3a) (odt hi3b) rfl,Qd8 rfl underlying102 ti3 (odt hi4a) (odt hi4b) rfl,ald_ rfl ti3 (by decide) (Qhp (n:=144) (off:=2) (k:=p6.toNat*12+p4.To.toNat) (lt2 (odt hi3b) (odt hi4b) rfl) (by omega) (nle rfl)) (Qjj (pre:=[I p0,(Qm9 p1)]) (post:=arrF 144 p3) (n:=144) (off:=2) (k:=p6.toNat*12+p4.To.toNat) (f:=p2) (by kernel_rfl) rfl (lt2 (odt hi3b) (odt hi4b) rfl) (by omega)),Qfh hl6 (abn rfl rfl),tv⟩
  refine Qag ?_
  obtain rfl:=osi h
  exact fend ⟨[I x5],⟨rot,tv⟩,rfl⟩ nll
def Qcg (N:Nat) (p0:Int) (p1:List Qcc) (p2 p3:(Nat→Int)) (k4:Int×Int→Option (Int×Int)) (p4 p5:Int):Nat→Int→Int→Int→Option (Int×Int)
  |0,_,_,_=>none
  |n11+1,y5,y6,y7=>
    bif (decide (y7<(p1.length:Int))) then
     (getI p1 y7).bind fun x13=>
     (Qe3 N p0 p1 p2 p3 (⟨x13.From,x13.To,(⟨x13.Seen.Lo,x13.Seen.Hi⟩:Qgr)⟩:Qcc) p4 p5).bind fun x18=>
     bif (decide (x18>y5)) then
      Qcg N p0 p1 p2 p3 k4 p4 p5 n11 x18 y7 (w64 (y7+1))
     else
      Qcg N p0 p1 p2 p3 k4 p4 p5 n11 y5 y6 (w64 (y7+1))
    else
     k4 (y5,y6)
def Qej (N:Nat) (p0:Int) (p1:List Qcc) (p2 p3:(Nat→Int)) (p4 p5:Int):Option (Int×Int):=
  bif (p4==p5) then
   some (0,(-1))
  else
   Qcy (fun ⟨y2,y3⟩=>
     some (y2,y3)) fun k4:Int×Int→Option (Int×Int)=>
   Qcg N p0 p1 p2 p3 k4 p4 p5 N 0 (-1) 0
abbrev Qpl (p1:List Qcc):AV:=.dat 4 (p1.map Qbf)
def Qv4 (p0:Int) (p1:List Qcc) (p2 p3:(Nat→Int)):AV:=.fn (.func 44) [(.dptr ((I p0)::(Qpl p1)::(arrF 144 p2++arrF 144 p3)) 0)] []
theorem Qhu (N:Nat) (p0:Int) (p1:List Qcc) (p2 p3:(Nat→Int)) (p4 p5:Int) (r:(Int×Int)) (h:Qej N p0 p1 p2 p3 p4 p5=some r):Spec prog 26 [(.dptr ((I p0)::(Qpl p1)::(arrF 144 p2++arrF 144 p3)) 0),(I p4),(I p5)] [] (.tup [(I r.1),(I r.2)]) []:=by
  refine sA func26 0 fun _ _ _ hq hd0=>?_
  unfold Qej at h
  refine wxz<|wxz<|wsq<|wxz ?_
  refine bfe h (fun hc1 h=>?_) fun hc1 h=>?_
  ·refine wft hc1<|wxz<|Qag<|Qae ?_
   obtain rfl:=osi h
   exact fie [I 0,(I ((-1)))] ⟨rot,rot,tv⟩
  ·refine wfn hc1<|Qai<|thn ?_
   refine wx tbk [(1,rp [(.tmp 16,(.dptr ((I p0)::(Qpl p1)::(arrF 144 p2++arrF 144 p3)) 0))] (Qv4 p0 p1 p2 p3))] ?_ ?_
   ·exact⟨Qfm (fs:=[(.dptr ((I p0)::(Qpl p1)::(arrF 144 p2++arrF 144 p3)) 0)]) (cs:=[]) rfl rfl rfl rfl,tv⟩
   obtain⟨k4,hk_k4,h⟩:=jko h
   refine wjn (τ:=Int×Int) (fun t=>k4 t=some r) (fun ⟨y2,y3⟩=>⟨mk 42 [(6,I y2),(7,I y3)],[]⟩) (fun t h=>?_) ?_
   ·subst hk_k4
    obtain⟨y2,y3⟩:=t
    refine wxz<|Qag ?_
    obtain rfl:=osi h
    exact fie [I y2,I y3] ⟨rot,rot,tv⟩
   ·skip
    refine wx tbk [(5,rp _ _)] ⟨alq 4 Qbf p1 underlying57,tv⟩<|Qaf ?_
    refine wmr (mto (n:=42) (l':=[(1,I p4),(2,I p5),(6,I 0),(7,(I ((-1)))),(8,(Qv4 p0 p1 p2 p3)),(22,(Qpl p1)),(23,(I ((p1.length:Int)))),(24,I 0)]) (own':=[]) [(1,I p4),(2,I p5),(6,I 0),(7,(I ((-1)))),(8,(Qv4 p0 p1 p2 p3)),(22,(Qpl p1)),(23,(I ((p1.length:Int)))),(24,I 0)] [] [] hq (pw (pw (pw (pw (pc (.rn (Qao (rnc (.plain _ (NLt.dptr _ _ (nlc nll (nlc (nld Qad _) (Qdb Qb2 Qb2))))) rn0) rn0)) (pc (rnd Qad) (pw (pw pn)))))))) qn) ?_
    refine Qbx (τ:=Int×Int×Int) (fun n t=>Qcg N p0 p1 p2 p3 k4 p4 p5 n t.1 t.2.1 t.2.2=some r) (fun ⟨y5,y6,y7⟩=>⟨mk 42 [(1,I p4),(2,I p5),(6,I y5),(7,I y6),(8,(Qv4 p0 p1 p2 p3)),(22,(Qpl p1)),(23,(I ((p1.length:Int)))),(24,I y7)],[]⟩) (fun t h=>by rw[Qcg] at h;cases h) (fun n11 ih t h=>?_) N (0,(-1),0) h
    obtain⟨y5,y6,y7⟩:=t
    rw[Qcg] at h
    skip
    refine wxz<|wsq ?_
    refine bfe h (fun hc12 h=>?_) fun hc12 h=>?_
    ·refine wft hc12<|Qai<|thn<|wsq<|Qaf ?_
     obtain⟨x13,hg14,h⟩:=bno h
     obtain⟨hi15,hj16⟩:=gsm hg14
     refine wx tbk [(1,rp _ _)] ⟨aiq underlying57 ti56 Qbf hi15 hj16,tv⟩ ?_
     obtain⟨x18,hf17,h⟩:=bno h
     refine wx tbk [(4,rp _ _)] ⟨Qei (first:=[(.dptr ((I p0)::(Qpl p1)::(arrF 144 p2++arrF 144 p3)) 0)]) (cap:=[]) (vs:=[(.agg [(I ((⟨x13.From,x13.To,(⟨x13.Seen.Lo,x13.Seen.Hi⟩:Qgr)⟩:Qcc).From)),(I ((⟨x13.From,x13.To,(⟨x13.Seen.Lo,x13.Seen.Hi⟩:Qgr)⟩:Qcc).To)),(I ((⟨x13.From,x13.To,(⟨x13.Seen.Lo,x13.Seen.Hi⟩:Qgr)⟩:Qcc).Seen.Lo)),(I ((⟨x13.From,x13.To,(⟨x13.Seen.Lo,x13.Seen.Hi⟩:Qgr)⟩:Qcc).Seen.Hi))]),I p4,I p5]) (σr:=[]) (σr':=[]) (res':=(I x18)) [] rfl Q6d (Qj9 N p0 p1 p2 p3 (⟨x13.From,x13.To,(⟨x13.Seen.Lo,x13.Seen.Hi⟩:Qgr)⟩:Qcc) p4 p5 _ hf17) rfl (Qb1 (rnc (.plain _ (NLt.dptr _ _ (nlc nll (nlc (nld Qad _) (Qdb Qb2 Qb2))))) (rnc (.plain _ (NLt.agg _ (nlcc (nlcc nl0)))) (rncc rn0)))) Qak Qak (.plain _ nll) rfl rfl rfl,tv⟩<|wxz ?_
     refine bfe h (fun hc19 h=>?_) fun hc19 h=>?_
     ·exact wft hc19<|wxz1<|bln<|thn<|wxz1<|thn<|arm (mto (n:=42) [(1,I p4),(2,I p5),(6,I x18),(7,I y7),(8,(Qv4 p0 p1 p2 p3)),(22,(Qpl p1)),(23,(I ((p1.length:Int)))),(24,(I (w64 (y7+1))))] [] [] hq (pw (pw (pw (pw (pc (.rn (Qao (rnc (.plain _ (NLt.dptr _ _ (nlc nll (nlc (nld Qad _) (Qdb Qb2 Qb2))))) rn0) rn0)) (pc (rnd Qad) (pw (pw pn)))))))) qn) (ih (x18,y7,w64 (y7+1)) h)
     ·exact wfn hc19<|Qai<|bln<|thn<|wxz1<|thn<|arm (mto (n:=42) [(1,I p4),(2,I p5),(6,I y5),(7,I y6),(8,(Qv4 p0 p1 p2 p3)),(22,(Qpl p1)),(23,(I ((p1.length:Int)))),(24,(I (w64 (y7+1))))] [] [] hq (pw (pw (pw (pw (pc (.rn (Qao (rnc (.plain _ (NLt.dptr _ _ (nlc nll (nlc (nld Qad _) (Qdb Qb2 Qb2))))) rn0) rn0)) (pc (rnd Qad) (pw (pw pn)))))))) qn) (ih (y5,y6,w64 (y7+1)) h)
    ·exact wfn hc12<|Qa3<|Qan<|Qan<|Qa2 rfl<|thn<|⟨(y5,y6),h,(mto (n:=42) [(6,I y5),(7,I y6)] [] [] hq (pw (pw pn)) qn)⟩
def Qf6 (_N:Nat) (_p0:Int) (_p1:List Qcc) (_p2 _p3:(Nat→Int)) (_p4 _p5:Int):Option Unit:=
  some ()
abbrev Q41:AV:=.fn (.func 46) [] [(.ref 0 1 (0) 0),(.ref 1 1 (0) 0),(.ref 2 1 (0) 0)]
abbrev Q42 (p0:Int) (p1:List Qcc) (p2 p3:(Nat→Int)):Slot:=.own 1 [[(.dptr ((I p0)::(.dat 4 (p1.map Qbf))::(arrF 144 p2++arrF 144 p3)) 0)]]
def Q8e:AV:=.fn (.func 46) [] [(.ref 1 1 (0) 0),(.ref 2 1 (0) 0),(.ref 0 1 (0) 0)]
theorem Qhw (N:Nat) (p0:Int) (p1:List Qcc) (p2 p3:(Nat→Int)) (p4 p5:Int) (r:Unit) (h:Qf6 N p0 p1 p2 p3 p4 p5=some r):Spec prog 28 [(.dptr ((I p0)::(.dat 4 (p1.map Qbf))::(arrF 144 p2++arrF 144 p3)) 0),(I p4),(I p5)] [] Q41 [(.own 1 [[(I p4)]]),(.own 1 [[(I p5)]]),(Q42 p0 p1 p2 p3)]:=by
  refine sF func28 3 fun _ _ _ hq hd0=>?_
  unfold Qf6 at h
  refine wxz<|wx tbk [(0,rp [(.tmp 4,.ref 1 1 0 0),(.tmp 5,.ref 2 1 0 0),(.tmp 3,.ref 0 1 0 0)] Q8e)] ⟨Qfm (fs:=[]) (cs:=[.ref 1 1 0 0,.ref 2 1 0 0,.ref 0 1 0 0]) rfl rfl rfl rfl,tv⟩ ?_
  refine wmr (mto (n:=8) (l':=[(6,Q41)]) (own':=[(.own 1 [[I p4]]),(.own 1 [[I p5]]),(Q42 p0 p1 p2 p3)]) [(6,Q8e)] [1,2,0] [(.own 1 [[I p4]]),(.own 1 [[I p5]]),(Q42 p0 p1 p2 p3)] hq (pc (.rn (Qao rn0 (rnc (rqr rfl) (rnc (rqr rfl) (rnc (rqr rfl) rn0))))) pn) (qb (lc rwl ln) (qb (lc rwl ln) (qb (lc (.rn (.plain _ (NLt.dptr _ _ (nlc nll (nlc (nld Qad _) (Qdb Qb2 Qb2)))))) ln) qn))))<|Qag ?_
  obtain rfl:=osi h
  exact⟨_,Mor.rfl,fio [Q41] ⟨rot,tv⟩⟩
def Qds (N:Nat) (p1:Int) (p3:List Qcc) (p5:(Nat→Int)):Nat→Int→Option (List Int)
  |0,_=>none
  |n5+1,y1=>
    Qcy (fun _=>
      chk (decide (0≤y1)&&decide (y1.toNat<12))<|
      chk (decide (0≤p1)&&decide (p1.toNat<12))<|
      (getI p3 (p5 (y1.toNat*12+p1.toNat))).bind fun x10=>
      Qds N p1 p3 p5 n5 x10.To) fun k7:Unit→Option (List Int)=>
    bif (y1 != p1) then
     chk (decide (0≤y1)&&decide (y1.toNat<12))<|
     chk (decide (0≤p1)&&decide (p1.toNat<12))<|
     bif (decide ((p5 (y1.toNat*12+p1.toNat))≥0)) then
      chk (decide (0≤y1)&&decide (y1.toNat<12))<|
      chk (decide (0≤p1)&&decide (p1.toNat<12))<|
      yld (p5 (y1.toNat*12+p1.toNat))<|
      k7 ()
     else
      some ([])
    else
     some ([])
def Qgn (N:Nat) (p0 p1 _p2:Int) (p3:List Qcc) (_p4 p5:(Nat→Int)):Option (List Int):=
  Qds N p1 p3 p5 N p0
abbrev Qey (p3:List Qcc):AV:=.dat 4 (p3.map Qbf)
abbrev Qoj (p2:Int) (p3:List Qcc) (p4 p5:(Nat→Int)):Slot:=.own 1 [[(.dptr ((I p2)::(Qey p3)::(arrF 144 p4++arrF 144 p5)) 0)]]
theorem Qjt (N:Nat) (p0 p1 p2:Int) (p3:List Qcc) (p4 p5:(Nat→Int)) (r:List Int) (h:Qgn N p0 p1 p2 p3 p4 p5=some r):Qpj prog 46 [(.ref 0 1 (0) 0),(.ref 1 1 (0) 0),(.ref 2 1 (0) 0)] [(.own 1 [[(I p0)]]),(.own 1 [[(I p1)]]),(Qoj p2 p3 p4 p5)] (fun x=>[(.int .i64 x)]) r:=by
  refine Qps func46 rfl rfl (fun X φ0 w0 l J hq hy=>?_)
  unfold Qgn at h
  refine Qaf<|wmr (mto (n:=47) (l':=[(0,(.lit (.func (.yield l) #[] #[]))),(1,.ref 0 1 0 0),(2,.ref 1 1 0 0),(3,.ref 2 1 0 0)]) (own':=[(.own 1 [[I p0]]),(.own 1 [[I p1]]),(Qoj p2 p3 p4 p5),(.far (J (some r)))]) [(0,(.lit (.func (.yield l) #[] #[]))),(1,.ref 0 1 0 0),(2,.ref 1 1 0 0),(3,.ref 2 1 0 0)] [0,1,2,3] [(.own 1 [[I p0]]),(.own 1 [[I p1]]),(Qoj p2 p3 p4 p5),(.far (J (some r)))] hq (pw (prr (prr (prr pn)))) (qb (lc rwl ln) (qb (lc rwl ln) (qb (lc (.rn (.plain _ (NLt.dptr _ _ (nlc nll (nlc (nld Qad _) (Qdb Qb2 Qb2)))))) ln) (qc (.far _) qn))))) ?_
  refine Qbx (τ:=(Int)×List Int) (fun n t=>Qds N p1 p3 p5 n t.1=some t.2) (fun ⟨y1,q2⟩=>⟨mk 47 [(0,(.lit (.func (.yield l) #[] #[]))),(1,.ref 0 1 0 0),(2,.ref 1 1 0 0),(3,.ref 2 1 0 0)],[(.own 1 [[I y1]]),(.own 1 [[I p1]]),(Qoj p2 p3 p4 p5),(.far (J (some q2)))]⟩) (fun t h=>by rw[Qds] at h;cases h) (fun n5 ih t h=>?_) N ((p0),r) h
  obtain⟨y1,q2⟩:=t
  rw[Qds] at h
  try dsimp only at h
  obtain⟨k7,hk_k7,h⟩:=jko h
  refine wjn (τ:=(Unit)×List Int) (fun t=>k7 t.1=some t.2) (fun ⟨_,q6⟩=>⟨mk 47 [(0,(.lit (.func (.yield l) #[] #[]))),(1,.ref 0 1 0 0),(2,.ref 1 1 0 0),(3,.ref 2 1 0 0)],[(.own 1 [[I y1]]),(.own 1 [[I p1]]),(Qoj p2 p3 p4 p5),(.far (J (some q6)))]⟩) (fun t h=>?_) ?_
  ·subst hk_k7
   obtain⟨_,q6⟩:=t
   refine Qaf ?_
   obtain⟨hi8,h⟩:=cko h
   obtain⟨hi8a,hi8b⟩:=Qbp hi8
   obtain⟨hi9,h⟩:=cko h
   obtain⟨hi9a,hi9b⟩:=Qbp hi9
   obtain⟨x10,hg11,h⟩:=bno h
   obtain⟨hi12,hj13⟩:=gsm hg11
   refine wy1 tbk [(10,rp [(.tmp 40,(.dptr ((I p2)::(Qey p3)::(arrF 144 p4++arrF 144 p5)) 146)),(.tmp 37,I y1)] (.dptr ((I p2)::(Qey p3)::(arrF 144 p4++arrF 144 p5)) (146+y1.toNat*12))),(11,rp [(.tmp 41,(.dptr ((I p2)::(Qey p3)::(arrF 144 p4++arrF 144 p5)) (146+y1.toNat*12))),(.tmp 38,I p1)] (.dptr ((I p2)::(Qey p3)::(arrF 144 p4++arrF 144 p5)) ((146+y1.toNat*12)+p1.toNat*1))),(12,rp [(.tmp 42,(.dptr ((I p2)::(Qey p3)::(arrF 144 p4++arrF 144 p5)) ((146+y1.toNat*12)+p1.toNat*1)))] (I (p5 (y1.toNat*12+p1.toNat)))),(13,rp [(.tmp 35,(Qey p3)),(.tmp 43,(I (p5 (y1.toNat*12+p1.toNat))))] (.dptr (Qbf x10) 0))] ?_ ?_
   ·exact⟨Qd8 rfl underlying104 Qlc (odt hi8a) (odt hi8b) rfl,Qd8 rfl underlying102 ti3 (odt hi9a) (odt hi9b) rfl,ald_ rfl ti3 (by decide) (Qhp (n:=144) (off:=146) (k:=y1.toNat*12+p1.toNat) (lt2 (odt hi8b) (odt hi9b) rfl) (by omega) (nle rfl)) (Qjj (pre:=((I p2)::(Qey p3)::arrF 144 p4)) (post:=[]) (n:=144) (off:=146) (k:=y1.toNat*12+p1.toNat) (f:=p5) (by kernel_rfl) rfl (lt2 (odt hi8b) (odt hi9b) rfl) (by omega)),aiq underlying57 ti56 Qbf hi12 hj13,tv⟩
   exact bln<|thn<|arm (mto (n:=47) [(0,(.lit (.func (.yield l) #[] #[]))),(1,.ref 0 1 0 0),(2,.ref 1 1 0 0),(3,.ref 2 1 0 0)] [0,1,2,3] [(.own 1 [[I x10.To]]),(.own 1 [[I p1]]),(Qoj p2 p3 p4 p5),(.far (J (some q6)))] hq (pw (prr (prr (prr pn)))) (qb (lc rwl ln) (qb (lc rwl ln) (qb (lc (.rn (.plain _ (NLt.dptr _ _ (nlc nll (nlc (nld Qad _) (Qdb Qb2 Qb2)))))) ln) (qc (.far _) qn))))) (ih ((x10.To),q6) h)
  ·skip
   refine bfe h (fun hb14 h=>?_) fun hb14 h=>?_
   ·obtain⟨hi15,h⟩:=cko h
    obtain⟨hi15a,hi15b⟩:=Qbp hi15
    obtain⟨hi16,h⟩:=cko h
    obtain⟨hi16a,hi16b⟩:=Qbp hi16
    refine bfe h (fun hb17 h=>?_) fun hb17 h=>?_
    ·obtain⟨hi18,h⟩:=cko h
     obtain⟨hi18a,hi18b⟩:=Qbp hi18
     obtain⟨hi19,h⟩:=cko h
     obtain⟨hi19a,hi19b⟩:=Qbp hi19
     obtain⟨q20,hy_,hq_⟩:=Q46 h
     clear h
     subst hq_
     have h:=hy_
     clear hy_
     refine Q0y 24 [rb [(.tmp 1,.ref 0 1 0 0)] [(0,.own 1 [[I y1]])] (I y1),rb [(.tmp 2,.ref 1 1 0 0)] [(1,.own 1 [[I p1]])] (I p1),rp [(.tmp 5,I y1),(.tmp 6,I p1)] (B ((y1 != p1))),rp [(.tmp 7,(B ((y1 != p1))))] (B true),rb [(.tmp 8,B true),(.tmp 3,.ref 2 1 0 0)] [(2,(Qoj p2 p3 p4 p5))] (.dptr ((I p2)::(Qey p3)::(arrF 144 p4++arrF 144 p5)) 0),rb [(.tmp 8,B true),(.tmp 1,.ref 0 1 0 0)] [(0,.own 1 [[I y1]])] (I y1),rb [(.tmp 8,B true),(.tmp 2,.ref 1 1 0 0)] [(1,.own 1 [[I p1]])] (I p1),rp [(.tmp 8,B true),(.tmp 9,(.dptr ((I p2)::(Qey p3)::(arrF 144 p4++arrF 144 p5)) 0))] (.dptr ((I p2)::(Qey p3)::(arrF 144 p4++arrF 144 p5)) 0),rp [(.tmp 8,B true),(.tmp 12,(.dptr ((I p2)::(Qey p3)::(arrF 144 p4++arrF 144 p5)) 0))] (.dptr ((I p2)::(Qey p3)::(arrF 144 p4++arrF 144 p5)) 146),rp [(.tmp 8,B true),(.tmp 13,(.dptr ((I p2)::(Qey p3)::(arrF 144 p4++arrF 144 p5)) 146)),(.tmp 10,I y1)] (.dptr ((I p2)::(Qey p3)::(arrF 144 p4++arrF 144 p5)) (146+y1.toNat*12)),rp [(.tmp 8,B true),(.tmp 14,(.dptr ((I p2)::(Qey p3)::(arrF 144 p4++arrF 144 p5)) (146+y1.toNat*12))),(.tmp 11,I p1)] (.dptr ((I p2)::(Qey p3)::(arrF 144 p4++arrF 144 p5)) ((146+y1.toNat*12)+p1.toNat*1)),rp [(.tmp 8,B true),(.tmp 15,(.dptr ((I p2)::(Qey p3)::(arrF 144 p4++arrF 144 p5)) ((146+y1.toNat*12)+p1.toNat*1)))] (I (p5 (y1.toNat*12+p1.toNat))),rp [(.tmp 8,B true),(.tmp 16,(I (p5 (y1.toNat*12+p1.toNat)))),ci 0] (B ((decide ((p5 (y1.toNat*12+p1.toNat))≥0)))),rp [(.tmp 8,B true),(.tmp 17,(B ((decide ((p5 (y1.toNat*12+p1.toNat))≥0))))),cb false] (B ((decide ((p5 (y1.toNat*12+p1.toNat))≥0)))),rp [(.tmp 18,(B ((decide ((p5 (y1.toNat*12+p1.toNat))≥0)))))] (B true),rp [(.tmp 19,B true),(.tmp 0,(.lit (.func (.yield l) #[] #[])))] (.lit (.func (.yield l) #[] #[])),rb [(.tmp 19,B true),(.tmp 3,.ref 2 1 0 0)] [(2,(Qoj p2 p3 p4 p5))] (.dptr ((I p2)::(Qey p3)::(arrF 144 p4++arrF 144 p5)) 0),rb [(.tmp 19,B true),(.tmp 1,.ref 0 1 0 0)] [(0,.own 1 [[I y1]])] (I y1),rb [(.tmp 19,B true),(.tmp 2,.ref 1 1 0 0)] [(1,.own 1 [[I p1]])] (I p1),rp [(.tmp 19,B true),(.tmp 21,(.dptr ((I p2)::(Qey p3)::(arrF 144 p4++arrF 144 p5)) 0))] (.dptr ((I p2)::(Qey p3)::(arrF 144 p4++arrF 144 p5)) 0),rp [(.tmp 19,B true),(.tmp 24,(.dptr ((I p2)::(Qey p3)::(arrF 144 p4++arrF 144 p5)) 0))] (.dptr ((I p2)::(Qey p3)::(arrF 144 p4++arrF 144 p5)) 146),rp [(.tmp 19,B true),(.tmp 25,(.dptr ((I p2)::(Qey p3)::(arrF 144 p4++arrF 144 p5)) 146)),(.tmp 22,I y1)] (.dptr ((I p2)::(Qey p3)::(arrF 144 p4++arrF 144 p5)) (146+y1.toNat*12)),rp [(.tmp 19,B true),(.tmp 26,(.dptr ((I p2)::(Qey p3)::(arrF 144 p4++arrF 144 p5)) (146+y1.toNat*12))),(.tmp 23,I p1)] (.dptr ((I p2)::(Qey p3)::(arrF 144 p4++arrF 144 p5)) ((146+y1.toNat*12)+p1.toNat*1)),rp [(.tmp 19,B true),(.tmp 27,(.dptr ((I p2)::(Qey p3)::(arrF 144 p4++arrF 144 p5)) ((146+y1.toNat*12)+p1.toNat*1)))] (I (p5 (y1.toNat*12+p1.toNat))),⟨[(.tmp 19,B true),(.tmp 20,(.lit (.func (.yield l) #[] #[]))),(.tmp 28,(I (p5 (y1.toNat*12+p1.toNat))))],[(3,(.far (J (some ((p5 (y1.toNat*12+p1.toNat))::q20)))))],B true,[(3,(.far (J (some q20))))],false⟩,rp [(.tmp 19,B true),(.tmp 29,B true),cb false] (B true)] [rb [(.tmp 1,.ref 0 1 0 0)] [(0,.own 1 [[I y1]])] (I y1),rb [(.tmp 2,.ref 1 1 0 0)] [(1,.own 1 [[I p1]])] (I p1),rp [(.tmp 5,I y1),(.tmp 6,I p1)] (B ((y1 != p1))),rp [(.tmp 7,(B ((y1 != p1))))] (B true),rb [(.tmp 8,B true),(.tmp 3,.ref 2 1 0 0)] [(2,(Qoj p2 p3 p4 p5))] (.dptr ((I p2)::(Qey p3)::(arrF 144 p4++arrF 144 p5)) 0),rb [(.tmp 8,B true),(.tmp 1,.ref 0 1 0 0)] [(0,.own 1 [[I y1]])] (I y1),rb [(.tmp 8,B true),(.tmp 2,.ref 1 1 0 0)] [(1,.own 1 [[I p1]])] (I p1),rp [(.tmp 8,B true),(.tmp 9,(.dptr ((I p2)::(Qey p3)::(arrF 144 p4++arrF 144 p5)) 0))] (.dptr ((I p2)::(Qey p3)::(arrF 144 p4++arrF 144 p5)) 0),rp [(.tmp 8,B true),(.tmp 12,(.dptr ((I p2)::(Qey p3)::(arrF 144 p4++arrF 144 p5)) 0))] (.dptr ((I p2)::(Qey p3)::(arrF 144 p4++arrF 144 p5)) 146),rp [(.tmp 8,B true),(.tmp 13,(.dptr ((I p2)::(Qey p3)::(arrF 144 p4++arrF 144 p5)) 146)),(.tmp 10,I y1)] (.dptr ((I p2)::(Qey p3)::(arrF 144 p4++arrF 144 p5)) (146+y1.toNat*12)),rp [(.tmp 8,B true),(.tmp 14,(.dptr ((I p2)::(Qey p3)::(arrF 144 p4++arrF 144 p5)) (146+y1.toNat*12))),(.tmp 11,I p1)] (.dptr ((I p2)::(Qey p3)::(arrF 144 p4++arrF 144 p5)) ((146+y1.toNat*12)+p1.toNat*1)),rp [(.tmp 8,B true),(.tmp 15,(.dptr ((I p2)::(Qey p3)::(arrF 144 p4++arrF 144 p5)) ((146+y1.toNat*12)+p1.toNat*1)))] (I (p5 (y1.toNat*12+p1.toNat))),rp [(.tmp 8,B true),(.tmp 16,(I (p5 (y1.toNat*12+p1.toNat)))),ci 0] (B ((decide ((p5 (y1.toNat*12+p1.toNat))≥0)))),rp [(.tmp 8,B true),(.tmp 17,(B ((decide ((p5 (y1.toNat*12+p1.toNat))≥0))))),cb false] (B ((decide ((p5 (y1.toNat*12+p1.toNat))≥0)))),rp [(.tmp 18,(B ((decide ((p5 (y1.toNat*12+p1.toNat))≥0)))))] (B true),rp [(.tmp 19,B true),(.tmp 0,(.lit (.func (.yield l) #[] #[])))] (.lit (.func (.yield l) #[] #[])),rb [(.tmp 19,B true),(.tmp 3,.ref 2 1 0 0)] [(2,(Qoj p2 p3 p4 p5))] (.dptr ((I p2)::(Qey p3)::(arrF 144 p4++arrF 144 p5)) 0),rb [(.tmp 19,B true),(.tmp 1,.ref 0 1 0 0)] [(0,.own 1 [[I y1]])] (I y1),rb [(.tmp 19,B true),(.tmp 2,.ref 1 1 0 0)] [(1,.own 1 [[I p1]])] (I p1),rp [(.tmp 19,B true),(.tmp 21,(.dptr ((I p2)::(Qey p3)::(arrF 144 p4++arrF 144 p5)) 0))] (.dptr ((I p2)::(Qey p3)::(arrF 144 p4++arrF 144 p5)) 0),rp [(.tmp 19,B true),(.tmp 24,(.dptr ((I p2)::(Qey p3)::(arrF 144 p4++arrF 144 p5)) 0))] (.dptr ((I p2)::(Qey p3)::(arrF 144 p4++arrF 144 p5)) 146),rp [(.tmp 19,B true),(.tmp 25,(.dptr ((I p2)::(Qey p3)::(arrF 144 p4++arrF 144 p5)) 146)),(.tmp 22,I y1)] (.dptr ((I p2)::(Qey p3)::(arrF 144 p4++arrF 144 p5)) (146+y1.toNat*12)),rp [(.tmp 19,B true),(.tmp 26,(.dptr ((I p2)::(Qey p3)::(arrF 144 p4++arrF 144 p5)) (146+y1.toNat*12))),(.tmp 23,I p1)] (.dptr ((I p2)::(Qey p3)::(arrF 144 p4++arrF 144 p5)) ((146+y1.toNat*12)+p1.toNat*1)),rp [(.tmp 19,B true),(.tmp 27,(.dptr ((I p2)::(Qey p3)::(arrF 144 p4++arrF 144 p5)) ((146+y1.toNat*12)+p1.toNat*1)))] (I (p5 (y1.toNat*12+p1.toNat))),⟨[(.tmp 19,B true),(.tmp 20,(.lit (.func (.yield l) #[] #[]))),(.tmp 28,(I (p5 (y1.toNat*12+p1.toNat))))],[(3,(.far (J (some ((p5 (y1.toNat*12+p1.toNat))::q20)))))],B false,[(3,(.far (J none)))],false⟩,rp [(.tmp 19,B true),(.tmp 29,B false),cb false] (B false)] (by exact⟨by kernel_rfl,by kernel_rfl⟩) (by exact⟨by kernel_rfl,by kernel_rfl⟩) rfl rfl rfl rfl (Qs9 (Quq (rd':=(.tmp 20,.lit (.func (.yield l) #[] #[]))::[(.tmp 28,.lit (.int .i64 (p5 (y1.toNat*12+p1.toNat))))]) ⟨rfl,lrf,rfl,lrf,tv⟩ (Qs4 (x:=p5 (y1.toNat*12+p1.toNat)) (rest:=q20) rfl rfl hy rfl))) (⟨fun _ _=>ald rfl ti3 (by decide) rfl (nle rfl) rfl,fun _ _=>ald rfl ti3 (by decide) rfl (nle rfl) rfl,fun _ _=>abn rfl rfl,fun _ _=>asb hb14 (amv rfl),fun _ _=>ag_ (ald rfl ti76 (by decide) rfl (nle rfl) rfl),fun _ _=>ag_ (ald rfl ti3 (by decide) rfl (nle rfl) rfl),fun _ _=>ag_ (ald rfl ti3 (by decide) rfl (nle rfl) rfl),fun _ _=>ag_ (anc rfl rfl),fun _ _=>ag_ (afd rfl underlying106 rfl rfl Qom (by decide) rfl),fun _ _=>ag_ (Qd8 rfl underlying104 Qlc (odt hi15a) (odt hi15b) rfl),fun _ _=>ag_ (Qd8 rfl underlying102 ti3 (odt hi16a) (odt hi16b) rfl),fun _ _=>ag_ (ald_ rfl ti3 (by decide) (Qhp (n:=144) (off:=146) (k:=y1.toNat*12+p1.toNat) (lt2 (odt hi15b) (odt hi16b) rfl) (by omega) (nle rfl)) (Qjj (pre:=((I p2)::(Qey p3)::arrF 144 p4)) (post:=[]) (n:=144) (off:=146) (k:=y1.toNat*12+p1.toNat) (f:=p5) (by kernel_rfl) rfl (lt2 (odt hi15b) (odt hi16b) rfl) (by omega))),fun _ _=>ag_ (abn rfl rfl),fun _ _=>apk rfl rfl,fun _ _=>asb hb17 (amv rfl),fun _ _=>ag_ (amv rfl),fun _ _=>ag_ (ald rfl ti76 (by decide) rfl (nle rfl) rfl),fun _ _=>ag_ (ald rfl ti3 (by decide) rfl (nle rfl) rfl),fun _ _=>ag_ (ald rfl ti3 (by decide) rfl (nle rfl) rfl),fun _ _=>ag_ (anc rfl rfl),fun _ _=>ag_ (afd rfl underlying106 rfl rfl Qom (by decide) rfl),fun _ _=>ag_ (Qd8 rfl underlying104 Qlc (odt hi18a) (odt hi18b) rfl),fun _ _=>ag_ (Qd8 rfl underlying102 ti3 (odt hi19a) (odt hi19b) rfl),fun _ _=>ag_ (ald_ rfl ti3 (by decide) (Qhp (n:=144) (off:=146) (k:=y1.toNat*12+p1.toNat) (lt2 (odt hi18b) (odt hi19b) rfl) (by omega) (nle rfl)) (Qjj (pre:=((I p2)::(Qey p3)::arrF 144 p4)) (post:=[]) (n:=144) (off:=146) (k:=y1.toNat*12+p1.toNat) (f:=p5) (by kernel_rfl) rfl (lt2 (odt hi18b) (odt hi19b) rfl) (by omega))),fun _ h=>absurd rfl h,fun _ _=>apk rfl rfl,tv⟩) (⟨fun _ _=>ald rfl ti3 (by decide) rfl (nle rfl) rfl,fun _ _=>ald rfl ti3 (by decide) rfl (nle rfl) rfl,fun _ _=>abn rfl rfl,fun _ _=>asb hb14 (amv rfl),fun _ _=>ag_ (ald rfl ti76 (by decide) rfl (nle rfl) rfl),fun _ _=>ag_ (ald rfl ti3 (by decide) rfl (nle rfl) rfl),fun _ _=>ag_ (ald rfl ti3 (by decide) rfl (nle rfl) rfl),fun _ _=>ag_ (anc rfl rfl),fun _ _=>ag_ (afd rfl underlying106 rfl rfl Qom (by decide) rfl),fun _ _=>ag_ (Qd8 rfl underlying104 Qlc (odt hi15a) (odt hi15b) rfl),fun _ _=>ag_ (Qd8 rfl underlying102 ti3 (odt hi16a) (odt hi16b) rfl),fun _ _=>ag_ (ald_ rfl ti3 (by decide) (Qhp (n:=144) (off:=146) (k:=y1.toNat*12+p1.toNat) (lt2 (odt hi15b) (odt hi16b) rfl) (by omega) (nle rfl)) (Qjj (pre:=((I p2)::(Qey p3)::arrF 144 p4)) (post:=[]) (n:=144) (off:=146) (k:=y1.toNat*12+p1.toNat) (f:=p5) (by kernel_rfl) rfl (lt2 (odt hi15b) (odt hi16b) rfl) (by omega))),fun _ _=>ag_ (abn rfl rfl),fun _ _=>apk rfl rfl,fun _ _=>asb hb17 (amv rfl),fun _ _=>ag_ (amv rfl),fun _ _=>ag_ (ald rfl ti76 (by decide) rfl (nle rfl) rfl),fun _ _=>ag_ (ald rfl ti3 (by decide) rfl (nle rfl) rfl),fun _ _=>ag_ (ald rfl ti3 (by decide) rfl (nle rfl) rfl),fun _ _=>ag_ (anc rfl rfl),fun _ _=>ag_ (afd rfl underlying106 rfl rfl Qom (by decide) rfl),fun _ _=>ag_ (Qd8 rfl underlying104 Qlc (odt hi18a) (odt hi18b) rfl),fun _ _=>ag_ (Qd8 rfl underlying102 ti3 (odt hi19a) (odt hi19b) rfl),fun _ _=>ag_ (ald_ rfl ti3 (by decide) (Qhp (n:=144) (off:=146) (k:=y1.toNat*12+p1.toNat) (lt2 (odt hi18b) (odt hi19b) rfl) (by omega) (nle rfl)) (Qjj (pre:=((I p2)::(Qey p3)::arrF 144 p4)) (post:=[]) (n:=144) (off:=146) (k:=y1.toNat*12+p1.toNat) (f:=p5) (by kernel_rfl) rfl (lt2 (odt hi18b) (odt hi19b) rfl) (by omega))),fun _ h=>absurd rfl h,fun _ _=>apk rfl rfl,tv⟩) ?_ ?_
     ·skip
      exact wtr<|Qai<|thn<|⟨((),q20),h,(mto (n:=47) [(0,(.lit (.func (.yield l) #[] #[]))),(1,.ref 0 1 0 0),(2,.ref 1 1 0 0),(3,.ref 2 1 0 0)] [0,1,2,3] [(.own 1 [[I y1]]),(.own 1 [[I p1]]),(Qoj p2 p3 p4 p5),(.far (J (some q20)))] hq (pw (prr (prr (prr pn)))) (qb (lc rwl ln) (qb (lc rwl ln) (qb (lc (.rn (.plain _ (NLt.dptr _ _ (nlc nll (nlc (nld Qad _) (Qdb Qb2 Qb2)))))) ln) (qc (.far _) qn)))))⟩
     ·clear h
      exact wfa<|Qa3<|Qan<|Qan<|Qa2 rfl<|Or.inr (by kernel_rfl)
    ·refine wxd tbk [(3,rp [(.tmp 7,(B ((y1 != p1))))] (B true)),(9,rp [(.tmp 8,B true),(.tmp 13,(.dptr ((I p2)::(Qey p3)::(arrF 144 p4++arrF 144 p5)) 146)),(.tmp 10,I y1)] (.dptr ((I p2)::(Qey p3)::(arrF 144 p4++arrF 144 p5)) (146+y1.toNat*12))),(10,rp [(.tmp 8,B true),(.tmp 14,(.dptr ((I p2)::(Qey p3)::(arrF 144 p4++arrF 144 p5)) (146+y1.toNat*12))),(.tmp 11,I p1)] (.dptr ((I p2)::(Qey p3)::(arrF 144 p4++arrF 144 p5)) ((146+y1.toNat*12)+p1.toNat*1))),(11,rp [(.tmp 8,B true),(.tmp 15,(.dptr ((I p2)::(Qey p3)::(arrF 144 p4++arrF 144 p5)) ((146+y1.toNat*12)+p1.toNat*1)))] (I (p5 (y1.toNat*12+p1.toNat)))),(14,rp [(.tmp 18,(B ((decide ((p5 (y1.toNat*12+p1.toNat))≥0)))))] (B false))] ?_ ?_
     ·exact⟨asb hb14 (amv rfl),ag_ (Qd8 rfl underlying104 Qlc (odt hi15a) (odt hi15b) rfl),ag_ (Qd8 rfl underlying102 ti3 (odt hi16a) (odt hi16b) rfl),ag_ (ald_ rfl ti3 (by decide) (Qhp (n:=144) (off:=146) (k:=y1.toNat*12+p1.toNat) (lt2 (odt hi15b) (odt hi16b) rfl) (by omega) (nle rfl)) (Qjj (pre:=((I p2)::(Qey p3)::arrF 144 p4)) (post:=[]) (n:=144) (off:=146) (k:=y1.toNat*12+p1.toNat) (f:=p5) (by kernel_rfl) rfl (lt2 (odt hi15b) (odt hi16b) rfl) (by omega))),asb hb17 (amv rfl),tv⟩
     refine wfa<|Qa3<|Qan<|Qan<|Qa2 rfl ?_
     obtain rfl:=osi h
     exact Or.inl (by kernel_rfl)
   ·refine wxd tbk [(3,rp [(.tmp 7,(B ((y1 != p1))))] (B false))] ⟨asb hb14 (amv rfl),tv⟩<|wfa<|Qa3<|Qan<|Qan<|Qa2 rfl ?_
    obtain rfl:=osi h
    exact Or.inl (by kernel_rfl)
def Qc1 (N:Nat) (k3:(List Int)→Option (List Int)):(List Int)→(List Int)→Option (List Int)
  |[],y6=>
    k3 (y6)
  |x9::q10,y6=>
    chk (decide ((y6.length+([x9]).length)*8≤140737488355328))<|
    Qc1 N k3 q10 (y6++([x9]))
def Qfq (N:Nat) (p0 p1 p2:Int) (p3:List Qcc) (p4 p5:(Nat→Int)):Option (List Int):=
  Qcy (fun y2=>
    some y2) fun k3:(List Int)→Option (List Int)=>
  (Qgn N p0 p1 p2 p3 p4 p5).bind fun q4=>
  Qc1 N k3 q4 ([])
abbrev Q40:AV:=.fn (.func 46) [] [(.ref 0 1 (0) 0),(.ref 1 1 (0) 0),(.ref 2 1 (0) 0)]
abbrev Q14 (p2:Int) (p3:List Qcc) (p4 p5:(Nat→Int)):Slot:=.own 1 [[(.dptr ((I p2)::(.dat 4 (p3.map Qbf))::(arrF 144 p4++arrF 144 p5)) 0)]]
theorem Qiv (N:Nat) (p0 p1 p2:Int) (p3:List Qcc) (p4 p5:(Nat→Int)) (r:List Int) (h:Qfq N p0 p1 p2 p3 p4 p5=some r):Spec prog 45 [nilS,Q40] [(.own 1 [[(I p0)]]),(.own 1 [[(I p1)]]),(Q14 p2 p3 p4 p5)] (.dat 1 (r.map Qah)) [.dead,.dead,.dead]:=by
  refine sF func45 3 fun _ _ _ hq hd0=>?_
  unfold Qfq at h
  refine wxz ?_
  obtain⟨k3,hk_k3,h⟩:=jko h
  refine wjn (τ:=(List Int)) (fun t=>k3 t=some r) (fun y2=>⟨mk 13 [(2,.ref 3 1 0 0)],[.dead,.dead,.dead,(.own 1 [[(.acc 4 3 1 (y2.map Qah))]]),.tok]⟩) (fun y2 h=>?_) ?_
  ·subst hk_k3
   refine wxz<|wmr (mto (n:=13) (l':=[(4,(.dat 1 (y2.map Qah)))]) (own':=[.dead,.dead,.dead]) [(4,(.acc 4 3 1 (y2.map Qah)))] [0,1,2] [.dead,.dead,.dead] hq (pc (.dat _ _ _ _ (Qeg Qal _)) pn) (qc .dead (qc .dead (qc .dead qn))))<|Qag ?_
   obtain rfl:=osi h
   exact⟨_,Mor.rfl,fio [(.dat 1 (y2.map Qah))] ⟨rot,tv⟩⟩
  ·skip
   refine wxz<|Qaf ?_
   obtain⟨q4,hL5,h⟩:=bno h
   refine wmr (mto (n:=13) (l':=[(2,.ref 3 1 0 0),(6,Q40)]) (own':=[(.own 1 [[I p0]]),(.own 1 [[I p1]]),(Q14 p2 p3 p4 p5),(.own 1 [[nilS]])]) [(2,.ref 3 1 0 0),(6,Q40)] [0,1,2,3] [(.own 1 [[I p0]]),(.own 1 [[I p1]]),(Q14 p2 p3 p4 p5),(.own 1 [[nilS]])] hq (prr (pc (.rn (Qao rn0 (rnc (rqr rfl) (rnc (rqr rfl) (rnc (rqr rfl) rn0))))) pn)) (qb (lc rwl ln) (qb (lc rwl ln) (qb (lc (.rn (.plain _ (NLt.dptr _ _ (nlc nll (nlc (nld Qad _) (Qdb Qb2 Qb2)))))) ln) (qb (lc rwl ln) qn))))) ?_
   refine wmr (Qmx (n:=4) (ty:=3) (m:=1) (q:=3) (mq:=1) (c:=[nilS]) 0 (by kernel_rfl) (by kernel_rfl) (by kernel_rfl) (by decide)) ?_
   refine Qqb (τ:=((List Int))) (kb:=4) (caps:=[.ref 0 1 0 0,.ref 1 1 0 0,.ref 2 1 0 0]) (σr:=[(.own 1 [[I p0]]),(.own 1 [[I p1]]),(Q14 p2 p3 p4 p5)]) (encs:=fun x=>[(.int .i64 x)]) (fun x=>[I x]) [0,1,2] (fun n hn=>hq n (Nat.le_trans (nle rfl) hn)) hd0 (Qjt N p0 p1 p2 p3 p4 p5 _ hL5) Qz7 (by kernel_rfl) (by kernel_rfl) (Qb1 (rnc (Qfg rfl) (rnc (Qfg rfl) (rnc (Qfg rfl) rn0)))) (slc (Qaj (rnc (.plain _ nll) rn0)) (slc (Qaj (rnc (.plain _ nll) rn0)) (slc (Qaj (rnc (.plain _ (NLt.dptr _ _ (nlc nll (nlc (nld Qad _) (Qdb Qb2 Qb2))))) rn0)) Qak))) (by kernel_rfl) (fun _=>rfl) (fun x=>⟨lrf,tv⟩) (Q3z (Qn8 (NLt.ref _ _ _ _ (by decide)) (Qn8 (NLt.fn _ _ _ nl0 (nlc (NLt.ref _ _ _ _ (by decide)) (nlc (NLt.ref _ _ _ _ (by decide)) (nlc (NLt.ref _ _ _ _ (by decide)) nl0)))) Qy5))) (fun y6=>[.dead,.dead,.dead,(.own 1 [[(.acc 4 3 1 (y6.map Qah))]]),.tok]) (fun _=>rfl) (fun _=>rfl) (fun l t=>Qc1 N k3 l t=some r) ([]) h (by kernel_rfl) ?_ ?_
   ·intro l11 o12 X15 φ16 w17 hφ14 x9 q10 y6 h
    rw[Qc1] at h
    refine wxz1 ?_
    refine⟨by kernel_rfl,fun o13=>?_⟩
    refine Qaf ?_
    obtain⟨ha18,h⟩:=cko h
    refine wx1 tbk [(2,rp [(.tmp 9,I x9)] (.dat 1 (([x9]:List Int).map Qah))),(3,⟨[(.tmp 8,(.acc 4 3 1 (y6.map Qah))),(.tmp 10,(.dat 1 (([x9]:List Int).map Qah)))],[(4,.tok),(6,.unused)],(.acc 6 3 1 ((y6++([x9]):List Int).map Qah)),[(4,.dead),(6,.tok)],false⟩)] ⟨Qfj (vs:=[I x9]) rfl underlying26 ti3 tz3 rfl (by decide) rfl (by decide) (by rfl) (by rfl) (by rfl) rfl,Qie rfl underlying26 te3 (Base.acc _ _) rfl rfl (by rfl) (Qks Qah ha18) (Qkr Qah ha18 (by decide)) (Qkq Qah) rfl rfl,tv⟩<|bln ?_
    exact⟨(y6++([x9])),h,Q3w (own':=[.dead,.dead,.dead,(.own 1 [[(.acc 4 3 1 (((y6++([x9])):List Int).map Qah))]]),.tok,(.far (farL l11 o13))]) [0,1,2,3,6,5] [.dead,.dead,.dead,(.own 1 [[(.acc 6 3 1 ((y6++([x9]):List Int).map Qah))]]),.tok,(.far (farL l11 o13))] (by kernel_rfl) (by kernel_rfl) ⟨.dead,.dead,.dead,(spb (lc (.rn (Qff rfl (Qeg Qal _))) ln)),.tok,.far _,tv⟩⟩
   ·intro y6 h
    rw[Qc1] at h
    exact bln<|thn<|⟨(y6),h,(mto (n:=13) [(2,.ref 3 1 0 0)] [0,1,2,3,4] [.dead,.dead,.dead,(.own 1 [[(.acc 4 3 1 (y6.map Qah))]]),.tok] hq (prr pn) (qc .dead (qc .dead (qc .dead (qb (lc (.rn (Qff rfl (Qeg Qal _))) ln) (qc .tok qn))))))⟩
def Qf1 (N:Nat) (p0 p1 p2:Int) (p3:List Qcc) (p4 p5:(Nat→Int)):Option (List Int):=
  (Qfq N p0 p1 p2 p3 p4 p5).bind fun x3=>
  some x3
abbrev Q8d:AV:=.fn (.func 46) [] [(.ref 0 1 (0) 0),(.ref 1 1 (0) 0),(.ref 2 1 (0) 0)]
abbrev Q8c (p2:Int) (p3:List Qcc) (p4 p5:(Nat→Int)):Slot:=.own 1 [[(.dptr ((I p2)::(.dat 4 (p3.map Qbf))::(arrF 144 p4++arrF 144 p5)) 0)]]
theorem Qhq (N:Nat) (p0 p1 p2:Int) (p3:List Qcc) (p4 p5:(Nat→Int)) (r:List Int) (h:Qf1 N p0 p1 p2 p3 p4 p5=some r):Spec prog 27 [Q8d] [(.own 1 [[(I p0)]]),(.own 1 [[(I p1)]]),(Q8c p2 p3 p4 p5)] (.dat 1 (r.map Qah)) [.dead,.dead,.dead]:=by
  refine sF func27 3 fun _ _ _ hq hd0=>?_
  unfold Qf1 at h
  refine wxz ?_
  obtain⟨x3,hf2,h⟩:=bno h
  refine wx tbk [(1,⟨_,_,_,_,false⟩)] ⟨acq [nilS,Q8d] [(.own 1 [[I p0]]),(.own 1 [[I p1]]),(Q8c p2 p3 p4 p5)] [.dead,.dead,.dead] (.dat 1 (x3.map Qah)) [0,1,2] Qz8 (Qiv N p0 p1 p2 p3 p4 p5 _ hf2) (Qb1 (rnc (.plain _ nll) (rnc (Qao rn0 (rnc (Qa4 rfl) (rnc (Qa4 rfl) (rnc (Qa4 rfl) rn0)))) rn0))) (slc (Qaj (rnc (.plain _ nll) rn0)) (slc (Qaj (rnc (.plain _ nll) rn0)) (slc (Qaj (rnc (.plain _ (NLt.dptr _ _ (nlc nll (nlc (nld Qad _) (Qdb Qb2 Qb2))))) rn0)) Qak))) (slc .dead (slc .dead (slc .dead Qak))) (pld Qal),tv⟩ ?_
  refine wmr (mto (n:=5) (l':=[(2,(.dat 1 (x3.map Qah)))]) (own':=[.dead,.dead,.dead]) [(2,(.dat 1 (x3.map Qah)))] [0,1,2] [.dead,.dead,.dead] hq (pc (rnd Qal) pn) (qc .dead (qc .dead (qc .dead qn))))<|Qag ?_
  obtain rfl:=osi h
  exact⟨_,Mor.rfl,fio [(.dat 1 (x3.map Qah))] ⟨rot,tv⟩⟩
def Qi6 (N:Nat) (p0:Qat) (p1 p2:Int):Option (Int×Qm6×Int):=
  (Qhb N p0 p1 p2).bind (
   Sum.elim (fun x3=>
     bif (x3 != 0) then
      some (0,(⟨0,[],[]⟩:Qm6),x3)
     else
      (Qf4 N p1 p2).bind fun x6=>
      bif (decide (x6.2<0)) then
       some (0,(⟨(-1),[],[]⟩:Qm6),0)
      else
       (getI p0.Tests x6.2).bind fun x8=>
       (Qf7 N x8.From p1).bind fun _=>
       (Qf2 N x8.From p1).bind fun x15=>
       (Qf7 N p2 x8.To).bind fun _=>
       (Qf2 N p2 x8.To).bind fun x19=>
       some (x6.1,(⟨x6.2,x15,x19⟩:Qm6),0))
   (fun x20=>
     bif (x20.1 != 0) then
      some (0,(⟨0,[],[]⟩:Qm6),x20.1)
     else
      (Qej N p0.Sites p0.Tests x20.2.1 x20.2.2 p1 p2).bind fun x23=>
      bif (decide (x23.2<0)) then
       some (0,(⟨(-1),[],[]⟩:Qm6),0)
      else
       (getI p0.Tests x23.2).bind fun x25=>
       (Qf6 N p0.Sites p0.Tests x20.2.1 x20.2.2 x25.From p1).bind fun _=>
       (Qf1 N x25.From p1 p0.Sites p0.Tests x20.2.1 x20.2.2).bind fun x32=>
       (Qf6 N p0.Sites p0.Tests x20.2.1 x20.2.2 p2 x25.To).bind fun _=>
       (Qf1 N p2 x25.To p0.Sites p0.Tests x20.2.1 x20.2.2).bind fun x36=>
       some (x23.1,(⟨x23.2,x32,x36⟩:Qm6),0)))
def z7_0 (p0:Qat):AV:=.dat 4 (p0.Tests.map Qbf)
def z7_2 (p0:Qat):AV:=.agg [(I p0.Sites),(z7_0 p0)]
def z7_4:AV:=.agg [(I (0)),nilS,nilS]
def Q1k:AV:=.dat 1 (([]:List Int).map Qah)
def Q7e:AV:=.agg [(I (0)),Q1k,Q1k]
def z7_5:AV:=.agg [(I ((-1))),nilS,nilS]
def Q7d:AV:=.agg [(I ((-1))),Q1k,Q1k]
def Q7h:AV:=.fn (.func 46) [] [(.ref 3 1 (0) 0),(.ref 4 1 (0) 0),(.ref 5 1 (0) 0)]
def Q7i (x8:Qcc):Slot:=.own 1 [[(I x8.From)]]
def Q1o:Slot:=.own 1 [[(.lit (.pointer none))]]
def Q7g:AV:=.fn (.func 46) [] [(.ref 6 1 (0) 0),(.ref 7 1 (0) 0),(.ref 8 1 (0) 0)]
def Q7f (p0:Qat) (x20:(Int×(Nat→Int)×(Nat→Int))):Slot:=.own 290 [((I p0.Sites)::(z7_0 p0)::(arrF 144 x20.2.1++arrF 144 x20.2.2))]
def z7_3:Slot:=.own 3 [[(I (0)),nilS,nilS]]
def Q1m:AV:=.fn (.func 46) [] [(.ref 4 1 (0) 0),(.ref 5 1 (0) 0),(.ref 6 1 (0) 0)]
def Q1n (x25:Qcc):Slot:=.own 1 [[(I x25.From)]]
def Qrt (p0:Qat) (x20:(Int×(Nat→Int)×(Nat→Int))):Slot:=.own 1 [[(.dptr ((I p0.Sites)::(z7_0 p0)::(arrF 144 x20.2.1++arrF 144 x20.2.2)) 0)]]
def Q1l:AV:=.fn (.func 46) [] [(.ref 7 1 (0) 0),(.ref 8 1 (0) 0),(.ref 9 1 (0) 0)]
theorem Qmd (N:Nat) (p0:Qat) (p1 p2:Int) (r:(Int×Qm6×Int)) (h:Qi6 N p0 p1 p2=some r):Spec prog 15 [(.agg (Qf9 p0)),(I p1),(I p2)] [] (.tup [(I r.1),(.agg (Qrk r.2.1)),(I r.2.2)]) []:=by
  refine sA func15 0 fun _ _ _ hq hd0=>?_
  unfold Qi6 at h
  refine wxz ?_
  obtain⟨x2,hf1,h⟩:=bno h
  rcases x2 with x3 |x20
  ·replace h:=Q5a h
   refine wx tbk [(3,rp _ _)] ⟨acq [(z7_2 p0),I p1,I p2] [] [] (.tup [(.lit (.pointer none)),I x3]) [] Q0d (Qmc N p0 p1 p2 _ hf1) (Qb1 (rnc (.plain _ (NLt.agg _ (nlc nll (nlc (nld Qad _) nl0)))) (rncc rn0))) Qak Qak (.plain _ (NLt.tup _ (nlcc nl0))),tv⟩<|wsq<|wxz ?_
   refine bfe h (fun hc4 h=>?_) fun hc4 h=>?_
   ·refine wft hc4<|wx tbk [(0,rp _ _)] ⟨Qdz (vs:=[]) rfl ts50 tz50 rfl (by rfl) rfl,tv⟩<|Qag<|Qae ?_
    obtain rfl:=osi h
    exact fie [I 0,Q7e,I x3] ⟨rot,Qjd (v:=z7_4) (Qda (n:=1) (m:=3) (j:=0) (i:=0) (xs:=[[I 0,nilS,nilS]]) (by kernel_rfl) (by kernel_rfl) ti50 (by decide) rfl (nle rfl) rfl) (Less.agg ⟨lrf,Less.nil,Less.nil,tv⟩),rot,tv⟩
   ·refine wfn hc4<|Qai<|thn ?_
    obtain⟨x6,hf5,h⟩:=bno h
    refine wx tbk [(3,rp _ _)] ⟨acq [(.lit (.pointer none)),I p1,I p2] [] [] (.tup [I x6.1,I x6.2]) [] Qrh (Qhv N p1 p2 _ hf5) (Qb1 (rncc (rnc (.plain _ nll) rn0))) Qak Qak (.plain _ (NLt.tup _ (nlcc nl0))),tv⟩<|wsq<|wxz ?_
    refine bfe h (fun hc7 h=>?_) fun hc7 h=>?_
    ·refine wft hc7<|wx tbk [(0,rp _ _)] ⟨Qdz (vs:=[(I ((-1)))]) rfl ts50 tz50 rfl (by rfl) rfl,tv⟩<|Qag<|Qae ?_
     obtain rfl:=osi h
     exact fie [I 0,Q7d,I 0] ⟨rot,Qjd (v:=z7_5) (Qda (n:=1) (m:=3) (j:=0) (i:=0) (xs:=[[(I ((-1))),nilS,nilS]]) (by kernel_rfl) (by kernel_rfl) ti50 (by decide) rfl (nle rfl) rfl) (Less.agg ⟨lrf,Less.nil,Less.nil,tv⟩),rot,tv⟩
    ·refine wfn hc7<|Qai<|thn ?_
     obtain⟨x8,hg9,h⟩:=bno h
     obtain⟨hi10,hj11⟩:=gsm hg9
     refine wx tbk [(3,rp _ _)] ⟨aiq underlying57 ti56 Qbf hi10 hj11,tv⟩ ?_
     obtain⟨x13,hf12,h⟩:=bno h
     obtain⟨x15,hf14,h⟩:=bno h
     obtain⟨x17,hf16,h⟩:=bno h
     obtain⟨x19,hf18,h⟩:=bno h
     refine wxd tbk [(6,⟨_,_,_,_,false⟩),(7,⟨_,_,_,_,false⟩),(12,⟨_,_,_,_,false⟩),(13,⟨_,_,_,_,false⟩),(14,rp _ _)] ⟨acq [(.lit (.pointer none)),I x8.From,I p1] [] [(Q7i x8),(.own 1 [[I p1]]),Q1o] Q7h [3,4,5] Qrf (Qhx N x8.From p1 _ hf12) (Qb1 (rncc (rnc (.plain _ nll) rn0))) Qak (slc (Qaj (rnc (.plain _ nll) rn0)) (slc (Qaj (rnc (.plain _ nll) rn0)) (slc (Qaj (rnc (.plain _ nll) rn0)) Qak))) (Qao rn0 (rnc (Qfg rfl) (rnc (Qfg rfl) (rnc (Qfg rfl) rn0)))),acq [Q7h] [(Q7i x8),(.own 1 [[I p1]]),Q1o] [.dead,.dead,.dead] (.dat 1 (x15.map Qah)) [3,4,5] Qrg (Qhr N x8.From p1 _ hf14) (Qb1 (rnc (Qao rn0 (rnc (Qa4 rfl) (rnc (Qa4 rfl) (rnc (Qa4 rfl) rn0)))) rn0)) (slc (Qaj (rnc (.plain _ nll) rn0)) (slc (Qaj (rnc (.plain _ nll) rn0)) (slc (Qaj (rnc (.plain _ nll) rn0)) Qak))) (slc .dead (slc .dead (slc .dead Qak))) (pld Qal),acq [(.lit (.pointer none)),I p2,I x8.To] [] [(.own 1 [[I p2]]),(.own 1 [[I x8.To]]),Q1o] Q7g [6,7,8] Qrf (Qhx N p2 x8.To _ hf16) (Qb1 (rncc (rnc (.plain _ nll) rn0))) Qak (slc (Qaj (rnc (.plain _ nll) rn0)) (slc (Qaj (rnc (.plain _ nll) rn0)) (slc (Qaj (rnc (.plain _ nll) rn0)) Qak))) (Qao rn0 (rnc (Qfg rfl) (rnc (Qfg rfl) (rnc (Qfg rfl) rn0)))),acq [Q7g] [(.own 1 [[I p2]]),(.own 1 [[I x8.To]]),Q1o] [.dead,.dead,.dead] (.dat 1 (x19.map Qah)) [6,7,8] Qrg (Qhr N p2 x8.To _ hf18) (Qb1 (rnc (Qao rn0 (rnc (Qa4 rfl) (rnc (Qa4 rfl) (rnc (Qa4 rfl) rn0)))) rn0)) (slc (Qaj (rnc (.plain _ nll) rn0)) (slc (Qaj (rnc (.plain _ nll) rn0)) (slc (Qaj (rnc (.plain _ nll) rn0)) Qak))) (slc .dead (slc .dead (slc .dead Qak))) (pld Qal),Qdz (vs:=[I x6.2,(.dat 1 (x15.map Qah)),(.dat 1 (x19.map Qah))]) rfl ts50 tz50 rfl (by rfl) rfl,tv⟩<|Qag ?_
     obtain rfl:=osi h
     exact fie [I x6.1,(.agg [I x6.2,(.dat 1 (x15.map Qah)),(.dat 1 (x19.map Qah))]),I 0] ⟨rot,Qda (n:=1) (m:=3) (j:=0) (i:=0) (xs:=[[I x6.2,(.dat 1 (x15.map Qah)),(.dat 1 (x19.map Qah))]]) (by kernel_rfl) (by kernel_rfl) ti50 (by decide) rfl (nle rfl) rfl,rot,tv⟩
  ·replace h:=Q49 h
   refine wx tbk [(3,⟨_,_,_,_,false⟩)] ⟨acq [(z7_2 p0),I p1,I p2] [] [(Q7f p0 x20)] (.tup [.ref 2 290 0 0,I x20.1]) [2] Q0d (Qmb N p0 p1 p2 _ hf1) (Qb1 (rnc (.plain _ (NLt.agg _ (nlc nll (nlc (nld Qad _) nl0)))) (rncc rn0))) Qak (slc (Qaj (rnc (.plain _ nll) (rnc (pld Qad) (Qdd (Qa6 fun _=>(.plain _ nll)) (Qa6 fun _=>(.plain _ nll)))))) Qak) (Qyv (rnc (Qfg rfl) (rnc (.plain _ nll) rn0))),tv⟩<|wsq ?_
   refine wmr (Qox [(.own 2 [[I p0.Sites,(z7_0 p0)]]),z7_3,(Q7f p0 x20)] (Qt3 (n:=53) (m:=290) (xs:=[((I p0.Sites)::(z7_0 p0)::(arrF 144 x20.2.1++arrF 144 x20.2.2))]) (l':=[(0,(z7_2 p0)),(1,I p1),(2,I p2),(3,.ref 0 2 0 0),(6,I 0),(7,.ref 1 3 0 0),(8,I x20.1),(9,(.dptr ((I p0.Sites)::(z7_0 p0)::(arrF 144 x20.2.1++arrF 144 x20.2.2)) 0)),(12,.any),(13,(z7_2 p0)),(14,I p1),(15,I p2),(16,.any),(17,(.dptr ((I p0.Sites)::(z7_0 p0)::(arrF 144 x20.2.1++arrF 144 x20.2.2)) 0)),(18,I x20.1)]) (own':=[(.own 2 [[I p0.Sites,(z7_0 p0)]]),z7_3,.dead]) 2 [(0,(z7_2 p0)),(1,I p1),(2,I p2),(3,.ref 0 2 0 0),(6,I 0),(7,.ref 1 3 0 0),(8,I x20.1),(9,.ref 2 290 0 0),(12,(.tup [.ref 2 290 0 0,I x20.1])),(13,(z7_2 p0)),(14,I p1),(15,I p2),(16,(.tup [.ref 2 290 0 0,I x20.1])),(17,.ref 2 290 0 0),(18,I x20.1)] (by kernel_rfl) (by kernel_rfl) (by kernel_rfl) ⟨rfl,(.same _),rfl,(.same _),rfl,(.same _),rfl,(.same _),rfl,(.same _),rfl,(.same _),rfl,(.same _),rfl,(.ptr _ _ rfl),rfl,(.any _),rfl,(.same _),rfl,(.same _),rfl,(.same _),rfl,(.any _),rfl,(.ptr _ _ rfl),rfl,(.same _),tv⟩ (qc Qhj (qc Qhj (qc .dead qn)))))<|wxz ?_
   refine bfe h (fun hc21 h=>?_) fun hc21 h=>?_
   ·refine wft hc21<|wx tbk [(0,rp _ _)] ⟨Qdz (vs:=[]) rfl ts50 tz50 rfl (by rfl) rfl,tv⟩<|Qag<|Qae ?_
    obtain rfl:=osi h
    exact fie [I 0,Q7e,I x20.1] ⟨rot,Qjd (v:=z7_4) (Qda (n:=1) (m:=3) (j:=0) (i:=0) (xs:=[[I 0,nilS,nilS]]) (by kernel_rfl) (by kernel_rfl) ti50 (by decide) rfl (nle rfl) rfl) (Less.agg ⟨lrf,Less.nil,Less.nil,tv⟩),rot,tv⟩
   ·refine wfn hc21<|Qai<|thn ?_
    obtain⟨x23,hf22,h⟩:=bno h
    refine wx tbk [(3,rp [fu 26,(.tmp 24,(.dptr ((I p0.Sites)::(z7_0 p0)::(arrF 144 x20.2.1++arrF 144 x20.2.2)) 0)),(.tmp 25,I p1),(.tmp 26,I p2)] (.tup [I x23.1,I x23.2]))] ?_ ?_
    ·exact⟨acq [(.dptr ((I p0.Sites)::(z7_0 p0)::(arrF 144 x20.2.1++arrF 144 x20.2.2)) 0),I p1,I p2] [] [] (.tup [I x23.1,I x23.2]) [] Qrh (Qhu N p0.Sites p0.Tests x20.2.1 x20.2.2 p1 p2 _ hf22) (Qb1 (rnc (.plain _ (NLt.dptr _ _ (nlc nll (nlc (nld Qad _) (Qdb Qb2 Qb2))))) (rncc rn0))) Qak Qak (.plain _ (NLt.tup _ (nlcc nl0))),tv⟩
    refine wsq<|wxz ?_
    refine bfe h (fun hc24 h=>?_) fun hc24 h=>?_
    ·refine wft hc24<|wx tbk [(0,rp _ _)] ⟨Qdz (vs:=[(I ((-1)))]) rfl ts50 tz50 rfl (by rfl) rfl,tv⟩<|Qag<|Qae ?_
     obtain rfl:=osi h
     exact fie [I 0,Q7d,I 0] ⟨rot,Qjd (v:=z7_5) (Qda (n:=1) (m:=3) (j:=0) (i:=0) (xs:=[[(I ((-1))),nilS,nilS]]) (by kernel_rfl) (by kernel_rfl) ti50 (by decide) rfl (nle rfl) rfl) (Less.agg ⟨lrf,Less.nil,Less.nil,tv⟩),rot,tv⟩
    ·refine wfn hc24<|Qai<|thn ?_
     obtain⟨x25,hg26,h⟩:=bno h
     obtain⟨hi27,hj28⟩:=gsm hg26
     refine wx tbk [(3,rp _ _)] ⟨aiq underlying57 ti56 Qbf hi27 hj28,tv⟩ ?_
     obtain⟨x30,hf29,h⟩:=bno h
     obtain⟨x32,hf31,h⟩:=bno h
     obtain⟨x34,hf33,h⟩:=bno h
     obtain⟨x36,hf35,h⟩:=bno h
     refine wxd tbk [(6,⟨[fu 28,(.tmp 40,(.dptr ((I p0.Sites)::(z7_0 p0)::(arrF 144 x20.2.1++arrF 144 x20.2.2)) 0)),(.tmp 42,I x25.From),(.tmp 43,I p1)],[(4,.unused),(5,.unused),(6,.unused)],Q1m,[(4,(Q1n x25)),(5,.own 1 [[I p1]]),(6,(Qrt p0 x20))],false⟩),(7,⟨[fu 27,(.tmp 44,Q1m)],[(4,(Q1n x25)),(5,.own 1 [[I p1]]),(6,(Qrt p0 x20))],(.dat 1 (x32.map Qah)),[(4,.dead),(5,.dead),(6,.dead)],false⟩),(12,⟨[fu 28,(.tmp 46,(.dptr ((I p0.Sites)::(z7_0 p0)::(arrF 144 x20.2.1++arrF 144 x20.2.2)) 0)),(.tmp 47,I p2),(.tmp 49,I x25.To)],[(7,.unused),(8,.unused),(9,.unused)],Q1l,[(7,.own 1 [[I p2]]),(8,.own 1 [[I x25.To]]),(9,(Qrt p0 x20))],false⟩),(13,⟨[fu 27,(.tmp 50,Q1l)],[(7,.own 1 [[I p2]]),(8,.own 1 [[I x25.To]]),(9,(Qrt p0 x20))],(.dat 1 (x36.map Qah)),[(7,.dead),(8,.dead),(9,.dead)],false⟩),(14,rp [(.tmp 39,I x23.2),(.tmp 45,(.dat 1 (x32.map Qah))),(.tmp 51,(.dat 1 (x36.map Qah)))] (.agg [I x23.2,(.dat 1 (x32.map Qah)),(.dat 1 (x36.map Qah))]))] ?_ ?_
     ·exact⟨acq [(.dptr ((I p0.Sites)::(z7_0 p0)::(arrF 144 x20.2.1++arrF 144 x20.2.2)) 0),I x25.From,I p1] [] [(Q1n x25),(.own 1 [[I p1]]),(Qrt p0 x20)] Q1m [4,5,6] Qrf (Qhw N p0.Sites p0.Tests x20.2.1 x20.2.2 x25.From p1 _ hf29) (Qb1 (rnc (.plain _ (NLt.dptr _ _ (nlc nll (nlc (nld Qad _) (Qdb Qb2 Qb2))))) (rncc rn0))) Qak (slc (Qaj (rnc (.plain _ nll) rn0)) (slc (Qaj (rnc (.plain _ nll) rn0)) (slc (Qaj (rnc (.plain _ (NLt.dptr _ _ (nlc nll (nlc (nld Qad _) (Qdb Qb2 Qb2))))) rn0)) Qak))) (Qao rn0 (rnc (Qfg rfl) (rnc (Qfg rfl) (rnc (Qfg rfl) rn0)))),acq [Q1m] [(Q1n x25),(.own 1 [[I p1]]),(Qrt p0 x20)] [.dead,.dead,.dead] (.dat 1 (x32.map Qah)) [4,5,6] Qrg (Qhq N x25.From p1 p0.Sites p0.Tests x20.2.1 x20.2.2 _ hf31) (Qb1 (rnc (Qao rn0 (rnc (Qa4 rfl) (rnc (Qa4 rfl) (rnc (Qa4 rfl) rn0)))) rn0)) (slc (Qaj (rnc (.plain _ nll) rn0)) (slc (Qaj (rnc (.plain _ nll) rn0)) (slc (Qaj (rnc (.plain _ (NLt.dptr _ _ (nlc nll (nlc (nld Qad _) (Qdb Qb2 Qb2))))) rn0)) Qak))) (slc .dead (slc .dead (slc .dead Qak))) (pld Qal),acq [(.dptr ((I p0.Sites)::(z7_0 p0)::(arrF 144 x20.2.1++arrF 144 x20.2.2)) 0),I p2,I x25.To] [] [(.own 1 [[I p2]]),(.own 1 [[I x25.To]]),(Qrt p0 x20)] Q1l [7,8,9] Qrf (Qhw N p0.Sites p0.Tests x20.2.1 x20.2.2 p2 x25.To _ hf33) (Qb1 (rnc (.plain _ (NLt.dptr _ _ (nlc nll (nlc (nld Qad _) (Qdb Qb2 Qb2))))) (rncc rn0))) Qak (slc (Qaj (rnc (.plain _ nll) rn0)) (slc (Qaj (rnc (.plain _ nll) rn0)) (slc (Qaj (rnc (.plain _ (NLt.dptr _ _ (nlc nll (nlc (nld Qad _) (Qdb Qb2 Qb2))))) rn0)) Qak))) (Qao rn0 (rnc (Qfg rfl) (rnc (Qfg rfl) (rnc (Qfg rfl) rn0)))),acq [Q1l] [(.own 1 [[I p2]]),(.own 1 [[I x25.To]]),(Qrt p0 x20)] [.dead,.dead,.dead] (.dat 1 (x36.map Qah)) [7,8,9] Qrg (Qhq N p2 x25.To p0.Sites p0.Tests x20.2.1 x20.2.2 _ hf35) (Qb1 (rnc (Qao rn0 (rnc (Qa4 rfl) (rnc (Qa4 rfl) (rnc (Qa4 rfl) rn0)))) rn0)) (slc (Qaj (rnc (.plain _ nll) rn0)) (slc (Qaj (rnc (.plain _ nll) rn0)) (slc (Qaj (rnc (.plain _ (NLt.dptr _ _ (nlc nll (nlc (nld Qad _) (Qdb Qb2 Qb2))))) rn0)) Qak))) (slc .dead (slc .dead (slc .dead Qak))) (pld Qal),Qdz (vs:=[I x23.2,(.dat 1 (x32.map Qah)),(.dat 1 (x36.map Qah))]) rfl ts50 tz50 rfl (by rfl) rfl,tv⟩
     refine Qag ?_
     obtain rfl:=osi h
     exact fie [I x23.1,(.agg [I x23.2,(.dat 1 (x32.map Qah)),(.dat 1 (x36.map Qah))]),I 0] ⟨rot,Qda (n:=1) (m:=3) (j:=0) (i:=0) (xs:=[[I x23.2,(.dat 1 (x32.map Qah)),(.dat 1 (x36.map Qah))]]) (by kernel_rfl) (by kernel_rfl) ti50 (by decide) rfl (nle rfl) rfl,rot,tv⟩
def Qg3 (N:Nat):Option Bool:=
  (Qi6 N (⟨2,[(⟨0,1,(⟨4,9⟩:Qgr)⟩:Qcc)]⟩:Qat) 0 1).bind fun x2=>
  bif (x2.2.2==0) then
   bif (x2.1==4) then
    some (x2.2.1.Test==0)
   else
    some false
  else
   some false
def z6_0:AV:=.agg [(I (4)),(I (9))]
def z6_1:AV:=.agg [(I (0)),(I (1)),(I (4)),(I (9))]
def z6_2:AV:=.dat 4 (([(⟨0,1,(⟨4,9⟩:Qgr)⟩:Qcc)]:List Qcc).map Qbf)
theorem Qdx (N:Nat) (r:Bool) (h:Qg3 N=some r):Spec prog 7 [] [] (B r) []:=by
  refine sA func7 0 fun _ _ _ hq hd0=>?_
  unfold Qg3 at h
  refine wxz ?_
  obtain⟨x2,hf1,h⟩:=bno h
  refine wx tbk [(0,rp _ _),(1,rp _ _),(2,rp [(.tmp 6,z6_1)] z6_2),(3,rp _ _),(4,rp _ _)] ⟨Qdz (vs:=[I 4,I 9]) rfl ts54 tz54 rfl (by rfl) rfl,Qdz (vs:=[I 0,I 1,z6_0]) rfl ts56 tz56 rfl (by rfl) rfl,Qfj (vs:=[z6_1]) rfl underlying57 ti56 tz56 rfl (by decide) rfl (by decide) (by rfl) (by rfl) (by rfl) rfl,Qdz (vs:=[I 2,z6_2]) rfl ts59 tz59 rfl (by rfl) rfl,apw Q6p (Qmd N (⟨2,[(⟨0,1,(⟨4,9⟩:Qgr)⟩:Qcc)]⟩:Qat) 0 1 _ hf1),tv⟩ ?_
  refine bfe h (fun hb3 h=>?_) fun hb3 h=>?_
  ·refine bfe h (fun hb4 h=>?_) fun hb4 h=>?_
   ·refine wx tbk [(2,rp [(.tmp 14,(B ((x2.2.2==0))))] (B true)),(6,rp [(.tmp 18,(B ((x2.1==4))))] (B true))] ⟨asb hb3 (amv rfl),asb hb4 (amv rfl),tv⟩<|Qag ?_
    obtain rfl:=osi h
    exact fend ⟨[(B ((x2.2.1.Test==0)))],⟨rot,tv⟩,rfl⟩ nll
   ·exact wx tbk [(2,rp [(.tmp 14,(B ((x2.2.2==0))))] (B true)),(6,rp [(.tmp 18,(B ((x2.1==4))))] (B false))] ⟨asb hb3 (amv rfl),asb hb4 (amv rfl),tv⟩<|Qag<|frb h
  ·exact wx tbk [(2,rp [(.tmp 14,(B ((x2.2.2==0))))] (B false))] ⟨asb hb3 (amv rfl),tv⟩<|Qag<|frb h
end
section
def Qew (_N:Nat) (p0:Int):Option Int:=
  some p0
theorem Qic (N:Nat) (p0 r:Int) (h:Qew N p0=some r):Spec prog 50 [(I p0)] [] (I r) []:=by
  refine sA func50 0 fun _ _ _ hq hd0=>?_
  unfold Qew at h
  refine wxz<|wxz<|Qag ?_
  obtain rfl:=osi h
  exact fend ⟨[I p0],⟨rot,tv⟩,rfl⟩ nll
def Qcn (N:Nat) (p0:List Int) (k1:Unit→Option Bool):Nat→Int→Option Bool
  |0,_=>none
  |n4+1,y2=>
    bif (decide (y2<(p0.length:Int))) then
     bif (decide (y2>0)) then
      (getI p0 (w64 (y2-1))).bind fun x7=>
      (Qew N x7).bind fun x12=>
      (getI p0 y2).bind fun x13=>
      (Qew N x13).bind fun x18=>
      bif (decide (x12≥x18)) then
       some false
      else
       Qcn N p0 k1 n4 (w64 (y2+1))
     else
      Qcn N p0 k1 n4 (w64 (y2+1))
    else
     k1 ()
def Qe9 (N:Nat) (p0:List Int):Option Bool:=
  Qcy (fun _=>
    some true) fun k1:Unit→Option Bool=>
  Qcn N p0 k1 N 0
theorem Qkk (N:Nat) (p0:List Int) (r:Bool) (h:Qe9 N p0=some r):Spec prog 49 [(.dat 1 (p0.map Qah)),(.fn (.func 50) [] [])] [] (B r) []:=by
  refine sA func49 0 fun _ _ _ hq hd0=>?_
  unfold Qe9 at h
  refine wxz ?_
  obtain⟨k1,hk_k1,h⟩:=jko h
  refine wjn (τ:=Unit) (fun t=>k1 t=some r) (fun _=>⟨mk 30 [],[]⟩) (fun t h=>?_) ?_
  ·subst hk_k1
   exact wxz<|Qag<|frb h
  ·skip
   refine wx tbk [(1,rp _ _)] ⟨alq 1 Qah p0 underlying26,tv⟩<|Qaf ?_
   refine wmr (mto (n:=30) (l':=[(0,(.dat 1 (p0.map Qah))),(1,(.fn (.func 50) [] [])),(7,(I ((p0.length:Int)))),(8,I 0)]) (own':=[]) [(0,(.dat 1 (p0.map Qah))),(1,(.fn (.func 50) [] [])),(7,(I ((p0.length:Int)))),(8,I 0)] [] [] hq (pc (rnd Qal) (pc (.rn (Qao rn0 rn0)) (pw (pw pn)))) qn) ?_
   refine Qbx (τ:=Int) (fun n t=>Qcn N p0 k1 n t=some r) (fun y2=>⟨mk 30 [(0,(.dat 1 (p0.map Qah))),(1,(.fn (.func 50) [] [])),(7,(I ((p0.length:Int)))),(8,I y2)],[]⟩) (fun t h=>by rw[Qcn] at h;cases h) (fun n4 ih y2 h=>?_) N (0) h
   rw[Qcn] at h
   skip
   refine wxz<|wsq ?_
   refine bfe h (fun hc5 h=>?_) fun hc5 h=>?_
   ·refine wft hc5<|Qai<|thn<|wsq<|Qaf<|wxz ?_
    refine bfe h (fun hb6 h=>?_) fun hb6 h=>?_
    ·obtain⟨x7,hg8,h⟩:=bno h
     obtain⟨hi9,hj10⟩:=gsm hg8
     obtain⟨x12,hf11,h⟩:=bno h
     obtain⟨x13,hg14,h⟩:=bno h
     obtain⟨hi15,hj16⟩:=gsm hg14
     obtain⟨x18,hf17,h⟩:=bno h
     refine wxd tbk [(2,rp [(.tmp 12,(B ((decide (y2>0)))))] (B true)),(7,rp [(.tmp 13,B true),(.tmp 15,(.dat 1 (p0.map Qah))),(.tmp 17,(I (w64 (y2-1))))] (.dptr (Qah x7) 0)),(9,rp [(.tmp 13,B true),(.tmp 14,(.fn (.func 50) [] [])),(.tmp 19,I x7)] (I x12)),(13,rp [(.tmp 13,B true),(.tmp 22,(.dat 1 (p0.map Qah))),(.tmp 23,I y2)] (.dptr (Qah x13) 0)),(15,rp [(.tmp 13,B true),(.tmp 21,(.fn (.func 50) [] [])),(.tmp 25,I x13)] (I x18))] ⟨asb hb6 (amv rfl),ag_ (aiq underlying26 ti3 Qah hi9 hj10),ag_ (apv Qz6 (Qic N x7 _ hf11) (nlc nll nl0) nll),ag_ (aiq underlying26 ti3 Qah hi15 hj16),ag_ (apv Qz6 (Qic N x13 _ hf17) (nlc nll nl0) nll),tv⟩ ?_
     refine bfe h (fun hc19 h=>?_) fun hc19 h=>?_
     ·exact wft hc19<|wxz<|Qag<|Qaq<|Qae<|Qae<|Qaq<|Qae<|frb h
     ·exact wfn hc19<|Qai<|bln<|thn<|wxz1<|thn<|arm (mto (n:=30) [(0,(.dat 1 (p0.map Qah))),(1,(.fn (.func 50) [] [])),(7,(I ((p0.length:Int)))),(8,(I (w64 (y2+1))))] [] [] hq (pc (rnd Qal) (pc (.rn (Qao rn0 rn0)) (pw (pw pn)))) qn) (ih (w64 (y2+1)) h)
    ·exact wxd tbk [(2,rp [(.tmp 12,(B ((decide (y2>0)))))] (B false))] ⟨asb hb6 (amv rfl),tv⟩<|wfa<|Qai<|bln<|thn<|wxz1<|thn<|arm (mto (n:=30) [(0,(.dat 1 (p0.map Qah))),(1,(.fn (.func 50) [] [])),(7,(I ((p0.length:Int)))),(8,(I (w64 (y2+1))))] [] [] hq (pc (rnd Qal) (pc (.rn (Qao rn0 rn0)) (pw (pw pn)))) qn) (ih (w64 (y2+1)) h)
   ·exact wfn hc5<|Qa3<|Qan<|Qan<|Qa2 rfl<|thn<|⟨(),h,(mto (n:=30) [] [] [] hq pn qn)⟩
def Qem (_N:Nat) (p0:Qap):Option Int:=
  some p0.Price
theorem Qhy (N:Nat) (p0:Qap) (r:Int) (h:Qem N p0=some r):Spec prog 60 [(.agg (Qaz p0))] [] (I r) []:=by
  refine sA func60 0 fun _ _ _ hq hd0=>?_
  unfold Qem at h
  refine wxz<|wxz<|Qag ?_
  obtain rfl:=osi h
  exact fend ⟨[I p0.Price],⟨rot,tv⟩,rfl⟩ nll
def Qbn (N:Nat) (p0:List Qap) (k1:Unit→Option Bool):Nat→Int→Option Bool
  |0,_=>none
  |n4+1,y2=>
    bif (decide (y2<(p0.length:Int))) then
     bif (decide (y2>0)) then
      (getI p0 (w64 (y2-1))).bind fun x7=>
      (Qem N x7).bind fun x12=>
      (getI p0 y2).bind fun x13=>
      (Qem N x13).bind fun x18=>
      bif (decide (x12≥x18)) then
       some false
      else
       Qbn N p0 k1 n4 (w64 (y2+1))
     else
      Qbn N p0 k1 n4 (w64 (y2+1))
    else
     k1 ()
def Qdr (N:Nat) (p0:List Qap):Option Bool:=
  Qcy (fun _=>
    some true) fun k1:Unit→Option Bool=>
  Qbn N p0 k1 N 0
abbrev Qrx (p0:List Qap):AV:=.dat 2 (p0.map Qaz)
theorem Qih (N:Nat) (p0:List Qap) (r:Bool) (h:Qdr N p0=some r):Spec prog 59 [(Qrx p0),(.fn (.func 60) [] [])] [] (B r) []:=by
  refine sA func59 0 fun _ _ _ hq hd0=>?_
  unfold Qdr at h
  refine wxz ?_
  obtain⟨k1,hk_k1,h⟩:=jko h
  refine wjn (τ:=Unit) (fun t=>k1 t=some r) (fun _=>⟨mk 30 [],[]⟩) (fun t h=>?_) ?_
  ·subst hk_k1
   exact wxz<|Qag<|frb h
  ·skip
   refine wx tbk [(1,rp _ _)] ⟨alq 2 Qaz p0 underlying88,tv⟩<|Qaf ?_
   refine wmr (mto (n:=30) (l':=[(0,(Qrx p0)),(1,(.fn (.func 60) [] [])),(7,(I ((p0.length:Int)))),(8,I 0)]) (own':=[]) [(0,(Qrx p0)),(1,(.fn (.func 60) [] [])),(7,(I ((p0.length:Int)))),(8,I 0)] [] [] hq (pc (rnd Qaw) (pc (.rn (Qao rn0 rn0)) (pw (pw pn)))) qn) ?_
   refine Qbx (τ:=Int) (fun n t=>Qbn N p0 k1 n t=some r) (fun y2=>⟨mk 30 [(0,(Qrx p0)),(1,(.fn (.func 60) [] [])),(7,(I ((p0.length:Int)))),(8,I y2)],[]⟩) (fun t h=>by rw[Qbn] at h;cases h) (fun n4 ih y2 h=>?_) N (0) h
   rw[Qbn] at h
   skip
   refine wxz<|wsq ?_
   refine bfe h (fun hc5 h=>?_) fun hc5 h=>?_
   ·refine wft hc5<|Qai<|thn<|wsq<|Qaf<|wxz ?_
    refine bfe h (fun hb6 h=>?_) fun hb6 h=>?_
    ·obtain⟨x7,hg8,h⟩:=bno h
     obtain⟨hi9,hj10⟩:=gsm hg8
     obtain⟨x12,hf11,h⟩:=bno h
     obtain⟨x13,hg14,h⟩:=bno h
     obtain⟨hi15,hj16⟩:=gsm hg14
     obtain⟨x18,hf17,h⟩:=bno h
     refine wxd tbk [(2,rp [(.tmp 12,(B ((decide (y2>0)))))] (B true)),(7,rp [(.tmp 13,B true),(.tmp 15,(Qrx p0)),(.tmp 17,(I (w64 (y2-1))))] (.dptr (Qaz x7) 0)),(9,rp [(.tmp 13,B true),(.tmp 14,(.fn (.func 60) [] [])),(.tmp 19,(.agg [I x7.Amount,I x7.Price]))] (I x12)),(13,rp [(.tmp 13,B true),(.tmp 22,(Qrx p0)),(.tmp 23,I y2)] (.dptr (Qaz x13) 0)),(15,rp [(.tmp 13,B true),(.tmp 21,(.fn (.func 60) [] [])),(.tmp 25,(.agg [I x13.Amount,I x13.Price]))] (I x18))] ⟨asb hb6 (amv rfl),ag_ (aiq underlying88 ti91 Qaz hi9 hj10),ag_ (apv Qz2 (Qhy N x7 _ hf11) (nlc (NLt.agg _ (nlcc nl0)) nl0) nll),ag_ (aiq underlying88 ti91 Qaz hi15 hj16),ag_ (apv Qz2 (Qhy N x13 _ hf17) (nlc (NLt.agg _ (nlcc nl0)) nl0) nll),tv⟩ ?_
     refine bfe h (fun hc19 h=>?_) fun hc19 h=>?_
     ·exact wft hc19<|wxz<|Qag<|Qaq<|Qae<|Qae<|Qaq<|Qae<|frb h
     ·exact wfn hc19<|Qai<|bln<|thn<|wxz1<|thn<|arm (mto (n:=30) [(0,(Qrx p0)),(1,(.fn (.func 60) [] [])),(7,(I ((p0.length:Int)))),(8,(I (w64 (y2+1))))] [] [] hq (pc (rnd Qaw) (pc (.rn (Qao rn0 rn0)) (pw (pw pn)))) qn) (ih (w64 (y2+1)) h)
    ·exact wxd tbk [(2,rp [(.tmp 12,(B ((decide (y2>0)))))] (B false))] ⟨asb hb6 (amv rfl),tv⟩<|wfa<|Qai<|bln<|thn<|wxz1<|thn<|arm (mto (n:=30) [(0,(Qrx p0)),(1,(.fn (.func 60) [] [])),(7,(I ((p0.length:Int)))),(8,(I (w64 (y2+1))))] [] [] hq (pc (rnd Qaw) (pc (.rn (Qao rn0 rn0)) (pw (pw pn)))) qn) (ih (w64 (y2+1)) h)
   ·exact wfn hc5<|Qa3<|Qan<|Qan<|Qa2 rfl<|thn<|⟨(),h,(mto (n:=30) [] [] [] hq pn qn)⟩
def Qe4 (N:Nat) (p0:Qap):Option Bool:=
  (Qc8 N p0.Amount 1 1000000).bind fun x2=>
  bif (!x2) then
   some true
  else
   (Qc8 N p0.Price 0 1000).bind fun x5=>
   some (!x5)
def Q4w (p0:Qap) (x2:Bool):List (Nat×Rec):=[(2,rp [fu 34,((.tmp 4),(I p0.Amount)),ci 1,ci 1000000] (B x2))]
theorem Qkc (N:Nat) (p0:Qap) (r:Bool) (h:Qe4 N p0=some r):Spec prog 62 [(.agg (Qaz p0))] [] (B r) []:=by
  refine sA func62 0 fun _ _ _ hq hd0=>?_
  unfold Qe4 at h
  refine wxz ?_
  obtain⟨x2,hf1,h⟩:=bno h
  refine hpre (A:=(Q4w p0 x2)) ⟨apv Qjn (Qde N p0.Amount 1 1000000 _ hf1) (nlcc (nlc nll nl0)) nll,tv⟩ fun q1_=>?_
  refine bfe h (fun hb3 h=>?_) fun hb3 h=>?_
  ·exact wx tbk (hcat (Q4w p0 x2) [(4,rp [(.tmp 6,(B ((!x2))))] (B true))]) (hap q1_ ⟨asb hb3 (amv rfl),tv⟩)<|Qag<|frb h
  ·obtain⟨x5,hf4,h⟩:=bno h
   refine wx tbk (hcat (Q4w p0 x2) [(4,rp [(.tmp 6,(B ((!x2))))] (B false)),(7,rp [(.tmp 7,B false),fu 34,(.tmp 9,I p0.Price),ci 0,ci 1000] (B x5))]) (hap q1_ ⟨asb hb3 (amv rfl),ag_ (apv Qjn (Qde N p0.Price 0 1000 _ hf4) (nlcc (nlc nll nl0)) nll),tv⟩)<|Qag ?_
   obtain rfl:=osi h
   exact fend ⟨[(B ((!x5)))],⟨rot,tv⟩,rfl⟩ nll
def Qau (N:Nat) (p0:List Qap) (k1:Unit→Option Int):Nat→Int→Option Int
  |0,_=>none
  |n4+1,y2=>
    bif (decide (y2<(p0.length:Int))) then
     (getI p0 y2).bind fun x6=>
     (Qe4 N x6).bind fun x11=>
     bif x11 then
      some y2
     else
      Qau N p0 k1 n4 (w64 (y2+1))
    else
     k1 ()
def Qcj (N:Nat) (p0:List Qap):Option Int:=
  Qcy (fun _=>
    some (-1)) fun k1:Unit→Option Int=>
  Qau N p0 k1 N 0
abbrev Qyd (p0:List Qap):AV:=.dat 2 (p0.map Qaz)
theorem Qf0 (N:Nat) (p0:List Qap) (r:Int) (h:Qcj N p0=some r):Spec prog 66 [(Qyd p0),(.fn (.func 62) [] [])] [] (I r) []:=by
  refine sA func66 0 fun _ _ _ hq hd0=>?_
  unfold Qcj at h
  refine wxz ?_
  obtain⟨k1,hk_k1,h⟩:=jko h
  refine wjn (τ:=Unit) (fun t=>k1 t=some r) (fun _=>⟨mk 19 [],[]⟩) (fun t h=>?_) ?_
  ·subst hk_k1
   refine wxz<|Qag ?_
   obtain rfl:=osi h
   exact fend ⟨[(I ((-1)))],⟨rot,tv⟩,rfl⟩ nll
  ·skip
   refine wx tbk [(1,rp _ _)] ⟨alq 2 Qaz p0 underlying88,tv⟩<|Qaf ?_
   refine wmr (mto (n:=19) (l':=[(0,(Qyd p0)),(1,(.fn (.func 62) [] [])),(7,(I ((p0.length:Int)))),(8,I 0)]) (own':=[]) [(0,(Qyd p0)),(1,(.fn (.func 62) [] [])),(7,(I ((p0.length:Int)))),(8,I 0)] [] [] hq (pc (rnd Qaw) (pc (.rn (Qao rn0 rn0)) (pw (pw pn)))) qn) ?_
   refine Qbx (τ:=Int) (fun n t=>Qau N p0 k1 n t=some r) (fun y2=>⟨mk 19 [(0,(Qyd p0)),(1,(.fn (.func 62) [] [])),(7,(I ((p0.length:Int)))),(8,I y2)],[]⟩) (fun t h=>by rw[Qau] at h;cases h) (fun n4 ih y2 h=>?_) N (0) h
   rw[Qau] at h
   skip
   refine wxz<|wsq ?_
   refine bfe h (fun hc5 h=>?_) fun hc5 h=>?_
   ·refine wft hc5<|Qai<|thn<|wsq<|Qaf<|wxz ?_
    obtain⟨x6,hg7,h⟩:=bno h
    obtain⟨hi8,hj9⟩:=gsm hg7
    obtain⟨x11,hf10,h⟩:=bno h
    refine wx tbk [(3,rp _ _),(5,rp _ _)] ⟨aiq underlying88 ti91 Qaz hi8 hj9,apw Q54 (Qkc N x6 _ hf10),tv⟩ ?_
    refine bfe h (fun hc12 h=>?_) fun hc12 h=>?_
    ·refine wft hc12<|wxz<|Qag<|Qaq<|Qae<|Qae<|Qaq<|Qae ?_
     obtain rfl:=osi h
     exact fend ⟨[I y2],⟨rot,tv⟩,rfl⟩ nll
    ·exact wfn hc12<|Qai<|bln<|thn<|wxz1<|thn<|arm (mto (n:=19) [(0,(Qyd p0)),(1,(.fn (.func 62) [] [])),(7,(I ((p0.length:Int)))),(8,(I (w64 (y2+1))))] [] [] hq (pc (rnd Qaw) (pc (.rn (Qao rn0 rn0)) (pw (pw pn)))) qn) (ih (w64 (y2+1)) h)
   ·exact wfn hc5<|Qa3<|Qan<|Qan<|Qa2 rfl<|thn<|⟨(),h,(mto (n:=19) [] [] [] hq pn qn)⟩
def Qbv (N:Nat) (p0:List Qap):Option Bool:=
  (Qcj N p0).bind fun x2=>
  some (decide (x2≥0))
theorem Qfp (N:Nat) (p0:List Qap) (r:Bool) (h:Qbv N p0=some r):Spec prog 61 [(.dat 2 (p0.map Qaz)),(.fn (.func 62) [] [])] [] (B r) []:=by
  refine sA func61 0 fun _ _ _ hq hd0=>?_
  unfold Qbv at h
  refine wxz ?_
  obtain⟨x2,hf1,h⟩:=bno h
  refine wx tbk [(2,rp _ _)] ⟨acq [(.dat 2 (p0.map Qaz)),(.fn (.func 62) [] [])] [] [] (I x2) [] Q51 (Qf0 N p0 _ hf1) (Qb1 (rnc (pld Qaw) (rnc (.plain _ (NLt.fn _ _ _ nl0 nl0)) rn0))) Qak Qak (.plain _ nll),tv⟩<|Qag ?_
  obtain rfl:=osi h
  exact fend ⟨[(B ((decide (x2≥0))))],⟨rot,tv⟩,rfl⟩ nll
def Qfx (N:Nat) (p0:Qba):Option Bool:=
  (Qc8 N (p0.Stairs.length:Int) 1 6).bind fun x2=>
  bif x2 then
   (Qdr N p0.Stairs).bind fun x5=>
   bif x5 then
    (Qbv N p0.Stairs).bind fun x8=>
    some (!x8)
   else
    some false
  else
   some false
def Qyf (p0:Qba):AV:=.dat 2 (p0.Stairs.map Qaz)
def Q4z (p0:Qba) (x2:Bool):List (Nat×Rec):=[(2,rp [((.tmp 4),(Qyf p0))] (I ((p0.Stairs.length:Int)))),(3,rp [fu 34,((.tmp 5),(I ((p0.Stairs.length:Int)))),ci 1,ci 6] (B x2))]
def Q4y p0 x2 (x5:Bool):=hcat (Q4z p0 x2) [(4,rp [((.tmp 6),(B x2))] (B true)),(7,rp [((.tmp 7),(B true)),fu 59,((.tmp 9),(Qyf p0)),fu 60] (B x5))]
theorem Qk0 (N:Nat) (p0:Qba) (r:Bool) (h:Qfx N p0=some r):Spec prog 51 [(.agg (Qa1 p0))] [] (B r) []:=by
  refine sA func51 0 fun _ _ _ hq hd0=>?_
  unfold Qfx at h
  refine wxz ?_
  obtain⟨x2,hf1,h⟩:=bno h
  refine hpre (A:=(Q4z p0 x2)) ⟨alq 2 Qaz p0.Stairs underlying88,apv Qjn (Qde N (p0.Stairs.length:Int) 1 6 _ hf1) (nlcc (nlc nll nl0)) nll,tv⟩ fun q1_=>?_
  refine bfe h (fun hb3 h=>?_) fun hb3 h=>?_
  ·obtain⟨x5,hf4,h⟩:=bno h
   refine hpre (A:=(Q4y p0 x2 x5)) (hap q1_ ⟨asb hb3 (amv rfl),ag_ (acq [(Qyf p0),(.fn (.func 60) [] [])] [] [] (B x5) [] Q56 (Qih N p0.Stairs _ hf4) (Qb1 (rnc (pld Qaw) (rnc (.plain _ (NLt.fn _ _ _ nl0 nl0)) rn0))) Qak Qak (.plain _ nll)),tv⟩) fun q2_=>?_
   refine bfe h (fun hb6 h=>?_) fun hb6 h=>?_
   ·obtain⟨x8,hf7,h⟩:=bno h
    refine wx tbk (hcat (Q4y p0 x2 x5) [(9,rp [(.tmp 11,B x5)] (B true)),(12,rp [(.tmp 12,B true),fu 61,(.tmp 14,(Qyf p0)),fu 62] (B x8))]) (hap q2_ ⟨asb hb6 (amv rfl),ag_ (acq [(Qyf p0),(.fn (.func 62) [] [])] [] [] (B x8) [] Q55 (Qfp N p0.Stairs _ hf7) (Qb1 (rnc (pld Qaw) (rnc (.plain _ (NLt.fn _ _ _ nl0 nl0)) rn0))) Qak Qak (.plain _ nll)),tv⟩)<|Qag ?_
    obtain rfl:=osi h
    exact fend ⟨[(B ((!x8)))],⟨rot,tv⟩,rfl⟩ nll
   ·exact wx tbk (hcat (Q4y p0 x2 x5) [(9,rp [(.tmp 11,B x5)] (B false))]) (hap q2_ ⟨asb hb6 (amv rfl),tv⟩)<|Qag<|frb h
  ·exact wx tbk (hcat (Q4z p0 x2) [(4,rp [(.tmp 6,B x2)] (B false))]) (hap q1_ ⟨asb hb3 (amv rfl),tv⟩)<|Qag<|frb h
def Qc0 (N:Nat) (p0:Qat) (p1:Qa7) (y5:(Nat→Bool)) (k7:Unit→Option Int):Nat→Int→Option Int
  |0,_=>none
  |n10+1,y8=>
    bif (decide (y8<(p1.Feeds.length:Int))) then
     (getI p1.Feeds y8).bind fun x12=>
     (Qdk N p0 x12).bind fun x17=>
     bif (!x17) then
      some 1
     else
      chk (decide (0≤x12)&&decide (x12.toNat<12))<|
      bif y5 x12.toNat then
       some 1
      else
       Qc0 N p0 p1 y5 k7 n10 (w64 (y8+1))
    else
     k7 ()
def Qdh (N:Nat) (p0:Qat) (p1:Qa7) (k6:(Nat→Bool)→Option Int):Nat→Int→(Nat→Bool)→Option Int
  |0,_,_=>none
  |n25+1,y21,y22=>
    bif (decide (y21<(p1.Inlets.length:Int))) then
     (getI p1.Inlets y21).bind fun x27=>
     (Qdk N p0 x27.Site).bind fun x32=>
     bif (!x32) then
      some 1
     else
      chk (decide (0≤x27.Site)&&decide (x27.Site.toNat<12))<|
      bif y22 x27.Site.toNat then
       some 1
      else
       (Qfx N x27).bind fun x37=>
       bif (!x37) then
        some 1
       else
        chk (decide (0≤x27.Site)&&decide (x27.Site.toNat<12))<|
        Qdh N p0 p1 k6 n25 (w64 (y21+1)) (setF y22 x27.Site.toNat true)
    else
     k6 (y22)
def Qec (N:Nat) (p0:Qat) (p1:Qa7):Option Int:=
  (Qe7 N p0).bind fun x2=>
  bif (x2 != 0) then
   some x2
  else
   Qcy (fun _=>
     Qcy (fun y5=>
       Qcy (fun _=>
         some 0) fun k7:Unit→Option Int=>
       Qc0 N p0 p1 y5 k7 N 0) fun k6:(Nat→Bool)→Option Int=>
     Qdh N p0 p1 k6 N 0 (fun _=>false)) fun k4:Unit→Option Int=>
   (Qc8 N (p1.Inlets.length:Int) 1 10).bind fun x41=>
   bif (!x41) then
    some 1
   else
    (Qc8 N (p1.Feeds.length:Int) 1 10).bind fun x44=>
    bif (!x44) then
     some 1
    else
     (Qc8 N p1.Factor 1000 100000).bind fun x47=>
     bif (!x47) then
      some 1
     else
      (Qc8 N p1.Horizon 0 100000000).bind fun x50=>
      bif (!x50) then
       some 1
      else
       (Qe9 N p1.Feeds).bind fun x53=>
       bif (!x53) then
        some 1
       else
        k4 ()
def Q8b (p0:Qat):AV:=.agg [(I p0.Sites),(.dat 4 (p0.Tests.map Qbf))]
def Qn3 (p0:Qat):Slot:=.own 2 [[(I p0.Sites),(.dat 4 (p0.Tests.map Qbf))]]
def Qv3 (p1:Qa7):AV:=.dat 2 (p1.Inlets.map Qa1)
def Qrz (p1:Qa7):AV:=.dat 1 (p1.Feeds.map Qah)
def Qry (p1:Qa7):Slot:=.own 4 [[(Qv3 p1),(Qrz p1),(I p1.Factor),(I p1.Horizon)]]
def Qym (p0:Qat) (x12:Int) (x17:Bool):List (Nat×Rec):=[(2,rp [fu 43,((.tmp 80),(Q8b p0)),((.tmp 81),(I x12))] (B x17))]
def Q8a:Slot:=.own 12 [arrF 12 (fun _=>false)]
def Qyl (p0:Qat) (x27:Qba) (x32:Bool):List (Nat×Rec):=[(3,rp [fu 43,((.tmp 53),(Q8b p0)),((.tmp 55),(I x27.Site))] (B x32))]
def Qyk p0 x27 x32 (y22:(Nat→Bool)):=hcat (Qyl p0 x27 x32) [(5,rp [((.tmp 57),(B ((!x32))))] (B false)),(8,rb [((.tmp 58),(B false)),((.tmp 6),(.ref 2 12 (0) 0)),((.tmp 60),(I x27.Site))] [(2,(.own 12 [arrF 12 y22]))] (.ref 2 12 (0) (0+x27.Site.toNat*1))),(9,rb [((.tmp 58),(B false)),((.tmp 61),(.ref 2 12 (0) (0+x27.Site.toNat*1)))] [(2,(.own 12 [arrF 12 y22]))] (B (y22 x27.Site.toNat)))]
def Qyj (p1:Qa7) (x41:Bool):List (Nat×Rec):=[(2,rp [((.tmp 17),(Qv3 p1))] (I ((p1.Inlets.length:Int)))),(3,rp [fu 34,((.tmp 18),(I ((p1.Inlets.length:Int)))),ci 1,ci 10] (B x41))]
def Qyi p1 x41 (x44:Bool):=hcat (Qyj p1 x41) [(5,rp [((.tmp 20),(B ((!x41))))] (B false)),(8,rp [((.tmp 21),(B false)),((.tmp 23),(Qrz p1))] (I ((p1.Feeds.length:Int)))),(9,rp [((.tmp 21),(B false)),fu 34,((.tmp 24),(I ((p1.Feeds.length:Int)))),ci 1,ci 10] (B x44))]
def Qyh p1 x41 x44 (x47:Bool):=hcat (Qyi p1 x41 x44) [(12,rp [((.tmp 27),(B ((!x44))))] (B false)),(15,rp [((.tmp 28),(B false)),fu 34,((.tmp 30),(I p1.Factor)),ci 1000,ci 100000] (B x47))]
def Qyg p1 x41 x44 x47 (x50:Bool):=hcat (Qyh p1 x41 x44 x47) [(18,rp [((.tmp 33),(B ((!x47))))] (B false)),(21,rp [((.tmp 34),(B false)),fu 34,((.tmp 36),(I p1.Horizon)),ci 0,ci 100000000] (B x50))]
theorem Qi1 (N:Nat) (p0:Qat) (p1:Qa7) (r:Int) (h:Qec N p0 p1=some r):Spec prog 33 [(.agg (Qf9 p0)),(.agg (Qhm p1))] [] (I r) []:=by
  refine sA func33 0 fun _ _ _ hq hd0=>?_
  unfold Qec at h
  refine wxz<|wsq ?_
  obtain⟨x2,hf1,h⟩:=bno h
  refine wx tbk [(1,rp _ _)] ⟨apw Qz9 (Qi0 N p0 _ hf1),tv⟩<|wxz ?_
  refine bfe h (fun hc3 h=>?_) fun hc3 h=>?_
  ·refine wft hc3<|wxz<|Qag<|Qae ?_
   obtain rfl:=osi h
   exact fend ⟨[I x2],⟨rot,tv⟩,rfl⟩ nll
  ·refine wfn hc3<|Qai<|thn ?_
   obtain⟨k4,hk_k4,h⟩:=jko h
   refine wjn (τ:=Unit) (fun t=>k4 t=some r) (fun _=>⟨mk 90 [(2,.ref 0 2 0 0),(3,.ref 1 4 0 0)],[(Qn3 p0),(Qry p1)]⟩) (fun t h=>?_) ?_
   ·subst hk_k4
    refine wxz ?_
    obtain⟨k6,hk_k6,h⟩:=jko h
    refine wjn (τ:=(Nat→Bool)) (fun t=>k6 t=some r) (fun y5=>⟨mk 90 [(2,.ref 0 2 0 0),(3,.ref 1 4 0 0),(6,.ref 2 12 0 0)],[(Qn3 p0),(Qry p1),(.own 12 [arrF 12 y5])]⟩) (fun y5 h=>?_) ?_
    ·subst hk_k6
     obtain⟨k7,hk_k7,h⟩:=jko h
     refine wjn (τ:=Unit) (fun t=>k7 t=some r) (fun _=>⟨mk 90 [],[]⟩) (fun t h=>?_) ?_
     ·subst hk_k7
      refine wxz<|Qag ?_
      obtain rfl:=osi h
      exact fend ⟨[I 0],⟨rot,tv⟩,rfl⟩ nll
     ·skip
      refine wx tbk [(2,rp _ _)] ⟨alq 1 Qah p1.Feeds underlying26,tv⟩<|Qaf ?_
      refine wmr (mto (n:=90) (l':=[(2,.ref 0 2 0 0),(6,.ref 1 12 0 0),(74,(Qrz p1)),(75,(I ((p1.Feeds.length:Int)))),(76,I 0)]) (own':=[(Qn3 p0),(.own 12 [arrF 12 y5])]) [(2,.ref 0 2 0 0),(6,.ref 2 12 0 0),(74,(Qrz p1)),(75,(I ((p1.Feeds.length:Int)))),(76,I 0)] [0,2] [(Qn3 p0),(.own 12 [arrF 12 y5])] hq (prr (prr (pc (rnd Qal) (pw (pw pn))))) (qb (lc rwl (lc (rnd Qad) ln)) (qb (Qa6 fun _=>rwl) qn))) ?_
      refine Qbx (τ:=Int) (fun n t=>Qc0 N p0 p1 y5 k7 n t=some r) (fun y8=>⟨mk 90 [(2,.ref 0 2 0 0),(6,.ref 1 12 0 0),(74,(Qrz p1)),(75,(I ((p1.Feeds.length:Int)))),(76,I y8)],[(Qn3 p0),(.own 12 [arrF 12 y5])]⟩) (fun t h=>by rw[Qc0] at h;cases h) (fun n10 ih y8 h=>?_) N (0) h
      rw[Qc0] at h
      skip
      refine wxz<|wsq ?_
      refine bfe h (fun hc11 h=>?_) fun hc11 h=>?_
      ·refine wft hc11<|Qai<|thn<|wsq<|Qaf ?_
       obtain⟨x12,hg13,h⟩:=bno h
       obtain⟨hi14,hj15⟩:=gsm hg13
       refine wx tbk [(0,rp _ _)] ⟨aiq underlying26 ti3 Qah hi14 hj15,tv⟩ ?_
       obtain⟨x17,hf16,h⟩:=bno h
       refine hpre (A:=(Qym p0 x12 x17)) ⟨apv Qnh (Qek N p0 x12 _ hf16) (nlc (NLt.agg _ (nlc nll (nlc (nld Qad _) nl0))) (nlc nll nl0)) nll,tv⟩ fun q1_=>?_
       refine bfe h (fun hb18 h=>?_) fun hb18 h=>?_
       ·refine wx tbk (hcat (Qym p0 x12 x17) [(4,rp [(.tmp 83,(B ((!x17))))] (B true))]) (hap q1_ ⟨asb hb18 (amv rfl),tv⟩)<|wtr<|wxz<|Qag<|Qaq<|Qae<|Qae<|Qaq<|Qae ?_
        obtain rfl:=osi h
        exact fend ⟨[I 1],⟨rot,tv⟩,rfl⟩ nll
       ·obtain⟨hi19,h⟩:=cko h
        obtain⟨hi19a,hi19b⟩:=Qbp hi19
        refine wx tbk (hcat (Qym p0 x12 x17) [(4,rp [(.tmp 83,(B ((!x17))))] (B false)),(6,rb [(.tmp 84,B false),(.tmp 6,.ref 1 12 0 0),(.tmp 85,I x12)] [(1,.own 12 [arrF 12 y5])] (.ref 1 12 0 (0+x12.toNat*1))),(7,rb [(.tmp 84,B false),(.tmp 86,(.ref 1 12 0 (0+x12.toNat*1)))] [(1,.own 12 [arrF 12 y5])] (B (y5 x12.toNat)))]) (hap q1_ ⟨asb hb18 (amv rfl),ag_ (Qcb rfl underlying111 ti4 (odt hi19a) (odt hi19b) rfl),ag_ (ald rfl ti4 (by decide) rfl (Qzp (n:=12) (odt hi19b) (nle rfl)) (Qzj (pre:=[]) (post:=[]) (n:=12) (f:=y5) (by kernel_rfl) rfl (odt hi19b))),tv⟩) ?_
        refine bfe h (fun hc20 h=>?_) fun hc20 h=>?_
        ·refine wft hc20<|wxz<|Qag<|Qaq<|Qae<|Qae<|Qaq<|Qae ?_
         obtain rfl:=osi h
         exact fend ⟨[I 1],⟨rot,tv⟩,rfl⟩ nll
        ·exact wfn hc20<|Qai<|bln<|thn<|wxz1<|thn<|arm (mto (n:=90) [(2,.ref 0 2 0 0),(6,.ref 1 12 0 0),(74,(Qrz p1)),(75,(I ((p1.Feeds.length:Int)))),(76,(I (w64 (y8+1))))] [0,1] [(Qn3 p0),(.own 12 [arrF 12 y5])] hq (prr (prr (pc (rnd Qal) (pw (pw pn))))) (qb (lc rwl (lc (rnd Qad) ln)) (qb (Qa6 fun _=>rwl) qn))) (ih (w64 (y8+1)) h)
      ·exact wfn hc11<|Qa3<|Qan<|Qan<|Qa2 rfl<|thn<|⟨(),h,(mto (n:=90) [] [] [] hq pn qn)⟩
    ·skip
     refine wx tbk [(2,rp _ _)] ⟨alq 2 Qa1 p1.Inlets underlying67,tv⟩<|Qaf ?_
     refine wmr (mto (n:=90) (l':=[(2,.ref 0 2 0 0),(3,.ref 1 4 0 0),(6,.ref 2 12 0 0),(47,(Qv3 p1)),(48,(I ((p1.Inlets.length:Int)))),(49,I 0)]) (own':=[(Qn3 p0),(Qry p1),Q8a]) [(2,.ref 0 2 0 0),(3,.ref 1 4 0 0),(6,.ref 2 12 0 0),(47,(Qv3 p1)),(48,(I ((p1.Inlets.length:Int)))),(49,I 0)] [0,1,2] [(Qn3 p0),(Qry p1),Q8a] hq (prr (prr (prr (pc (rnd Qam) (pw (pw pn)))))) (qb (lc rwl (lc (rnd Qad) ln)) (qb (lc (rnd Qam) (lc (rnd Qal) (lcc ln))) (qb (Qa6 fun _=>rwl) qn)))) ?_
     refine Qbx (τ:=Int×(Nat→Bool)) (fun n t=>Qdh N p0 p1 k6 n t.1 t.2=some r) (fun ⟨y21,y22⟩=>⟨mk 90 [(2,.ref 0 2 0 0),(3,.ref 1 4 0 0),(6,.ref 2 12 0 0),(47,(Qv3 p1)),(48,(I ((p1.Inlets.length:Int)))),(49,I y21)],[(Qn3 p0),(Qry p1),(.own 12 [arrF 12 y22])]⟩) (fun t h=>by rw[Qdh] at h;cases h) (fun n25 ih t h=>?_) N (0,fun _=>false) h
     obtain⟨y21,y22⟩:=t
     rw[Qdh] at h
     skip
     refine wxz<|wsq ?_
     refine bfe h (fun hc26 h=>?_) fun hc26 h=>?_
     ·refine wft hc26<|Qai<|thn<|wsq<|Qaf ?_
      obtain⟨x27,hg28,h⟩:=bno h
      obtain⟨hi29,hj30⟩:=gsm hg28
      refine wx tbk [(0,rp _ _)] ⟨aiq underlying67 ti90 Qa1 hi29 hj30,tv⟩<|wsq ?_
      obtain⟨x32,hf31,h⟩:=bno h
      refine hpre (A:=(Qyl p0 x27 x32)) ⟨apv Qnh (Qek N p0 x27.Site _ hf31) (nlc (NLt.agg _ (nlc nll (nlc (nld Qad _) nl0))) (nlc nll nl0)) nll,tv⟩ fun q2_=>?_
      refine bfe h (fun hb33 h=>?_) fun hb33 h=>?_
      ·refine wx tbk (hcat (Qyl p0 x27 x32) [(5,rp [(.tmp 57,(B ((!x32))))] (B true))]) (hap q2_ ⟨asb hb33 (amv rfl),tv⟩)<|wtr<|wxz<|Qag<|Qae<|Qaq<|Qae<|Qae<|Qaq<|Qae ?_
       obtain rfl:=osi h
       exact fend ⟨[I 1],⟨rot,tv⟩,rfl⟩ nll
      ·obtain⟨hi34,h⟩:=cko h
       obtain⟨hi34a,hi34b⟩:=Qbp hi34
       refine hpre (A:=(Qyk p0 x27 x32 y22)) (hap q2_ ⟨asb hb33 (amv rfl),ag_ (Qcb rfl underlying111 ti4 (odt hi34a) (odt hi34b) rfl),ag_ (ald rfl ti4 (by decide) rfl (Qzp (n:=12) (odt hi34b) (nle rfl)) (Qzj (pre:=[]) (post:=[]) (n:=12) (f:=y22) (by kernel_rfl) rfl (odt hi34b))),tv⟩) fun q3_=>?_
       refine bfe h (fun hb35 h=>?_) fun hb35 h=>?_
       ·refine wx tbk (hcat (Qyk p0 x27 x32 y22) [(11,rp [(.tmp 63,B (y22 x27.Site.toNat))] (B true))]) (hap q3_ ⟨asb hb35 (amv rfl),tv⟩)<|wtr<|wxz<|Qag<|Qae<|Qaq<|Qae<|Qae<|Qaq<|Qae ?_
        obtain rfl:=osi h
        exact fend ⟨[I 1],⟨rot,tv⟩,rfl⟩ nll
       ·obtain⟨x37,hf36,h⟩:=bno h
        refine wx tbk (hcat (Qyk p0 x27 x32 y22) [(11,rp [(.tmp 63,B (y22 x27.Site.toNat))] (B false)),(13,rp [(.tmp 64,B false),fu 51,(.tmp 65,(.agg [I x27.Site,(.dat 2 (x27.Stairs.map Qaz))]))] (B x37))]) (hap q3_ ⟨asb hb35 (amv rfl),ag_ (apv Q6a (Qk0 N x27 _ hf36) (nlc (NLt.agg _ (nlc nll (nlc (nld Qaw _) nl0))) nl0) nll),tv⟩) ?_
        refine bfe h (fun hc38 h=>?_) fun hc38 h=>?_
        ·refine wft hc38<|wxz<|Qag<|Qae<|Qaq<|Qae<|Qae<|Qaq<|Qae ?_
         obtain rfl:=osi h
         exact fend ⟨[I 1],⟨rot,tv⟩,rfl⟩ nll
        ·refine wfn hc38<|Qai<|thn ?_
         obtain⟨hi39,h⟩:=cko h
         obtain⟨hi39a,hi39b⟩:=Qbp hi39
         refine wx1 tbk [(2,rb [(.tmp 6,.ref 2 12 0 0),(.tmp 70,I x27.Site)] [(2,.own 12 [arrF 12 y22])] (.ref 2 12 0 (0+x27.Site.toNat*1))),(3,⟨[(.tmp 71,(.ref 2 12 0 (0+x27.Site.toNat*1))),cb true],[(2,.own 12 [arrF 12 y22])],.any,[(2,(.own 12 [arrF 12 (setF y22 x27.Site.toNat true)]))],false⟩)] ⟨Qcb rfl underlying111 ti4 (odt hi39a) (odt hi39b) rfl,ast rfl ti4 (by rfl) rfl (Qzp (n:=12) (odt hi39b) (nle rfl)) (Q3t (pre:=[]) (post:=[]) (n:=12) (f:=y22) (x:=true) (by kernel_rfl) rfl (by kernel_rfl) (odt hi39b)),tv⟩<|bln<|thn<|wxz1<|thn ?_
         exact arm (mto (n:=90) [(2,.ref 0 2 0 0),(3,.ref 1 4 0 0),(6,.ref 2 12 0 0),(47,(Qv3 p1)),(48,(I ((p1.Inlets.length:Int)))),(49,(I (w64 (y21+1))))] [0,1,2] [(Qn3 p0),(Qry p1),(.own 12 [arrF 12 (setF y22 x27.Site.toNat true)])] hq (prr (prr (prr (pc (rnd Qam) (pw (pw pn)))))) (qb (lc rwl (lc (rnd Qad) ln)) (qb (lc (rnd Qam) (lc (rnd Qal) (lcc ln))) (qb (Qa6 fun _=>rwl) qn)))) (ih (w64 (y21+1),setF y22 x27.Site.toNat true) h)
     ·exact wfn hc26<|Qa3<|Qan<|Qan<|Qa2 rfl<|thn<|⟨(y22),h,(mto (n:=90) [(2,.ref 0 2 0 0),(3,.ref 1 4 0 0),(6,.ref 2 12 0 0)] [0,1,2] [(Qn3 p0),(Qry p1),(.own 12 [arrF 12 y22])] hq (prr (prr (prr pn))) (qb (lc rwl (lc (rnd Qad) ln)) (qb (lc (rnd Qam) (lc (rnd Qal) (lcc ln))) (qb (Qa6 fun _=>rwl) qn))))⟩
   ·skip
    obtain⟨x41,hf40,h⟩:=bno h
    refine hpre (A:=(Qyj p1 x41)) ⟨alq 2 Qa1 p1.Inlets underlying67,apv Qjn (Qde N (p1.Inlets.length:Int) 1 10 _ hf40) (nlcc (nlc nll nl0)) nll,tv⟩ fun q4_=>?_
    refine bfe h (fun hb42 h=>?_) fun hb42 h=>?_
    ·refine wx tbk (hcat (Qyj p1 x41) [(5,rp [(.tmp 20,(B ((!x41))))] (B true))]) (hap q4_ ⟨asb hb42 (amv rfl),tv⟩)<|wtr<|wxz<|Qag<|Qae ?_
     obtain rfl:=osi h
     exact fend ⟨[I 1],⟨rot,tv⟩,rfl⟩ nll
    ·obtain⟨x44,hf43,h⟩:=bno h
     refine hpre (A:=(Qyi p1 x41 x44)) (hap q4_ ⟨asb hb42 (amv rfl),ag_ (alq 1 Qah p1.Feeds underlying26),ag_ (apv Qjn (Qde N (p1.Feeds.length:Int) 1 10 _ hf43) (nlcc (nlc nll nl0)) nll),tv⟩) fun q5_=>?_
     refine bfe h (fun hb45 h=>?_) fun hb45 h=>?_
     ·refine wx tbk (hcat (Qyi p1 x41 x44) [(12,rp [(.tmp 27,(B ((!x44))))] (B true))]) (hap q5_ ⟨asb hb45 (amv rfl),tv⟩)<|wtr<|wxz<|Qag<|Qae ?_
      obtain rfl:=osi h
      exact fend ⟨[I 1],⟨rot,tv⟩,rfl⟩ nll
     ·obtain⟨x47,hf46,h⟩:=bno h
      refine hpre (A:=(Qyh p1 x41 x44 x47)) (hap q5_ ⟨asb hb45 (amv rfl),ag_ (apv Qjn (Qde N p1.Factor 1000 100000 _ hf46) (nlcc (nlc nll nl0)) nll),tv⟩) fun q6_=>?_
      refine bfe h (fun hb48 h=>?_) fun hb48 h=>?_
      ·refine wx tbk (hcat (Qyh p1 x41 x44 x47) [(18,rp [(.tmp 33,(B ((!x47))))] (B true))]) (hap q6_ ⟨asb hb48 (amv rfl),tv⟩)<|wtr<|wxz<|Qag<|Qae ?_
       obtain rfl:=osi h
       exact fend ⟨[I 1],⟨rot,tv⟩,rfl⟩ nll
      ·obtain⟨x50,hf49,h⟩:=bno h
       refine hpre (A:=(Qyg p1 x41 x44 x47 x50)) (hap q6_ ⟨asb hb48 (amv rfl),ag_ (apv Qjn (Qde N p1.Horizon 0 100000000 _ hf49) (nlcc (nlc nll nl0)) nll),tv⟩) fun q7_=>?_
       refine bfe h (fun hb51 h=>?_) fun hb51 h=>?_
       ·refine wx tbk (hcat (Qyg p1 x41 x44 x47 x50) [(24,rp [(.tmp 39,(B ((!x50))))] (B true))]) (hap q7_ ⟨asb hb51 (amv rfl),tv⟩)<|wtr<|wxz<|Qag<|Qae ?_
        obtain rfl:=osi h
        exact fend ⟨[I 1],⟨rot,tv⟩,rfl⟩ nll
       ·obtain⟨x53,hf52,h⟩:=bno h
        refine wx tbk (hcat (Qyg p1 x41 x44 x47 x50) [(24,rp [(.tmp 39,(B ((!x50))))] (B false)),(27,rp [(.tmp 40,B false),fu 49,(.tmp 42,(Qrz p1)),fu 50] (B x53))]) (hap q7_ ⟨asb hb51 (amv rfl),ag_ (acq [(Qrz p1),(.fn (.func 50) [] [])] [] [] (B x53) [] Q6b (Qkk N p1.Feeds _ hf52) (Qb1 (rnc (pld Qal) (rnc (.plain _ (NLt.fn _ _ _ nl0 nl0)) rn0))) Qak Qak (.plain _ nll)),tv⟩) ?_
        refine bfe h (fun hc54 h=>?_) fun hc54 h=>?_
        ·refine wft hc54<|wxz<|Qag<|Qae ?_
         obtain rfl:=osi h
         exact fend ⟨[I 1],⟨rot,tv⟩,rfl⟩ nll
        ·exact wfn hc54<|Qai<|thn<|⟨(),h,(mto (n:=90) [(2,.ref 0 2 0 0),(3,.ref 1 4 0 0)] [0,1] [(Qn3 p0),(Qry p1)] hq (prr (prr pn)) (qb (lc rwl (lc (rnd Qad) ln)) (qb (lc (rnd Qam) (lc (rnd Qal) (lcc ln))) qn)))⟩
def Qc9 (N:Nat) (p0:Qba) (k2:Int→Option Int):Nat→Int→Int→Option Int
  |0,_,_=>none
  |n7+1,y3,y4=>
    bif (decide (y4<(p0.Stairs.length:Int))) then
     (getI p0.Stairs y4).bind fun x9=>
     Qc9 N p0 k2 n7 (w64 (y3+x9.Amount)) (w64 (y4+1))
    else
     k2 (y3)
def Qfw (N:Nat) (p0:Qba):Option Int:=
  Qcy (fun y1=>
    some y1) fun k2:Int→Option Int=>
  Qc9 N p0 k2 N 0 0
def Q10 (p0:Qba):AV:=.dat 2 (p0.Stairs.map Qaz)
theorem Qkz (N:Nat) (p0:Qba) (r:Int) (h:Qfw N p0=some r):Spec prog 58 [(.agg (Qa1 p0))] [] (I r) []:=by
  refine sA func58 0 fun _ _ _ hq hd0=>?_
  unfold Qfw at h
  refine wxz ?_
  obtain⟨k2,hk_k2,h⟩:=jko h
  refine wjn (τ:=Int) (fun t=>k2 t=some r) (fun y1=>⟨mk 18 [(2,I y1)],[]⟩) (fun y1 h=>?_) ?_
  ·subst hk_k2
   refine wxz<|Qag ?_
   obtain rfl:=osi h
   exact fend ⟨[I y1],⟨rot,tv⟩,rfl⟩ nll
  ·skip
   refine wx tbk [(2,rp _ _)] ⟨alq 2 Qaz p0.Stairs underlying88,tv⟩<|Qaf ?_
   refine wmr (mto (n:=18) (l':=[(2,I 0),(6,(Q10 p0)),(7,(I ((p0.Stairs.length:Int)))),(8,I 0)]) (own':=[]) [(2,I 0),(6,(Q10 p0)),(7,(I ((p0.Stairs.length:Int)))),(8,I 0)] [] [] hq (pw (pc (rnd Qaw) (pw (pw pn)))) qn) ?_
   refine Qbx (τ:=Int×Int) (fun n t=>Qc9 N p0 k2 n t.1 t.2=some r) (fun ⟨y3,y4⟩=>⟨mk 18 [(2,I y3),(6,(Q10 p0)),(7,(I ((p0.Stairs.length:Int)))),(8,I y4)],[]⟩) (fun t h=>by rw[Qc9] at h;cases h) (fun n7 ih t h=>?_) N (0,0) h
   obtain⟨y3,y4⟩:=t
   rw[Qc9] at h
   skip
   refine wxz<|wsq ?_
   refine bfe h (fun hc8 h=>?_) fun hc8 h=>?_
   ·refine wft hc8<|Qai<|thn<|wsq<|Qaf ?_
    obtain⟨x9,hg10,h⟩:=bno h
    obtain⟨hi11,hj12⟩:=gsm hg10
    exact wx tbk [(0,rp _ _)] ⟨aiq underlying88 ti91 Qaz hi11 hj12,tv⟩<|wxz1<|bln<|thn<|wxz1<|thn<|arm (mto (n:=18) [(2,(I (w64 (y3+x9.Amount)))),(6,(Q10 p0)),(7,(I ((p0.Stairs.length:Int)))),(8,(I (w64 (y4+1))))] [] [] hq (pw (pc (rnd Qaw) (pw (pw pn)))) qn) (ih (w64 (y3+x9.Amount),w64 (y4+1)) h)
   ·exact wfn hc8<|Qa3<|Qan<|Qan<|Qa2 rfl<|thn<|⟨(y3),h,(mto (n:=18) [(2,I y3)] [] [] hq (pw pn) qn)⟩
def Qc3 (N:Nat) (p0:Qa7) (k1:Unit→Option Bool) (p1:List Int):Nat→Int→Option Bool
  |0,_=>none
  |n4+1,y2=>
    bif (decide (y2<(p1.length:Int))) then
     (getI p1 y2).bind fun x6=>
     bif (decide (y2≥(p0.Inlets.length:Int))) then
      some false
     else
      (getI p0.Inlets y2).bind fun x11=>
      (Qfw N x11).bind fun x16=>
      (Qc8 N x6 0 x16).bind fun x18=>
      bif (!x18) then
       some false
      else
       Qc3 N p0 k1 p1 n4 (w64 (y2+1))
    else
     k1 ()
def Qfb (N:Nat) (p0:Qa7) (p1:List Int):Option Bool:=
  Qcy (fun _=>
    some ((p1.length:Int)==(p0.Inlets.length:Int))) fun k1:Unit→Option Bool=>
  Qc3 N p0 k1 p1 N 0
def Q79 (p0:Qa7):AV:=.dat 2 (p0.Inlets.map Qa1)
def Qv2 (p0:Qa7):Slot:=.own 4 [[(Q79 p0),(.dat 1 (p0.Feeds.map Qah)),(I p0.Factor),(I p0.Horizon)]]
theorem Qkn (N:Nat) (p0:Qa7) (p1:List Int) (r:Bool) (h:Qfb N p0 p1=some r):Spec prog 40 [(.agg (Qhm p0)),(.dat 1 (p1.map Qah))] [] (B r) []:=by
  refine sA func40 0 fun _ _ _ hq hd0=>?_
  unfold Qfb at h
  refine wxz ?_
  obtain⟨k1,hk_k1,h⟩:=jko h
  refine wjn (τ:=Unit) (fun t=>k1 t=some r) (fun _=>⟨mk 37 [(1,(.dat 1 (p1.map Qah))),(2,.ref 0 4 0 0)],[(Qv2 p0)]⟩) (fun t h=>?_) ?_
  ·subst hk_k1
   refine wx tbk [(1,rp _ _),(4,rp _ _)] ⟨alq 1 Qah p1 underlying26,alq 2 Qa1 p0.Inlets underlying67,tv⟩<|Qag ?_
   obtain rfl:=osi h
   exact fend ⟨[(B (((p1.length:Int)==(p0.Inlets.length:Int))))],⟨rot,tv⟩,rfl⟩ nll
  ·skip
   refine wx tbk [(1,rp _ _)] ⟨alq 1 Qah p1 underlying26,tv⟩<|Qaf ?_
   refine wmr (mto (n:=37) (l':=[(1,(.dat 1 (p1.map Qah))),(2,.ref 0 4 0 0),(7,(.dat 1 (p1.map Qah))),(8,(I ((p1.length:Int)))),(9,I 0)]) (own':=[(Qv2 p0)]) [(1,(.dat 1 (p1.map Qah))),(2,.ref 0 4 0 0),(7,(.dat 1 (p1.map Qah))),(8,(I ((p1.length:Int)))),(9,I 0)] [0] [(Qv2 p0)] hq (pc (rnd Qal) (prr (pc (rnd Qal) (pw (pw pn))))) (qb (lc (rnd Qam) (lc (rnd Qal) (lcc ln))) qn)) ?_
   refine Qbx (τ:=Int) (fun n t=>Qc3 N p0 k1 p1 n t=some r) (fun y2=>⟨mk 37 [(1,(.dat 1 (p1.map Qah))),(2,.ref 0 4 0 0),(7,(.dat 1 (p1.map Qah))),(8,(I ((p1.length:Int)))),(9,I y2)],[(Qv2 p0)]⟩) (fun t h=>by rw[Qc3] at h;cases h) (fun n4 ih y2 h=>?_) N (0) h
   rw[Qc3] at h
   skip
   refine wxz<|wsq ?_
   refine bfe h (fun hc5 h=>?_) fun hc5 h=>?_
   ·refine wft hc5<|Qai<|thn<|wsq<|Qaf ?_
    obtain⟨x6,hg7,h⟩:=bno h
    obtain⟨hi8,hj9⟩:=gsm hg7
    refine wx tbk [(1,rp _ _)] ⟨aiq underlying26 ti3 Qah hi8 hj9,tv⟩ ?_
    refine bfe h (fun hb10 h=>?_) fun hb10 h=>?_
    ·exact wx tbk [(3,rp _ _),(5,rp [(.tmp 18,(B ((decide (y2≥(p0.Inlets.length:Int))))))] (B true))] ⟨alq 2 Qa1 p0.Inlets underlying67,asb hb10 (amv rfl),tv⟩<|wtr<|wxz<|Qag<|Qaq<|Qae<|Qae<|Qaq<|Qae<|frb h
    ·obtain⟨x11,hg12,h⟩:=bno h
     obtain⟨hi13,hj14⟩:=gsm hg12
     obtain⟨x16,hf15,h⟩:=bno h
     obtain⟨x18,hf17,h⟩:=bno h
     refine wx tbk [(3,rp _ _),(5,rp [(.tmp 18,(B ((decide (y2≥(p0.Inlets.length:Int))))))] (B false)),(10,rp [(.tmp 19,B false),(.tmp 22,(Q79 p0)),(.tmp 23,I y2)] (.dptr (Qa1 x11) 0)),(12,rp [(.tmp 19,B false),fu 58,(.tmp 25,(.agg [I x11.Site,(.dat 2 (x11.Stairs.map Qaz))]))] (I x16)),(13,rp [(.tmp 19,B false),fu 34,(.tmp 20,I x6),ci 0,(.tmp 26,I x16)] (B x18))] ⟨alq 2 Qa1 p0.Inlets underlying67,asb hb10 (amv rfl),ag_ (aiq underlying67 ti90 Qa1 hi13 hj14),ag_ (apv Q57 (Qkz N x11 _ hf15) (nlc (NLt.agg _ (nlc nll (nlc (nld Qaw _) nl0))) nl0) nll),ag_ (apv Qjn (Qde N x6 0 x16 _ hf17) (nlcc (nlc nll nl0)) nll),tv⟩ ?_
     refine bfe h (fun hc19 h=>?_) fun hc19 h=>?_
     ·exact wft hc19<|wxz<|Qag<|Qaq<|Qae<|Qae<|Qaq<|Qae<|frb h
     ·exact wfn hc19<|Qai<|bln<|thn<|wxz1<|thn<|arm (mto (n:=37) [(1,(.dat 1 (p1.map Qah))),(2,.ref 0 4 0 0),(7,(.dat 1 (p1.map Qah))),(8,(I ((p1.length:Int)))),(9,(I (w64 (y2+1))))] [0] [(Qv2 p0)] hq (pc (rnd Qal) (prr (pc (rnd Qal) (pw (pw pn))))) (qb (lc (rnd Qam) (lc (rnd Qal) (lcc ln))) qn)) (ih (w64 (y2+1)) h)
   ·exact wfn hc5<|Qa3<|Qan<|Qan<|Qa2 rfl<|thn<|⟨(),h,(mto (n:=37) [(1,(.dat 1 (p1.map Qah))),(2,.ref 0 4 0 0)] [0] [(Qv2 p0)] hq (pc (rnd Qal) (prr pn)) (qb (lc (rnd Qam) (lc (rnd Qal) (lcc ln))) qn))⟩
def Qdf (N:Nat) (p0:Qba) (k2:Int→Option Int):Nat→Int→Int→Int→Option Int
  |0,_,_,_=>none
  |n9+1,y3,y4,y5=>
    bif (decide (y5<(p0.Stairs.length:Int))) then
     (getI p0.Stairs y5).bind fun x11=>
     (some (w64 ((if x11.Amount<y3 then x11.Amount else y3)*x11.Price))).bind fun x15=>
     (some (w64 (y3-(if x11.Amount<y3 then x11.Amount else y3)))).bind fun x17=>
     Qdf N p0 k2 n9 x17 (w64 (y4+x15)) (w64 (y5+1))
    else
     k2 (y4)
def Qf8 (N:Nat) (p0:Qba) (p1:Int):Option Int:=
  Qcy (fun y1=>
    some y1) fun k2:Int→Option Int=>
  Qdf N p0 k2 N p1 0 0
def Q1z (p0:Qba):AV:=.dat 2 (p0.Stairs.map Qaz)
theorem Qlj (N:Nat) (p0:Qba) (p1 r:Int) (h:Qf8 N p0 p1=some r):Spec prog 41 [(.agg (Qa1 p0)),(I p1)] [] (I r) []:=by
  refine sA func41 0 fun _ _ _ hq hd0=>?_
  unfold Qf8 at h
  refine wxz ?_
  obtain⟨k2,hk_k2,h⟩:=jko h
  refine wjn (τ:=Int) (fun t=>k2 t=some r) (fun y1=>⟨mk 31 [(4,I y1)],[]⟩) (fun y1 h=>?_) ?_
  ·subst hk_k2
   refine wxz<|Qag ?_
   obtain rfl:=osi h
   exact fend ⟨[I y1],⟨rot,tv⟩,rfl⟩ nll
  ·skip
   refine wx tbk [(2,rp _ _)] ⟨alq 2 Qaz p0.Stairs underlying88,tv⟩<|Qaf ?_
   refine wmr (mto (n:=31) (l':=[(1,I p1),(4,I 0),(8,(Q1z p0)),(9,(I ((p0.Stairs.length:Int)))),(10,I 0)]) (own':=[]) [(1,I p1),(4,I 0),(8,(Q1z p0)),(9,(I ((p0.Stairs.length:Int)))),(10,I 0)] [] [] hq (pw (pw (pc (rnd Qaw) (pw (pw pn))))) qn) ?_
   refine Qbx (τ:=Int×Int×Int) (fun n t=>Qdf N p0 k2 n t.1 t.2.1 t.2.2=some r) (fun ⟨y3,y4,y5⟩=>⟨mk 31 [(1,I y3),(4,I y4),(8,(Q1z p0)),(9,(I ((p0.Stairs.length:Int)))),(10,I y5)],[]⟩) (fun t h=>by rw[Qdf] at h;cases h) (fun n9 ih t h=>?_) N (p1,0,0) h
   obtain⟨y3,y4,y5⟩:=t
   rw[Qdf] at h
   skip
   refine wxz<|wsq ?_
   refine bfe h (fun hc10 h=>?_) fun hc10 h=>?_
   ·refine wft hc10<|Qai<|thn<|wsq<|Qaf ?_
    obtain⟨x11,hg12,h⟩:=bno h
    obtain⟨hi13,hj14⟩:=gsm hg12
    refine wx tbk [(0,rp _ _)] ⟨aiq underlying88 ti91 Qaz hi13 hj14,tv⟩ ?_
    obtain⟨x15,hl16,h⟩:=bno h
    refine wx tbk [(4,rp [(.tmp 15,I y3),(.tmp 17,I x11.Amount)] (I ((if x11.Amount<y3 then x11.Amount else y3)))),(7,rp [(.tmp 18,(I ((if x11.Amount<y3 then x11.Amount else y3)))),(.tmp 20,I x11.Price)] (I x15))] ⟨Qke rfl,Qfh hl16 (abn rfl rfl),tv⟩ ?_
    obtain⟨x17,hl18,h⟩:=bno h
    exact wx1 tbk [(4,rp [(.tmp 24,I y3),(.tmp 26,I x11.Amount)] (I ((if x11.Amount<y3 then x11.Amount else y3)))),(6,rp [(.tmp 28,(I (w64 (y3-(if x11.Amount<y3 then x11.Amount else y3)))))] (I x17))] ⟨Qke rfl,Qfh hl18 (aas rfl),tv⟩<|bln<|thn<|wxz1<|thn<|arm (mto (n:=31) [(1,I x17),(4,(I (w64 (y4+x15)))),(8,(Q1z p0)),(9,(I ((p0.Stairs.length:Int)))),(10,(I (w64 (y5+1))))] [] [] hq (pw (pw (pc (rnd Qaw) (pw (pw pn))))) qn) (ih (x17,w64 (y4+x15),w64 (y5+1)) h)
   ·exact wfn hc10<|Qa3<|Qan<|Qan<|Qa2 rfl<|thn<|⟨(y4),h,(mto (n:=31) [(4,I y4)] [] [] hq (pw pn) qn)⟩
def Qev (N:Nat) (p1:Qa7) (p2:List Int) (k8:Int→Option (Int×Int)):Nat→Int→Int→Option (Int×Int)
  |0,_,_=>none
  |n13+1,y9,y10=>
    bif (decide (y10<(p1.Inlets.length:Int))) then
     (getI p1.Inlets y10).bind fun x15=>
     (getI p2 y10).bind fun x19=>
     (Qf8 N x15 x19).bind fun x24=>
     Qev N p1 p2 k8 n13 (w64 (y9+x24)) (w64 (y10+1))
    else
     k8 (y9)
def Qhz (N:Nat) (p0:Qat) (p1:Qa7) (p2:List Int):Option (Int×Int):=
  (Qec N p0 p1).bind fun x2=>
  bif (x2 != 0) then
   some (0,x2)
  else
   (Qfb N p1 p2).bind fun x5=>
   bif (!x5) then
    some (0,1)
   else
    Qcy (fun y7=>
      some (y7,0)) fun k8:Int→Option (Int×Int)=>
    Qev N p1 p2 k8 N 0 0
def Q11 (p1:Qa7):AV:=.dat 2 (p1.Inlets.map Qa1)
theorem Qoy (N:Nat) (p0:Qat) (p1:Qa7) (p2:List Int) (r:(Int×Int)) (h:Qhz N p0 p1 p2=some r):Spec prog 24 [(.agg (Qf9 p0)),(.agg (Qhm p1)),(.dat 1 (p2.map Qah))] [] (.tup [(I r.1),(I r.2)]) []:=by
  refine sA func24 0 fun _ _ _ hq hd0=>?_
  unfold Qhz at h
  refine wxz<|wsq ?_
  obtain⟨x2,hf1,h⟩:=bno h
  refine wx tbk [(2,rp _ _)] ⟨apw Q0c (Qi1 N p0 p1 _ hf1),tv⟩<|wxz ?_
  refine bfe h (fun hc3 h=>?_) fun hc3 h=>?_
  ·refine wft hc3<|wxz<|Qag<|Qae ?_
   obtain rfl:=osi h
   exact fie [I 0,I x2] ⟨rot,rot,tv⟩
  ·refine wfn hc3<|Qai<|thn<|wsq ?_
   obtain⟨x5,hf4,h⟩:=bno h
   refine wx tbk [(2,rp _ _)] ⟨apw Q6f (Qkn N p1 p2 _ hf4),tv⟩ ?_
   refine bfe h (fun hc6 h=>?_) fun hc6 h=>?_
   ·refine wft hc6<|wxz<|Qag<|Qae ?_
    obtain rfl:=osi h
    exact fie [I 0,I 1] ⟨rot,rot,tv⟩
   ·refine wfn hc6<|Qai<|thn<|wxz ?_
    obtain⟨k8,hk_k8,h⟩:=jko h
    refine wjn (τ:=Int) (fun t=>k8 t=some r) (fun y7=>⟨mk 40 [(9,I y7)],[]⟩) (fun y7 h=>?_) ?_
    ·subst hk_k8
     refine wxz<|Qag ?_
     obtain rfl:=osi h
     exact fie [I y7,I 0] ⟨rot,rot,tv⟩
    ·skip
     refine wx tbk [(2,rp _ _)] ⟨alq 2 Qa1 p1.Inlets underlying67,tv⟩<|Qaf ?_
     refine wmr (mto (n:=40) (l':=[(2,(.dat 1 (p2.map Qah))),(9,I 0),(23,(Q11 p1)),(24,(I ((p1.Inlets.length:Int)))),(25,I 0)]) (own':=[]) [(2,(.dat 1 (p2.map Qah))),(9,I 0),(23,(Q11 p1)),(24,(I ((p1.Inlets.length:Int)))),(25,I 0)] [] [] hq (pc (rnd Qal) (pw (pc (rnd Qam) (pw (pw pn))))) qn) ?_
     refine Qbx (τ:=Int×Int) (fun n t=>Qev N p1 p2 k8 n t.1 t.2=some r) (fun ⟨y9,y10⟩=>⟨mk 40 [(2,(.dat 1 (p2.map Qah))),(9,I y9),(23,(Q11 p1)),(24,(I ((p1.Inlets.length:Int)))),(25,I y10)],[]⟩) (fun t h=>by rw[Qev] at h;cases h) (fun n13 ih t h=>?_) N (0,0) h
     obtain⟨y9,y10⟩:=t
     rw[Qev] at h
     skip
     refine wxz<|wsq ?_
     refine bfe h (fun hc14 h=>?_) fun hc14 h=>?_
     ·refine wft hc14<|Qai<|thn<|wsq<|Qaf ?_
      obtain⟨x15,hg16,h⟩:=bno h
      obtain⟨hi17,hj18⟩:=gsm hg16
      refine wx tbk [(1,rp _ _)] ⟨aiq underlying67 ti90 Qa1 hi17 hj18,tv⟩ ?_
      obtain⟨x19,hg20,h⟩:=bno h
      obtain⟨hi21,hj22⟩:=gsm hg20
      obtain⟨x24,hf23,h⟩:=bno h
      exact wy1 tbk [(4,rp _ _),(6,rp _ _)] ⟨aiq underlying26 ti3 Qah hi21 hj22,apw Q6e (Qlj N x15 x19 _ hf23),tv⟩<|bln<|thn<|wxz1<|thn<|arm (mto (n:=40) [(2,(.dat 1 (p2.map Qah))),(9,(I (w64 (y9+x24)))),(23,(Q11 p1)),(24,(I ((p1.Inlets.length:Int)))),(25,(I (w64 (y10+1))))] [] [] hq (pc (rnd Qal) (pw (pc (rnd Qam) (pw (pw pn))))) qn) (ih (w64 (y9+x24),w64 (y10+1)) h)
     ·exact wfn hc14<|Qa3<|Qan<|Qan<|Qa2 rfl<|thn<|⟨(y9),h,(mto (n:=40) [(9,I y9)] [] [] hq (pw pn) qn)⟩
end
end Go.Proofs.Ytcoojdacfknboac
