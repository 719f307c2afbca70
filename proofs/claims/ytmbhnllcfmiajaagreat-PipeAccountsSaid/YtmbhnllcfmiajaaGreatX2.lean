/-
  Functions of the program: what they compute, as plain functions, and that they do. No conditions.
-/
import Derived.Test.YtmbhnllcfmiajaaGreatX1
namespace Go.Proofs.YtmbhnllcfmiajaaGreat
set_option maxRecDepth 100000
set_option maxHeartbeats 4000000
open Go.RowKit
def Qc8 (N:Nat) (k11:(List (Int×Int))→Option (List (Int×Int))) (x12:GElement):Nat→Int→(List (Int×Int))→Option (List (Int×Int))
  | 0,_,_=>none
  | n20+1,y16,y17=>
    bif (decide (y16<(x12.From.length:Int))) then
     (getI x12.From y16).bind fun x22=>
     Qc8 N k11 x12 n20 (w64 (y16+1)) (addQ y17 (x22.Element,x22.Outlet))
    else
     k11 (y17)
def Qc9 (N:Nat) (p0:GNet) (k3:(List (Int×Int))→Option (List (Int×Int))):Nat→Int→(List (Int×Int))→Option (List (Int×Int))
  | 0,_,_=>none
  | n8+1,y4,y5=>
    bif (decide (y4<(p0.Elements.length:Int))) then
     Qbb (fun y10=>
       Qc9 N p0 k3 n8 (w64 (y4+1)) y10) fun k11:(List (Int×Int))→Option (List (Int×Int))=>
     (getI p0.Elements y4).bind fun x12=>
     Qc8 N k11 x12 N 0 y5
    else
     k3 (y5)
def Qf6 (N:Nat) (p0:GNet):Option (List (Int×Int)):=
  Qbb (fun y2=>
    some y2) fun k3:(List (Int×Int))→Option (List (Int×Int))=>
  Qc9 N p0 k3 N 0 ([]:List (Int×Int))
def Qpl (p0:GNet):AV:=.dat 7 ((p0.Elements:List GElement).map Qad)
def Qzg:AV:=.fn (.func 110) [] [(.ref 0 2 (0) 0),(.ref 1 1 (0) 0)]
def Qox (p0:GNet):Slot:=.own 2 [[(.dat 5 ((p0.Table:List GRow).map Qa4)),(Qpl p0)]]
def Qvn (x12:GElement):AV:=.dat 2 ((x12.From:List GPort).map Qap)
theorem Qlb (N:Nat) (p0:GNet) (r:(List (Int×Int))) (h:Qf6 N p0=some r):Spec Tryz.prog 75 [(.agg [(.dat 5 ((p0.Table:List GRow).map Qa4)),(Qpl p0)])] [] Qzg [(Qox p0),(.own 1 [[(.mp 2)]]),(Qdc r)]:=by
  refine Qah Tryz.func75 rfl 3 (nle rfl) (fun X φ0 w0 hφ0 hd0=>?_)
  unfold Qf6 at h
  refine Qb0<|wxz ?_
  refine wx tbk [(0,⟨[],[(1,.unused)],(.mp 1),[(1,(Qdc ([]:List (Int×Int))))],false⟩)] ⟨Qr1 rfl,tv⟩ ?_
  obtain ⟨k3,hk_k3,h⟩:=jko h
  refine wjn (τ:=(List (Int×Int))) (fun t=>k3 t=some r) (fun y2=>⟨mk 28 [(1,.ref 0 2 0 0),(3,.ref 1 1 0 0)],[(Qox p0),(.own 1 [[(.mp 2)]]),(Qdc y2)]⟩) (fun y2 h=>?_) ?_
  ·subst hk_k3
   refine wx tbk [(0,rp [(.tmp 1,.ref 0 2 0 0),(.tmp 3,.ref 1 1 0 0)] Qzg)] ⟨Qf7 (fs:=[]) (cs:=[.ref 0 2 0 0,.ref 1 1 0 0]) rfl rfl rfl rfl,tv⟩ ?_
   refine wmr (mto (n:=28) (l':=[(2,Qzg)]) (own':=[(Qox p0),(.own 1 [[(.mp 2)]]),(Qdc y2)]) [(2,Qzg)] [0,1,2] [(Qox p0),(.own 1 [[(.mp 2)]]),(Qdc y2)] hφ0 (pc (.rn (Qbp rn0 (rnc (rqr rfl) (rnc (rqr rfl) rn0)))) pn) (qb (lc (rnd Qai) (lc (rnd Qab) ln)) (qb (lc (.rn (Qif rfl)) ln) (qc Qe4 qn))))<|Qaf ?_
   obtain rfl:=osi h
   exact ⟨_,Mor.rfl,Qdf (vs:=[Qzg]) ⟨rot,tv⟩ rfl (NLt.fn _ _ _ nl0 (nlc (NLt.ref _ _ _ _ (by decide)) (nlc (NLt.ref _ _ _ _ (by decide)) nl0))) (by kernel_rfl) (Qao (Qbi (nlc (NLt.of0 (nld Qai _)) (nlc (NLt.of0 (nld Qab _)) nl0))) (Qao (Qbi (nlc (NLt.mp _ (by decide)) nl0)) (Qao Zgb Qby)))⟩
  ·skip
   refine wx tbk [(2,rp [(.tmp 10,(Qpl p0))] (I ((p0.Elements.length:Int))))] ⟨alm (c:=Qad) (l:=p0.Elements) (aln rfl Tryz.underlying40 rfl),tv⟩<|Qaj ?_
   refine wmr (mto (n:=28) (l':=[(1,.ref 0 2 0 0),(3,.ref 1 1 0 0),(10,(Qpl p0)),(11,(I ((p0.Elements.length:Int)))),(12,I 0)]) (own':=[(Qox p0),(.own 1 [[(.mp 2)]]),(Qdc ([]:List (Int×Int)))]) [(1,.ref 0 2 0 0),(3,.ref 2 1 0 0),(10,(Qpl p0)),(11,(I ((p0.Elements.length:Int)))),(12,I 0)] [0,2,1] [(Qox p0),(.own 1 [[(.mp 1)]]),(Qdc ([]:List (Int×Int)))] hφ0 (prr (prr (pc (rnd Qab) (pw (pw pn))))) (qb (lc (rnd Qai) (lc (rnd Qab) ln)) (qb (lc (.rn (Qif rfl)) ln) (qc Qe4 qn)))) ?_
   refine Qbt (τ:=Int×(List (Int×Int))) (fun n t=>Qc9 N p0 k3 n t.1 t.2=some r) (fun ⟨y4,y5⟩=>⟨mk 28 [(1,.ref 0 2 0 0),(3,.ref 1 1 0 0),(10,(Qpl p0)),(11,(I ((p0.Elements.length:Int)))),(12,I y4)],[(Qox p0),(.own 1 [[(.mp 2)]]),(Qdc y5)]⟩) (fun t h=>by rw [Qc9] at h; cases h) (fun n8 ih t h=>?_) N (0,([]:List (Int×Int))) h
   obtain ⟨y4,y5⟩:=t
   rw [Qc9] at h
   skip
   refine wxz<|wsq ?_
   refine bfe h (fun hc9 h=>?_) fun hc9 h=>?_
   ·refine wft hc9<|Qan<|thn ?_
    obtain ⟨k11,hk_k11,h⟩:=jko h
    refine wjn (τ:=(List (Int×Int))) (fun t=>k11 t=some r) (fun y10=>⟨mk 28 [(1,.ref 0 2 0 0),(3,.ref 1 1 0 0),(10,(Qpl p0)),(11,(I ((p0.Elements.length:Int)))),(12,I y4)],[(Qox p0),(.own 1 [[(.mp 2)]]),(Qdc y10)]⟩) (fun y10 h=>?_) ?_
    ·subst hk_k11
     exact wxz1<|thn<|arm (mto (n:=28) [(1,.ref 0 2 0 0),(3,.ref 1 1 0 0),(10,(Qpl p0)),(11,(I ((p0.Elements.length:Int)))),(12,(I (w64 (y4+1))))] [0,1,2] [(Qox p0),(.own 1 [[(.mp 2)]]),(Qdc y10)] hφ0 (prr (prr (pc (rnd Qab) (pw (pw pn))))) (qb (lc (rnd Qai) (lc (rnd Qab) ln)) (qb (lc (.rn (Qif rfl)) ln) (qc Qe4 qn)))) (ih (w64 (y4+1),y10) h)
    ·skip
     refine Qaj ?_
     obtain ⟨x12,hg13,h⟩:=bno h
     obtain ⟨hi14,hj15⟩:=gsm hg13
     refine wx tbk [(0,rp [(.tmp 10,(Qpl p0)),(.tmp 12,I y4)] (.dptr (Qad (x12)) 0))] ⟨aid rfl Tryz.underlying40 Qk0 rfl rfl hi14 (mgt Qad hj15) rfl,tv⟩ ?_
     refine wx tbk [(2,rp [(.tmp 17,(Qvn x12))] (I ((x12.From.length:Int))))] ⟨alm (c:=Qap) (l:=x12.From) (aln rfl Tryz.underlying116 rfl),tv⟩<|Qaj ?_
     refine wmr (mto (n:=28) (l':=[(1,.ref 0 2 0 0),(3,.ref 1 1 0 0),(10,(Qpl p0)),(11,(I ((p0.Elements.length:Int)))),(12,I y4),(17,(Qvn x12)),(18,(I ((x12.From.length:Int)))),(19,I 0)]) (own':=[(Qox p0),(.own 1 [[(.mp 2)]]),(Qdc y5)]) [(1,.ref 0 2 0 0),(3,.ref 1 1 0 0),(10,(Qpl p0)),(11,(I ((p0.Elements.length:Int)))),(12,I y4),(17,(Qvn x12)),(18,(I ((x12.From.length:Int)))),(19,I 0)] [0,1,2] [(Qox p0),(.own 1 [[(.mp 2)]]),(Qdc y5)] hφ0 (prr (prr (pc (rnd Qab) (pw (pw (pc (rnd Qay) (pw (pw pn)))))))) (qb (lc (rnd Qai) (lc (rnd Qab) ln)) (qb (lc (.rn (Qif rfl)) ln) (qc Qe4 qn)))) ?_
     refine Qbt (τ:=Int×(List (Int×Int))) (fun n t=>Qc8 N k11 x12 n t.1 t.2=some r) (fun ⟨y16,y17⟩=>⟨mk 28 [(1,.ref 0 2 0 0),(3,.ref 1 1 0 0),(10,(Qpl p0)),(11,(I ((p0.Elements.length:Int)))),(12,I y4),(17,(Qvn x12)),(18,(I ((x12.From.length:Int)))),(19,I y16)],[(Qox p0),(.own 1 [[(.mp 2)]]),(Qdc y17)]⟩) (fun t h=>by rw [Qc8] at h; cases h) (fun n20 ih t h=>?_) N (0,y5) h
     obtain ⟨y16,y17⟩:=t
     rw [Qc8] at h
     skip
     refine wxz<|wsq ?_
     refine bfe h (fun hc21 h=>?_) fun hc21 h=>?_
     ·refine wft hc21<|Qan<|thn<|wsq<|Qaj ?_
      obtain ⟨x22,hg23,h⟩:=bno h
      obtain ⟨hi24,hj25⟩:=gsm hg23
      refine wx tbk [(0,rp [(.tmp 17,(Qvn x12)),(.tmp 19,I y16)] (.dptr (Qap (x22)) 0))] ⟨aid rfl Tryz.underlying116 Qq3 rfl rfl hi24 (mgt Qap hj25) rfl,tv⟩ ?_
      exact wx1 tbk [(2,⟨[(.tmp 23,(.mp 2)),(.tmp 24,(.agg [I x22.Element,I x22.Outlet])),cb true],[(2,(Qdc y17))],.any,[(2,(Qdc (addQ y17 (x22.Element,x22.Outlet))))],false⟩)] ⟨Quy rfl Tryz.underlying190 Tryz.underlying120 Qwe Quh,tv⟩<|bln<|thn<|wxz1<|thn<|arm (mto (n:=28) [(1,.ref 0 2 0 0),(3,.ref 1 1 0 0),(10,(Qpl p0)),(11,(I ((p0.Elements.length:Int)))),(12,I y4),(17,(Qvn x12)),(18,(I ((x12.From.length:Int)))),(19,(I (w64 (y16+1))))] [0,1,2] [(Qox p0),(.own 1 [[(.mp 2)]]),(Qdc (addQ y17 (x22.Element,x22.Outlet)))] hφ0 (prr (prr (pc (rnd Qab) (pw (pw (pc (rnd Qay) (pw (pw pn)))))))) (qb (lc (rnd Qai) (lc (rnd Qab) ln)) (qb (lc (.rn (Qif rfl)) ln) (qc Qe4 qn)))) (ih (w64 (y16+1),addQ y17 (x22.Element,x22.Outlet)) h)
     ·exact wfn hc21<|Qbd<|Qax<|Qax<|Qbc rfl<|bln<|thn<|⟨(y17),h,(mto (n:=28) [(1,.ref 0 2 0 0),(3,.ref 1 1 0 0),(10,(Qpl p0)),(11,(I ((p0.Elements.length:Int)))),(12,I y4)] [0,1,2] [(Qox p0),(.own 1 [[(.mp 2)]]),(Qdc y17)] hφ0 (prr (prr (pc (rnd Qab) (pw (pw pn))))) (qb (lc (rnd Qai) (lc (rnd Qab) ln)) (qb (lc (.rn (Qif rfl)) ln) (qc Qe4 qn))))⟩
   ·exact wfn hc9<|Qbd<|Qax<|Qax<|Qbc rfl<|thn<|⟨(y5),h,(mto (n:=28) [(1,.ref 0 2 0 0),(3,.ref 1 1 0 0)] [0,1,2] [(Qox p0),(.own 1 [[(.mp 2)]]),(Qdc y5)] hφ0 (prr (prr pn)) (qb (lc (rnd Qai) (lc (rnd Qab) ln)) (qb (lc (.rn (Qif rfl)) ln) (qc Qe4 qn))))⟩
def Qcr (N:Nat) (y1:Int) (p2:(List (Int×Int))) (k8:Unit→Option (List GPort)) (x14:Int):Nat→Int→Option (List GPort)
  | 0,_=>none
  | n19+1,y15=>
    bif (decide (y15<x14)) then
     bif (!(p2.contains (y1,y15))) then
      yld (⟨y1,y15⟩:GPort)<|
      Qcr N y1 p2 k8 x14 n19 (w64 (y15+1))
     else
      Qcr N y1 p2 k8 x14 n19 (w64 (y15+1))
    else
     k8 ()
def Qcs (N:Nat) (p1:(List GElement)) (p2:(List (Int×Int))):Nat→Int→Option (List GPort)
  | 0,_=>none
  | n5+1,y1=>
    bif (decide (y1<(p1.length:Int))) then
     Qbb (fun _=>
       Qcs N p1 p2 n5 (w64 (y1+1))) fun k8:Unit→Option (List GPort)=>
     (getI p1 y1).bind fun x9=>
     (Qd6 N x9).bind fun x14=>
     Qcr N y1 p2 k8 x14 N 0
    else
     some ([])
def Qf5 (N:Nat) (_p0:(List GRow)) (p1:(List GElement)) (p2:(List (Int×Int))):Option (List GPort):=
  Qcs N p1 p2 N 0
def Qpk (p1:(List GElement)):AV:=.dat 7 ((p1:List GElement).map Qad)
def Qr9 (p0:(List GRow)) (p1:(List GElement)):Slot:=.own 2 [[(.dat 5 ((p0:List GRow).map Qa4)),(Qpk p1)]]
def Zpb (x9:GElement):AV:=.agg [(K .u8 (x9.Kind)),(.dat 2 ((x9.From:List GPort).map Qap)),(I (x9.Level)),(I (x9.Amount)),(I (x9.Wide)),(I (x9.Narrow)),(.dat 1 ((x9.Weights:List Int).map Qal))]
def Qop (y1:Int) (y15:Int):AV:=.agg [(I (y1)),(I (y15))]
theorem Qla (N:Nat) (p0:(List GRow)) (p1:(List GElement)) (p2:(List (Int×Int))) (r:(List GPort)) (h:Qf5 N p0 p1 p2=some r):Qu6 Tryz.prog 110 [(.ref 0 2 (0) 0),(.ref 1 1 (0) 0)] [(Qr9 p0 p1),(.own 1 [[(.mp 2)]]),(Qdc p2)] (fun x=>[(.agg #[(.int .i64 (x.Element)),(.int .i64 (x.Outlet))])]) r:=by
  refine Qvx Tryz.func110 rfl rfl (fun X φ0 w0 l J hφ0 hy=>?_)
  unfold Qf5 at h
  refine wx tbk [(2,rp [(.tmp 9,(Qpk p1))] (I ((p1.length:Int))))] ⟨alm (c:=Qad) (l:=p1) (aln rfl Tryz.underlying40 rfl),tv⟩<|Qaj ?_
  refine wmr (mto (n:=36) (l':=[(0,(.lit (.func (.yield l) #[] #[]))),(2,.ref 1 1 0 0),(9,(Qpk p1)),(10,(I ((p1.length:Int)))),(11,I 0)]) (own':=[(Qr9 p0 p1),(.own 1 [[(.mp 2)]]),(Qdc p2),(.far (J (some (r))))]) [(0,(.lit (.func (.yield l) #[] #[]))),(2,.ref 1 1 0 0),(9,(Qpk p1)),(10,(I ((p1.length:Int)))),(11,I 0)] [0,1,2,3] [(Qr9 p0 p1),(.own 1 [[(.mp 2)]]),(Qdc p2),(.far (J (some (r))))] hφ0 (pw (prr (pc (rnd Qab) (pw (pw pn))))) (qb (lc (rnd Qai) (lc (rnd Qab) ln)) (qb (lc (.rn (Qif rfl)) ln) (qc Qe4 (qc (.far _) qn))))) ?_
  refine Qbt (τ:=(Int)×List GPort) (fun n t=>Qcs N p1 p2 n t.1=some t.2) (fun ⟨y1,q2⟩=>⟨mk 36 [(0,(.lit (.func (.yield l) #[] #[]))),(2,.ref 1 1 0 0),(9,(Qpk p1)),(10,(I ((p1.length:Int)))),(11,I y1)],[(Qr9 p0 p1),(.own 1 [[(.mp 2)]]),(Qdc p2),(.far (J (some (q2))))]⟩) (fun t h=>by rw [Qcs] at h; cases h) (fun n5 ih t h=>?_) N ((0),r) h
  obtain ⟨y1,q2⟩:=t
  rw [Qcs] at h
  try dsimp only at h
  refine wxz<|wsq ?_
  refine bfe h (fun hc6 h=>?_) fun hc6 h=>?_
  ·refine wft hc6<|Qan<|thn ?_
   obtain ⟨k8,hk_k8,h⟩:=jko h
   refine wjn (τ:=(Unit)×List GPort) (fun t=>k8 t.1=some t.2) (fun ⟨_,q7⟩=>⟨mk 36 [(0,(.lit (.func (.yield l) #[] #[]))),(2,.ref 1 1 0 0),(9,(Qpk p1)),(10,(I ((p1.length:Int)))),(11,I y1)],[(Qr9 p0 p1),(.own 1 [[(.mp 2)]]),(Qdc p2),(.far (J (some (q7))))]⟩) (fun t h=>?_) ?_
   ·subst hk_k8
    obtain ⟨_,q7⟩:=t
    exact wxz1<|thn<|arm (mto (n:=36) [(0,(.lit (.func (.yield l) #[] #[]))),(2,.ref 1 1 0 0),(9,(Qpk p1)),(10,(I ((p1.length:Int)))),(11,(I (w64 (y1+1))))] [0,1,2,3] [(Qr9 p0 p1),(.own 1 [[(.mp 2)]]),(Qdc p2),(.far (J (some (q7))))] hφ0 (pw (prr (pc (rnd Qab) (pw (pw pn))))) (qb (lc (rnd Qai) (lc (rnd Qab) ln)) (qb (lc (.rn (Qif rfl)) ln) (qc Qe4 (qc (.far _) qn))))) (ih ((w64 (y1+1)),q7) h)
   ·skip
    refine Qaj ?_
    obtain ⟨x9,hg10,h⟩:=bno h
    obtain ⟨hi11,hj12⟩:=gsm hg10
    refine wx tbk [(1,rp [(.tmp 9,(Qpk p1)),(.tmp 11,I y1)] (.dptr (Qad (x9)) 0))] ⟨aid rfl Tryz.underlying40 Qk0 rfl rfl hi11 (mgt Qad hj12) rfl,tv⟩ ?_
    obtain ⟨x14,hf13,h⟩:=bno h
    refine wx tbk [(1,rp [fu 103,(.tmp 16,(Zpb x9))] (I x14))] ⟨apv Q6g (Qij N x9 _ hf13) (nlc (NLt.agg _ (nlc nll (nlc (nld Qay _) (nlcc (nlcc (nlc (nld Qae _) nl0)))))) nl0) nll,tv⟩<|Qaj ?_
    refine wmr (mto (n:=36) (l':=[(0,(.lit (.func (.yield l) #[] #[]))),(2,.ref 1 1 0 0),(4,I y1),(9,(Qpk p1)),(10,(I ((p1.length:Int)))),(11,I y1),(17,I x14),(18,I 0)]) (own':=[(Qr9 p0 p1),(.own 1 [[(.mp 2)]]),(Qdc p2),(.far (J (some (q2))))]) [(0,(.lit (.func (.yield l) #[] #[]))),(2,.ref 1 1 0 0),(4,I y1),(9,(Qpk p1)),(10,(I ((p1.length:Int)))),(11,I y1),(17,I x14),(18,I 0)] [0,1,2,3] [(Qr9 p0 p1),(.own 1 [[(.mp 2)]]),(Qdc p2),(.far (J (some (q2))))] hφ0 (pw (prr (pw (pc (rnd Qab) (pw (pw (pw (pw pn)))))))) (qb (lc (rnd Qai) (lc (rnd Qab) ln)) (qb (lc (.rn (Qif rfl)) ln) (qc Qe4 (qc (.far _) qn))))) ?_
    refine Qbt (τ:=(Int)×List GPort) (fun n t=>Qcr N y1 p2 k8 x14 n t.1=some t.2) (fun ⟨y15,q16⟩=>⟨mk 36 [(0,(.lit (.func (.yield l) #[] #[]))),(2,.ref 1 1 0 0),(4,I y1),(9,(Qpk p1)),(10,(I ((p1.length:Int)))),(11,I y1),(17,I x14),(18,I y15)],[(Qr9 p0 p1),(.own 1 [[(.mp 2)]]),(Qdc p2),(.far (J (some (q16))))]⟩) (fun t h=>by rw [Qcr] at h; cases h) (fun n19 ih t h=>?_) N ((0),q2) h
    obtain ⟨y15,q16⟩:=t
    rw [Qcr] at h
    try dsimp only at h
    refine wxz<|wsq ?_
    refine bfe h (fun hc20 h=>?_) fun hc20 h=>?_
    ·refine wft hc20<|Qan<|thn<|wsq<|Qaj<|wxz ?_
     refine wx tbk [(2,rp [(.tmp 21,I y1),(.tmp 22,I y15)] (Qop y1 y15))] ⟨Qaz (vs:=[I y1,I y15]) rfl Zb2 Qu8 rfl (by rfl) rfl,tv⟩ ?_
     refine bfe h (fun hb21 h=>?_) fun hb21 h=>?_
     ·obtain ⟨q22,hy_,hq_⟩:=Q2x h
      clear h
      subst hq_
      have h:=hy_
      clear hy_
      refine Zil 7 [rb [(.tmp 2,.ref 1 1 0 0)] [(1,(.own 1 [[(.mp 2)]]))] (.mp 2),rb [(.tmp 7,.ref 4 2 0 0)] [(4,.own 2 [[I y1,I y15]])] (Qop y1 y15),rb [(.tmp 24,(.mp 2)),(.tmp 25,(Qop y1 y15))] [(2,(Qdc p2))] (B (p2.contains (y1,y15))),rp [(.tmp 26,(B (p2.contains (y1,y15))))] (B ((!(p2.contains (y1,y15))))),rp [(.tmp 27,(B ((!(p2.contains (y1,y15))))))] (B true),rp [(.tmp 28,B true),(.tmp 0,(.lit (.func (.yield l) #[] #[])))] (.lit (.func (.yield l) #[] #[])),rb [(.tmp 28,B true),(.tmp 7,.ref 4 2 0 0)] [(4,.own 2 [[I y1,I y15]])] (Qop y1 y15),⟨[(.tmp 28,B true),(.tmp 29,(.lit (.func (.yield l) #[] #[]))),(.tmp 30,(Qop y1 y15))],[(3,(.far (J (some ((⟨y1,y15⟩:GPort)::q22)))))],B true,[(3,(.far (J (some (q22)))))],false⟩,rp [(.tmp 28,B true),(.tmp 31,B true)] (B false),rp [(.tmp 28,B true),(.tmp 32,B false),cb false] (B false)] [rb [(.tmp 2,.ref 1 1 0 0)] [(1,(.own 1 [[(.mp 2)]]))] (.mp 2),rb [(.tmp 7,.ref 4 2 0 0)] [(4,.own 2 [[I y1,I y15]])] (Qop y1 y15),rb [(.tmp 24,(.mp 2)),(.tmp 25,(Qop y1 y15))] [(2,(Qdc p2))] (B (p2.contains (y1,y15))),rp [(.tmp 26,(B (p2.contains (y1,y15))))] (B ((!(p2.contains (y1,y15))))),rp [(.tmp 27,(B ((!(p2.contains (y1,y15))))))] (B true),rp [(.tmp 28,B true),(.tmp 0,(.lit (.func (.yield l) #[] #[])))] (.lit (.func (.yield l) #[] #[])),rb [(.tmp 28,B true),(.tmp 7,.ref 4 2 0 0)] [(4,.own 2 [[I y1,I y15]])] (Qop y1 y15),⟨[(.tmp 28,B true),(.tmp 29,(.lit (.func (.yield l) #[] #[]))),(.tmp 30,(Qop y1 y15))],[(3,(.far (J (some ((⟨y1,y15⟩:GPort)::q22)))))],B false,[(3,(.far (J none)))],false⟩,rp [(.tmp 28,B true),(.tmp 31,B false)] (B true),rp [(.tmp 28,B true),(.tmp 32,B true),cb false] (B true)] (by exact ⟨by kernel_rfl,by kernel_rfl⟩) (by exact ⟨by kernel_rfl,by kernel_rfl⟩) rfl rfl rfl rfl (Q1n (Qpe (rd':=(.tmp 29,.lit (.func (.yield l) #[] #[]))::[(.tmp 30,.lit (.agg #[(.int .i64 ((⟨y1,y15⟩:GPort).Element)),(.int .i64 ((⟨y1,y15⟩:GPort).Outlet))]))]) ⟨rfl,lrf,rfl,(Less.lits [(.int .i64 (y1)),(.int .i64 (y15))]),tv⟩ (Qnw (x:=(⟨y1,y15⟩:GPort)) (rest:=q22) rfl rfl hy rfl))) (⟨fun _ _=>ald rfl Zmi (by decide) rfl (nle rfl) rfl,fun _ _=>ald rfl Qq3 (by decide) rfl (nle rfl) rfl,fun _ _=>Qmx rfl Tryz.underlying190 Tryz.underlying120 zb4 Qwe Quh,fun _ _=>Qlg rfl,fun _ _=>asb hb21 (amv rfl),fun _ _=>ag_ (amv rfl),fun _ _=>ag_ (ald rfl Qq3 (by decide) rfl (nle rfl) rfl),fun _ h=>absurd rfl h,fun _ _=>ag_ (Qlg rfl),fun _ _=>apk rfl rfl,tv⟩) (⟨fun _ _=>ald rfl Zmi (by decide) rfl (nle rfl) rfl,fun _ _=>ald rfl Qq3 (by decide) rfl (nle rfl) rfl,fun _ _=>Qmx rfl Tryz.underlying190 Tryz.underlying120 zb4 Qwe Quh,fun _ _=>Qlg rfl,fun _ _=>asb hb21 (amv rfl),fun _ _=>ag_ (amv rfl),fun _ _=>ag_ (ald rfl Qq3 (by decide) rfl (nle rfl) rfl),fun _ h=>absurd rfl h,fun _ _=>ag_ (Qlg rfl),fun _ _=>apk rfl rfl,tv⟩) ?_ ?_
      ·skip
       exact wfa<|Qan<|bln<|thn<|wxz1<|thn<|arm (mto (n:=36) [(0,(.lit (.func (.yield l) #[] #[]))),(2,.ref 1 1 0 0),(4,I y1),(9,(Qpk p1)),(10,(I ((p1.length:Int)))),(11,I y1),(17,I x14),(18,(I (w64 (y15+1))))] [0,1,2,3] [(Qr9 p0 p1),(.own 1 [[(.mp 2)]]),(Qdc p2),(.far (J (some (q22))))] hφ0 (pw (prr (pw (pc (rnd Qab) (pw (pw (pw (pw pn)))))))) (qb (lc (rnd Qai) (lc (rnd Qab) ln)) (qb (lc (.rn (Qif rfl)) ln) (qc Qe4 (qc (.far _) qn))))) (ih ((w64 (y15+1)),q22) h)
      ·clear h
       refine wtr<|Qaf<|Qaq<|Qag<|Qag<|Qaq<|Qaq<|Qag<|Qag<|Qaq ?_
       exact Or.inr (by kernel_rfl)
     ·exact wx tbk [(2,rb [(.tmp 24,(.mp 2)),(.tmp 25,(Qop y1 y15))] [(2,(Qdc p2))] (B (p2.contains (y1,y15)))),(4,rp [(.tmp 27,(B ((!(p2.contains (y1,y15))))))] (B false))] ⟨Qmx rfl Tryz.underlying190 Tryz.underlying120 zb4 Qwe Quh,asb hb21 (amv rfl),tv⟩<|wfa<|Qan<|bln<|thn<|wxz1<|thn<|arm (mto (n:=36) [(0,(.lit (.func (.yield l) #[] #[]))),(2,.ref 1 1 0 0),(4,I y1),(9,(Qpk p1)),(10,(I ((p1.length:Int)))),(11,I y1),(17,I x14),(18,(I (w64 (y15+1))))] [0,1,2,3] [(Qr9 p0 p1),(.own 1 [[(.mp 2)]]),(Qdc p2),(.far (J (some (q16))))] hφ0 (pw (prr (pw (pc (rnd Qab) (pw (pw (pw (pw pn)))))))) (qb (lc (rnd Qai) (lc (rnd Qab) ln)) (qb (lc (.rn (Qif rfl)) ln) (qc Qe4 (qc (.far _) qn))))) (ih ((w64 (y15+1)),q16) h)
    ·exact wfn hc20<|Qbd<|Qax<|Qax<|Qbc rfl<|bln<|thn<|⟨((),q16),h,(mto (n:=36) [(0,(.lit (.func (.yield l) #[] #[]))),(2,.ref 1 1 0 0),(9,(Qpk p1)),(10,(I ((p1.length:Int)))),(11,I y1)] [0,1,2,3] [(Qr9 p0 p1),(.own 1 [[(.mp 2)]]),(Qdc p2),(.far (J (some (q16))))] hφ0 (pw (prr (pc (rnd Qab) (pw (pw pn))))) (qb (lc (rnd Qai) (lc (rnd Qab) ln)) (qb (lc (.rn (Qif rfl)) ln) (qc Qe4 (qc (.far _) qn)))))⟩
  ·refine wfn hc6<|Qbd<|Qax<|Qax<|Qbc rfl ?_
   obtain rfl:=osi h
   exact Or.inl rfl
def Qbq (N:Nat) (k3:(List GPort)→Option (List GPort)):(List GPort)→(List GPort)→Option (List GPort)
  | [],y6=>
    k3 (y6)
  | x9::q10,y6=>
    chk (decide ((y6.length+([x9]).length) * 16≤140737488355328))<|
    Qbq N k3 q10 (y6++([x9]))
def Qdd (N:Nat) (p0:(List GRow)) (p1:(List GElement)) (p2:(List (Int×Int))):Option (List GPort):=
  Qbb (fun y2=>
    some y2) fun k3:(List GPort)→Option (List GPort)=>
  (Qf5 N p0 p1 p2).bind fun q4=>
  Qbq N k3 q4 ([])
def Zls:AV:=.fn (.func 110) [] [(.ref 0 2 (0) 0),(.ref 1 1 (0) 0)]
def Zft (p0:(List GRow)):AV:=.dat 5 ((p0:List GRow).map Qa4)
def Zfs (p1:(List GElement)):AV:=.dat 7 ((p1:List GElement).map Qad)
def Za1 (y6:(List GPort)):AV:=.acc 4 120 2 ((y6:List GPort).map Qap)
theorem Qhb (N:Nat) (p0:(List GRow)) (p1:(List GElement)) (p2:(List (Int×Int))) (r:(List GPort)) (h:Qdd N p0 p1 p2=some r):Spec Tryz.prog 111 [nilS,Zls] [(.own 2 [[(Zft p0),(Zfs p1)]]),(.own 1 [[(.mp 2)]]),(Qdc p2)] (.dat 2 ((r:List GPort).map Qap)) [.dead,.dead,.dead]:=by
  refine Qah Tryz.func111 rfl 3 (nle rfl) (fun X φ0 w0 hφ0 hd0=>?_)
  unfold Qdd at h
  refine Qb0<|wxz ?_
  obtain ⟨k3,hk_k3,h⟩:=jko h
  refine wjn (τ:=(List GPort)) (fun t=>k3 t=some r) (fun y2=>⟨mk 13 [(2,.ref 3 1 0 0)],[.dead,.dead,.dead,(.own 1 [[(.acc 4 120 2 ((y2:List GPort).map Qap))]]),.tok]⟩) (fun y2 h=>?_) ?_
  ·subst hk_k3
   refine wxz<|wmr (mto (n:=13) (l':=[(4,(.dat 2 ((y2:List GPort).map Qap)))]) (own':=[.dead,.dead,.dead]) [(4,(.acc 4 120 2 ((y2:List GPort).map Qap)))] [0,1,2] [.dead,.dead,.dead] hφ0 (pc (.dat _ _ _ _ (Qas Qay _)) pn) (qc .dead (qc .dead (qc .dead qn))))<|Qaf ?_
   obtain rfl:=osi h
   exact ⟨_,Mor.rfl,Qdf (vs:=[(.dat 2 ((y2:List GPort).map Qap))]) ⟨rot,tv⟩ rfl (NLt.of0 (nld Qay _)) (by kernel_rfl) (Qao .dead (Qao .dead (Qao .dead Qby)))⟩
  ·skip
   refine wxz<|Qaj ?_
   obtain ⟨q4,hL5,h⟩:=bno h
   refine wmr (mto (n:=13) (l':=[(2,.ref 3 1 0 0),(6,Zls)]) (own':=[(.own 2 [[(Zft p0),(Zfs p1)]]),(.own 1 [[(.mp 2)]]),(Qdc p2),(.own 1 [[nilS]])]) [(2,.ref 3 1 0 0),(6,Zls)] [0,1,2,3] [(.own 2 [[(Zft p0),(Zfs p1)]]),(.own 1 [[(.mp 2)]]),(Qdc p2),(.own 1 [[nilS]])] hφ0 (prr (pc (.rn (Qbp rn0 (rnc (rqr rfl) (rnc (rqr rfl) rn0)))) pn)) (qb (lc (rnd Qai) (lc (rnd Qab) ln)) (qb (lc (.rn (Qif rfl)) ln) (qc Qe4 (qb (lc rwl ln) qn))))) ?_
   refine wmr (Qln (n:=4) (ty:=120) (m:=2) (q:=3) (mq:=1) (c:=[nilS]) 0 (by kernel_rfl) (by kernel_rfl) (by kernel_rfl) (by decide)) ?_
   refine Qro (τ:=((List GPort))) (kb:=4) (caps:=[.ref 0 2 0 0,.ref 1 1 0 0]) (σr:=[(.own 2 [[(Zft p0),(Zfs p1)]]),(.own 1 [[(.mp 2)]]),(Qdc p2)]) (encs:=fun x=>[(.agg #[(.int .i64 (x.Element)),(.int .i64 (x.Outlet))])]) (fun x=>[(.agg [I x.Element,I x.Outlet])]) [0,1,2] (fun n hn=>hφ0 n (Nat.le_trans (nle rfl) hn)) hd0 (Qla N p0 p1 p2 _ hL5) Q6e (by kernel_rfl) (by kernel_rfl) (Qbv (rnc (Qbr rfl) (rnc (Qbr rfl) rn0))) (slc (Qar (rnc (pld Qai) (rnc (pld Qab) rn0))) (slc (Qar (rnc (Q5n rfl) rn0)) (slc Qn2 Qat))) (by kernel_rfl) (fun _=>rfl) (fun x=>⟨(Less.unlits [(.int .i64 (x.Element)),(.int .i64 (x.Outlet))]),tv⟩) (Zc2 (Qi4 (NLt.ref _ _ _ _ (by decide)) (Qi4 (NLt.fn _ _ _ nl0 (nlc (NLt.ref _ _ _ _ (by decide)) (nlc (NLt.ref _ _ _ _ (by decide)) nl0))) Q3i))) (fun y6=>[.dead,.dead,.dead,(.own 1 [[(Za1 y6)]]),.tok]) (fun _=>rfl) (fun _=>rfl) (fun l t=>Qbq N k3 l t=some r) ([]) h (by kernel_rfl) ?_ ?_
   ·intro l11 o12 X15 φ16 w17 hφ14 x9 q10 y6 h
    rw [Qbq] at h
    refine wxz1 ?_
    refine ⟨by kernel_rfl,fun o13=>?_⟩
    refine Qaj ?_
    obtain ⟨ha18,h⟩:=cko h
    refine wx1 tbk [(2,rp [(.tmp 9,(.agg [I x9.Element,I x9.Outlet]))] (.dat 2 (([x9]:List GPort).map Qap))),(3,⟨[(.tmp 8,(Za1 y6)),(.tmp 10,(.dat 2 (([x9]:List GPort).map Qap)))],[(4,.tok),(7,.unused)],(.acc 7 120 2 ((y6++([x9]):List GPort).map Qap)),[(4,.dead),(7,.tok)],false⟩)] ⟨Qbe (vs:=[(.agg [I x9.Element,I x9.Outlet])]) rfl Tryz.underlying116 Qq3 Qu8 rfl (by decide) rfl (by decide) (by rfl) (by rfl) (by rfl) rfl,Qdj rfl Tryz.underlying116 Zpv (Base.acc _ _) rfl rfl (by rfl) (Qf4 Qap ha18) (Qf3 Qap ha18 (by decide)) (Qf2 Qap) rfl rfl,tv⟩<|bln ?_
    exact ⟨(y6++([x9])),h,Zcn (own':=[.dead,.dead,.dead,(.own 1 [[(.acc 4 120 2 (((y6++([x9])):List GPort).map Qap))]]),.tok,(.far (farL l11 o13))]) [0,1,2,3,7,5] [.dead,.dead,.dead,(.own 1 [[(.acc 7 120 2 ((y6++([x9]):List GPort).map Qap))]]),.tok,(.far (farL l11 o13))] (by kernel_rfl) (by kernel_rfl) ⟨.dead,.dead,.dead,(spb (lc (.rn (Qaw rfl (Qas Qay _))) ln)),.tok,.far _,tv⟩⟩
   ·intro y6 h
    rw [Qbq] at h
    exact bln<|thn<|⟨(y6),h,(mto (n:=13) [(2,.ref 3 1 0 0)] [0,1,2,3,4] [.dead,.dead,.dead,(.own 1 [[(Za1 y6)]]),.tok] hφ0 (prr pn) (qc .dead (qc .dead (qc .dead (qb (lc (.rn (Qaw rfl (Qas Qay _))) ln) (qc .tok qn))))))⟩
def Qfq (N:Nat) (p0:(List GRow)) (p1:(List GElement)) (p2:(List (Int×Int))):Option (List GPort):=
  (Qdd N p0 p1 p2).bind fun x3=>
  some x3
def Zlv:AV:=.fn (.func 110) [] [(.ref 0 2 (0) 0),(.ref 1 1 (0) 0)]
def Zlu (p0:(List GRow)):AV:=.dat 5 ((p0:List GRow).map Qa4)
def Zlt (p1:(List GElement)):AV:=.dat 7 ((p1:List GElement).map Qad)
def Za2 (x3:(List GPort)):AV:=.dat 2 ((x3:List GPort).map Qap)
theorem Qj2 (N:Nat) (p0:(List GRow)) (p1:(List GElement)) (p2:(List (Int×Int))) (r:(List GPort)) (h:Qfq N p0 p1 p2=some r):Spec Tryz.prog 89 [Zlv] [(.own 2 [[(Zlu p0),(Zlt p1)]]),(.own 1 [[(.mp 2)]]),(Qdc p2)] (.dat 2 ((r:List GPort).map Qap)) [.dead,.dead,.dead]:=by
  refine Qah Tryz.func89 rfl 3 (nle rfl) (fun X φ0 w0 hφ0 hd0=>?_)
  unfold Qfq at h
  refine Qb0<|wxz ?_
  obtain ⟨x3,hf2,h⟩:=bno h
  refine wx tbk [(1,⟨[fu 111,((.const (.slice none 0 0)),nilS),(.tmp 3,Zlv)],[(0,(.own 2 [[(Zlu p0),(Zlt p1)]])),(1,(.own 1 [[(.mp 2)]])),(2,(Qdc p2))],(Za2 x3),[(0,.dead),(1,.dead),(2,.dead)],false⟩)] ⟨Qav (first:=[]) (cap:=[]) (vs:=[nilS,Zlv]) (σr:=[(.own 2 [[(Zlu p0),(Zlt p1)]]),(.own 1 [[(.mp 2)]]),(Qdc p2)]) (σr':=[.dead,.dead,.dead]) (res':=(Za2 x3)) [0,1,2] rfl Zh7 (Qhb N p0 p1 p2 _ hf2) rfl (Qbv (rnc (.plain _ nll) (rnc (Qbp rn0 (rnc (Qbo rfl) (rnc (Qbo rfl) rn0))) rn0))) (slc (Qar (rnc (pld Qai) (rnc (pld Qab) rn0))) (slc (Qar (rnc (Zjx rfl) rn0)) (slc Qn2 Qat))) (slc .dead (slc .dead (slc .dead Qat))) (pld Qay) rfl rfl rfl,tv⟩ ?_
  refine wmr (mto (n:=5) (l':=[(2,(Za2 x3))]) (own':=[.dead,.dead,.dead]) [(2,(Za2 x3))] [0,1,2] [.dead,.dead,.dead] hφ0 (pc (rnd Qay) pn) (qc .dead (qc .dead (qc .dead qn))))<|Qaf ?_
  obtain rfl:=osi h
  exact ⟨_,Mor.rfl,Qdf (vs:=[(Za2 x3)]) ⟨rot,tv⟩ rfl (NLt.of0 (nld Qay _)) (by kernel_rfl) (Qao .dead (Qao .dead (Qao .dead Qby)))⟩
def Qrd (N:Nat) (p0:GNet):Option ((List GPort)×Int):=
  (Qg3 N p0).bind fun x2=>
  bif (!x2) then
   some ([],1)
  else
   (Qf6 N p0).bind fun x5=>
   (Qfq N p0.Table p0.Elements x5).bind fun x7=>
   some (x7,0)
def Zpc (p0:GNet):AV:=.dat 7 ((p0.Elements:List GElement).map Qad)
def Zlx (p0:GNet):AV:=.agg [(.dat 5 ((p0.Table:List GRow).map Qa4)),(Zpc p0)]
def Zfu:AV:=.fn (.func 110) [] [(.ref 1 2 (0) 0),(.ref 2 1 (0) 0)]
def Zfv (p0:GNet):Slot:=.own 2 [[(.dat 5 ((p0.Table:List GRow).map Qa4)),(Zpc p0)]]
def Zlw (x7:(List GPort)):AV:=.dat 2 ((x7:List GPort).map Qap)
theorem Qx9 (N:Nat) (p0:GNet) (r:((List GPort)×Int)) (h:Qrd N p0=some r):Spec Tryz.prog 47 [(.agg (Qhz p0))] [] (.tup [(.dat 2 (r.1.map Qap)),(I r.2)]) []:=by
  refine Qah Tryz.func47 rfl 0 (nle rfl) (fun X φ0 w0 hφ0 hd0=>?_)
  unfold Qrd at h
  refine wxz<|wsq ?_
  obtain ⟨x2,hf1,h⟩:=bno h
  refine wx tbk [(1,rp [fu 66,(.tmp 4,(Zlx p0))] (B x2))] ⟨apv Zdz (Qlm N p0 _ hf1) (nlc (NLt.agg _ (nlc (nld Qai _) (nlc (nld Qab _) nl0))) nl0) nll,tv⟩ ?_
  refine bfe h (fun hc3 h=>?_) fun hc3 h=>?_
  ·refine wft hc3<|wxz<|Qaf<|Qag ?_
   obtain rfl:=osi h
   exact fend ⟨[(.dat 2 (([]:List GPort).map Qap)),I 1],⟨Qd2 (v:=nilS) (rot) Less.nil,rot,tv⟩,rfl⟩ (NLt.tup _ (nlc (nld Qay _) (nlc nll nl0)))
  ·refine wfn hc3<|Qan<|thn ?_
   obtain ⟨x5,hf4,h⟩:=bno h
   obtain ⟨x7,hf6,h⟩:=bno h
   refine wx tbk [(1,⟨[fu 75,(.tmp 7,(Zlx p0))],[(1,.unused),(2,.unused),(3,.unused)],Zfu,[(1,(Zfv p0)),(2,(.own 1 [[(.mp 3)]])),(3,(Qdc x5))],false⟩),(2,⟨[fu 89,(.tmp 8,Zfu)],[(1,(Zfv p0)),(2,(.own 1 [[(.mp 3)]])),(3,(Qdc x5))],(Zlw x7),[(1,.dead),(2,.dead),(3,.dead)],false⟩)] ⟨Qav (first:=[]) (cap:=[]) (vs:=[(Zlx p0)]) (σr:=[]) (σr':=[(Zfv p0),(.own 1 [[(.mp 3)]]),(Qdc x5)]) (res':=Zfu) [1,2,3] rfl Zdv (Qlb N p0 _ hf4) rfl (Qbv (rnc (.plain _ (NLt.agg _ (nlc (nld Qai _) (nlc (nld Qab _) nl0)))) rn0)) Qat (slc (Qar (rnc (pld Qai) (rnc (pld Qab) rn0))) (slc (Qar (rnc (Q5n rfl) rn0)) (slc Qn2 Qat))) (Qbp rn0 (rnc (Qbr rfl) (rnc (Qbr rfl) rn0))) rfl rfl rfl,Qav (first:=[]) (cap:=[]) (vs:=[Zfu]) (σr:=[(Zfv p0),(.own 1 [[(.mp 3)]]),(Qdc x5)]) (σr':=[.dead,.dead,.dead]) (res':=(Zlw x7)) [1,2,3] rfl Zni (Qj2 N p0.Table p0.Elements x5 _ hf6) rfl (Qbv (rnc (Qbp rn0 (rnc (Qbo rfl) (rnc (Qbo rfl) rn0))) rn0)) (slc (Qar (rnc (pld Qai) (rnc (pld Qab) rn0))) (slc (Qar (rnc (Zjx rfl) rn0)) (slc Qn2 Qat))) (slc .dead (slc .dead (slc .dead Qat))) (pld Qay) rfl rfl rfl,tv⟩<|Qaf ?_
   obtain rfl:=osi h
   exact fend ⟨[(Zlw x7),I 0],⟨rot,rot,tv⟩,rfl⟩ (NLt.tup _ (nlc (nld Qay _) (nlc nll nl0)))
end Go.Proofs.YtmbhnllcfmiajaaGreat
