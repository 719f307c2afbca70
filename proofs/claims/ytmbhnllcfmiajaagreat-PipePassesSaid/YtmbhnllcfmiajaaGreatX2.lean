/-
  Functions of the program: what they compute, as plain functions, and that they do. No conditions.
-/
import Derived.Test.YtmbhnllcfmiajaaGreatX1
namespace Go.Proofs.YtmbhnllcfmiajaaGreat
set_option maxRecDepth 100000
set_option maxHeartbeats 4000000
open Go.RowKit
def Qef (N:Nat) (k11:(List (Int×Int))→Option (List (Int×Int))) (x12:GElement):Nat→Int→(List (Int×Int))→Option (List (Int×Int))
  | 0,_,_=>none
  | n20+1,y16,y17=>
    bif (decide (y16<(x12.From.length:Int))) then
     (getI x12.From y16).bind fun x22=>
     Qef N k11 x12 n20 (w64 (y16+1)) (addQ y17 (x22.Element,x22.Outlet))
    else
     k11 (y17)
def Qeg (N:Nat) (p0:GNet) (k3:(List (Int×Int))→Option (List (Int×Int))):Nat→Int→(List (Int×Int))→Option (List (Int×Int))
  | 0,_,_=>none
  | n8+1,y4,y5=>
    bif (decide (y4<(p0.Elements.length:Int))) then
     Qbp (fun y10=>
       Qeg N p0 k3 n8 (w64 (y4+1)) y10) fun k11:(List (Int×Int))→Option (List (Int×Int))=>
     (getI p0.Elements y4).bind fun x12=>
     Qef N k11 x12 N 0 y5
    else
     k3 (y5)
def Qjc (N:Nat) (p0:GNet):Option (List (Int×Int)):=
  Qbp (fun y2=>
    some y2) fun k3:(List (Int×Int))→Option (List (Int×Int))=>
  Qeg N p0 k3 N 0 ([]:List (Int×Int))
def Qnm (p0:GNet):AV:=.dat 7 ((p0.Elements:List GElement).map Qab)
def Qwl:AV:=.fn (.func 110) [] [(.ref 0 2 (0) 0),(.ref 1 1 (0) 0)]
def Qm0 (p0:GNet):Slot:=.own 2 [[(.dat 5 ((p0.Table:List GRow).map Qa1)),(Qnm p0)]]
def Qs9 (x12:GElement):AV:=.dat 2 ((x12.From:List GPort).map Qar)
theorem Qm9 (N:Nat) (p0:GNet) (r:(List (Int×Int))) (h:Qjc N p0=some r):Spec Tryz.prog 75 [(.agg [(.dat 5 ((p0.Table:List GRow).map Qa1)),(Qnm p0)])] [] Qwl [(Qm0 p0),(.own 1 [[(.mp 2)]]),(Qde r)]:=by
  refine Qah Tryz.func75 rfl 3 (nle rfl) (fun X φ0 w0 hφ0 hd0=>?_)
  unfold Qjc at h
  refine Qbx<|wxz ?_
  refine wx tbk [(0,⟨[],[(1,.unused)],(.mp 1),[(1,(Qde ([]:List (Int×Int))))],false⟩)] ⟨Qpz rfl,tv⟩ ?_
  obtain ⟨k3,hk_k3,h⟩:=jko h
  refine wjn (τ:=(List (Int×Int))) (fun t=>k3 t=some r) (fun y2=>⟨mk 28 [(1,.ref 0 2 0 0),(3,.ref 1 1 0 0)],[(Qm0 p0),(.own 1 [[(.mp 2)]]),(Qde y2)]⟩) (fun y2 h=>?_) ?_
  ·subst hk_k3
   refine wx tbk [(0,rp [(.tmp 1,.ref 0 2 0 0),(.tmp 3,.ref 1 1 0 0)] Qwl)] ⟨Qfl (fs:=[]) (cs:=[.ref 0 2 0 0,.ref 1 1 0 0]) rfl rfl rfl rfl,tv⟩ ?_
   refine wmr (mto (n:=28) (l':=[(2,Qwl)]) (own':=[(Qm0 p0),(.own 1 [[(.mp 2)]]),(Qde y2)]) [(2,Qwl)] [0,1,2] [(Qm0 p0),(.own 1 [[(.mp 2)]]),(Qde y2)] hφ0 (pc (.rn (Qbn rn0 (rnc (rqr rfl) (rnc (rqr rfl) rn0)))) pn) (qb (lc (rnd Qai) (lc (rnd Qaa) ln)) (qb (lc (.rn (Qhw rfl)) ln) (qc Qe3 qn))))<|Qae ?_
   obtain rfl:=osi h
   exact ⟨_,Mor.rfl,Qc8 (vs:=[Qwl]) ⟨rot,tv⟩ rfl (NLt.fn _ _ _ nl0 (nlc (NLt.ref _ _ _ _ (by decide)) (nlc (NLt.ref _ _ _ _ (by decide)) nl0))) (by kernel_rfl) (Qao (Qbc (nlc (NLt.of0 (nld Qai _)) (nlc (NLt.of0 (nld Qaa _)) nl0))) (Qao (Qbc (nlc (NLt.mp _ (by decide)) nl0)) (Qao Zb5 Qbs)))⟩
  ·skip
   refine wx tbk [(2,rp [(.tmp 10,(Qnm p0))] (I ((p0.Elements.length:Int))))] ⟨alm (c:=Qab) (l:=p0.Elements) (aln rfl Tryz.underlying40 rfl),tv⟩<|Qaj ?_
   refine wmr (mto (n:=28) (l':=[(1,.ref 0 2 0 0),(3,.ref 1 1 0 0),(10,(Qnm p0)),(11,(I ((p0.Elements.length:Int)))),(12,I 0)]) (own':=[(Qm0 p0),(.own 1 [[(.mp 2)]]),(Qde ([]:List (Int×Int)))]) [(1,.ref 0 2 0 0),(3,.ref 2 1 0 0),(10,(Qnm p0)),(11,(I ((p0.Elements.length:Int)))),(12,I 0)] [0,2,1] [(Qm0 p0),(.own 1 [[(.mp 1)]]),(Qde ([]:List (Int×Int)))] hφ0 (prr (prr (pc (rnd Qaa) (pw (pw pn))))) (qb (lc (rnd Qai) (lc (rnd Qaa) ln)) (qb (lc (.rn (Qhw rfl)) ln) (qc Qe3 qn)))) ?_
   refine Qcb (τ:=Int×(List (Int×Int))) (fun n t=>Qeg N p0 k3 n t.1 t.2=some r) (fun ⟨y4,y5⟩=>⟨mk 28 [(1,.ref 0 2 0 0),(3,.ref 1 1 0 0),(10,(Qnm p0)),(11,(I ((p0.Elements.length:Int)))),(12,I y4)],[(Qm0 p0),(.own 1 [[(.mp 2)]]),(Qde y5)]⟩) (fun t h=>by rw [Qeg] at h; cases h) (fun n8 ih t h=>?_) N (0,([]:List (Int×Int))) h
   obtain ⟨y4,y5⟩:=t
   rw [Qeg] at h
   skip
   refine wxz<|wsq ?_
   refine bfe h (fun hc9 h=>?_) fun hc9 h=>?_
   ·refine wft hc9<|Qan<|thn ?_
    obtain ⟨k11,hk_k11,h⟩:=jko h
    refine wjn (τ:=(List (Int×Int))) (fun t=>k11 t=some r) (fun y10=>⟨mk 28 [(1,.ref 0 2 0 0),(3,.ref 1 1 0 0),(10,(Qnm p0)),(11,(I ((p0.Elements.length:Int)))),(12,I y4)],[(Qm0 p0),(.own 1 [[(.mp 2)]]),(Qde y10)]⟩) (fun y10 h=>?_) ?_
    ·subst hk_k11
     exact wxz1<|thn<|arm (mto (n:=28) [(1,.ref 0 2 0 0),(3,.ref 1 1 0 0),(10,(Qnm p0)),(11,(I ((p0.Elements.length:Int)))),(12,(I (w64 (y4+1))))] [0,1,2] [(Qm0 p0),(.own 1 [[(.mp 2)]]),(Qde y10)] hφ0 (prr (prr (pc (rnd Qaa) (pw (pw pn))))) (qb (lc (rnd Qai) (lc (rnd Qaa) ln)) (qb (lc (.rn (Qhw rfl)) ln) (qc Qe3 qn)))) (ih (w64 (y4+1),y10) h)
    ·skip
     refine Qaj ?_
     obtain ⟨x12,hg13,h⟩:=bno h
     obtain ⟨hi14,hj15⟩:=gsm hg13
     refine wx tbk [(0,rp [(.tmp 10,(Qnm p0)),(.tmp 12,I y4)] (.dptr (Qab (x12)) 0))] ⟨aid rfl Tryz.underlying40 Qju rfl rfl hi14 (mgt Qab hj15) rfl,tv⟩ ?_
     refine wx tbk [(2,rp [(.tmp 17,(Qs9 x12))] (I ((x12.From.length:Int))))] ⟨alm (c:=Qar) (l:=x12.From) (aln rfl Tryz.underlying116 rfl),tv⟩<|Qaj ?_
     refine wmr (mto (n:=28) (l':=[(1,.ref 0 2 0 0),(3,.ref 1 1 0 0),(10,(Qnm p0)),(11,(I ((p0.Elements.length:Int)))),(12,I y4),(17,(Qs9 x12)),(18,(I ((x12.From.length:Int)))),(19,I 0)]) (own':=[(Qm0 p0),(.own 1 [[(.mp 2)]]),(Qde y5)]) [(1,.ref 0 2 0 0),(3,.ref 1 1 0 0),(10,(Qnm p0)),(11,(I ((p0.Elements.length:Int)))),(12,I y4),(17,(Qs9 x12)),(18,(I ((x12.From.length:Int)))),(19,I 0)] [0,1,2] [(Qm0 p0),(.own 1 [[(.mp 2)]]),(Qde y5)] hφ0 (prr (prr (pc (rnd Qaa) (pw (pw (pc (rnd Qav) (pw (pw pn)))))))) (qb (lc (rnd Qai) (lc (rnd Qaa) ln)) (qb (lc (.rn (Qhw rfl)) ln) (qc Qe3 qn)))) ?_
     refine Qcb (τ:=Int×(List (Int×Int))) (fun n t=>Qef N k11 x12 n t.1 t.2=some r) (fun ⟨y16,y17⟩=>⟨mk 28 [(1,.ref 0 2 0 0),(3,.ref 1 1 0 0),(10,(Qnm p0)),(11,(I ((p0.Elements.length:Int)))),(12,I y4),(17,(Qs9 x12)),(18,(I ((x12.From.length:Int)))),(19,I y16)],[(Qm0 p0),(.own 1 [[(.mp 2)]]),(Qde y17)]⟩) (fun t h=>by rw [Qef] at h; cases h) (fun n20 ih t h=>?_) N (0,y5) h
     obtain ⟨y16,y17⟩:=t
     rw [Qef] at h
     skip
     refine wxz<|wsq ?_
     refine bfe h (fun hc21 h=>?_) fun hc21 h=>?_
     ·refine wft hc21<|Qan<|thn<|wsq<|Qaj ?_
      obtain ⟨x22,hg23,h⟩:=bno h
      obtain ⟨hi24,hj25⟩:=gsm hg23
      refine wx tbk [(0,rp [(.tmp 17,(Qs9 x12)),(.tmp 19,I y16)] (.dptr (Qar (x22)) 0))] ⟨aid rfl Tryz.underlying116 Qo1 rfl rfl hi24 (mgt Qar hj25) rfl,tv⟩ ?_
      exact wx1 tbk [(2,⟨[(.tmp 23,(.mp 2)),(.tmp 24,(.agg [I x22.Element,I x22.Outlet])),cb true],[(2,(Qde y17))],.any,[(2,(Qde (addQ y17 (x22.Element,x22.Outlet))))],false⟩)] ⟨Qsi rfl Tryz.underlying190 Tryz.underlying120 Qtw Qr4,tv⟩<|bln<|thn<|wxz1<|thn<|arm (mto (n:=28) [(1,.ref 0 2 0 0),(3,.ref 1 1 0 0),(10,(Qnm p0)),(11,(I ((p0.Elements.length:Int)))),(12,I y4),(17,(Qs9 x12)),(18,(I ((x12.From.length:Int)))),(19,(I (w64 (y16+1))))] [0,1,2] [(Qm0 p0),(.own 1 [[(.mp 2)]]),(Qde (addQ y17 (x22.Element,x22.Outlet)))] hφ0 (prr (prr (pc (rnd Qaa) (pw (pw (pc (rnd Qav) (pw (pw pn)))))))) (qb (lc (rnd Qai) (lc (rnd Qaa) ln)) (qb (lc (.rn (Qhw rfl)) ln) (qc Qe3 qn)))) (ih (w64 (y16+1),addQ y17 (x22.Element,x22.Outlet)) h)
     ·exact wfn hc21<|Qbi<|Qax<|Qax<|Qbh rfl<|bln<|thn<|⟨(y17),h,(mto (n:=28) [(1,.ref 0 2 0 0),(3,.ref 1 1 0 0),(10,(Qnm p0)),(11,(I ((p0.Elements.length:Int)))),(12,I y4)] [0,1,2] [(Qm0 p0),(.own 1 [[(.mp 2)]]),(Qde y17)] hφ0 (prr (prr (pc (rnd Qaa) (pw (pw pn))))) (qb (lc (rnd Qai) (lc (rnd Qaa) ln)) (qb (lc (.rn (Qhw rfl)) ln) (qc Qe3 qn))))⟩
   ·exact wfn hc9<|Qbi<|Qax<|Qax<|Qbh rfl<|thn<|⟨(y5),h,(mto (n:=28) [(1,.ref 0 2 0 0),(3,.ref 1 1 0 0)] [0,1,2] [(Qm0 p0),(.own 1 [[(.mp 2)]]),(Qde y5)] hφ0 (prr (prr pn)) (qb (lc (rnd Qai) (lc (rnd Qaa) ln)) (qb (lc (.rn (Qhw rfl)) ln) (qc Qe3 qn))))⟩
def Qdm (N:Nat) (y1:Int) (p2:(List (Int×Int))) (k8:Unit→Option (List GPort)) (x14:Int):Nat→Int→Option (List GPort)
  | 0,_=>none
  | n19+1,y15=>
    bif (decide (y15<x14)) then
     bif (!(p2.contains (y1,y15))) then
      yld (⟨y1,y15⟩:GPort)<|
      Qdm N y1 p2 k8 x14 n19 (w64 (y15+1))
     else
      Qdm N y1 p2 k8 x14 n19 (w64 (y15+1))
    else
     k8 ()
def Qee (N:Nat) (p1:(List GElement)) (p2:(List (Int×Int))):Nat→Int→Option (List GPort)
  | 0,_=>none
  | n5+1,y1=>
    bif (decide (y1<(p1.length:Int))) then
     Qbp (fun _=>
       Qee N p1 p2 n5 (w64 (y1+1))) fun k8:Unit→Option (List GPort)=>
     (getI p1 y1).bind fun x9=>
     (Qdv N x9).bind fun x14=>
     Qdm N y1 p2 k8 x14 N 0
    else
     some ([])
def Qjb (N:Nat) (_p0:(List GRow)) (p1:(List GElement)) (p2:(List (Int×Int))):Option (List GPort):=
  Qee N p1 p2 N 0
def Qnl (p1:(List GElement)):AV:=.dat 7 ((p1:List GElement).map Qab)
def Qp7 (p0:(List GRow)) (p1:(List GElement)):Slot:=.own 2 [[(.dat 5 ((p0:List GRow).map Qa1)),(Qnl p1)]]
def Zld (x9:GElement):AV:=.agg [(K .u8 (x9.Kind)),(.dat 2 ((x9.From:List GPort).map Qar)),(I (x9.Level)),(I (x9.Amount)),(I (x9.Wide)),(I (x9.Narrow)),(.dat 1 ((x9.Weights:List Int).map Qak))]
def Qmt (y1:Int) (y15:Int):AV:=.agg [(I (y1)),(I (y15))]
theorem Qm8 (N:Nat) (p0:(List GRow)) (p1:(List GElement)) (p2:(List (Int×Int))) (r:(List GPort)) (h:Qjb N p0 p1 p2=some r):Qss Tryz.prog 110 [(.ref 0 2 (0) 0),(.ref 1 1 (0) 0)] [(Qp7 p0 p1),(.own 1 [[(.mp 2)]]),(Qde p2)] (fun x=>[(.agg #[(.int .i64 (x.Element)),(.int .i64 (x.Outlet))])]) r:=by
  refine Qth Tryz.func110 rfl rfl (fun X φ0 w0 l J hφ0 hy=>?_)
  unfold Qjb at h
  refine wx tbk [(2,rp [(.tmp 9,(Qnl p1))] (I ((p1.length:Int))))] ⟨alm (c:=Qab) (l:=p1) (aln rfl Tryz.underlying40 rfl),tv⟩<|Qaj ?_
  refine wmr (mto (n:=36) (l':=[(0,(.lit (.func (.yield l) #[] #[]))),(2,.ref 1 1 0 0),(9,(Qnl p1)),(10,(I ((p1.length:Int)))),(11,I 0)]) (own':=[(Qp7 p0 p1),(.own 1 [[(.mp 2)]]),(Qde p2),(.far (J (some (r))))]) [(0,(.lit (.func (.yield l) #[] #[]))),(2,.ref 1 1 0 0),(9,(Qnl p1)),(10,(I ((p1.length:Int)))),(11,I 0)] [0,1,2,3] [(Qp7 p0 p1),(.own 1 [[(.mp 2)]]),(Qde p2),(.far (J (some (r))))] hφ0 (pw (prr (pc (rnd Qaa) (pw (pw pn))))) (qb (lc (rnd Qai) (lc (rnd Qaa) ln)) (qb (lc (.rn (Qhw rfl)) ln) (qc Qe3 (qc (.far _) qn))))) ?_
  refine Qcb (τ:=(Int)×List GPort) (fun n t=>Qee N p1 p2 n t.1=some t.2) (fun ⟨y1,q2⟩=>⟨mk 36 [(0,(.lit (.func (.yield l) #[] #[]))),(2,.ref 1 1 0 0),(9,(Qnl p1)),(10,(I ((p1.length:Int)))),(11,I y1)],[(Qp7 p0 p1),(.own 1 [[(.mp 2)]]),(Qde p2),(.far (J (some (q2))))]⟩) (fun t h=>by rw [Qee] at h; cases h) (fun n5 ih t h=>?_) N ((0),r) h
  obtain ⟨y1,q2⟩:=t
  rw [Qee] at h
  try dsimp only at h
  refine wxz<|wsq ?_
  refine bfe h (fun hc6 h=>?_) fun hc6 h=>?_
  ·refine wft hc6<|Qan<|thn ?_
   obtain ⟨k8,hk_k8,h⟩:=jko h
   refine wjn (τ:=(Unit)×List GPort) (fun t=>k8 t.1=some t.2) (fun ⟨_,q7⟩=>⟨mk 36 [(0,(.lit (.func (.yield l) #[] #[]))),(2,.ref 1 1 0 0),(9,(Qnl p1)),(10,(I ((p1.length:Int)))),(11,I y1)],[(Qp7 p0 p1),(.own 1 [[(.mp 2)]]),(Qde p2),(.far (J (some (q7))))]⟩) (fun t h=>?_) ?_
   ·subst hk_k8
    obtain ⟨_,q7⟩:=t
    exact wxz1<|thn<|arm (mto (n:=36) [(0,(.lit (.func (.yield l) #[] #[]))),(2,.ref 1 1 0 0),(9,(Qnl p1)),(10,(I ((p1.length:Int)))),(11,(I (w64 (y1+1))))] [0,1,2,3] [(Qp7 p0 p1),(.own 1 [[(.mp 2)]]),(Qde p2),(.far (J (some (q7))))] hφ0 (pw (prr (pc (rnd Qaa) (pw (pw pn))))) (qb (lc (rnd Qai) (lc (rnd Qaa) ln)) (qb (lc (.rn (Qhw rfl)) ln) (qc Qe3 (qc (.far _) qn))))) (ih ((w64 (y1+1)),q7) h)
   ·skip
    refine Qaj ?_
    obtain ⟨x9,hg10,h⟩:=bno h
    obtain ⟨hi11,hj12⟩:=gsm hg10
    refine wx tbk [(1,rp [(.tmp 9,(Qnl p1)),(.tmp 11,I y1)] (.dptr (Qab (x9)) 0))] ⟨aid rfl Tryz.underlying40 Qju rfl rfl hi11 (mgt Qab hj12) rfl,tv⟩ ?_
    obtain ⟨x14,hf13,h⟩:=bno h
    refine wx tbk [(1,rp [fu 103,(.tmp 16,(Zld x9))] (I x14))] ⟨apv Q20 (Qhi N x9 _ hf13) (nlc (NLt.agg _ (nlc nll (nlc (nld Qav _) (nlcc (nlcc (nlc (nld Qaf _) nl0)))))) nl0) nll,tv⟩<|Qaj ?_
    refine wmr (mto (n:=36) (l':=[(0,(.lit (.func (.yield l) #[] #[]))),(2,.ref 1 1 0 0),(4,I y1),(9,(Qnl p1)),(10,(I ((p1.length:Int)))),(11,I y1),(17,I x14),(18,I 0)]) (own':=[(Qp7 p0 p1),(.own 1 [[(.mp 2)]]),(Qde p2),(.far (J (some (q2))))]) [(0,(.lit (.func (.yield l) #[] #[]))),(2,.ref 1 1 0 0),(4,I y1),(9,(Qnl p1)),(10,(I ((p1.length:Int)))),(11,I y1),(17,I x14),(18,I 0)] [0,1,2,3] [(Qp7 p0 p1),(.own 1 [[(.mp 2)]]),(Qde p2),(.far (J (some (q2))))] hφ0 (pw (prr (pw (pc (rnd Qaa) (pw (pw (pw (pw pn)))))))) (qb (lc (rnd Qai) (lc (rnd Qaa) ln)) (qb (lc (.rn (Qhw rfl)) ln) (qc Qe3 (qc (.far _) qn))))) ?_
    refine Qcb (τ:=(Int)×List GPort) (fun n t=>Qdm N y1 p2 k8 x14 n t.1=some t.2) (fun ⟨y15,q16⟩=>⟨mk 36 [(0,(.lit (.func (.yield l) #[] #[]))),(2,.ref 1 1 0 0),(4,I y1),(9,(Qnl p1)),(10,(I ((p1.length:Int)))),(11,I y1),(17,I x14),(18,I y15)],[(Qp7 p0 p1),(.own 1 [[(.mp 2)]]),(Qde p2),(.far (J (some (q16))))]⟩) (fun t h=>by rw [Qdm] at h; cases h) (fun n19 ih t h=>?_) N ((0),q2) h
    obtain ⟨y15,q16⟩:=t
    rw [Qdm] at h
    try dsimp only at h
    refine wxz<|wsq ?_
    refine bfe h (fun hc20 h=>?_) fun hc20 h=>?_
    ·refine wft hc20<|Qan<|thn<|wsq<|Qaj<|wxz ?_
     refine wx tbk [(2,rp [(.tmp 21,I y1),(.tmp 22,I y15)] (Qmt y1 y15))] ⟨Qa2 (vs:=[I y1,I y15]) rfl Q72 Qsu rfl (by rfl) rfl,tv⟩ ?_
     refine bfe h (fun hb21 h=>?_) fun hb21 h=>?_
     ·obtain ⟨q22,hy_,hq_⟩:=Qy9 h
      clear h
      subst hq_
      have h:=hy_
      clear hy_
      refine Zeg 7 [rb [(.tmp 2,.ref 1 1 0 0)] [(1,(.own 1 [[(.mp 2)]]))] (.mp 2),rb [(.tmp 7,.ref 4 2 0 0)] [(4,.own 2 [[I y1,I y15]])] (Qmt y1 y15),rb [(.tmp 24,(.mp 2)),(.tmp 25,(Qmt y1 y15))] [(2,(Qde p2))] (B (p2.contains (y1,y15))),rp [(.tmp 26,(B (p2.contains (y1,y15))))] (B ((!(p2.contains (y1,y15))))),rp [(.tmp 27,(B ((!(p2.contains (y1,y15))))))] (B true),rp [(.tmp 28,B true),(.tmp 0,(.lit (.func (.yield l) #[] #[])))] (.lit (.func (.yield l) #[] #[])),rb [(.tmp 28,B true),(.tmp 7,.ref 4 2 0 0)] [(4,.own 2 [[I y1,I y15]])] (Qmt y1 y15),⟨[(.tmp 28,B true),(.tmp 29,(.lit (.func (.yield l) #[] #[]))),(.tmp 30,(Qmt y1 y15))],[(3,(.far (J (some ((⟨y1,y15⟩:GPort)::q22)))))],B true,[(3,(.far (J (some (q22)))))],false⟩,rp [(.tmp 28,B true),(.tmp 31,B true)] (B false),rp [(.tmp 28,B true),(.tmp 32,B false),cb false] (B false)] [rb [(.tmp 2,.ref 1 1 0 0)] [(1,(.own 1 [[(.mp 2)]]))] (.mp 2),rb [(.tmp 7,.ref 4 2 0 0)] [(4,.own 2 [[I y1,I y15]])] (Qmt y1 y15),rb [(.tmp 24,(.mp 2)),(.tmp 25,(Qmt y1 y15))] [(2,(Qde p2))] (B (p2.contains (y1,y15))),rp [(.tmp 26,(B (p2.contains (y1,y15))))] (B ((!(p2.contains (y1,y15))))),rp [(.tmp 27,(B ((!(p2.contains (y1,y15))))))] (B true),rp [(.tmp 28,B true),(.tmp 0,(.lit (.func (.yield l) #[] #[])))] (.lit (.func (.yield l) #[] #[])),rb [(.tmp 28,B true),(.tmp 7,.ref 4 2 0 0)] [(4,.own 2 [[I y1,I y15]])] (Qmt y1 y15),⟨[(.tmp 28,B true),(.tmp 29,(.lit (.func (.yield l) #[] #[]))),(.tmp 30,(Qmt y1 y15))],[(3,(.far (J (some ((⟨y1,y15⟩:GPort)::q22)))))],B false,[(3,(.far (J none)))],false⟩,rp [(.tmp 28,B true),(.tmp 31,B false)] (B true),rp [(.tmp 28,B true),(.tmp 32,B true),cb false] (B true)] (by exact ⟨by kernel_rfl,by kernel_rfl⟩) (by exact ⟨by kernel_rfl,by kernel_rfl⟩) rfl rfl rfl rfl (Qyd (Qnf (rd':=(.tmp 29,.lit (.func (.yield l) #[] #[]))::[(.tmp 30,.lit (.agg #[(.int .i64 ((⟨y1,y15⟩:GPort).Element)),(.int .i64 ((⟨y1,y15⟩:GPort).Outlet))]))]) ⟨rfl,lrf,rfl,(Less.lits [(.int .i64 (y1)),(.int .i64 (y15))]),tv⟩ (Ql2 (x:=(⟨y1,y15⟩:GPort)) (rest:=q22) rfl rfl hy rfl))) (⟨fun _ _=>ald rfl Zig (by decide) rfl (nle rfl) rfl,fun _ _=>ald rfl Qo1 (by decide) rfl (nle rfl) rfl,fun _ _=>Qle rfl Tryz.underlying190 Tryz.underlying120 zb4 Qtw Qr4,fun _ _=>Qj5 rfl,fun _ _=>asb hb21 (amv rfl),fun _ _=>ag_ (amv rfl),fun _ _=>ag_ (ald rfl Qo1 (by decide) rfl (nle rfl) rfl),fun _ h=>absurd rfl h,fun _ _=>ag_ (Qj5 rfl),fun _ _=>apk rfl rfl,tv⟩) (⟨fun _ _=>ald rfl Zig (by decide) rfl (nle rfl) rfl,fun _ _=>ald rfl Qo1 (by decide) rfl (nle rfl) rfl,fun _ _=>Qle rfl Tryz.underlying190 Tryz.underlying120 zb4 Qtw Qr4,fun _ _=>Qj5 rfl,fun _ _=>asb hb21 (amv rfl),fun _ _=>ag_ (amv rfl),fun _ _=>ag_ (ald rfl Qo1 (by decide) rfl (nle rfl) rfl),fun _ h=>absurd rfl h,fun _ _=>ag_ (Qj5 rfl),fun _ _=>apk rfl rfl,tv⟩) ?_ ?_
      ·skip
       exact wfa<|Qan<|bln<|thn<|wxz1<|thn<|arm (mto (n:=36) [(0,(.lit (.func (.yield l) #[] #[]))),(2,.ref 1 1 0 0),(4,I y1),(9,(Qnl p1)),(10,(I ((p1.length:Int)))),(11,I y1),(17,I x14),(18,(I (w64 (y15+1))))] [0,1,2,3] [(Qp7 p0 p1),(.own 1 [[(.mp 2)]]),(Qde p2),(.far (J (some (q22))))] hφ0 (pw (prr (pw (pc (rnd Qaa) (pw (pw (pw (pw pn)))))))) (qb (lc (rnd Qai) (lc (rnd Qaa) ln)) (qb (lc (.rn (Qhw rfl)) ln) (qc Qe3 (qc (.far _) qn))))) (ih ((w64 (y15+1)),q22) h)
      ·clear h
       refine wtr<|Qae<|Qap<|Qag<|Qag<|Qap<|Qap<|Qag<|Qag<|Qap ?_
       exact Or.inr (by kernel_rfl)
     ·exact wx tbk [(2,rb [(.tmp 24,(.mp 2)),(.tmp 25,(Qmt y1 y15))] [(2,(Qde p2))] (B (p2.contains (y1,y15)))),(4,rp [(.tmp 27,(B ((!(p2.contains (y1,y15))))))] (B false))] ⟨Qle rfl Tryz.underlying190 Tryz.underlying120 zb4 Qtw Qr4,asb hb21 (amv rfl),tv⟩<|wfa<|Qan<|bln<|thn<|wxz1<|thn<|arm (mto (n:=36) [(0,(.lit (.func (.yield l) #[] #[]))),(2,.ref 1 1 0 0),(4,I y1),(9,(Qnl p1)),(10,(I ((p1.length:Int)))),(11,I y1),(17,I x14),(18,(I (w64 (y15+1))))] [0,1,2,3] [(Qp7 p0 p1),(.own 1 [[(.mp 2)]]),(Qde p2),(.far (J (some (q16))))] hφ0 (pw (prr (pw (pc (rnd Qaa) (pw (pw (pw (pw pn)))))))) (qb (lc (rnd Qai) (lc (rnd Qaa) ln)) (qb (lc (.rn (Qhw rfl)) ln) (qc Qe3 (qc (.far _) qn))))) (ih ((w64 (y15+1)),q16) h)
    ·exact wfn hc20<|Qbi<|Qax<|Qax<|Qbh rfl<|bln<|thn<|⟨((),q16),h,(mto (n:=36) [(0,(.lit (.func (.yield l) #[] #[]))),(2,.ref 1 1 0 0),(9,(Qnl p1)),(10,(I ((p1.length:Int)))),(11,I y1)] [0,1,2,3] [(Qp7 p0 p1),(.own 1 [[(.mp 2)]]),(Qde p2),(.far (J (some (q16))))] hφ0 (pw (prr (pc (rnd Qaa) (pw (pw pn))))) (qb (lc (rnd Qai) (lc (rnd Qaa) ln)) (qb (lc (.rn (Qhw rfl)) ln) (qc Qe3 (qc (.far _) qn)))))⟩
  ·refine wfn hc6<|Qbi<|Qax<|Qax<|Qbh rfl ?_
   obtain rfl:=osi h
   exact Or.inl rfl
def Qbm (N:Nat) (k3:(List GPort)→Option (List GPort)):(List GPort)→(List GPort)→Option (List GPort)
  | [],y6=>
    k3 (y6)
  | x9::q10,y6=>
    chk (decide ((y6.length+([x9]).length) * 16≤140737488355328))<|
    Qbm N k3 q10 (y6++([x9]))
def Qc9 (N:Nat) (p0:(List GRow)) (p1:(List GElement)) (p2:(List (Int×Int))):Option (List GPort):=
  Qbp (fun y2=>
    some y2) fun k3:(List GPort)→Option (List GPort)=>
  (Qjb N p0 p1 p2).bind fun q4=>
  Qbm N k3 q4 ([])
def Zhq:AV:=.fn (.func 110) [] [(.ref 0 2 (0) 0),(.ref 1 1 (0) 0)]
def Zbn (p0:(List GRow)):AV:=.dat 5 ((p0:List GRow).map Qa1)
def Zbm (p1:(List GElement)):AV:=.dat 7 ((p1:List GElement).map Qab)
def Q7h (y6:(List GPort)):AV:=.acc 4 120 2 ((y6:List GPort).map Qar)
theorem Qgk (N:Nat) (p0:(List GRow)) (p1:(List GElement)) (p2:(List (Int×Int))) (r:(List GPort)) (h:Qc9 N p0 p1 p2=some r):Spec Tryz.prog 111 [nilS,Zhq] [(.own 2 [[(Zbn p0),(Zbm p1)]]),(.own 1 [[(.mp 2)]]),(Qde p2)] (.dat 2 ((r:List GPort).map Qar)) [.dead,.dead,.dead]:=by
  refine Qah Tryz.func111 rfl 3 (nle rfl) (fun X φ0 w0 hφ0 hd0=>?_)
  unfold Qc9 at h
  refine Qbx<|wxz ?_
  obtain ⟨k3,hk_k3,h⟩:=jko h
  refine wjn (τ:=(List GPort)) (fun t=>k3 t=some r) (fun y2=>⟨mk 13 [(2,.ref 3 1 0 0)],[.dead,.dead,.dead,(.own 1 [[(.acc 4 120 2 ((y2:List GPort).map Qar))]]),.tok]⟩) (fun y2 h=>?_) ?_
  ·subst hk_k3
   refine wxz<|wmr (mto (n:=13) (l':=[(4,(.dat 2 ((y2:List GPort).map Qar)))]) (own':=[.dead,.dead,.dead]) [(4,(.acc 4 120 2 ((y2:List GPort).map Qar)))] [0,1,2] [.dead,.dead,.dead] hφ0 (pc (.dat _ _ _ _ (Qbk Qav _)) pn) (qc .dead (qc .dead (qc .dead qn))))<|Qae ?_
   obtain rfl:=osi h
   exact ⟨_,Mor.rfl,Qc8 (vs:=[(.dat 2 ((y2:List GPort).map Qar))]) ⟨rot,tv⟩ rfl (NLt.of0 (nld Qav _)) (by kernel_rfl) (Qao .dead (Qao .dead (Qao .dead Qbs)))⟩
  ·skip
   refine wxz<|Qaj ?_
   obtain ⟨q4,hL5,h⟩:=bno h
   refine wmr (mto (n:=13) (l':=[(2,.ref 3 1 0 0),(6,Zhq)]) (own':=[(.own 2 [[(Zbn p0),(Zbm p1)]]),(.own 1 [[(.mp 2)]]),(Qde p2),(.own 1 [[nilS]])]) [(2,.ref 3 1 0 0),(6,Zhq)] [0,1,2,3] [(.own 2 [[(Zbn p0),(Zbm p1)]]),(.own 1 [[(.mp 2)]]),(Qde p2),(.own 1 [[nilS]])] hφ0 (prr (pc (.rn (Qbn rn0 (rnc (rqr rfl) (rnc (rqr rfl) rn0)))) pn)) (qb (lc (rnd Qai) (lc (rnd Qaa) ln)) (qb (lc (.rn (Qhw rfl)) ln) (qc Qe3 (qb (lc rwl ln) qn))))) ?_
   refine wmr (Qn7 (n:=4) (ty:=120) (m:=2) (q:=3) (mq:=1) (c:=[nilS]) 0 (by kernel_rfl) (by kernel_rfl) (by kernel_rfl) (by decide)) ?_
   refine Qt1 (τ:=((List GPort))) (kb:=4) (caps:=[.ref 0 2 0 0,.ref 1 1 0 0]) (σr:=[(.own 2 [[(Zbn p0),(Zbm p1)]]),(.own 1 [[(.mp 2)]]),(Qde p2)]) (encs:=fun x=>[(.agg #[(.int .i64 (x.Element)),(.int .i64 (x.Outlet))])]) (fun x=>[(.agg [I x.Element,I x.Outlet])]) [0,1,2] (fun n hn=>hφ0 n (Nat.le_trans (nle rfl) hn)) hd0 (Qm8 N p0 p1 p2 _ hL5) Zd4 (by kernel_rfl) (by kernel_rfl) (Qbt (rnc (Qbr rfl) (rnc (Qbr rfl) rn0))) (slc (Qaq (rnc (pld Qai) (rnc (pld Qaa) rn0))) (slc (Qaq (rnc (Zfp rfl) rn0)) (slc Qqj Qas))) (by kernel_rfl) (fun _=>rfl) (fun x=>⟨(Less.unlits [(.int .i64 (x.Element)),(.int .i64 (x.Outlet))]),tv⟩) (Zfw (Qqm (NLt.ref _ _ _ _ (by decide)) (Qqm (NLt.fn _ _ _ nl0 (nlc (NLt.ref _ _ _ _ (by decide)) (nlc (NLt.ref _ _ _ _ (by decide)) nl0))) Q8y))) (fun y6=>[.dead,.dead,.dead,(.own 1 [[(Q7h y6)]]),.tok]) (fun _=>rfl) (fun _=>rfl) (fun l t=>Qbm N k3 l t=some r) ([]) h (by kernel_rfl) ?_ ?_
   ·intro l11 o12 X15 φ16 w17 hφ14 x9 q10 y6 h
    rw [Qbm] at h
    refine wxz1 ?_
    refine ⟨by kernel_rfl,fun o13=>?_⟩
    refine Qaj ?_
    obtain ⟨ha18,h⟩:=cko h
    refine wx1 tbk [(2,rp [(.tmp 9,(.agg [I x9.Element,I x9.Outlet]))] (.dat 2 (([x9]:List GPort).map Qar))),(3,⟨[(.tmp 8,(Q7h y6)),(.tmp 10,(.dat 2 (([x9]:List GPort).map Qar)))],[(4,.tok),(7,.unused)],(.acc 7 120 2 ((y6++([x9]):List GPort).map Qar)),[(4,.dead),(7,.tok)],false⟩)] ⟨Qbo (vs:=[(.agg [I x9.Element,I x9.Outlet])]) rfl Tryz.underlying116 Qo1 Qsu rfl (by decide) rfl (by decide) (by rfl) (by rfl) (by rfl) rfl,Qer rfl Tryz.underlying116 Zlv (Base.acc _ _) rfl rfl (by rfl) (Qg0 Qar ha18) (Qgz Qar ha18 (by decide)) (Qgy Qar) rfl rfl,tv⟩<|bln ?_
    exact ⟨(y6++([x9])),h,Zfq (own':=[.dead,.dead,.dead,(.own 1 [[(.acc 4 120 2 (((y6++([x9])):List GPort).map Qar))]]),.tok,(.far (farL l11 o13))]) [0,1,2,3,7,5] [.dead,.dead,.dead,(.own 1 [[(.acc 7 120 2 ((y6++([x9]):List GPort).map Qar))]]),.tok,(.far (farL l11 o13))] (by kernel_rfl) (by kernel_rfl) ⟨.dead,.dead,.dead,(spb (lc (.rn (Qbw rfl (Qbk Qav _))) ln)),.tok,.far _,tv⟩⟩
   ·intro y6 h
    rw [Qbm] at h
    exact bln<|thn<|⟨(y6),h,(mto (n:=13) [(2,.ref 3 1 0 0)] [0,1,2,3,4] [.dead,.dead,.dead,(.own 1 [[(Q7h y6)]]),.tok] hφ0 (prr pn) (qc .dead (qc .dead (qc .dead (qb (lc (.rn (Qbw rfl (Qbk Qav _))) ln) (qc .tok qn))))))⟩
def Qfc (N:Nat) (p0:(List GRow)) (p1:(List GElement)) (p2:(List (Int×Int))):Option (List GPort):=
  (Qc9 N p0 p1 p2).bind fun x3=>
  some x3
def Zht:AV:=.fn (.func 110) [] [(.ref 0 2 (0) 0),(.ref 1 1 (0) 0)]
def Zhs (p0:(List GRow)):AV:=.dat 5 ((p0:List GRow).map Qa1)
def Zhr (p1:(List GElement)):AV:=.dat 7 ((p1:List GElement).map Qab)
def Q7i (x3:(List GPort)):AV:=.dat 2 ((x3:List GPort).map Qar)
theorem Qit (N:Nat) (p0:(List GRow)) (p1:(List GElement)) (p2:(List (Int×Int))) (r:(List GPort)) (h:Qfc N p0 p1 p2=some r):Spec Tryz.prog 89 [Zht] [(.own 2 [[(Zhs p0),(Zhr p1)]]),(.own 1 [[(.mp 2)]]),(Qde p2)] (.dat 2 ((r:List GPort).map Qar)) [.dead,.dead,.dead]:=by
  refine Qah Tryz.func89 rfl 3 (nle rfl) (fun X φ0 w0 hφ0 hd0=>?_)
  unfold Qfc at h
  refine Qbx<|wxz ?_
  obtain ⟨x3,hf2,h⟩:=bno h
  refine wx tbk [(1,⟨[fu 111,((.const (.slice none 0 0)),nilS),(.tmp 3,Zht)],[(0,(.own 2 [[(Zhs p0),(Zhr p1)]])),(1,(.own 1 [[(.mp 2)]])),(2,(Qde p2))],(Q7i x3),[(0,.dead),(1,.dead),(2,.dead)],false⟩)] ⟨Qat (first:=[]) (cap:=[]) (vs:=[nilS,Zht]) (σr:=[(.own 2 [[(Zhs p0),(Zhr p1)]]),(.own 1 [[(.mp 2)]]),(Qde p2)]) (σr':=[.dead,.dead,.dead]) (res':=(Q7i x3)) [0,1,2] rfl Zd3 (Qgk N p0 p1 p2 _ hf2) rfl (Qbt (rnc (.plain _ nll) (rnc (Qbn rn0 (rnc (Qbj rfl) (rnc (Qbj rfl) rn0))) rn0))) (slc (Qaq (rnc (pld Qai) (rnc (pld Qaa) rn0))) (slc (Qaq (rnc (Zfo rfl) rn0)) (slc Qqj Qas))) (slc .dead (slc .dead (slc .dead Qas))) (pld Qav) rfl rfl rfl,tv⟩ ?_
  refine wmr (mto (n:=5) (l':=[(2,(Q7i x3))]) (own':=[.dead,.dead,.dead]) [(2,(Q7i x3))] [0,1,2] [.dead,.dead,.dead] hφ0 (pc (rnd Qav) pn) (qc .dead (qc .dead (qc .dead qn))))<|Qae ?_
  obtain rfl:=osi h
  exact ⟨_,Mor.rfl,Qc8 (vs:=[(Q7i x3)]) ⟨rot,tv⟩ rfl (NLt.of0 (nld Qav _)) (by kernel_rfl) (Qao .dead (Qao .dead (Qao .dead Qbs)))⟩
def Qpa (N:Nat) (p0:GNet):Option ((List GPort)×Int):=
  (Qgc N p0).bind fun x2=>
  bif (!x2) then
   some ([],1)
  else
   (Qjc N p0).bind fun x5=>
   (Qfc N p0.Table p0.Elements x5).bind fun x7=>
   some (x7,0)
def Zle (p0:GNet):AV:=.dat 7 ((p0.Elements:List GElement).map Qab)
def Zhv (p0:GNet):AV:=.agg [(.dat 5 ((p0.Table:List GRow).map Qa1)),(Zle p0)]
def Zbo:AV:=.fn (.func 110) [] [(.ref 1 2 (0) 0),(.ref 2 1 (0) 0)]
def Zbp (p0:GNet):Slot:=.own 2 [[(.dat 5 ((p0.Table:List GRow).map Qa1)),(Zle p0)]]
def Zhu (x7:(List GPort)):AV:=.dat 2 ((x7:List GPort).map Qar)
theorem Qvg (N:Nat) (p0:GNet) (r:((List GPort)×Int)) (h:Qpa N p0=some r):Spec Tryz.prog 47 [(.agg (Qh9 p0))] [] (.tup [(.dat 2 (r.1.map Qar)),(I r.2)]) []:=by
  refine Qah Tryz.func47 rfl 0 (nle rfl) (fun X φ0 w0 hφ0 hd0=>?_)
  unfold Qpa at h
  refine wxz<|wsq ?_
  obtain ⟨x2,hf1,h⟩:=bno h
  refine wx tbk [(1,rp [fu 66,(.tmp 4,(Zhv p0))] (B x2))] ⟨apv Q9s (Qkb N p0 _ hf1) (nlc (NLt.agg _ (nlc (nld Qai _) (nlc (nld Qaa _) nl0))) nl0) nll,tv⟩ ?_
  refine bfe h (fun hc3 h=>?_) fun hc3 h=>?_
  ·refine wft hc3<|wxz<|Qae<|Qag ?_
   obtain rfl:=osi h
   exact fend ⟨[(.dat 2 (([]:List GPort).map Qar)),I 1],⟨Qgn (v:=nilS) (rot) Less.nil,rot,tv⟩,rfl⟩ (NLt.tup _ (nlc (nld Qav _) (nlc nll nl0)))
  ·refine wfn hc3<|Qan<|thn ?_
   obtain ⟨x5,hf4,h⟩:=bno h
   obtain ⟨x7,hf6,h⟩:=bno h
   refine wx tbk [(1,⟨[fu 75,(.tmp 7,(Zhv p0))],[(1,.unused),(2,.unused),(3,.unused)],Zbo,[(1,(Zbp p0)),(2,(.own 1 [[(.mp 3)]])),(3,(Qde x5))],false⟩),(2,⟨[fu 89,(.tmp 8,Zbo)],[(1,(Zbp p0)),(2,(.own 1 [[(.mp 3)]])),(3,(Qde x5))],(Zhu x7),[(1,.dead),(2,.dead),(3,.dead)],false⟩)] ⟨Qat (first:=[]) (cap:=[]) (vs:=[(Zhv p0)]) (σr:=[]) (σr':=[(Zbp p0),(.own 1 [[(.mp 3)]]),(Qde x5)]) (res':=Zbo) [1,2,3] rfl Zjq (Qm9 N p0 _ hf4) rfl (Qbt (rnc (.plain _ (NLt.agg _ (nlc (nld Qai _) (nlc (nld Qaa _) nl0)))) rn0)) Qas (slc (Qaq (rnc (pld Qai) (rnc (pld Qaa) rn0))) (slc (Qaq (rnc (Zfp rfl) rn0)) (slc Qqj Qas))) (Qbn rn0 (rnc (Qbr rfl) (rnc (Qbr rfl) rn0))) rfl rfl rfl,Qat (first:=[]) (cap:=[]) (vs:=[Zbo]) (σr:=[(Zbp p0),(.own 1 [[(.mp 3)]]),(Qde x5)]) (σr':=[.dead,.dead,.dead]) (res':=(Zhu x7)) [1,2,3] rfl Zjp (Qit N p0.Table p0.Elements x5 _ hf6) rfl (Qbt (rnc (Qbn rn0 (rnc (Qbj rfl) (rnc (Qbj rfl) rn0))) rn0)) (slc (Qaq (rnc (pld Qai) (rnc (pld Qaa) rn0))) (slc (Qaq (rnc (Zfo rfl) rn0)) (slc Qqj Qas))) (slc .dead (slc .dead (slc .dead Qas))) (pld Qav) rfl rfl rfl,tv⟩<|Qae ?_
   obtain rfl:=osi h
   exact fend ⟨[(Zhu x7),I 0],⟨rot,rot,tv⟩,rfl⟩ (NLt.tup _ (nlc (nld Qav _) (nlc nll nl0)))
end Go.Proofs.YtmbhnllcfmiajaaGreat
