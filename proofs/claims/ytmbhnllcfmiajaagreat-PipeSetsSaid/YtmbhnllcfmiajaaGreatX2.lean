/-
  Functions of the program: what they compute, as plain functions, and that they do. No conditions.
-/
import Derived.Test.YtmbhnllcfmiajaaGreatX1
namespace Go.Proofs.YtmbhnllcfmiajaaGreat
set_option maxRecDepth 100000
set_option maxHeartbeats 4000000
open Go.RowKit
def Qdy (N:Nat) (k11:(List (Int×Int))→Option (List (Int×Int))) (x12:GElement):Nat→Int→(List (Int×Int))→Option (List (Int×Int))
  | 0,_,_=>none
  | n20+1,y16,y17=>
    bif (decide (y16<(x12.From.length:Int))) then
     (getI x12.From y16).bind fun x22=>
     Qdy N k11 x12 n20 (w64 (y16+1)) (addQ y17 (x22.Element,x22.Outlet))
    else
     k11 (y17)
def Qdz (N:Nat) (p0:GNet) (k3:(List (Int×Int))→Option (List (Int×Int))):Nat→Int→(List (Int×Int))→Option (List (Int×Int))
  | 0,_,_=>none
  | n8+1,y4,y5=>
    bif (decide (y4<(p0.Elements.length:Int))) then
     Qby (fun y10=>
       Qdz N p0 k3 n8 (w64 (y4+1)) y10) fun k11:(List (Int×Int))→Option (List (Int×Int))=>
     (getI p0.Elements y4).bind fun x12=>
     Qdy N k11 x12 N 0 y5
    else
     k3 (y5)
def Qij (N:Nat) (p0:GNet):Option (List (Int×Int)):=
  Qby (fun y2=>
    some y2) fun k3:(List (Int×Int))→Option (List (Int×Int))=>
  Qdz N p0 k3 N 0 ([]:List (Int×Int))
def Qmm (p0:GNet):AV:=.dat 7 ((p0.Elements:List GElement).map Qab)
def Qt9:AV:=.fn (.func 110) [] [(.ref 0 2 (0) 0),(.ref 1 1 (0) 0)]
def Ql1 (p0:GNet):Slot:=.own 2 [[(.dat 5 ((p0.Table:List GRow).map Qau)),(Qmm p0)]]
def Qrl (x12:GElement):AV:=.dat 2 ((x12.From:List GPort).map Qar)
theorem Qmc (N:Nat) (p0:GNet) (r:(List (Int×Int))) (h:Qij N p0=some r):Spec Tryz.prog 75 [(.agg [(.dat 5 ((p0.Table:List GRow).map Qau)),(Qmm p0)])] [] Qt9 [(Ql1 p0),(.own 1 [[(.mp 2)]]),(Qc0 r)]:=by
  refine Qah Tryz.func75 rfl 3 (nle rfl) (fun X φ0 w0 hφ0 hd0=>?_)
  unfold Qij at h
  refine Qbh<|wxz ?_
  refine wx tbk [(0,⟨[],[(1,.unused)],(.mp 1),[(1,(Qc0 ([]:List (Int×Int))))],false⟩)] ⟨Qoq rfl,tv⟩ ?_
  obtain ⟨k3,hk_k3,h⟩:=jko h
  refine wjn (τ:=(List (Int×Int))) (fun t=>k3 t=some r) (fun y2=>⟨mk 28 [(1,.ref 0 2 0 0),(3,.ref 1 1 0 0)],[(Ql1 p0),(.own 1 [[(.mp 2)]]),(Qc0 y2)]⟩) (fun y2 h=>?_) ?_
  ·subst hk_k3
   refine wx tbk [(0,rp [(.tmp 1,.ref 0 2 0 0),(.tmp 3,.ref 1 1 0 0)] Qt9)] ⟨Qe5 (fs:=[]) (cs:=[.ref 0 2 0 0,.ref 1 1 0 0]) rfl rfl rfl rfl,tv⟩ ?_
   refine wmr (mto (n:=28) (l':=[(2,Qt9)]) (own':=[(Ql1 p0),(.own 1 [[(.mp 2)]]),(Qc0 y2)]) [(2,Qt9)] [0,1,2] [(Ql1 p0),(.own 1 [[(.mp 2)]]),(Qc0 y2)] hφ0 (pc (.rn (Qbd rn0 (rnc (rqr rfl) (rnc (rqr rfl) rn0)))) pn) (qb (lc (rnd Qae) (lc (rnd Qaa) ln)) (qb (lc (.rn (Qhc rfl)) ln) (qc Qek qn))))<|Qad ?_
   obtain rfl:=osi h
   exact ⟨_,Mor.rfl,Qct (vs:=[Qt9]) ⟨rot,tv⟩ rfl (NLt.fn _ _ _ nl0 (nlc (NLt.ref _ _ _ _ (by decide)) (nlc (NLt.ref _ _ _ _ (by decide)) nl0))) (by kernel_rfl) (Qan (Qa7 (nlc (NLt.of0 (nld Qae _)) (nlc (NLt.of0 (nld Qaa _)) nl0))) (Qan (Qa7 (nlc (NLt.mp _ (by decide)) nl0)) (Qan Q8c Qbi)))⟩
  ·skip
   refine wx tbk [(2,rp [(.tmp 10,(Qmm p0))] (I ((p0.Elements.length:Int))))] ⟨alm (c:=Qab) (l:=p0.Elements) (aln rfl Tryz.underlying40 rfl),tv⟩<|Qal ?_
   refine wmr (mto (n:=28) (l':=[(1,.ref 0 2 0 0),(3,.ref 1 1 0 0),(10,(Qmm p0)),(11,(I ((p0.Elements.length:Int)))),(12,I 0)]) (own':=[(Ql1 p0),(.own 1 [[(.mp 2)]]),(Qc0 ([]:List (Int×Int)))]) [(1,.ref 0 2 0 0),(3,.ref 2 1 0 0),(10,(Qmm p0)),(11,(I ((p0.Elements.length:Int)))),(12,I 0)] [0,2,1] [(Ql1 p0),(.own 1 [[(.mp 1)]]),(Qc0 ([]:List (Int×Int)))] hφ0 (prr (prr (pc (rnd Qaa) (pw (pw pn))))) (qb (lc (rnd Qae) (lc (rnd Qaa) ln)) (qb (lc (.rn (Qhc rfl)) ln) (qc Qek qn)))) ?_
   refine Qbu (τ:=Int×(List (Int×Int))) (fun n t=>Qdz N p0 k3 n t.1 t.2=some r) (fun ⟨y4,y5⟩=>⟨mk 28 [(1,.ref 0 2 0 0),(3,.ref 1 1 0 0),(10,(Qmm p0)),(11,(I ((p0.Elements.length:Int)))),(12,I y4)],[(Ql1 p0),(.own 1 [[(.mp 2)]]),(Qc0 y5)]⟩) (fun t h=>by rw [Qdz] at h; cases h) (fun n8 ih t h=>?_) N (0,([]:List (Int×Int))) h
   obtain ⟨y4,y5⟩:=t
   rw [Qdz] at h
   skip
   refine wxz<|wsq ?_
   refine bfe h (fun hc9 h=>?_) fun hc9 h=>?_
   ·refine wft hc9<|Qam<|thn ?_
    obtain ⟨k11,hk_k11,h⟩:=jko h
    refine wjn (τ:=(List (Int×Int))) (fun t=>k11 t=some r) (fun y10=>⟨mk 28 [(1,.ref 0 2 0 0),(3,.ref 1 1 0 0),(10,(Qmm p0)),(11,(I ((p0.Elements.length:Int)))),(12,I y4)],[(Ql1 p0),(.own 1 [[(.mp 2)]]),(Qc0 y10)]⟩) (fun y10 h=>?_) ?_
    ·subst hk_k11
     exact wxz1<|thn<|arm (mto (n:=28) [(1,.ref 0 2 0 0),(3,.ref 1 1 0 0),(10,(Qmm p0)),(11,(I ((p0.Elements.length:Int)))),(12,(I (w64 (y4+1))))] [0,1,2] [(Ql1 p0),(.own 1 [[(.mp 2)]]),(Qc0 y10)] hφ0 (prr (prr (pc (rnd Qaa) (pw (pw pn))))) (qb (lc (rnd Qae) (lc (rnd Qaa) ln)) (qb (lc (.rn (Qhc rfl)) ln) (qc Qek qn)))) (ih (w64 (y4+1),y10) h)
    ·skip
     refine Qal ?_
     obtain ⟨x12,hg13,h⟩:=bno h
     obtain ⟨hi14,hj15⟩:=gsm hg13
     refine wx tbk [(0,rp [(.tmp 10,(Qmm p0)),(.tmp 12,I y4)] (.dptr (Qab (x12)) 0))] ⟨aid rfl Tryz.underlying40 Qg2 rfl rfl hi14 (mgt Qab hj15) rfl,tv⟩ ?_
     refine wx tbk [(2,rp [(.tmp 17,(Qrl x12))] (I ((x12.From.length:Int))))] ⟨alm (c:=Qar) (l:=x12.From) (aln rfl Tryz.underlying116 rfl),tv⟩<|Qal ?_
     refine wmr (mto (n:=28) (l':=[(1,.ref 0 2 0 0),(3,.ref 1 1 0 0),(10,(Qmm p0)),(11,(I ((p0.Elements.length:Int)))),(12,I y4),(17,(Qrl x12)),(18,(I ((x12.From.length:Int)))),(19,I 0)]) (own':=[(Ql1 p0),(.own 1 [[(.mp 2)]]),(Qc0 y5)]) [(1,.ref 0 2 0 0),(3,.ref 1 1 0 0),(10,(Qmm p0)),(11,(I ((p0.Elements.length:Int)))),(12,I y4),(17,(Qrl x12)),(18,(I ((x12.From.length:Int)))),(19,I 0)] [0,1,2] [(Ql1 p0),(.own 1 [[(.mp 2)]]),(Qc0 y5)] hφ0 (prr (prr (pc (rnd Qaa) (pw (pw (pc (rnd Qaz) (pw (pw pn)))))))) (qb (lc (rnd Qae) (lc (rnd Qaa) ln)) (qb (lc (.rn (Qhc rfl)) ln) (qc Qek qn)))) ?_
     refine Qbu (τ:=Int×(List (Int×Int))) (fun n t=>Qdy N k11 x12 n t.1 t.2=some r) (fun ⟨y16,y17⟩=>⟨mk 28 [(1,.ref 0 2 0 0),(3,.ref 1 1 0 0),(10,(Qmm p0)),(11,(I ((p0.Elements.length:Int)))),(12,I y4),(17,(Qrl x12)),(18,(I ((x12.From.length:Int)))),(19,I y16)],[(Ql1 p0),(.own 1 [[(.mp 2)]]),(Qc0 y17)]⟩) (fun t h=>by rw [Qdy] at h; cases h) (fun n20 ih t h=>?_) N (0,y5) h
     obtain ⟨y16,y17⟩:=t
     rw [Qdy] at h
     skip
     refine wxz<|wsq ?_
     refine bfe h (fun hc21 h=>?_) fun hc21 h=>?_
     ·refine wft hc21<|Qam<|thn<|wsq<|Qal ?_
      obtain ⟨x22,hg23,h⟩:=bno h
      obtain ⟨hi24,hj25⟩:=gsm hg23
      refine wx tbk [(0,rp [(.tmp 17,(Qrl x12)),(.tmp 19,I y16)] (.dptr (Qar (x22)) 0))] ⟨aid rfl Tryz.underlying116 Qkv rfl rfl hi24 (mgt Qar hj25) rfl,tv⟩ ?_
      exact wx1 tbk [(2,⟨[(.tmp 23,(.mp 2)),(.tmp 24,(.agg [I x22.Element,I x22.Outlet])),cb true],[(2,(Qc0 y17))],.any,[(2,(Qc0 (addQ y17 (x22.Element,x22.Outlet))))],false⟩)] ⟨Qqy rfl Tryz.underlying190 Tryz.underlying120 Qr3 Qqk,tv⟩<|bln<|thn<|wxz1<|thn<|arm (mto (n:=28) [(1,.ref 0 2 0 0),(3,.ref 1 1 0 0),(10,(Qmm p0)),(11,(I ((p0.Elements.length:Int)))),(12,I y4),(17,(Qrl x12)),(18,(I ((x12.From.length:Int)))),(19,(I (w64 (y16+1))))] [0,1,2] [(Ql1 p0),(.own 1 [[(.mp 2)]]),(Qc0 (addQ y17 (x22.Element,x22.Outlet)))] hφ0 (prr (prr (pc (rnd Qaa) (pw (pw (pc (rnd Qaz) (pw (pw pn)))))))) (qb (lc (rnd Qae) (lc (rnd Qaa) ln)) (qb (lc (.rn (Qhc rfl)) ln) (qc Qek qn)))) (ih (w64 (y16+1),addQ y17 (x22.Element,x22.Outlet)) h)
     ·exact wfn hc21<|Qbf<|Qav<|Qav<|Qbe rfl<|bln<|thn<|⟨(y17),h,(mto (n:=28) [(1,.ref 0 2 0 0),(3,.ref 1 1 0 0),(10,(Qmm p0)),(11,(I ((p0.Elements.length:Int)))),(12,I y4)] [0,1,2] [(Ql1 p0),(.own 1 [[(.mp 2)]]),(Qc0 y17)] hφ0 (prr (prr (pc (rnd Qaa) (pw (pw pn))))) (qb (lc (rnd Qae) (lc (rnd Qaa) ln)) (qb (lc (.rn (Qhc rfl)) ln) (qc Qek qn))))⟩
   ·exact wfn hc9<|Qbf<|Qav<|Qav<|Qbe rfl<|thn<|⟨(y5),h,(mto (n:=28) [(1,.ref 0 2 0 0),(3,.ref 1 1 0 0)] [0,1,2] [(Ql1 p0),(.own 1 [[(.mp 2)]]),(Qc0 y5)] hφ0 (prr (prr pn)) (qb (lc (rnd Qae) (lc (rnd Qaa) ln)) (qb (lc (.rn (Qhc rfl)) ln) (qc Qek qn))))⟩
def Qc8 (N:Nat) (y1:Int) (p2:(List (Int×Int))) (k8:Unit→Option (List GPort)) (x14:Int):Nat→Int→Option (List GPort)
  | 0,_=>none
  | n19+1,y15=>
    bif (decide (y15<x14)) then
     bif (!(p2.contains (y1,y15))) then
      yld (⟨y1,y15⟩:GPort)<|
      Qc8 N y1 p2 k8 x14 n19 (w64 (y15+1))
     else
      Qc8 N y1 p2 k8 x14 n19 (w64 (y15+1))
    else
     k8 ()
def Qdx (N:Nat) (p1:(List GElement)) (p2:(List (Int×Int))):Nat→Int→Option (List GPort)
  | 0,_=>none
  | n5+1,y1=>
    bif (decide (y1<(p1.length:Int))) then
     Qby (fun _=>
       Qdx N p1 p2 n5 (w64 (y1+1))) fun k8:Unit→Option (List GPort)=>
     (getI p1 y1).bind fun x9=>
     (Qdh N x9).bind fun x14=>
     Qc8 N y1 p2 k8 x14 N 0
    else
     some ([])
def Qii (N:Nat) (_p0:(List GRow)) (p1:(List GElement)) (p2:(List (Int×Int))):Option (List GPort):=
  Qdx N p1 p2 N 0
def Qml (p1:(List GElement)):AV:=.dat 7 ((p1:List GElement).map Qab)
def Qoy (p0:(List GRow)) (p1:(List GElement)):Slot:=.own 2 [[(.dat 5 ((p0:List GRow).map Qau)),(Qml p1)]]
def Zgm (x9:GElement):AV:=.agg [(K .u8 (x9.Kind)),(.dat 2 ((x9.From:List GPort).map Qar)),(I (x9.Level)),(I (x9.Amount)),(I (x9.Wide)),(I (x9.Narrow)),(.dat 1 ((x9.Weights:List Int).map Qaj))]
def Qlx (y1:Int) (y15:Int):AV:=.agg [(I (y1)),(I (y15))]
theorem Qmb (N:Nat) (p0:(List GRow)) (p1:(List GElement)) (p2:(List (Int×Int))) (r:(List GPort)) (h:Qii N p0 p1 p2=some r):Qq7 Tryz.prog 110 [(.ref 0 2 (0) 0),(.ref 1 1 (0) 0)] [(Qoy p0 p1),(.own 1 [[(.mp 2)]]),(Qc0 p2)] (fun x=>[(.agg #[(.int .i64 (x.Element)),(.int .i64 (x.Outlet))])]) r:=by
  refine Qrt Tryz.func110 rfl rfl (fun X φ0 w0 l J hφ0 hy=>?_)
  unfold Qii at h
  refine wx tbk [(2,rp [(.tmp 9,(Qml p1))] (I ((p1.length:Int))))] ⟨alm (c:=Qab) (l:=p1) (aln rfl Tryz.underlying40 rfl),tv⟩<|Qal ?_
  refine wmr (mto (n:=36) (l':=[(0,(.lit (.func (.yield l) #[] #[]))),(2,.ref 1 1 0 0),(9,(Qml p1)),(10,(I ((p1.length:Int)))),(11,I 0)]) (own':=[(Qoy p0 p1),(.own 1 [[(.mp 2)]]),(Qc0 p2),(.far (J (some (r))))]) [(0,(.lit (.func (.yield l) #[] #[]))),(2,.ref 1 1 0 0),(9,(Qml p1)),(10,(I ((p1.length:Int)))),(11,I 0)] [0,1,2,3] [(Qoy p0 p1),(.own 1 [[(.mp 2)]]),(Qc0 p2),(.far (J (some (r))))] hφ0 (pw (prr (pc (rnd Qaa) (pw (pw pn))))) (qb (lc (rnd Qae) (lc (rnd Qaa) ln)) (qb (lc (.rn (Qhc rfl)) ln) (qc Qek (qc (.far _) qn))))) ?_
  refine Qbu (τ:=(Int)×List GPort) (fun n t=>Qdx N p1 p2 n t.1=some t.2) (fun ⟨y1,q2⟩=>⟨mk 36 [(0,(.lit (.func (.yield l) #[] #[]))),(2,.ref 1 1 0 0),(9,(Qml p1)),(10,(I ((p1.length:Int)))),(11,I y1)],[(Qoy p0 p1),(.own 1 [[(.mp 2)]]),(Qc0 p2),(.far (J (some (q2))))]⟩) (fun t h=>by rw [Qdx] at h; cases h) (fun n5 ih t h=>?_) N ((0),r) h
  obtain ⟨y1,q2⟩:=t
  rw [Qdx] at h
  try dsimp only at h
  refine wxz<|wsq ?_
  refine bfe h (fun hc6 h=>?_) fun hc6 h=>?_
  ·refine wft hc6<|Qam<|thn ?_
   obtain ⟨k8,hk_k8,h⟩:=jko h
   refine wjn (τ:=(Unit)×List GPort) (fun t=>k8 t.1=some t.2) (fun ⟨_,q7⟩=>⟨mk 36 [(0,(.lit (.func (.yield l) #[] #[]))),(2,.ref 1 1 0 0),(9,(Qml p1)),(10,(I ((p1.length:Int)))),(11,I y1)],[(Qoy p0 p1),(.own 1 [[(.mp 2)]]),(Qc0 p2),(.far (J (some (q7))))]⟩) (fun t h=>?_) ?_
   ·subst hk_k8
    obtain ⟨_,q7⟩:=t
    exact wxz1<|thn<|arm (mto (n:=36) [(0,(.lit (.func (.yield l) #[] #[]))),(2,.ref 1 1 0 0),(9,(Qml p1)),(10,(I ((p1.length:Int)))),(11,(I (w64 (y1+1))))] [0,1,2,3] [(Qoy p0 p1),(.own 1 [[(.mp 2)]]),(Qc0 p2),(.far (J (some (q7))))] hφ0 (pw (prr (pc (rnd Qaa) (pw (pw pn))))) (qb (lc (rnd Qae) (lc (rnd Qaa) ln)) (qb (lc (.rn (Qhc rfl)) ln) (qc Qek (qc (.far _) qn))))) (ih ((w64 (y1+1)),q7) h)
   ·skip
    refine Qal ?_
    obtain ⟨x9,hg10,h⟩:=bno h
    obtain ⟨hi11,hj12⟩:=gsm hg10
    refine wx tbk [(1,rp [(.tmp 9,(Qml p1)),(.tmp 11,I y1)] (.dptr (Qab (x9)) 0))] ⟨aid rfl Tryz.underlying40 Qg2 rfl rfl hi11 (mgt Qab hj12) rfl,tv⟩ ?_
    obtain ⟨x14,hf13,h⟩:=bno h
    refine wx tbk [(1,rp [fu 103,(.tmp 16,(Zgm x9))] (I x14))] ⟨apv Qzz (Qgz N x9 _ hf13) (nlc (NLt.agg _ (nlc nll (nlc (nld Qaz _) (nlcc (nlcc (nlc (nld Qaf _) nl0)))))) nl0) nll,tv⟩<|Qal ?_
    refine wmr (mto (n:=36) (l':=[(0,(.lit (.func (.yield l) #[] #[]))),(2,.ref 1 1 0 0),(4,I y1),(9,(Qml p1)),(10,(I ((p1.length:Int)))),(11,I y1),(17,I x14),(18,I 0)]) (own':=[(Qoy p0 p1),(.own 1 [[(.mp 2)]]),(Qc0 p2),(.far (J (some (q2))))]) [(0,(.lit (.func (.yield l) #[] #[]))),(2,.ref 1 1 0 0),(4,I y1),(9,(Qml p1)),(10,(I ((p1.length:Int)))),(11,I y1),(17,I x14),(18,I 0)] [0,1,2,3] [(Qoy p0 p1),(.own 1 [[(.mp 2)]]),(Qc0 p2),(.far (J (some (q2))))] hφ0 (pw (prr (pw (pc (rnd Qaa) (pw (pw (pw (pw pn)))))))) (qb (lc (rnd Qae) (lc (rnd Qaa) ln)) (qb (lc (.rn (Qhc rfl)) ln) (qc Qek (qc (.far _) qn))))) ?_
    refine Qbu (τ:=(Int)×List GPort) (fun n t=>Qc8 N y1 p2 k8 x14 n t.1=some t.2) (fun ⟨y15,q16⟩=>⟨mk 36 [(0,(.lit (.func (.yield l) #[] #[]))),(2,.ref 1 1 0 0),(4,I y1),(9,(Qml p1)),(10,(I ((p1.length:Int)))),(11,I y1),(17,I x14),(18,I y15)],[(Qoy p0 p1),(.own 1 [[(.mp 2)]]),(Qc0 p2),(.far (J (some (q16))))]⟩) (fun t h=>by rw [Qc8] at h; cases h) (fun n19 ih t h=>?_) N ((0),q2) h
    obtain ⟨y15,q16⟩:=t
    rw [Qc8] at h
    try dsimp only at h
    refine wxz<|wsq ?_
    refine bfe h (fun hc20 h=>?_) fun hc20 h=>?_
    ·refine wft hc20<|Qam<|thn<|wsq<|Qal<|wxz ?_
     refine wx tbk [(2,rp [(.tmp 21,I y1),(.tmp 22,I y15)] (Qlx y1 y15))] ⟨Qax (vs:=[I y1,I y15]) rfl Q4o Qoz rfl (by rfl) rfl,tv⟩ ?_
     refine bfe h (fun hb21 h=>?_) fun hb21 h=>?_
     ·obtain ⟨q22,hy_,hq_⟩:=Qwx h
      clear h
      subst hq_
      have h:=hy_
      clear hy_
      refine Qpe 7 [rb [(.tmp 2,.ref 1 1 0 0)] [(1,(.own 1 [[(.mp 2)]]))] (.mp 2),rb [(.tmp 7,.ref 4 2 0 0)] [(4,.own 2 [[I y1,I y15]])] (Qlx y1 y15),rb [(.tmp 24,(.mp 2)),(.tmp 25,(Qlx y1 y15))] [(2,(Qc0 p2))] (B (p2.contains (y1,y15))),rp [(.tmp 26,(B (p2.contains (y1,y15))))] (B ((!(p2.contains (y1,y15))))),rp [(.tmp 27,(B ((!(p2.contains (y1,y15))))))] (B true),rp [(.tmp 28,B true),(.tmp 0,(.lit (.func (.yield l) #[] #[])))] (.lit (.func (.yield l) #[] #[])),rb [(.tmp 28,B true),(.tmp 7,.ref 4 2 0 0)] [(4,.own 2 [[I y1,I y15]])] (Qlx y1 y15),⟨[(.tmp 28,B true),(.tmp 29,(.lit (.func (.yield l) #[] #[]))),(.tmp 30,(Qlx y1 y15))],[(3,(.far (J (some ((⟨y1,y15⟩:GPort)::q22)))))],B true,[(3,(.far (J (some (q22)))))],false⟩,rp [(.tmp 28,B true),(.tmp 31,B true)] (B false),rp [(.tmp 28,B true),(.tmp 32,B false),cb false] (B false)] [rb [(.tmp 2,.ref 1 1 0 0)] [(1,(.own 1 [[(.mp 2)]]))] (.mp 2),rb [(.tmp 7,.ref 4 2 0 0)] [(4,.own 2 [[I y1,I y15]])] (Qlx y1 y15),rb [(.tmp 24,(.mp 2)),(.tmp 25,(Qlx y1 y15))] [(2,(Qc0 p2))] (B (p2.contains (y1,y15))),rp [(.tmp 26,(B (p2.contains (y1,y15))))] (B ((!(p2.contains (y1,y15))))),rp [(.tmp 27,(B ((!(p2.contains (y1,y15))))))] (B true),rp [(.tmp 28,B true),(.tmp 0,(.lit (.func (.yield l) #[] #[])))] (.lit (.func (.yield l) #[] #[])),rb [(.tmp 28,B true),(.tmp 7,.ref 4 2 0 0)] [(4,.own 2 [[I y1,I y15]])] (Qlx y1 y15),⟨[(.tmp 28,B true),(.tmp 29,(.lit (.func (.yield l) #[] #[]))),(.tmp 30,(Qlx y1 y15))],[(3,(.far (J (some ((⟨y1,y15⟩:GPort)::q22)))))],B false,[(3,(.far (J none)))],false⟩,rp [(.tmp 28,B true),(.tmp 31,B false)] (B true),rp [(.tmp 28,B true),(.tmp 32,B true),cb false] (B true)] (by exact ⟨by kernel_rfl,by kernel_rfl⟩) (by exact ⟨by kernel_rfl,by kernel_rfl⟩) rfl rfl rfl rfl (Qvi (Qmf (rd':=(.tmp 29,.lit (.func (.yield l) #[] #[]))::[(.tmp 30,.lit (.agg #[(.int .i64 ((⟨y1,y15⟩:GPort).Element)),(.int .i64 ((⟨y1,y15⟩:GPort).Outlet))]))]) ⟨rfl,lrf,rfl,(Less.lits [(.int .i64 (y1)),(.int .i64 (y15))]),tv⟩ (Qla (x:=(⟨y1,y15⟩:GPort)) (rest:=q22) rfl rfl hy rfl))) (⟨fun _ _=>ald rfl Zd6 (by decide) rfl (nle rfl) rfl,fun _ _=>ald rfl Qkv (by decide) rfl (nle rfl) rfl,fun _ _=>Qkk rfl Tryz.underlying190 Tryz.underlying120 zb4 Qr3 Qqk,fun _ _=>Qja rfl,fun _ _=>asb hb21 (amv rfl),fun _ _=>ag_ (amv rfl),fun _ _=>ag_ (ald rfl Qkv (by decide) rfl (nle rfl) rfl),fun _ h=>absurd rfl h,fun _ _=>ag_ (Qja rfl),fun _ _=>apk rfl rfl,tv⟩) (⟨fun _ _=>ald rfl Zd6 (by decide) rfl (nle rfl) rfl,fun _ _=>ald rfl Qkv (by decide) rfl (nle rfl) rfl,fun _ _=>Qkk rfl Tryz.underlying190 Tryz.underlying120 zb4 Qr3 Qqk,fun _ _=>Qja rfl,fun _ _=>asb hb21 (amv rfl),fun _ _=>ag_ (amv rfl),fun _ _=>ag_ (ald rfl Qkv (by decide) rfl (nle rfl) rfl),fun _ h=>absurd rfl h,fun _ _=>ag_ (Qja rfl),fun _ _=>apk rfl rfl,tv⟩) ?_ ?_
      ·skip
       exact wfa<|Qam<|bln<|thn<|wxz1<|thn<|arm (mto (n:=36) [(0,(.lit (.func (.yield l) #[] #[]))),(2,.ref 1 1 0 0),(4,I y1),(9,(Qml p1)),(10,(I ((p1.length:Int)))),(11,I y1),(17,I x14),(18,(I (w64 (y15+1))))] [0,1,2,3] [(Qoy p0 p1),(.own 1 [[(.mp 2)]]),(Qc0 p2),(.far (J (some (q22))))] hφ0 (pw (prr (pw (pc (rnd Qaa) (pw (pw (pw (pw pn)))))))) (qb (lc (rnd Qae) (lc (rnd Qaa) ln)) (qb (lc (.rn (Qhc rfl)) ln) (qc Qek (qc (.far _) qn))))) (ih ((w64 (y15+1)),q22) h)
      ·clear h
       refine wtr<|Qad<|Qak<|Qac<|Qac<|Qak<|Qak<|Qac<|Qac<|Qak ?_
       exact Or.inr (by kernel_rfl)
     ·exact wx tbk [(2,rb [(.tmp 24,(.mp 2)),(.tmp 25,(Qlx y1 y15))] [(2,(Qc0 p2))] (B (p2.contains (y1,y15)))),(4,rp [(.tmp 27,(B ((!(p2.contains (y1,y15))))))] (B false))] ⟨Qkk rfl Tryz.underlying190 Tryz.underlying120 zb4 Qr3 Qqk,asb hb21 (amv rfl),tv⟩<|wfa<|Qam<|bln<|thn<|wxz1<|thn<|arm (mto (n:=36) [(0,(.lit (.func (.yield l) #[] #[]))),(2,.ref 1 1 0 0),(4,I y1),(9,(Qml p1)),(10,(I ((p1.length:Int)))),(11,I y1),(17,I x14),(18,(I (w64 (y15+1))))] [0,1,2,3] [(Qoy p0 p1),(.own 1 [[(.mp 2)]]),(Qc0 p2),(.far (J (some (q16))))] hφ0 (pw (prr (pw (pc (rnd Qaa) (pw (pw (pw (pw pn)))))))) (qb (lc (rnd Qae) (lc (rnd Qaa) ln)) (qb (lc (.rn (Qhc rfl)) ln) (qc Qek (qc (.far _) qn))))) (ih ((w64 (y15+1)),q16) h)
    ·exact wfn hc20<|Qbf<|Qav<|Qav<|Qbe rfl<|bln<|thn<|⟨((),q16),h,(mto (n:=36) [(0,(.lit (.func (.yield l) #[] #[]))),(2,.ref 1 1 0 0),(9,(Qml p1)),(10,(I ((p1.length:Int)))),(11,I y1)] [0,1,2,3] [(Qoy p0 p1),(.own 1 [[(.mp 2)]]),(Qc0 p2),(.far (J (some (q16))))] hφ0 (pw (prr (pc (rnd Qaa) (pw (pw pn))))) (qb (lc (rnd Qae) (lc (rnd Qaa) ln)) (qb (lc (.rn (Qhc rfl)) ln) (qc Qek (qc (.far _) qn)))))⟩
  ·refine wfn hc6<|Qbf<|Qav<|Qav<|Qbe rfl ?_
   obtain rfl:=osi h
   exact Or.inl rfl
def Qbc (N:Nat) (k3:(List GPort)→Option (List GPort)):(List GPort)→(List GPort)→Option (List GPort)
  | [],y6=>
    k3 (y6)
  | x9::q10,y6=>
    chk (decide ((y6.length+([x9]).length) * 16≤140737488355328))<|
    Qbc N k3 q10 (y6++([x9]))
def Qcv (N:Nat) (p0:(List GRow)) (p1:(List GElement)) (p2:(List (Int×Int))):Option (List GPort):=
  Qby (fun y2=>
    some y2) fun k3:(List GPort)→Option (List GPort)=>
  (Qii N p0 p1 p2).bind fun q4=>
  Qbc N k3 q4 ([])
def Zdk:AV:=.fn (.func 110) [] [(.ref 0 2 (0) 0),(.ref 1 1 (0) 0)]
def Q7w (p0:(List GRow)):AV:=.dat 5 ((p0:List GRow).map Qau)
def Q7v (p1:(List GElement)):AV:=.dat 7 ((p1:List GElement).map Qab)
def Q3z (y6:(List GPort)):AV:=.acc 4 120 2 ((y6:List GPort).map Qar)
theorem Qf1 (N:Nat) (p0:(List GRow)) (p1:(List GElement)) (p2:(List (Int×Int))) (r:(List GPort)) (h:Qcv N p0 p1 p2=some r):Spec Tryz.prog 111 [nilS,Zdk] [(.own 2 [[(Q7w p0),(Q7v p1)]]),(.own 1 [[(.mp 2)]]),(Qc0 p2)] (.dat 2 ((r:List GPort).map Qar)) [.dead,.dead,.dead]:=by
  refine Qah Tryz.func111 rfl 3 (nle rfl) (fun X φ0 w0 hφ0 hd0=>?_)
  unfold Qcv at h
  refine Qbh<|wxz ?_
  obtain ⟨k3,hk_k3,h⟩:=jko h
  refine wjn (τ:=(List GPort)) (fun t=>k3 t=some r) (fun y2=>⟨mk 13 [(2,.ref 3 1 0 0)],[.dead,.dead,.dead,(.own 1 [[(.acc 4 120 2 ((y2:List GPort).map Qar))]]),.tok]⟩) (fun y2 h=>?_) ?_
  ·subst hk_k3
   refine wxz<|wmr (mto (n:=13) (l':=[(4,(.dat 2 ((y2:List GPort).map Qar)))]) (own':=[.dead,.dead,.dead]) [(4,(.acc 4 120 2 ((y2:List GPort).map Qar)))] [0,1,2] [.dead,.dead,.dead] hφ0 (pc (.dat _ _ _ _ (Qb9 Qaz _)) pn) (qc .dead (qc .dead (qc .dead qn))))<|Qad ?_
   obtain rfl:=osi h
   exact ⟨_,Mor.rfl,Qct (vs:=[(.dat 2 ((y2:List GPort).map Qar))]) ⟨rot,tv⟩ rfl (NLt.of0 (nld Qaz _)) (by kernel_rfl) (Qan .dead (Qan .dead (Qan .dead Qbi)))⟩
  ·skip
   refine wxz<|Qal ?_
   obtain ⟨q4,hL5,h⟩:=bno h
   refine wmr (mto (n:=13) (l':=[(2,.ref 3 1 0 0),(6,Zdk)]) (own':=[(.own 2 [[(Q7w p0),(Q7v p1)]]),(.own 1 [[(.mp 2)]]),(Qc0 p2),(.own 1 [[nilS]])]) [(2,.ref 3 1 0 0),(6,Zdk)] [0,1,2,3] [(.own 2 [[(Q7w p0),(Q7v p1)]]),(.own 1 [[(.mp 2)]]),(Qc0 p2),(.own 1 [[nilS]])] hφ0 (prr (pc (.rn (Qbd rn0 (rnc (rqr rfl) (rnc (rqr rfl) rn0)))) pn)) (qb (lc (rnd Qae) (lc (rnd Qaa) ln)) (qb (lc (.rn (Qhc rfl)) ln) (qc Qek (qb (lc rwl ln) qn))))) ?_
   refine wmr (Qo9 (n:=4) (ty:=120) (m:=2) (q:=3) (mq:=1) (c:=[nilS]) 0 (by kernel_rfl) (by kernel_rfl) (by kernel_rfl) (by decide)) ?_
   refine Qr7 (τ:=((List GPort))) (kb:=4) (caps:=[.ref 0 2 0 0,.ref 1 1 0 0]) (σr:=[(.own 2 [[(Q7w p0),(Q7v p1)]]),(.own 1 [[(.mp 2)]]),(Qc0 p2)]) (encs:=fun x=>[(.agg #[(.int .i64 (x.Element)),(.int .i64 (x.Outlet))])]) (fun x=>[(.agg [I x.Element,I x.Outlet])]) [0,1,2] (fun n hn=>hφ0 n (Nat.le_trans (nle rfl) hn)) hd0 (Qmb N p0 p1 p2 _ hL5) Q91 (by kernel_rfl) (by kernel_rfl) (Qbn (rnc (Qbg rfl) (rnc (Qbg rfl) rn0))) (slc (Qao (rnc (pld Qae) (rnc (pld Qaa) rn0))) (slc (Qao (rnc (Zbn rfl) rn0)) (slc Qo7 Qas))) (by kernel_rfl) (fun _=>rfl) (fun x=>⟨(Less.unlits [(.int .i64 (x.Element)),(.int .i64 (x.Outlet))]),tv⟩) (Zbt (Qo8 (NLt.ref _ _ _ _ (by decide)) (Qo8 (NLt.fn _ _ _ nl0 (nlc (NLt.ref _ _ _ _ (by decide)) (nlc (NLt.ref _ _ _ _ (by decide)) nl0))) Q5a))) (fun y6=>[.dead,.dead,.dead,(.own 1 [[(Q3z y6)]]),.tok]) (fun _=>rfl) (fun _=>rfl) (fun l t=>Qbc N k3 l t=some r) ([]) h (by kernel_rfl) ?_ ?_
   ·intro l11 o12 X15 φ16 w17 hφ14 x9 q10 y6 h
    rw [Qbc] at h
    refine wxz1 ?_
    refine ⟨by kernel_rfl,fun o13=>?_⟩
    refine Qal ?_
    obtain ⟨ha18,h⟩:=cko h
    refine wx1 tbk [(2,rp [(.tmp 9,(.agg [I x9.Element,I x9.Outlet]))] (.dat 2 (([x9]:List GPort).map Qar))),(3,⟨[(.tmp 8,(Q3z y6)),(.tmp 10,(.dat 2 (([x9]:List GPort).map Qar)))],[(4,.tok),(7,.unused)],(.acc 7 120 2 ((y6++([x9]):List GPort).map Qar)),[(4,.dead),(7,.tok)],false⟩)] ⟨Qbt (vs:=[(.agg [I x9.Element,I x9.Outlet])]) rfl Tryz.underlying116 Qkv Qoz rfl (by decide) rfl (by decide) (by rfl) (by rfl) (by rfl) rfl,Qej rfl Tryz.underlying116 Q8a (Base.acc _ _) rfl rfl (by rfl) (Qgj Qar ha18) (Qgi Qar ha18 (by decide)) (Qgh Qar) rfl rfl,tv⟩<|bln ?_
    exact ⟨(y6++([x9])),h,Zbo (own':=[.dead,.dead,.dead,(.own 1 [[(.acc 4 120 2 (((y6++([x9])):List GPort).map Qar))]]),.tok,(.far (farL l11 o13))]) [0,1,2,3,7,5] [.dead,.dead,.dead,(.own 1 [[(.acc 7 120 2 ((y6++([x9]):List GPort).map Qar))]]),.tok,(.far (farL l11 o13))] (by kernel_rfl) (by kernel_rfl) ⟨.dead,.dead,.dead,(spb (lc (.rn (Qcw rfl (Qb9 Qaz _))) ln)),.tok,.far _,tv⟩⟩
   ·intro y6 h
    rw [Qbc] at h
    exact bln<|thn<|⟨(y6),h,(mto (n:=13) [(2,.ref 3 1 0 0)] [0,1,2,3,4] [.dead,.dead,.dead,(.own 1 [[(Q3z y6)]]),.tok] hφ0 (prr pn) (qc .dead (qc .dead (qc .dead (qb (lc (.rn (Qcw rfl (Qb9 Qaz _))) ln) (qc .tok qn))))))⟩
def Qex (N:Nat) (p0:(List GRow)) (p1:(List GElement)) (p2:(List (Int×Int))):Option (List GPort):=
  (Qcv N p0 p1 p2).bind fun x3=>
  some x3
def Zdn:AV:=.fn (.func 110) [] [(.ref 0 2 (0) 0),(.ref 1 1 (0) 0)]
def Zdm (p0:(List GRow)):AV:=.dat 5 ((p0:List GRow).map Qau)
def Zdl (p1:(List GElement)):AV:=.dat 7 ((p1:List GElement).map Qab)
def Q30 (x3:(List GPort)):AV:=.dat 2 ((x3:List GPort).map Qar)
theorem Qh3 (N:Nat) (p0:(List GRow)) (p1:(List GElement)) (p2:(List (Int×Int))) (r:(List GPort)) (h:Qex N p0 p1 p2=some r):Spec Tryz.prog 89 [Zdn] [(.own 2 [[(Zdm p0),(Zdl p1)]]),(.own 1 [[(.mp 2)]]),(Qc0 p2)] (.dat 2 ((r:List GPort).map Qar)) [.dead,.dead,.dead]:=by
  refine Qah Tryz.func89 rfl 3 (nle rfl) (fun X φ0 w0 hφ0 hd0=>?_)
  unfold Qex at h
  refine Qbh<|wxz ?_
  obtain ⟨x3,hf2,h⟩:=bno h
  refine wx tbk [(1,⟨[fu 111,((.const (.slice none 0 0)),nilS),(.tmp 3,Zdn)],[(0,(.own 2 [[(Zdm p0),(Zdl p1)]])),(1,(.own 1 [[(.mp 2)]])),(2,(Qc0 p2))],(Q30 x3),[(0,.dead),(1,.dead),(2,.dead)],false⟩)] ⟨Qat (first:=[]) (cap:=[]) (vs:=[nilS,Zdn]) (σr:=[(.own 2 [[(Zdm p0),(Zdl p1)]]),(.own 1 [[(.mp 2)]]),(Qc0 p2)]) (σr':=[.dead,.dead,.dead]) (res':=(Q30 x3)) [0,1,2] rfl Q90 (Qf1 N p0 p1 p2 _ hf2) rfl (Qbn (rnc (.plain _ nll) (rnc (Qbd rn0 (rnc (Qbb rfl) (rnc (Qbb rfl) rn0))) rn0))) (slc (Qao (rnc (pld Qae) (rnc (pld Qaa) rn0))) (slc (Qao (rnc (Zbm rfl) rn0)) (slc Qo7 Qas))) (slc .dead (slc .dead (slc .dead Qas))) (pld Qaz) rfl rfl rfl,tv⟩ ?_
  refine wmr (mto (n:=5) (l':=[(2,(Q30 x3))]) (own':=[.dead,.dead,.dead]) [(2,(Q30 x3))] [0,1,2] [.dead,.dead,.dead] hφ0 (pc (rnd Qaz) pn) (qc .dead (qc .dead (qc .dead qn))))<|Qad ?_
  obtain rfl:=osi h
  exact ⟨_,Mor.rfl,Qct (vs:=[(Q30 x3)]) ⟨rot,tv⟩ rfl (NLt.of0 (nld Qaz _)) (by kernel_rfl) (Qan .dead (Qan .dead (Qan .dead Qbi)))⟩
def Qn7 (N:Nat) (p0:GNet):Option ((List GPort)×Int):=
  (Qd7 N p0).bind fun x2=>
  bif (!x2) then
   some ([],1)
  else
   (Qij N p0).bind fun x5=>
   (Qex N p0.Table p0.Elements x5).bind fun x7=>
   some (x7,0)
def Zgn (p0:GNet):AV:=.dat 7 ((p0.Elements:List GElement).map Qab)
def Zdp (p0:GNet):AV:=.agg [(.dat 5 ((p0.Table:List GRow).map Qau)),(Zgn p0)]
def Q7x:AV:=.fn (.func 110) [] [(.ref 1 2 (0) 0),(.ref 2 1 (0) 0)]
def Q7y (p0:GNet):Slot:=.own 2 [[(.dat 5 ((p0.Table:List GRow).map Qau)),(Zgn p0)]]
def Zdo (x7:(List GPort)):AV:=.dat 2 ((x7:List GPort).map Qar)
theorem Qs6 (N:Nat) (p0:GNet) (r:((List GPort)×Int)) (h:Qn7 N p0=some r):Spec Tryz.prog 47 [(.agg (Qgn p0))] [] (.tup [(.dat 2 (r.1.map Qar)),(I r.2)]) []:=by
  refine Qah Tryz.func47 rfl 0 (nle rfl) (fun X φ0 w0 hφ0 hd0=>?_)
  unfold Qn7 at h
  refine wxz<|wsq ?_
  obtain ⟨x2,hf1,h⟩:=bno h
  refine wx tbk [(1,rp [fu 66,(.tmp 4,(Zdp p0))] (B x2))] ⟨apv Qtg (Qf4 N p0 _ hf1) (nlc (NLt.agg _ (nlc (nld Qae _) (nlc (nld Qaa _) nl0))) nl0) nll,tv⟩ ?_
  refine bfe h (fun hc3 h=>?_) fun hc3 h=>?_
  ·refine wft hc3<|wxz<|Qad<|Qac ?_
   obtain rfl:=osi h
   exact fend ⟨[(.dat 2 (([]:List GPort).map Qar)),I 1],⟨Qch (v:=nilS) (rot) Less.nil,rot,tv⟩,rfl⟩ (NLt.tup _ (nlc (nld Qaz _) (nlc nll nl0)))
  ·refine wfn hc3<|Qam<|thn ?_
   obtain ⟨x5,hf4,h⟩:=bno h
   obtain ⟨x7,hf6,h⟩:=bno h
   refine wx tbk [(1,⟨[fu 75,(.tmp 7,(Zdp p0))],[(1,.unused),(2,.unused),(3,.unused)],Q7x,[(1,(Q7y p0)),(2,(.own 1 [[(.mp 3)]])),(3,(Qc0 x5))],false⟩),(2,⟨[fu 89,(.tmp 8,Q7x)],[(1,(Q7y p0)),(2,(.own 1 [[(.mp 3)]])),(3,(Qc0 x5))],(Zdo x7),[(1,.dead),(2,.dead),(3,.dead)],false⟩)] ⟨Qat (first:=[]) (cap:=[]) (vs:=[(Zdp p0)]) (σr:=[]) (σr':=[(Q7y p0),(.own 1 [[(.mp 3)]]),(Qc0 x5)]) (res':=Q7x) [1,2,3] rfl Zez (Qmc N p0 _ hf4) rfl (Qbn (rnc (.plain _ (NLt.agg _ (nlc (nld Qae _) (nlc (nld Qaa _) nl0)))) rn0)) Qas (slc (Qao (rnc (pld Qae) (rnc (pld Qaa) rn0))) (slc (Qao (rnc (Zbn rfl) rn0)) (slc Qo7 Qas))) (Qbd rn0 (rnc (Qbg rfl) (rnc (Qbg rfl) rn0))) rfl rfl rfl,Qat (first:=[]) (cap:=[]) (vs:=[Q7x]) (σr:=[(Q7y p0),(.own 1 [[(.mp 3)]]),(Qc0 x5)]) (σr':=[.dead,.dead,.dead]) (res':=(Zdo x7)) [1,2,3] rfl Zey (Qh3 N p0.Table p0.Elements x5 _ hf6) rfl (Qbn (rnc (Qbd rn0 (rnc (Qbb rfl) (rnc (Qbb rfl) rn0))) rn0)) (slc (Qao (rnc (pld Qae) (rnc (pld Qaa) rn0))) (slc (Qao (rnc (Zbm rfl) rn0)) (slc Qo7 Qas))) (slc .dead (slc .dead (slc .dead Qas))) (pld Qaz) rfl rfl rfl,tv⟩<|Qad ?_
   obtain rfl:=osi h
   exact fend ⟨[(Zdo x7),I 0],⟨rot,rot,tv⟩,rfl⟩ (NLt.tup _ (nlc (nld Qaz _) (nlc nll nl0)))
end Go.Proofs.YtmbhnllcfmiajaaGreat
