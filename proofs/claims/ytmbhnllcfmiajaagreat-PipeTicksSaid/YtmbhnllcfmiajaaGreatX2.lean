/-
  Functions of the program: what they compute, as plain functions, and that they do. No conditions.
-/
import Derived.Test.YtmbhnllcfmiajaaGreatX1
namespace Go.Proofs.YtmbhnllcfmiajaaGreat
set_option maxRecDepth 100000
set_option maxHeartbeats 4000000
open Go.RowKit
def Qem (N:Nat) (k11:(List (Int×Int))→Option (List (Int×Int))) (x12:GElement):Nat→Int→(List (Int×Int))→Option (List (Int×Int))
  | 0,_,_=>none
  | n20+1,y16,y17=>
    bif (decide (y16<(x12.From.length:Int))) then
     (getI x12.From y16).bind fun x22=>
     Qem N k11 x12 n20 (w64 (y16+1)) (addQ y17 (x22.Element,x22.Outlet))
    else
     k11 (y17)
def Qen (N:Nat) (p0:GNet) (k3:(List (Int×Int))→Option (List (Int×Int))):Nat→Int→(List (Int×Int))→Option (List (Int×Int))
  | 0,_,_=>none
  | n8+1,y4,y5=>
    bif (decide (y4<(p0.Elements.length:Int))) then
     Qbf (fun y10=>
       Qen N p0 k3 n8 (w64 (y4+1)) y10) fun k11:(List (Int×Int))→Option (List (Int×Int))=>
     (getI p0.Elements y4).bind fun x12=>
     Qem N k11 x12 N 0 y5
    else
     k3 (y5)
def Qj5 (N:Nat) (p0:GNet):Option (List (Int×Int)):=
  Qbf (fun y2=>
    some y2) fun k3:(List (Int×Int))→Option (List (Int×Int))=>
  Qen N p0 k3 N 0 ([]:List (Int×Int))
def Qo9 (p0:GNet):AV:=.dat 7 ((p0.Elements:List GElement).map Qad)
def Qyp:AV:=.fn (.func 110) [] [(.ref 0 2 (0) 0),(.ref 1 1 (0) 0)]
def Qol (p0:GNet):Slot:=.own 2 [[(.dat 5 ((p0.Table:List GRow).map Qa0)),(Qo9 p0)]]
def Qvh (x12:GElement):AV:=.dat 2 ((x12.From:List GPort).map Qas)
theorem Qow (N:Nat) (p0:GNet) (r:(List (Int×Int))) (h:Qj5 N p0=some r):Spec Tryz.prog 75 [(.agg [(.dat 5 ((p0.Table:List GRow).map Qa0)),(Qo9 p0)])] [] Qyp [(Qol p0),(.own 1 [[(.mp 2)]]),(Qdc r)]:=by
  refine Qai Tryz.func75 rfl 3 (nle rfl) (fun X φ0 w0 hφ0 hd0=>?_)
  unfold Qj5 at h
  refine Qb2 ?_
  refine wxz ?_
  refine wx tbk [(0,⟨[],[(1,.unused)],(.mp 1),[(1,(Qdc ([]:List (Int×Int))))],false⟩)] ⟨Qru rfl,trivial⟩ ?_
  obtain ⟨k3,hk_k3,h⟩:=jko h
  refine wjn (τ:=(List (Int×Int))) (fun t=>k3 t=some r) (fun y2=>⟨mk 28 [(1,.ref 0 2 0 0),(3,.ref 1 1 0 0)],[(Qol p0),(.own 1 [[(.mp 2)]]),(Qdc y2)]⟩) (fun y2 h=>?_) ?_
  ·subst hk_k3
   refine wx tbk [(0,rp [(.tmp 1,.ref 0 2 0 0),(.tmp 3,.ref 1 1 0 0)] Qyp)] ⟨Qfz (fs:=[]) (cs:=[.ref 0 2 0 0,.ref 1 1 0 0]) rfl rfl rfl rfl,trivial⟩ ?_
   refine wmr (mto (n:=28) (l':=[(2,Qyp)]) (own':=[(Qol p0),(.own 1 [[(.mp 2)]]),(Qdc y2)]) [(2,Qyp)] [0,1,2] [(Qol p0),(.own 1 [[(.mp 2)]]),(Qdc y2)] hφ0 (pc (.rn (Qbr rn0 (rnc (rqr rfl) (rnc (rqr rfl) rn0)))) pn) (qc (spb (lc (rnd Qal) (lc (rnd Qab) ln))) (qc (spb (lc (.rn (Qih rfl)) ln)) (qc Qfd qn)))) ?_
   refine Qag ?_
   obtain rfl:=osi h
   exact ⟨_,Mor.rfl,Qda (vs:=[Qyp]) ⟨rot,trivial⟩ rfl (NLt.fn _ _ _ nl0 (nlc (NLt.ref _ _ _ _ (by decide)) (nlc (NLt.ref _ _ _ _ (by decide)) nl0))) (by kernel_rfl) (Qap (Qbj (nlc (NLt.of0 (nld Qal _)) (nlc (NLt.of0 (nld Qab _)) nl0))) (Qap (Qbj (nlc (NLt.mp _ (by decide)) nl0)) (Qap Zdj Qbz)))⟩
  ·skip
   refine wx tbk [(2,rp [(.tmp 10,(Qo9 p0))] (I ((p0.Elements.length:Int))))] ⟨alm (c:=Qad) (l:=p0.Elements) (aln rfl Tryz.underlying40 rfl),trivial⟩ ?_
   refine Qam ?_
   refine wmr (mto (n:=28) (l':=[(1,.ref 0 2 0 0),(3,.ref 1 1 0 0),(10,(Qo9 p0)),(11,(I ((p0.Elements.length:Int)))),(12,I 0)]) (own':=[(Qol p0),(.own 1 [[(.mp 2)]]),(Qdc ([]:List (Int×Int)))]) [(1,.ref 0 2 0 0),(3,.ref 2 1 0 0),(10,(Qo9 p0)),(11,(I ((p0.Elements.length:Int)))),(12,I 0)] [0,2,1] [(Qol p0),(.own 1 [[(.mp 1)]]),(Qdc ([]:List (Int×Int)))] hφ0 (pc (.rn (rqr rfl)) (pc (.rn (rqr rfl)) (pc (rnd Qab) (pc rwl (pc rwl pn))))) (qc (spb (lc (rnd Qal) (lc (rnd Qab) ln))) (qc (spb (lc (.rn (Qih rfl)) ln)) (qc Qfd qn)))) ?_
   refine Qbw (τ:=Int×(List (Int×Int))) (fun n t=>Qen N p0 k3 n t.1 t.2=some r) (fun ⟨y4,y5⟩=>⟨mk 28 [(1,.ref 0 2 0 0),(3,.ref 1 1 0 0),(10,(Qo9 p0)),(11,(I ((p0.Elements.length:Int)))),(12,I y4)],[(Qol p0),(.own 1 [[(.mp 2)]]),(Qdc y5)]⟩) (fun t h=>by rw [Qen] at h; cases h) (fun n8 ih t h=>?_) N (0,([]:List (Int×Int))) h
   obtain ⟨y4,y5⟩:=t
   rw [Qen] at h
   skip
   refine wxz ?_
   refine wsq ?_
   refine bfe h (fun hc9 h=>?_) fun hc9 h=>?_
   ·refine wft hc9 ?_
    refine Qan ?_
    refine thn ?_
    obtain ⟨k11,hk_k11,h⟩:=jko h
    refine wjn (τ:=(List (Int×Int))) (fun t=>k11 t=some r) (fun y10=>⟨mk 28 [(1,.ref 0 2 0 0),(3,.ref 1 1 0 0),(10,(Qo9 p0)),(11,(I ((p0.Elements.length:Int)))),(12,I y4)],[(Qol p0),(.own 1 [[(.mp 2)]]),(Qdc y10)]⟩) (fun y10 h=>?_) ?_
    ·subst hk_k11
     refine wxz1 ?_
     refine thn ?_
     exact arm (mto (n:=28) [(1,.ref 0 2 0 0),(3,.ref 1 1 0 0),(10,(Qo9 p0)),(11,(I ((p0.Elements.length:Int)))),(12,(I (w64 (y4+1))))] [0,1,2] [(Qol p0),(.own 1 [[(.mp 2)]]),(Qdc y10)] hφ0 (pc (.rn (rqr rfl)) (pc (.rn (rqr rfl)) (pc (rnd Qab) (pc rwl (pc rwl pn))))) (qc (spb (lc (rnd Qal) (lc (rnd Qab) ln))) (qc (spb (lc (.rn (Qih rfl)) ln)) (qc Qfd qn)))) (ih (w64 (y4+1),y10) h)
    ·skip
     refine Qam ?_
     obtain ⟨x12,hg13,h⟩:=bno h
     obtain ⟨hi14,hj15⟩:=gsm hg13
     refine wx tbk [(0,rp [(.tmp 10,(Qo9 p0)),(.tmp 12,I y4)] (.dptr (Qad (x12)) 0))] ⟨aid rfl Tryz.underlying40 Qj1 rfl rfl hi14 (mgt Qad hj15) rfl,trivial⟩ ?_
     refine wx tbk [(2,rp [(.tmp 17,(Qvh x12))] (I ((x12.From.length:Int))))] ⟨alm (c:=Qas) (l:=x12.From) (aln rfl Tryz.underlying116 rfl),trivial⟩ ?_
     refine Qam ?_
     refine wmr (mto (n:=28) (l':=[(1,.ref 0 2 0 0),(3,.ref 1 1 0 0),(10,(Qo9 p0)),(11,(I ((p0.Elements.length:Int)))),(12,I y4),(17,(Qvh x12)),(18,(I ((x12.From.length:Int)))),(19,I 0)]) (own':=[(Qol p0),(.own 1 [[(.mp 2)]]),(Qdc y5)]) [(1,.ref 0 2 0 0),(3,.ref 1 1 0 0),(10,(Qo9 p0)),(11,(I ((p0.Elements.length:Int)))),(12,I y4),(17,(Qvh x12)),(18,(I ((x12.From.length:Int)))),(19,I 0)] [0,1,2] [(Qol p0),(.own 1 [[(.mp 2)]]),(Qdc y5)] hφ0 (pc (.rn (rqr rfl)) (pc (.rn (rqr rfl)) (pc (rnd Qab) (pc rwl (pc rwl (pc (rnd Qa3) (pc rwl (pc rwl pn)))))))) (qc (spb (lc (rnd Qal) (lc (rnd Qab) ln))) (qc (spb (lc (.rn (Qih rfl)) ln)) (qc Qfd qn)))) ?_
     refine Qbw (τ:=Int×(List (Int×Int))) (fun n t=>Qem N k11 x12 n t.1 t.2=some r) (fun ⟨y16,y17⟩=>⟨mk 28 [(1,.ref 0 2 0 0),(3,.ref 1 1 0 0),(10,(Qo9 p0)),(11,(I ((p0.Elements.length:Int)))),(12,I y4),(17,(Qvh x12)),(18,(I ((x12.From.length:Int)))),(19,I y16)],[(Qol p0),(.own 1 [[(.mp 2)]]),(Qdc y17)]⟩) (fun t h=>by rw [Qem] at h; cases h) (fun n20 ih t h=>?_) N (0,y5) h
     obtain ⟨y16,y17⟩:=t
     rw [Qem] at h
     skip
     refine wxz ?_
     refine wsq ?_
     refine bfe h (fun hc21 h=>?_) fun hc21 h=>?_
     ·refine wft hc21 ?_
      refine Qan ?_
      refine thn ?_
      refine wsq ?_
      refine Qam ?_
      obtain ⟨x22,hg23,h⟩:=bno h
      obtain ⟨hi24,hj25⟩:=gsm hg23
      refine wx tbk [(0,rp [(.tmp 17,(Qvh x12)),(.tmp 19,I y16)] (.dptr (Qas (x22)) 0))] ⟨aid rfl Tryz.underlying116 Qlm rfl rfl hi24 (mgt Qas hj25) rfl,trivial⟩ ?_
      refine wx1 tbk [(2,⟨[(.tmp 23,(.mp 2)),(.tmp 24,(.agg [I x22.Element,I x22.Outlet])),cb true],[(2,(Qdc y17))],.any,[(2,(Qdc (addQ y17 (x22.Element,x22.Outlet))))],false⟩)] ⟨Quq rfl Tryz.underlying190 Tryz.underlying120 Qui Qkz,trivial⟩ ?_
      refine bln ?_
      refine thn ?_
      refine wxz1 ?_
      refine thn ?_
      exact arm (mto (n:=28) [(1,.ref 0 2 0 0),(3,.ref 1 1 0 0),(10,(Qo9 p0)),(11,(I ((p0.Elements.length:Int)))),(12,I y4),(17,(Qvh x12)),(18,(I ((x12.From.length:Int)))),(19,(I (w64 (y16+1))))] [0,1,2] [(Qol p0),(.own 1 [[(.mp 2)]]),(Qdc (addQ y17 (x22.Element,x22.Outlet)))] hφ0 (pc (.rn (rqr rfl)) (pc (.rn (rqr rfl)) (pc (rnd Qab) (pc rwl (pc rwl (pc (rnd Qa3) (pc rwl (pc rwl pn)))))))) (qc (spb (lc (rnd Qal) (lc (rnd Qab) ln))) (qc (spb (lc (.rn (Qih rfl)) ln)) (qc Qfd qn)))) (ih (w64 (y16+1),addQ y17 (x22.Element,x22.Outlet)) h)
     ·refine wfn hc21 ?_
      refine Qbh ?_
      refine Qax ?_
      refine Qax ?_
      refine Qbg rfl ?_
      refine bln ?_
      refine thn ?_
      exact ⟨(y17),h,(mto (n:=28) [(1,.ref 0 2 0 0),(3,.ref 1 1 0 0),(10,(Qo9 p0)),(11,(I ((p0.Elements.length:Int)))),(12,I y4)] [0,1,2] [(Qol p0),(.own 1 [[(.mp 2)]]),(Qdc y17)] hφ0 (pc (.rn (rqr rfl)) (pc (.rn (rqr rfl)) (pc (rnd Qab) (pc rwl (pc rwl pn))))) (qc (spb (lc (rnd Qal) (lc (rnd Qab) ln))) (qc (spb (lc (.rn (Qih rfl)) ln)) (qc Qfd qn))))⟩
   ·refine wfn hc9 ?_
    refine Qbh ?_
    refine Qax ?_
    refine Qax ?_
    refine Qbg rfl ?_
    refine thn ?_
    exact ⟨(y5),h,(mto (n:=28) [(1,.ref 0 2 0 0),(3,.ref 1 1 0 0)] [0,1,2] [(Qol p0),(.own 1 [[(.mp 2)]]),(Qdc y5)] hφ0 (pc (.rn (rqr rfl)) (pc (.rn (rqr rfl)) pn)) (qc (spb (lc (rnd Qal) (lc (rnd Qab) ln))) (qc (spb (lc (.rn (Qih rfl)) ln)) (qc Qfd qn))))⟩
def Qdn (N:Nat) (y1:Int) (p2:(List (Int×Int))) (k8:Unit→Option (List GPort)) (x14:Int):Nat→Int→Option (List GPort)
  | 0,_=>none
  | n19+1,y15=>
    bif (decide (y15<x14)) then
     bif (!(p2.contains (y1,y15))) then
      yld (⟨y1,y15⟩:GPort)<|
      Qdn N y1 p2 k8 x14 n19 (w64 (y15+1))
     else
      Qdn N y1 p2 k8 x14 n19 (w64 (y15+1))
    else
     k8 ()
def Qel (N:Nat) (p1:(List GElement)) (p2:(List (Int×Int))):Nat→Int→Option (List GPort)
  | 0,_=>none
  | n5+1,y1=>
    bif (decide (y1<(p1.length:Int))) then
     Qbf (fun _=>
       Qel N p1 p2 n5 (w64 (y1+1))) fun k8:Unit→Option (List GPort)=>
     (getI p1 y1).bind fun x9=>
     (Qdy N x9).bind fun x14=>
     Qdn N y1 p2 k8 x14 N 0
    else
     some ([])
def Qj4 (N:Nat) (_p0:(List GRow)) (p1:(List GElement)) (p2:(List (Int×Int))):Option (List GPort):=
  Qel N p1 p2 N 0
def Qo8 (p1:(List GElement)):AV:=.dat 7 ((p1:List GElement).map Qad)
def Qr2 (p0:(List GRow)) (p1:(List GElement)):Slot:=.own 2 [[(.dat 5 ((p0:List GRow).map Qa0)),(Qo8 p1)]]
def Zgj (x9:GElement):AV:=.agg [(K .u8 (x9.Kind)),(.dat 2 ((x9.From:List GPort).map Qas)),(I (x9.Level)),(I (x9.Amount)),(I (x9.Wide)),(I (x9.Narrow)),(.dat 1 ((x9.Weights:List Int).map Qak))]
def Qoc (y1:Int) (y15:Int):AV:=.agg [(I (y1)),(I (y15))]
theorem Qov (N:Nat) (p0:(List GRow)) (p1:(List GElement)) (p2:(List (Int×Int))) (r:(List GPort)) (h:Qj4 N p0 p1 p2=some r):Quy Tryz.prog 110 [(.ref 0 2 (0) 0),(.ref 1 1 (0) 0)] [(Qr2 p0 p1),(.own 1 [[(.mp 2)]]),(Qdc p2)] (fun x=>[(.agg #[(.int .i64 (x.Element)),(.int .i64 (x.Outlet))])]) r:=by
  refine Qvr Tryz.func110 rfl rfl (fun X φ0 w0 l J hφ0 hy=>?_)
  unfold Qj4 at h
  refine wx tbk [(2,rp [(.tmp 9,(Qo8 p1))] (I ((p1.length:Int))))] ⟨alm (c:=Qad) (l:=p1) (aln rfl Tryz.underlying40 rfl),trivial⟩ ?_
  refine Qam ?_
  refine wmr (mto (n:=36) (l':=[(0,(.lit (.func (.yield l) #[] #[]))),(2,.ref 1 1 0 0),(9,(Qo8 p1)),(10,(I ((p1.length:Int)))),(11,I 0)]) (own':=[(Qr2 p0 p1),(.own 1 [[(.mp 2)]]),(Qdc p2),(.far (J (some (r))))]) [(0,(.lit (.func (.yield l) #[] #[]))),(2,.ref 1 1 0 0),(9,(Qo8 p1)),(10,(I ((p1.length:Int)))),(11,I 0)] [0,1,2,3] [(Qr2 p0 p1),(.own 1 [[(.mp 2)]]),(Qdc p2),(.far (J (some (r))))] hφ0 (pc rwl (pc (.rn (rqr rfl)) (pc (rnd Qab) (pc rwl (pc rwl pn))))) (qc (spb (lc (rnd Qal) (lc (rnd Qab) ln))) (qc (spb (lc (.rn (Qih rfl)) ln)) (qc Qfd (qc (.far _) qn))))) ?_
  refine Qbw (τ:=(Int)×List GPort) (fun n t=>Qel N p1 p2 n t.1=some t.2) (fun ⟨y1,q2⟩=>⟨mk 36 [(0,(.lit (.func (.yield l) #[] #[]))),(2,.ref 1 1 0 0),(9,(Qo8 p1)),(10,(I ((p1.length:Int)))),(11,I y1)],[(Qr2 p0 p1),(.own 1 [[(.mp 2)]]),(Qdc p2),(.far (J (some (q2))))]⟩) (fun t h=>by rw [Qel] at h; cases h) (fun n5 ih t h=>?_) N ((0),r) h
  obtain ⟨y1,q2⟩:=t
  rw [Qel] at h
  try dsimp only at h
  refine wxz ?_
  refine wsq ?_
  refine bfe h (fun hc6 h=>?_) fun hc6 h=>?_
  ·refine wft hc6 ?_
   refine Qan ?_
   refine thn ?_
   obtain ⟨k8,hk_k8,h⟩:=jko h
   refine wjn (τ:=(Unit)×List GPort) (fun t=>k8 t.1=some t.2) (fun ⟨_,q7⟩=>⟨mk 36 [(0,(.lit (.func (.yield l) #[] #[]))),(2,.ref 1 1 0 0),(9,(Qo8 p1)),(10,(I ((p1.length:Int)))),(11,I y1)],[(Qr2 p0 p1),(.own 1 [[(.mp 2)]]),(Qdc p2),(.far (J (some (q7))))]⟩) (fun t h=>?_) ?_
   ·subst hk_k8
    obtain ⟨_,q7⟩:=t
    refine wxz1 ?_
    refine thn ?_
    exact arm (mto (n:=36) [(0,(.lit (.func (.yield l) #[] #[]))),(2,.ref 1 1 0 0),(9,(Qo8 p1)),(10,(I ((p1.length:Int)))),(11,(I (w64 (y1+1))))] [0,1,2,3] [(Qr2 p0 p1),(.own 1 [[(.mp 2)]]),(Qdc p2),(.far (J (some (q7))))] hφ0 (pc rwl (pc (.rn (rqr rfl)) (pc (rnd Qab) (pc rwl (pc rwl pn))))) (qc (spb (lc (rnd Qal) (lc (rnd Qab) ln))) (qc (spb (lc (.rn (Qih rfl)) ln)) (qc Qfd (qc (.far _) qn))))) (ih ((w64 (y1+1)),q7) h)
   ·skip
    refine Qam ?_
    obtain ⟨x9,hg10,h⟩:=bno h
    obtain ⟨hi11,hj12⟩:=gsm hg10
    refine wx tbk [(1,rp [(.tmp 9,(Qo8 p1)),(.tmp 11,I y1)] (.dptr (Qad (x9)) 0))] ⟨aid rfl Tryz.underlying40 Qj1 rfl rfl hi11 (mgt Qad hj12) rfl,trivial⟩ ?_
    obtain ⟨x14,hf13,h⟩:=bno h
    refine wx tbk [(1,rp [fu 103,(.tmp 16,(Zgj x9))] (I x14))] ⟨apc (first:=[]) (cap:=[]) (vs:=[(Zgj x9)]) rfl Qsi (Qe3 N x9 _ hf13) rfl rfl (nlc (NLt.agg _ (nlc nll (nlc (nld Qa3 _) (nlcc (nlcc (nlc (nld Qae _) nl0)))))) nl0) nll rfl,trivial⟩ ?_
    refine Qam ?_
    refine wmr (mto (n:=36) (l':=[(0,(.lit (.func (.yield l) #[] #[]))),(2,.ref 1 1 0 0),(4,I y1),(9,(Qo8 p1)),(10,(I ((p1.length:Int)))),(11,I y1),(17,I x14),(18,I 0)]) (own':=[(Qr2 p0 p1),(.own 1 [[(.mp 2)]]),(Qdc p2),(.far (J (some (q2))))]) [(0,(.lit (.func (.yield l) #[] #[]))),(2,.ref 1 1 0 0),(4,I y1),(9,(Qo8 p1)),(10,(I ((p1.length:Int)))),(11,I y1),(17,I x14),(18,I 0)] [0,1,2,3] [(Qr2 p0 p1),(.own 1 [[(.mp 2)]]),(Qdc p2),(.far (J (some (q2))))] hφ0 (pc rwl (pc (.rn (rqr rfl)) (pc rwl (pc (rnd Qab) (pc rwl (pc rwl (pc rwl (pc rwl pn)))))))) (qc (spb (lc (rnd Qal) (lc (rnd Qab) ln))) (qc (spb (lc (.rn (Qih rfl)) ln)) (qc Qfd (qc (.far _) qn))))) ?_
    refine Qbw (τ:=(Int)×List GPort) (fun n t=>Qdn N y1 p2 k8 x14 n t.1=some t.2) (fun ⟨y15,q16⟩=>⟨mk 36 [(0,(.lit (.func (.yield l) #[] #[]))),(2,.ref 1 1 0 0),(4,I y1),(9,(Qo8 p1)),(10,(I ((p1.length:Int)))),(11,I y1),(17,I x14),(18,I y15)],[(Qr2 p0 p1),(.own 1 [[(.mp 2)]]),(Qdc p2),(.far (J (some (q16))))]⟩) (fun t h=>by rw [Qdn] at h; cases h) (fun n19 ih t h=>?_) N ((0),q2) h
    obtain ⟨y15,q16⟩:=t
    rw [Qdn] at h
    try dsimp only at h
    refine wxz ?_
    refine wsq ?_
    refine bfe h (fun hc20 h=>?_) fun hc20 h=>?_
    ·refine wft hc20 ?_
     refine Qan ?_
     refine thn ?_
     refine wsq ?_
     refine Qam ?_
     refine wxz ?_
     refine wx tbk [(2,rp [(.tmp 21,I y1),(.tmp 22,I y15)] (Qoc y1 y15))] ⟨Qav (vs:=[I y1,I y15]) rfl Qr3 Qm1 rfl (by rfl) rfl,trivial⟩ ?_
     refine bfe h (fun hb21 h=>?_) fun hb21 h=>?_
     ·obtain ⟨q22,hy_,hq_⟩:=Q1n h
      clear h
      subst hq_
      have h:=hy_
      clear hy_
      refine Zfo 7 [rb [(.tmp 2,.ref 1 1 0 0)] [(1,(.own 1 [[(.mp 2)]]))] (.mp 2),rb [(.tmp 7,.ref 4 2 0 0)] [(4,.own 2 [[I y1,I y15]])] (Qoc y1 y15),rb [(.tmp 24,(.mp 2)),(.tmp 25,(Qoc y1 y15))] [(2,(Qdc p2))] (B (p2.contains (y1,y15))),rp [(.tmp 26,(B (p2.contains (y1,y15))))] (B ((!(p2.contains (y1,y15))))),rp [(.tmp 27,(B ((!(p2.contains (y1,y15))))))] (B true),rp [(.tmp 28,B true),(.tmp 0,(.lit (.func (.yield l) #[] #[])))] (.lit (.func (.yield l) #[] #[])),rb [(.tmp 28,B true),(.tmp 7,.ref 4 2 0 0)] [(4,.own 2 [[I y1,I y15]])] (Qoc y1 y15),⟨[(.tmp 28,B true),(.tmp 29,(.lit (.func (.yield l) #[] #[]))),(.tmp 30,(Qoc y1 y15))],[(3,(.far (J (some ((⟨y1,y15⟩:GPort)::q22)))))],B true,[(3,(.far (J (some (q22)))))],false⟩,rp [(.tmp 28,B true),(.tmp 31,B true)] (B false),rp [(.tmp 28,B true),(.tmp 32,B false),cb false] (B false)] [rb [(.tmp 2,.ref 1 1 0 0)] [(1,(.own 1 [[(.mp 2)]]))] (.mp 2),rb [(.tmp 7,.ref 4 2 0 0)] [(4,.own 2 [[I y1,I y15]])] (Qoc y1 y15),rb [(.tmp 24,(.mp 2)),(.tmp 25,(Qoc y1 y15))] [(2,(Qdc p2))] (B (p2.contains (y1,y15))),rp [(.tmp 26,(B (p2.contains (y1,y15))))] (B ((!(p2.contains (y1,y15))))),rp [(.tmp 27,(B ((!(p2.contains (y1,y15))))))] (B true),rp [(.tmp 28,B true),(.tmp 0,(.lit (.func (.yield l) #[] #[])))] (.lit (.func (.yield l) #[] #[])),rb [(.tmp 28,B true),(.tmp 7,.ref 4 2 0 0)] [(4,.own 2 [[I y1,I y15]])] (Qoc y1 y15),⟨[(.tmp 28,B true),(.tmp 29,(.lit (.func (.yield l) #[] #[]))),(.tmp 30,(Qoc y1 y15))],[(3,(.far (J (some ((⟨y1,y15⟩:GPort)::q22)))))],B false,[(3,(.far (J none)))],false⟩,rp [(.tmp 28,B true),(.tmp 31,B false)] (B true),rp [(.tmp 28,B true),(.tmp 32,B true),cb false] (B true)] (by exact ⟨by kernel_rfl,by kernel_rfl⟩) (by exact ⟨by kernel_rfl,by kernel_rfl⟩) rfl rfl rfl rfl (Q0r (Qo2 (rd':=(.tmp 29,.lit (.func (.yield l) #[] #[]))::[(.tmp 30,.lit (.agg #[(.int .i64 ((⟨y1,y15⟩:GPort).Element)),(.int .i64 ((⟨y1,y15⟩:GPort).Outlet))]))]) ⟨rfl,lrf,rfl,(Less.lits [(.int .i64 (y1)),(.int .i64 (y15))]),trivial⟩ (Qnk (x:=(⟨y1,y15⟩:GPort)) (rest:=q22) rfl rfl hy rfl))) (⟨fun _ _=>ald rfl Zi8 (by decide) rfl (nle rfl) rfl,fun _ _=>ald rfl Qlm (by decide) rfl (nle rfl) rfl,fun _ _=>Qk2 rfl Tryz.underlying190 Tryz.underlying120 zb4 Qui Qkz,fun _ _=>Qk1 rfl,fun _ _=>asb hb21 (amv rfl),fun _ _=>ag_ (amv rfl),fun _ _=>ag_ (ald rfl Qlm (by decide) rfl (nle rfl) rfl),fun _ h=>absurd rfl h,fun _ _=>ag_ (Qk1 rfl),fun _ _=>apk rfl rfl,trivial⟩) (⟨fun _ _=>ald rfl Zi8 (by decide) rfl (nle rfl) rfl,fun _ _=>ald rfl Qlm (by decide) rfl (nle rfl) rfl,fun _ _=>Qk2 rfl Tryz.underlying190 Tryz.underlying120 zb4 Qui Qkz,fun _ _=>Qk1 rfl,fun _ _=>asb hb21 (amv rfl),fun _ _=>ag_ (amv rfl),fun _ _=>ag_ (ald rfl Qlm (by decide) rfl (nle rfl) rfl),fun _ h=>absurd rfl h,fun _ _=>ag_ (Qk1 rfl),fun _ _=>apk rfl rfl,trivial⟩) ?_ ?_
      ·skip
       refine wfa ?_
       refine Qan ?_
       refine bln ?_
       refine thn ?_
       refine wxz1 ?_
       refine thn ?_
       exact arm (mto (n:=36) [(0,(.lit (.func (.yield l) #[] #[]))),(2,.ref 1 1 0 0),(4,I y1),(9,(Qo8 p1)),(10,(I ((p1.length:Int)))),(11,I y1),(17,I x14),(18,(I (w64 (y15+1))))] [0,1,2,3] [(Qr2 p0 p1),(.own 1 [[(.mp 2)]]),(Qdc p2),(.far (J (some (q22))))] hφ0 (pc rwl (pc (.rn (rqr rfl)) (pc rwl (pc (rnd Qab) (pc rwl (pc rwl (pc rwl (pc rwl pn)))))))) (qc (spb (lc (rnd Qal) (lc (rnd Qab) ln))) (qc (spb (lc (.rn (Qih rfl)) ln)) (qc Qfd (qc (.far _) qn))))) (ih ((w64 (y15+1)),q22) h)
      ·clear h
       refine wtr ?_
       refine Qag ?_
       refine Qao ?_
       refine Qah ?_
       refine Qah ?_
       refine Qao ?_
       refine Qao ?_
       refine Qah ?_
       refine Qah ?_
       refine Qao ?_
       exact Or.inr (by kernel_rfl)
     ·refine wx tbk [(2,rb [(.tmp 24,(.mp 2)),(.tmp 25,(Qoc y1 y15))] [(2,(Qdc p2))] (B (p2.contains (y1,y15)))),(4,rp [(.tmp 27,(B ((!(p2.contains (y1,y15))))))] (B false))] ⟨Qk2 rfl Tryz.underlying190 Tryz.underlying120 zb4 Qui Qkz,asb hb21 (amv rfl),trivial⟩ ?_
      refine wfa ?_
      refine Qan ?_
      refine bln ?_
      refine thn ?_
      refine wxz1 ?_
      refine thn ?_
      exact arm (mto (n:=36) [(0,(.lit (.func (.yield l) #[] #[]))),(2,.ref 1 1 0 0),(4,I y1),(9,(Qo8 p1)),(10,(I ((p1.length:Int)))),(11,I y1),(17,I x14),(18,(I (w64 (y15+1))))] [0,1,2,3] [(Qr2 p0 p1),(.own 1 [[(.mp 2)]]),(Qdc p2),(.far (J (some (q16))))] hφ0 (pc rwl (pc (.rn (rqr rfl)) (pc rwl (pc (rnd Qab) (pc rwl (pc rwl (pc rwl (pc rwl pn)))))))) (qc (spb (lc (rnd Qal) (lc (rnd Qab) ln))) (qc (spb (lc (.rn (Qih rfl)) ln)) (qc Qfd (qc (.far _) qn))))) (ih ((w64 (y15+1)),q16) h)
    ·refine wfn hc20 ?_
     refine Qbh ?_
     refine Qax ?_
     refine Qax ?_
     refine Qbg rfl ?_
     refine bln ?_
     refine thn ?_
     exact ⟨((),q16),h,(mto (n:=36) [(0,(.lit (.func (.yield l) #[] #[]))),(2,.ref 1 1 0 0),(9,(Qo8 p1)),(10,(I ((p1.length:Int)))),(11,I y1)] [0,1,2,3] [(Qr2 p0 p1),(.own 1 [[(.mp 2)]]),(Qdc p2),(.far (J (some (q16))))] hφ0 (pc rwl (pc (.rn (rqr rfl)) (pc (rnd Qab) (pc rwl (pc rwl pn))))) (qc (spb (lc (rnd Qal) (lc (rnd Qab) ln))) (qc (spb (lc (.rn (Qih rfl)) ln)) (qc Qfd (qc (.far _) qn)))))⟩
  ·refine wfn hc6 ?_
   refine Qbh ?_
   refine Qax ?_
   refine Qax ?_
   refine Qbg rfl ?_
   obtain rfl:=osi h
   exact Or.inl rfl
def Qbq (N:Nat) (k3:(List GPort)→Option (List GPort)):(List GPort)→(List GPort)→Option (List GPort)
  | [],y6=>
    k3 (y6)
  | x9::q10,y6=>
    chk (decide ((y6.length+([x9]).length) * 16≤140737488355328))<|
    Qbq N k3 q10 (y6++([x9]))
def Qc8 (N:Nat) (p0:(List GRow)) (p1:(List GElement)) (p2:(List (Int×Int))):Option (List GPort):=
  Qbf (fun y2=>
    some y2) fun k3:(List GPort)→Option (List GPort)=>
  (Qj4 N p0 p1 p2).bind fun q4=>
  Qbq N k3 q4 ([])
def Zip:AV:=.fn (.func 110) [] [(.ref 0 2 (0) 0),(.ref 1 1 (0) 0)]
def Zc1 (p0:(List GRow)):AV:=.dat 5 ((p0:List GRow).map Qa0)
def Zc0 (p1:(List GElement)):AV:=.dat 7 ((p1:List GElement).map Qad)
def Q80 (y6:(List GPort)):AV:=.acc 4 120 2 ((y6:List GPort).map Qas)
theorem Qg2 (N:Nat) (p0:(List GRow)) (p1:(List GElement)) (p2:(List (Int×Int))) (r:(List GPort)) (h:Qc8 N p0 p1 p2=some r):Spec Tryz.prog 111 [nilS,Zip] [(.own 2 [[(Zc1 p0),(Zc0 p1)]]),(.own 1 [[(.mp 2)]]),(Qdc p2)] (.dat 2 ((r:List GPort).map Qas)) [.dead,.dead,.dead]:=by
  refine Qai Tryz.func111 rfl 3 (nle rfl) (fun X φ0 w0 hφ0 hd0=>?_)
  unfold Qc8 at h
  refine Qb2 ?_
  refine wxz ?_
  obtain ⟨k3,hk_k3,h⟩:=jko h
  refine wjn (τ:=(List GPort)) (fun t=>k3 t=some r) (fun y2=>⟨mk 13 [(2,.ref 3 1 0 0)],[.dead,.dead,.dead,(.own 1 [[(.acc 4 120 2 ((y2:List GPort).map Qas))]]),.tok]⟩) (fun y2 h=>?_) ?_
  ·subst hk_k3
   refine wxz ?_
   refine wmr (mto (n:=13) (l':=[(4,(.dat 2 ((y2:List GPort).map Qas)))]) (own':=[.dead,.dead,.dead]) [(4,(.acc 4 120 2 ((y2:List GPort).map Qas)))] [0,1,2] [.dead,.dead,.dead] hφ0 (pc (.dat _ _ _ _ (Qa1 Qa3 _)) pn) (qc .dead (qc .dead (qc .dead qn)))) ?_
   refine Qag ?_
   obtain rfl:=osi h
   exact ⟨_,Mor.rfl,Qda (vs:=[(.dat 2 ((y2:List GPort).map Qas))]) ⟨rot,trivial⟩ rfl (NLt.of0 (nld Qa3 _)) (by kernel_rfl) (Qap .dead (Qap .dead (Qap .dead Qbz)))⟩
  ·skip
   refine wxz ?_
   refine Qam ?_
   obtain ⟨q4,hL5,h⟩:=bno h
   refine wmr (mto (n:=13) (l':=[(2,.ref 3 1 0 0),(6,Zip)]) (own':=[(.own 2 [[(Zc1 p0),(Zc0 p1)]]),(.own 1 [[(.mp 2)]]),(Qdc p2),(.own 1 [[nilS]])]) [(2,.ref 3 1 0 0),(6,Zip)] [0,1,2,3] [(.own 2 [[(Zc1 p0),(Zc0 p1)]]),(.own 1 [[(.mp 2)]]),(Qdc p2),(.own 1 [[nilS]])] hφ0 (pc (.rn (rqr rfl)) (pc (.rn (Qbr rn0 (rnc (rqr rfl) (rnc (rqr rfl) rn0)))) pn)) (qc (spb (lc (rnd Qal) (lc (rnd Qab) ln))) (qc (spb (lc (.rn (Qih rfl)) ln)) (qc Qfd (qc (spb (lc rwl ln)) qn))))) ?_
   refine wmr (Qmc (n:=4) (ty:=120) (m:=2) (q:=3) (mq:=1) (c:=[nilS]) 0 (by kernel_rfl) (by kernel_rfl) (by kernel_rfl) (by decide)) ?_
   refine Qv7 (τ:=((List GPort))) (kb:=4) (caps:=[.ref 0 2 0 0,.ref 1 1 0 0]) (σr:=[(.own 2 [[(Zc1 p0),(Zc0 p1)]]),(.own 1 [[(.mp 2)]]),(Qdc p2)]) (encs:=fun x=>[(.agg #[(.int .i64 (x.Element)),(.int .i64 (x.Outlet))])]) (fun x=>[(.agg [I x.Element,I x.Outlet])]) [0,1,2] (fun n hn=>hφ0 n (Nat.le_trans (nle rfl) hn)) hd0 (Qov N p0 p1 p2 _ hL5) Zfc (by kernel_rfl) (by kernel_rfl) (Qbx (rnc (Qbt rfl) (rnc (Qbt rfl) rn0))) (slc (Qar (rnc (pld Qal) (rnc (pld Qab) rn0))) (slc (Qar (rnc (Zgw rfl) rn0)) (slc Qsb Qat))) (by kernel_rfl) (fun _=>rfl) (fun x=>⟨(Less.unlits [(.int .i64 (x.Element)),(.int .i64 (x.Outlet))]),trivial⟩) (Zg2 (Qse (NLt.ref _ _ _ _ (by decide)) (Qse (NLt.fn _ _ _ nl0 (nlc (NLt.ref _ _ _ _ (by decide)) (nlc (NLt.ref _ _ _ _ (by decide)) nl0))) Zab))) (fun y6=>[.dead,.dead,.dead,(.own 1 [[(Q80 y6)]]),.tok]) (fun _=>rfl) (fun _=>rfl) (fun l t=>Qbq N k3 l t=some r) ([]) h (by kernel_rfl) ?_ ?_
   ·intro l11 o12 X15 φ16 w17 hφ14 x9 q10 y6 h
    rw [Qbq] at h
    refine wxz1 ?_
    refine ⟨by kernel_rfl,fun o13=>?_⟩
    refine Qam ?_
    obtain ⟨ha18,h⟩:=cko h
    refine wx1 tbk [(2,rp [(.tmp 9,(.agg [I x9.Element,I x9.Outlet]))] (.dat 2 (([x9]:List GPort).map Qas))),(3,⟨[(.tmp 8,(Q80 y6)),(.tmp 10,(.dat 2 (([x9]:List GPort).map Qas)))],[(4,.tok),(7,.unused)],(.acc 7 120 2 ((y6++([x9]):List GPort).map Qas)),[(4,.dead),(7,.tok)],false⟩)] ⟨Qbn (vs:=[(.agg [I x9.Element,I x9.Outlet])]) rfl Tryz.underlying116 Qlm Qm1 rfl (by decide) rfl (by decide) (by rfl) (by rfl) (by rfl) rfl,Qex rfl Tryz.underlying116 Zmc (Base.acc _ _) rfl rfl (by rfl) (Qhf Qas ha18) (Qhe Qas ha18 (by decide)) (Qhd Qas) rfl rfl,trivial⟩ ?_
    refine bln ?_
    exact ⟨(y6++([x9])),h,Zgx (own':=[.dead,.dead,.dead,(.own 1 [[(.acc 4 120 2 (((y6++([x9])):List GPort).map Qas))]]),.tok,(.far (farL l11 o13))]) [0,1,2,3,7,5] [.dead,.dead,.dead,(.own 1 [[(.acc 7 120 2 ((y6++([x9]):List GPort).map Qas))]]),.tok,(.far (farL l11 o13))] (by kernel_rfl) (by kernel_rfl) ⟨.dead,.dead,.dead,(spb (lc (.rn (Qa7 rfl (Qa1 Qa3 _))) ln)),.tok,.far _,trivial⟩⟩
   ·intro y6 h
    rw [Qbq] at h
    refine bln ?_
    refine thn ?_
    exact ⟨(y6),h,(mto (n:=13) [(2,.ref 3 1 0 0)] [0,1,2,3,4] [.dead,.dead,.dead,(.own 1 [[(Q80 y6)]]),.tok] hφ0 (pc (.rn (rqr rfl)) pn) (qc .dead (qc .dead (qc .dead (qc (spb (lc (.rn (Qa7 rfl (Qa1 Qa3 _))) ln)) (qc .tok qn))))))⟩
def Qfm (N:Nat) (p0:(List GRow)) (p1:(List GElement)) (p2:(List (Int×Int))):Option (List GPort):=
  (Qc8 N p0 p1 p2).bind fun x3=>
  some x3
def Zis:AV:=.fn (.func 110) [] [(.ref 0 2 (0) 0),(.ref 1 1 (0) 0)]
def Zir (p0:(List GRow)):AV:=.dat 5 ((p0:List GRow).map Qa0)
def Ziq (p1:(List GElement)):AV:=.dat 7 ((p1:List GElement).map Qad)
def Q81 (x3:(List GPort)):AV:=.dat 2 ((x3:List GPort).map Qas)
theorem Qjk (N:Nat) (p0:(List GRow)) (p1:(List GElement)) (p2:(List (Int×Int))) (r:(List GPort)) (h:Qfm N p0 p1 p2=some r):Spec Tryz.prog 89 [Zis] [(.own 2 [[(Zir p0),(Ziq p1)]]),(.own 1 [[(.mp 2)]]),(Qdc p2)] (.dat 2 ((r:List GPort).map Qas)) [.dead,.dead,.dead]:=by
  refine Qai Tryz.func89 rfl 3 (nle rfl) (fun X φ0 w0 hφ0 hd0=>?_)
  unfold Qfm at h
  refine Qb2 ?_
  refine wxz ?_
  obtain ⟨x3,hf2,h⟩:=bno h
  refine wx tbk [(1,⟨[fu 111,((.const (.slice none 0 0)),nilS),(.tmp 3,Zis)],[(0,(.own 2 [[(Zir p0),(Ziq p1)]])),(1,(.own 1 [[(.mp 2)]])),(2,(Qdc p2))],(Q81 x3),[(0,.dead),(1,.dead),(2,.dead)],false⟩)] ⟨Qau (first:=[]) (cap:=[]) (vs:=[nilS,Zis]) (σr:=[(.own 2 [[(Zir p0),(Ziq p1)]]),(.own 1 [[(.mp 2)]]),(Qdc p2)]) (σr':=[.dead,.dead,.dead]) (res':=(Q81 x3)) [0,1,2] rfl Zfb (Qg2 N p0 p1 p2 _ hf2) rfl (Qbx (rnc (.plain _ nll) (rnc (Qbr rn0 (rnc (Qbo rfl) (rnc (Qbo rfl) rn0))) rn0))) (slc (Qar (rnc (pld Qal) (rnc (pld Qab) rn0))) (slc (Qar (rnc (Zgv rfl) rn0)) (slc Qsb Qat))) (slc .dead (slc .dead (slc .dead Qat))) (pld Qa3) rfl rfl rfl,trivial⟩ ?_
  refine wmr (mto (n:=5) (l':=[(2,(Q81 x3))]) (own':=[.dead,.dead,.dead]) [(2,(Q81 x3))] [0,1,2] [.dead,.dead,.dead] hφ0 (pc (rnd Qa3) pn) (qc .dead (qc .dead (qc .dead qn)))) ?_
  refine Qag ?_
  obtain rfl:=osi h
  exact ⟨_,Mor.rfl,Qda (vs:=[(Q81 x3)]) ⟨rot,trivial⟩ rfl (NLt.of0 (nld Qa3 _)) (by kernel_rfl) (Qap .dead (Qap .dead (Qap .dead Qbz)))⟩
def Qq1 (N:Nat) (p0:GNet):Option ((List GPort)×Int):=
  (Qgu N p0).bind fun x2=>
  bif (!x2) then
   some ([],1)
  else
   (Qj5 N p0).bind fun x5=>
   (Qfm N p0.Table p0.Elements x5).bind fun x7=>
   some (x7,0)
def Zlw (p0:GNet):AV:=.dat 7 ((p0.Elements:List GElement).map Qad)
def Zc3 (p0:GNet):AV:=.agg [(.dat 5 ((p0.Table:List GRow).map Qa0)),(Zlw p0)]
def Zc2:AV:=.fn (.func 110) [] [(.ref 1 2 (0) 0),(.ref 2 1 (0) 0)]
def Zc4 (p0:GNet):Slot:=.own 2 [[(.dat 5 ((p0.Table:List GRow).map Qa0)),(Zlw p0)]]
def Zit (x7:(List GPort)):AV:=.dat 2 ((x7:List GPort).map Qas)
theorem Qxb (N:Nat) (p0:GNet) (r:((List GPort)×Int)) (h:Qq1 N p0=some r):Spec Tryz.prog 47 [(.agg (Qis p0))] [] (.tup [(.dat 2 (r.1.map Qas)),(I r.2)]) []:=by
  refine Qai Tryz.func47 rfl 0 (nle rfl) (fun X φ0 w0 hφ0 hd0=>?_)
  unfold Qq1 at h
  refine wxz ?_
  refine wsq ?_
  obtain ⟨x2,hf1,h⟩:=bno h
  refine wx tbk [(1,rp [fu 66,(.tmp 4,(Zc3 p0))] (B x2))] ⟨apc (first:=[]) (cap:=[]) (vs:=[(Zc3 p0)]) rfl Qxr (Qg9 N p0 _ hf1) rfl rfl (nlc (NLt.agg _ (nlc (nld Qal _) (nlc (nld Qab _) nl0))) nl0) nll rfl,trivial⟩ ?_
  refine bfe h (fun hc3 h=>?_) fun hc3 h=>?_
  ·refine wft hc3 ?_
   refine wxz ?_
   refine Qag ?_
   refine Qah ?_
   obtain rfl:=osi h
   exact fend ⟨[(.dat 2 (([]:List GPort).map Qas)),I 1],⟨Qe0 (v:=nilS) (rot) Less.nil,rot,trivial⟩,rfl⟩ (NLt.tup _ (nlc (nld Qa3 _) (nlc nll nl0)))
  ·refine wfn hc3 ?_
   refine Qan ?_
   refine thn ?_
   obtain ⟨x5,hf4,h⟩:=bno h
   obtain ⟨x7,hf6,h⟩:=bno h
   refine wx tbk [(1,⟨[fu 75,(.tmp 7,(Zc3 p0))],[(1,.unused),(2,.unused),(3,.unused)],Zc2,[(1,(Zc4 p0)),(2,(.own 1 [[(.mp 3)]])),(3,(Qdc x5))],false⟩),(2,⟨[fu 89,(.tmp 8,Zc2)],[(1,(Zc4 p0)),(2,(.own 1 [[(.mp 3)]])),(3,(Qdc x5))],(Zit x7),[(1,.dead),(2,.dead),(3,.dead)],false⟩)] ⟨Qau (first:=[]) (cap:=[]) (vs:=[(Zc3 p0)]) (σr:=[]) (σr':=[(Zc4 p0),(.own 1 [[(.mp 3)]]),(Qdc x5)]) (res':=Zc2) [1,2,3] rfl Zkf (Qow N p0 _ hf4) rfl (Qbx (rnc (.plain _ (NLt.agg _ (nlc (nld Qal _) (nlc (nld Qab _) nl0)))) rn0)) Qat (slc (Qar (rnc (pld Qal) (rnc (pld Qab) rn0))) (slc (Qar (rnc (Zgw rfl) rn0)) (slc Qsb Qat))) (Qbr rn0 (rnc (Qbt rfl) (rnc (Qbt rfl) rn0))) rfl rfl rfl,Qau (first:=[]) (cap:=[]) (vs:=[Zc2]) (σr:=[(Zc4 p0),(.own 1 [[(.mp 3)]]),(Qdc x5)]) (σr':=[.dead,.dead,.dead]) (res':=(Zit x7)) [1,2,3] rfl Zke (Qjk N p0.Table p0.Elements x5 _ hf6) rfl (Qbx (rnc (Qbr rn0 (rnc (Qbo rfl) (rnc (Qbo rfl) rn0))) rn0)) (slc (Qar (rnc (pld Qal) (rnc (pld Qab) rn0))) (slc (Qar (rnc (Zgv rfl) rn0)) (slc Qsb Qat))) (slc .dead (slc .dead (slc .dead Qat))) (pld Qa3) rfl rfl rfl,trivial⟩ ?_
   refine Qag ?_
   obtain rfl:=osi h
   exact fend ⟨[(Zit x7),I 0],⟨rot,rot,trivial⟩,rfl⟩ (NLt.tup _ (nlc (nld Qa3 _) (nlc nll nl0)))
end Go.Proofs.YtmbhnllcfmiajaaGreat
