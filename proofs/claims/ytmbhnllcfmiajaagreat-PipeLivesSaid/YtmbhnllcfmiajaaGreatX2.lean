/-
  Functions of the program: what they compute, as plain functions, and that they do. No conditions.
-/
import Derived.Test.YtmbhnllcfmiajaaGreatX1
namespace Go.Proofs.YtmbhnllcfmiajaaGreat
set_option maxRecDepth 100000
set_option maxHeartbeats 4000000
open Go.RowKit
def Qeo (N:Nat) (k11:(List (Int×Int))→Option (List (Int×Int))) (x12:GElement):Nat→Int→(List (Int×Int))→Option (List (Int×Int))
  | 0,_,_=>none
  | n20+1,y16,y17=>
    bif (decide (y16<(x12.From.length:Int))) then
     (getI x12.From y16).bind fun x22=>
     Qeo N k11 x12 n20 (w64 (y16+1)) (addQ y17 (x22.Element,x22.Outlet))
    else
     k11 (y17)
def Qep (N:Nat) (p0:GNet) (k3:(List (Int×Int))→Option (List (Int×Int))):Nat→Int→(List (Int×Int))→Option (List (Int×Int))
  | 0,_,_=>none
  | n8+1,y4,y5=>
    bif (decide (y4<(p0.Elements.length:Int))) then
     Qbh (fun y10=>
       Qep N p0 k3 n8 (w64 (y4+1)) y10) fun k11:(List (Int×Int))→Option (List (Int×Int))=>
     (getI p0.Elements y4).bind fun x12=>
     Qeo N k11 x12 N 0 y5
    else
     k3 (y5)
def Qj3 (N:Nat) (p0:GNet):Option (List (Int×Int)):=
  Qbh (fun y2=>
    some y2) fun k3:(List (Int×Int))→Option (List (Int×Int))=>
  Qep N p0 k3 N 0 ([]:List (Int×Int))
def Qo7 (p0:GNet):AV:=.dat 7 ((p0.Elements:List GElement).map Qad)
def Qyj:AV:=.fn (.func 110) [] [(.ref 0 2 (0) 0),(.ref 1 1 (0) 0)]
def Qoh (p0:GNet):Slot:=.own 2 [[(.dat 5 ((p0.Table:List GRow).map Qa0)),(Qo7 p0)]]
def Qu6 (x12:GElement):AV:=.dat 2 ((x12.From:List GPort).map Qas)
theorem Qos (N:Nat) (p0:GNet) (r:(List (Int×Int))) (h:Qj3 N p0=some r):Spec Tryz.prog 75 [(.agg [(.dat 5 ((p0.Table:List GRow).map Qa0)),(Qo7 p0)])] [] Qyj [(Qoh p0),(.own 1 [[(.mp 2)]]),(Qdc r)]:=by
  refine Qai Tryz.func75 rfl 3 (nle rfl) (fun X φ0 w0 hφ0 hd0=>?_)
  unfold Qj3 at h
  refine Qb1<|wxz ?_
  refine wx tbk [(0,⟨[],[(1,.unused)],(.mp 1),[(1,(Qdc ([]:List (Int×Int))))],false⟩)] ⟨Qrl rfl,trivial⟩ ?_
  obtain ⟨k3,hk_k3,h⟩:=jko h
  refine wjn (τ:=(List (Int×Int))) (fun t=>k3 t=some r) (fun y2=>⟨mk 28 [(1,.ref 0 2 0 0),(3,.ref 1 1 0 0)],[(Qoh p0),(.own 1 [[(.mp 2)]]),(Qdc y2)]⟩) (fun y2 h=>?_) ?_
  ·subst hk_k3
   refine wx tbk [(0,rp [(.tmp 1,.ref 0 2 0 0),(.tmp 3,.ref 1 1 0 0)] Qyj)] ⟨Qfz (fs:=[]) (cs:=[.ref 0 2 0 0,.ref 1 1 0 0]) rfl rfl rfl rfl,trivial⟩ ?_
   refine wmr (mto (n:=28) (l':=[(2,Qyj)]) (own':=[(Qoh p0),(.own 1 [[(.mp 2)]]),(Qdc y2)]) [(2,Qyj)] [0,1,2] [(Qoh p0),(.own 1 [[(.mp 2)]]),(Qdc y2)] hφ0 (pc (.rn (Qbr rn0 (rnc (rqr rfl) (rnc (rqr rfl) rn0)))) pn) (qc (spb (lc (rnd Qaj) (lc (rnd Qab) ln))) (qc (spb (lc (.rn (Qij rfl)) ln)) (qc Qfc qn))))<|Qaf ?_
   obtain rfl:=osi h
   exact ⟨_,Mor.rfl,Qdb (vs:=[Qyj]) ⟨rot,trivial⟩ rfl (NLt.fn _ _ _ nl0 (nlc (NLt.ref _ _ _ _ (by decide)) (nlc (NLt.ref _ _ _ _ (by decide)) nl0))) (by kernel_rfl) (Qao (Qbg (nlc (NLt.of0 (nld Qaj _)) (nlc (NLt.of0 (nld Qab _)) nl0))) (Qao (Qbg (nlc (NLt.mp _ (by decide)) nl0)) (Qao Zdg Qbx)))⟩
  ·skip
   refine wx tbk [(2,rp [(.tmp 10,(Qo7 p0))] (I ((p0.Elements.length:Int))))] ⟨alm (c:=Qad) (l:=p0.Elements) (aln rfl Tryz.underlying40 rfl),trivial⟩<|Qal ?_
   refine wmr (mto (n:=28) (l':=[(1,.ref 0 2 0 0),(3,.ref 1 1 0 0),(10,(Qo7 p0)),(11,(I ((p0.Elements.length:Int)))),(12,I 0)]) (own':=[(Qoh p0),(.own 1 [[(.mp 2)]]),(Qdc ([]:List (Int×Int)))]) [(1,.ref 0 2 0 0),(3,.ref 2 1 0 0),(10,(Qo7 p0)),(11,(I ((p0.Elements.length:Int)))),(12,I 0)] [0,2,1] [(Qoh p0),(.own 1 [[(.mp 1)]]),(Qdc ([]:List (Int×Int)))] hφ0 (pc (.rn (rqr rfl)) (pc (.rn (rqr rfl)) (pc (rnd Qab) (pc rwl (pc rwl pn))))) (qc (spb (lc (rnd Qaj) (lc (rnd Qab) ln))) (qc (spb (lc (.rn (Qij rfl)) ln)) (qc Qfc qn)))) ?_
   refine Qby (τ:=Int×(List (Int×Int))) (fun n t=>Qep N p0 k3 n t.1 t.2=some r) (fun ⟨y4,y5⟩=>⟨mk 28 [(1,.ref 0 2 0 0),(3,.ref 1 1 0 0),(10,(Qo7 p0)),(11,(I ((p0.Elements.length:Int)))),(12,I y4)],[(Qoh p0),(.own 1 [[(.mp 2)]]),(Qdc y5)]⟩) (fun t h=>by rw [Qep] at h; cases h) (fun n8 ih t h=>?_) N (0,([]:List (Int×Int))) h
   obtain ⟨y4,y5⟩:=t
   rw [Qep] at h
   skip
   refine wxz<|wsq ?_
   refine bfe h (fun hc9 h=>?_) fun hc9 h=>?_
   ·refine wft hc9<|Qam<|thn ?_
    obtain ⟨k11,hk_k11,h⟩:=jko h
    refine wjn (τ:=(List (Int×Int))) (fun t=>k11 t=some r) (fun y10=>⟨mk 28 [(1,.ref 0 2 0 0),(3,.ref 1 1 0 0),(10,(Qo7 p0)),(11,(I ((p0.Elements.length:Int)))),(12,I y4)],[(Qoh p0),(.own 1 [[(.mp 2)]]),(Qdc y10)]⟩) (fun y10 h=>?_) ?_
    ·subst hk_k11
     exact wxz1<|thn<|arm (mto (n:=28) [(1,.ref 0 2 0 0),(3,.ref 1 1 0 0),(10,(Qo7 p0)),(11,(I ((p0.Elements.length:Int)))),(12,(I (w64 (y4+1))))] [0,1,2] [(Qoh p0),(.own 1 [[(.mp 2)]]),(Qdc y10)] hφ0 (pc (.rn (rqr rfl)) (pc (.rn (rqr rfl)) (pc (rnd Qab) (pc rwl (pc rwl pn))))) (qc (spb (lc (rnd Qaj) (lc (rnd Qab) ln))) (qc (spb (lc (.rn (Qij rfl)) ln)) (qc Qfc qn)))) (ih (w64 (y4+1),y10) h)
    ·skip
     refine Qal ?_
     obtain ⟨x12,hg13,h⟩:=bno h
     obtain ⟨hi14,hj15⟩:=gsm hg13
     refine wx tbk [(0,rp [(.tmp 10,(Qo7 p0)),(.tmp 12,I y4)] (.dptr (Qad (x12)) 0))] ⟨aid rfl Tryz.underlying40 Qjz rfl rfl hi14 (mgt Qad hj15) rfl,trivial⟩ ?_
     refine wx tbk [(2,rp [(.tmp 17,(Qu6 x12))] (I ((x12.From.length:Int))))] ⟨alm (c:=Qas) (l:=x12.From) (aln rfl Tryz.underlying116 rfl),trivial⟩<|Qal ?_
     refine wmr (mto (n:=28) (l':=[(1,.ref 0 2 0 0),(3,.ref 1 1 0 0),(10,(Qo7 p0)),(11,(I ((p0.Elements.length:Int)))),(12,I y4),(17,(Qu6 x12)),(18,(I ((x12.From.length:Int)))),(19,I 0)]) (own':=[(Qoh p0),(.own 1 [[(.mp 2)]]),(Qdc y5)]) [(1,.ref 0 2 0 0),(3,.ref 1 1 0 0),(10,(Qo7 p0)),(11,(I ((p0.Elements.length:Int)))),(12,I y4),(17,(Qu6 x12)),(18,(I ((x12.From.length:Int)))),(19,I 0)] [0,1,2] [(Qoh p0),(.own 1 [[(.mp 2)]]),(Qdc y5)] hφ0 (pc (.rn (rqr rfl)) (pc (.rn (rqr rfl)) (pc (rnd Qab) (pc rwl (pc rwl (pc (rnd Qa3) (pc rwl (pc rwl pn)))))))) (qc (spb (lc (rnd Qaj) (lc (rnd Qab) ln))) (qc (spb (lc (.rn (Qij rfl)) ln)) (qc Qfc qn)))) ?_
     refine Qby (τ:=Int×(List (Int×Int))) (fun n t=>Qeo N k11 x12 n t.1 t.2=some r) (fun ⟨y16,y17⟩=>⟨mk 28 [(1,.ref 0 2 0 0),(3,.ref 1 1 0 0),(10,(Qo7 p0)),(11,(I ((p0.Elements.length:Int)))),(12,I y4),(17,(Qu6 x12)),(18,(I ((x12.From.length:Int)))),(19,I y16)],[(Qoh p0),(.own 1 [[(.mp 2)]]),(Qdc y17)]⟩) (fun t h=>by rw [Qeo] at h; cases h) (fun n20 ih t h=>?_) N (0,y5) h
     obtain ⟨y16,y17⟩:=t
     rw [Qeo] at h
     skip
     refine wxz<|wsq ?_
     refine bfe h (fun hc21 h=>?_) fun hc21 h=>?_
     ·refine wft hc21<|Qam<|thn<|wsq<|Qal ?_
      obtain ⟨x22,hg23,h⟩:=bno h
      obtain ⟨hi24,hj25⟩:=gsm hg23
      refine wx tbk [(0,rp [(.tmp 17,(Qu6 x12)),(.tmp 19,I y16)] (.dptr (Qas (x22)) 0))] ⟨aid rfl Tryz.underlying116 Qlo rfl rfl hi24 (mgt Qas hj25) rfl,trivial⟩ ?_
      exact wx1 tbk [(2,⟨[(.tmp 23,(.mp 2)),(.tmp 24,(.agg [I x22.Element,I x22.Outlet])),cb true],[(2,(Qdc y17))],.any,[(2,(Qdc (addQ y17 (x22.Element,x22.Outlet))))],false⟩)] ⟨Quf rfl Tryz.underlying190 Tryz.underlying120 Qt7 Qkw,trivial⟩<|bln<|thn<|wxz1<|thn<|arm (mto (n:=28) [(1,.ref 0 2 0 0),(3,.ref 1 1 0 0),(10,(Qo7 p0)),(11,(I ((p0.Elements.length:Int)))),(12,I y4),(17,(Qu6 x12)),(18,(I ((x12.From.length:Int)))),(19,(I (w64 (y16+1))))] [0,1,2] [(Qoh p0),(.own 1 [[(.mp 2)]]),(Qdc (addQ y17 (x22.Element,x22.Outlet)))] hφ0 (pc (.rn (rqr rfl)) (pc (.rn (rqr rfl)) (pc (rnd Qab) (pc rwl (pc rwl (pc (rnd Qa3) (pc rwl (pc rwl pn)))))))) (qc (spb (lc (rnd Qaj) (lc (rnd Qab) ln))) (qc (spb (lc (.rn (Qij rfl)) ln)) (qc Qfc qn)))) (ih (w64 (y16+1),addQ y17 (x22.Element,x22.Outlet)) h)
     ·exact wfn hc21<|Qbj<|Qav<|Qav<|Qbi rfl<|bln<|thn<|⟨(y17),h,(mto (n:=28) [(1,.ref 0 2 0 0),(3,.ref 1 1 0 0),(10,(Qo7 p0)),(11,(I ((p0.Elements.length:Int)))),(12,I y4)] [0,1,2] [(Qoh p0),(.own 1 [[(.mp 2)]]),(Qdc y17)] hφ0 (pc (.rn (rqr rfl)) (pc (.rn (rqr rfl)) (pc (rnd Qab) (pc rwl (pc rwl pn))))) (qc (spb (lc (rnd Qaj) (lc (rnd Qab) ln))) (qc (spb (lc (.rn (Qij rfl)) ln)) (qc Qfc qn))))⟩
   ·exact wfn hc9<|Qbj<|Qav<|Qav<|Qbi rfl<|thn<|⟨(y5),h,(mto (n:=28) [(1,.ref 0 2 0 0),(3,.ref 1 1 0 0)] [0,1,2] [(Qoh p0),(.own 1 [[(.mp 2)]]),(Qdc y5)] hφ0 (pc (.rn (rqr rfl)) (pc (.rn (rqr rfl)) pn)) (qc (spb (lc (rnd Qaj) (lc (rnd Qab) ln))) (qc (spb (lc (.rn (Qij rfl)) ln)) (qc Qfc qn))))⟩
def Qdo (N:Nat) (y1:Int) (p2:(List (Int×Int))) (k8:Unit→Option (List GPort)) (x14:Int):Nat→Int→Option (List GPort)
  | 0,_=>none
  | n19+1,y15=>
    bif (decide (y15<x14)) then
     bif (!(p2.contains (y1,y15))) then
      yld (⟨y1,y15⟩:GPort)<|
      Qdo N y1 p2 k8 x14 n19 (w64 (y15+1))
     else
      Qdo N y1 p2 k8 x14 n19 (w64 (y15+1))
    else
     k8 ()
def Qen (N:Nat) (p1:(List GElement)) (p2:(List (Int×Int))):Nat→Int→Option (List GPort)
  | 0,_=>none
  | n5+1,y1=>
    bif (decide (y1<(p1.length:Int))) then
     Qbh (fun _=>
       Qen N p1 p2 n5 (w64 (y1+1))) fun k8:Unit→Option (List GPort)=>
     (getI p1 y1).bind fun x9=>
     (Qdz N x9).bind fun x14=>
     Qdo N y1 p2 k8 x14 N 0
    else
     some ([])
def Qj2 (N:Nat) (_p0:(List GRow)) (p1:(List GElement)) (p2:(List (Int×Int))):Option (List GPort):=
  Qen N p1 p2 N 0
def Qo6 (p1:(List GElement)):AV:=.dat 7 ((p1:List GElement).map Qad)
def Qrt (p0:(List GRow)) (p1:(List GElement)):Slot:=.own 2 [[(.dat 5 ((p0:List GRow).map Qa0)),(Qo6 p1)]]
def Zgi (x9:GElement):AV:=.agg [(K .u8 (x9.Kind)),(.dat 2 ((x9.From:List GPort).map Qas)),(I (x9.Level)),(I (x9.Amount)),(I (x9.Wide)),(I (x9.Narrow)),(.dat 1 ((x9.Weights:List Int).map Qak))]
def Qoa (y1:Int) (y15:Int):AV:=.agg [(I (y1)),(I (y15))]
theorem Qor (N:Nat) (p0:(List GRow)) (p1:(List GElement)) (p2:(List (Int×Int))) (r:(List GPort)) (h:Qj2 N p0 p1 p2=some r):Qun Tryz.prog 110 [(.ref 0 2 (0) 0),(.ref 1 1 (0) 0)] [(Qrt p0 p1),(.own 1 [[(.mp 2)]]),(Qdc p2)] (fun x=>[(.agg #[(.int .i64 (x.Element)),(.int .i64 (x.Outlet))])]) r:=by
  refine Qvf Tryz.func110 rfl rfl (fun X φ0 w0 l J hφ0 hy=>?_)
  unfold Qj2 at h
  refine wx tbk [(2,rp [(.tmp 9,(Qo6 p1))] (I ((p1.length:Int))))] ⟨alm (c:=Qad) (l:=p1) (aln rfl Tryz.underlying40 rfl),trivial⟩<|Qal ?_
  refine wmr (mto (n:=36) (l':=[(0,(.lit (.func (.yield l) #[] #[]))),(2,.ref 1 1 0 0),(9,(Qo6 p1)),(10,(I ((p1.length:Int)))),(11,I 0)]) (own':=[(Qrt p0 p1),(.own 1 [[(.mp 2)]]),(Qdc p2),(.far (J (some (r))))]) [(0,(.lit (.func (.yield l) #[] #[]))),(2,.ref 1 1 0 0),(9,(Qo6 p1)),(10,(I ((p1.length:Int)))),(11,I 0)] [0,1,2,3] [(Qrt p0 p1),(.own 1 [[(.mp 2)]]),(Qdc p2),(.far (J (some (r))))] hφ0 (pc rwl (pc (.rn (rqr rfl)) (pc (rnd Qab) (pc rwl (pc rwl pn))))) (qc (spb (lc (rnd Qaj) (lc (rnd Qab) ln))) (qc (spb (lc (.rn (Qij rfl)) ln)) (qc Qfc (qc (.far _) qn))))) ?_
  refine Qby (τ:=(Int)×List GPort) (fun n t=>Qen N p1 p2 n t.1=some t.2) (fun ⟨y1,q2⟩=>⟨mk 36 [(0,(.lit (.func (.yield l) #[] #[]))),(2,.ref 1 1 0 0),(9,(Qo6 p1)),(10,(I ((p1.length:Int)))),(11,I y1)],[(Qrt p0 p1),(.own 1 [[(.mp 2)]]),(Qdc p2),(.far (J (some (q2))))]⟩) (fun t h=>by rw [Qen] at h; cases h) (fun n5 ih t h=>?_) N ((0),r) h
  obtain ⟨y1,q2⟩:=t
  rw [Qen] at h
  try dsimp only at h
  refine wxz<|wsq ?_
  refine bfe h (fun hc6 h=>?_) fun hc6 h=>?_
  ·refine wft hc6<|Qam<|thn ?_
   obtain ⟨k8,hk_k8,h⟩:=jko h
   refine wjn (τ:=(Unit)×List GPort) (fun t=>k8 t.1=some t.2) (fun ⟨_,q7⟩=>⟨mk 36 [(0,(.lit (.func (.yield l) #[] #[]))),(2,.ref 1 1 0 0),(9,(Qo6 p1)),(10,(I ((p1.length:Int)))),(11,I y1)],[(Qrt p0 p1),(.own 1 [[(.mp 2)]]),(Qdc p2),(.far (J (some (q7))))]⟩) (fun t h=>?_) ?_
   ·subst hk_k8
    obtain ⟨_,q7⟩:=t
    exact wxz1<|thn<|arm (mto (n:=36) [(0,(.lit (.func (.yield l) #[] #[]))),(2,.ref 1 1 0 0),(9,(Qo6 p1)),(10,(I ((p1.length:Int)))),(11,(I (w64 (y1+1))))] [0,1,2,3] [(Qrt p0 p1),(.own 1 [[(.mp 2)]]),(Qdc p2),(.far (J (some (q7))))] hφ0 (pc rwl (pc (.rn (rqr rfl)) (pc (rnd Qab) (pc rwl (pc rwl pn))))) (qc (spb (lc (rnd Qaj) (lc (rnd Qab) ln))) (qc (spb (lc (.rn (Qij rfl)) ln)) (qc Qfc (qc (.far _) qn))))) (ih ((w64 (y1+1)),q7) h)
   ·skip
    refine Qal ?_
    obtain ⟨x9,hg10,h⟩:=bno h
    obtain ⟨hi11,hj12⟩:=gsm hg10
    refine wx tbk [(1,rp [(.tmp 9,(Qo6 p1)),(.tmp 11,I y1)] (.dptr (Qad (x9)) 0))] ⟨aid rfl Tryz.underlying40 Qjz rfl rfl hi11 (mgt Qad hj12) rfl,trivial⟩ ?_
    obtain ⟨x14,hf13,h⟩:=bno h
    refine wx tbk [(1,rp [fu 103,(.tmp 16,(Zgi x9))] (I x14))] ⟨apc (first:=[]) (cap:=[]) (vs:=[(Zgi x9)]) rfl Qr8 (Qe2 N x9 _ hf13) rfl rfl (nlc (NLt.agg _ (nlc nll (nlc (nld Qa3 _) (nlcc (nlcc (nlc (nld Qae _) nl0)))))) nl0) nll rfl,trivial⟩<|Qal ?_
    refine wmr (mto (n:=36) (l':=[(0,(.lit (.func (.yield l) #[] #[]))),(2,.ref 1 1 0 0),(4,I y1),(9,(Qo6 p1)),(10,(I ((p1.length:Int)))),(11,I y1),(17,I x14),(18,I 0)]) (own':=[(Qrt p0 p1),(.own 1 [[(.mp 2)]]),(Qdc p2),(.far (J (some (q2))))]) [(0,(.lit (.func (.yield l) #[] #[]))),(2,.ref 1 1 0 0),(4,I y1),(9,(Qo6 p1)),(10,(I ((p1.length:Int)))),(11,I y1),(17,I x14),(18,I 0)] [0,1,2,3] [(Qrt p0 p1),(.own 1 [[(.mp 2)]]),(Qdc p2),(.far (J (some (q2))))] hφ0 (pc rwl (pc (.rn (rqr rfl)) (pc rwl (pc (rnd Qab) (pc rwl (pc rwl (pc rwl (pc rwl pn)))))))) (qc (spb (lc (rnd Qaj) (lc (rnd Qab) ln))) (qc (spb (lc (.rn (Qij rfl)) ln)) (qc Qfc (qc (.far _) qn))))) ?_
    refine Qby (τ:=(Int)×List GPort) (fun n t=>Qdo N y1 p2 k8 x14 n t.1=some t.2) (fun ⟨y15,q16⟩=>⟨mk 36 [(0,(.lit (.func (.yield l) #[] #[]))),(2,.ref 1 1 0 0),(4,I y1),(9,(Qo6 p1)),(10,(I ((p1.length:Int)))),(11,I y1),(17,I x14),(18,I y15)],[(Qrt p0 p1),(.own 1 [[(.mp 2)]]),(Qdc p2),(.far (J (some (q16))))]⟩) (fun t h=>by rw [Qdo] at h; cases h) (fun n19 ih t h=>?_) N ((0),q2) h
    obtain ⟨y15,q16⟩:=t
    rw [Qdo] at h
    try dsimp only at h
    refine wxz<|wsq ?_
    refine bfe h (fun hc20 h=>?_) fun hc20 h=>?_
    ·refine wft hc20<|Qam<|thn<|wsq<|Qal<|wxz ?_
     refine wx tbk [(2,rp [(.tmp 21,I y1),(.tmp 22,I y15)] (Qoa y1 y15))] ⟨Qau (vs:=[I y1,I y15]) rfl Qru Qm2 rfl (by rfl) rfl,trivial⟩ ?_
     refine bfe h (fun hb21 h=>?_) fun hb21 h=>?_
     ·obtain ⟨q22,hy_,hq_⟩:=Q1k h
      clear h
      subst hq_
      have h:=hy_
      clear hy_
      refine Zfn 7 [rb [(.tmp 2,.ref 1 1 0 0)] [(1,(.own 1 [[(.mp 2)]]))] (.mp 2),rb [(.tmp 7,.ref 4 2 0 0)] [(4,.own 2 [[I y1,I y15]])] (Qoa y1 y15),rb [(.tmp 24,(.mp 2)),(.tmp 25,(Qoa y1 y15))] [(2,(Qdc p2))] (B (p2.contains (y1,y15))),rp [(.tmp 26,(B (p2.contains (y1,y15))))] (B ((!(p2.contains (y1,y15))))),rp [(.tmp 27,(B ((!(p2.contains (y1,y15))))))] (B true),rp [(.tmp 28,B true),(.tmp 0,(.lit (.func (.yield l) #[] #[])))] (.lit (.func (.yield l) #[] #[])),rb [(.tmp 28,B true),(.tmp 7,.ref 4 2 0 0)] [(4,.own 2 [[I y1,I y15]])] (Qoa y1 y15),⟨[(.tmp 28,B true),(.tmp 29,(.lit (.func (.yield l) #[] #[]))),(.tmp 30,(Qoa y1 y15))],[(3,(.far (J (some ((⟨y1,y15⟩:GPort)::q22)))))],B true,[(3,(.far (J (some (q22)))))],false⟩,rp [(.tmp 28,B true),(.tmp 31,B true)] (B false),rp [(.tmp 28,B true),(.tmp 32,B false),cb false] (B false)] [rb [(.tmp 2,.ref 1 1 0 0)] [(1,(.own 1 [[(.mp 2)]]))] (.mp 2),rb [(.tmp 7,.ref 4 2 0 0)] [(4,.own 2 [[I y1,I y15]])] (Qoa y1 y15),rb [(.tmp 24,(.mp 2)),(.tmp 25,(Qoa y1 y15))] [(2,(Qdc p2))] (B (p2.contains (y1,y15))),rp [(.tmp 26,(B (p2.contains (y1,y15))))] (B ((!(p2.contains (y1,y15))))),rp [(.tmp 27,(B ((!(p2.contains (y1,y15))))))] (B true),rp [(.tmp 28,B true),(.tmp 0,(.lit (.func (.yield l) #[] #[])))] (.lit (.func (.yield l) #[] #[])),rb [(.tmp 28,B true),(.tmp 7,.ref 4 2 0 0)] [(4,.own 2 [[I y1,I y15]])] (Qoa y1 y15),⟨[(.tmp 28,B true),(.tmp 29,(.lit (.func (.yield l) #[] #[]))),(.tmp 30,(Qoa y1 y15))],[(3,(.far (J (some ((⟨y1,y15⟩:GPort)::q22)))))],B false,[(3,(.far (J none)))],false⟩,rp [(.tmp 28,B true),(.tmp 31,B false)] (B true),rp [(.tmp 28,B true),(.tmp 32,B true),cb false] (B true)] (by exact ⟨by kernel_rfl,by kernel_rfl⟩) (by exact ⟨by kernel_rfl,by kernel_rfl⟩) rfl rfl rfl rfl (Q0p (Qo0 (rd':=(.tmp 29,.lit (.func (.yield l) #[] #[]))::[(.tmp 30,.lit (.agg #[(.int .i64 ((⟨y1,y15⟩:GPort).Element)),(.int .i64 ((⟨y1,y15⟩:GPort).Outlet))]))]) ⟨rfl,lrf,rfl,(Less.lits [(.int .i64 (y1)),(.int .i64 (y15))]),trivial⟩ (Qnl (x:=(⟨y1,y15⟩:GPort)) (rest:=q22) rfl rfl hy rfl))) (⟨fun _ _=>ald rfl Zjd (by decide) rfl (nle rfl) rfl,fun _ _=>ald rfl Qlo (by decide) rfl (nle rfl) rfl,fun _ _=>Qkz rfl Tryz.underlying190 Tryz.underlying120 zb4 Qt7 Qkw,fun _ _=>Qky rfl,fun _ _=>asb hb21 (amv rfl),fun _ _=>ag_ (amv rfl),fun _ _=>ag_ (ald rfl Qlo (by decide) rfl (nle rfl) rfl),fun _ h=>absurd rfl h,fun _ _=>ag_ (Qky rfl),fun _ _=>apk rfl rfl,trivial⟩) (⟨fun _ _=>ald rfl Zjd (by decide) rfl (nle rfl) rfl,fun _ _=>ald rfl Qlo (by decide) rfl (nle rfl) rfl,fun _ _=>Qkz rfl Tryz.underlying190 Tryz.underlying120 zb4 Qt7 Qkw,fun _ _=>Qky rfl,fun _ _=>asb hb21 (amv rfl),fun _ _=>ag_ (amv rfl),fun _ _=>ag_ (ald rfl Qlo (by decide) rfl (nle rfl) rfl),fun _ h=>absurd rfl h,fun _ _=>ag_ (Qky rfl),fun _ _=>apk rfl rfl,trivial⟩) ?_ ?_
      ·skip
       exact wfa<|Qam<|bln<|thn<|wxz1<|thn<|arm (mto (n:=36) [(0,(.lit (.func (.yield l) #[] #[]))),(2,.ref 1 1 0 0),(4,I y1),(9,(Qo6 p1)),(10,(I ((p1.length:Int)))),(11,I y1),(17,I x14),(18,(I (w64 (y15+1))))] [0,1,2,3] [(Qrt p0 p1),(.own 1 [[(.mp 2)]]),(Qdc p2),(.far (J (some (q22))))] hφ0 (pc rwl (pc (.rn (rqr rfl)) (pc rwl (pc (rnd Qab) (pc rwl (pc rwl (pc rwl (pc rwl pn)))))))) (qc (spb (lc (rnd Qaj) (lc (rnd Qab) ln))) (qc (spb (lc (.rn (Qij rfl)) ln)) (qc Qfc (qc (.far _) qn))))) (ih ((w64 (y15+1)),q22) h)
      ·clear h
       refine wtr<|Qaf<|Qap<|Qag<|Qag<|Qap<|Qap<|Qag<|Qag<|Qap ?_
       exact Or.inr (by kernel_rfl)
     ·exact wx tbk [(2,rb [(.tmp 24,(.mp 2)),(.tmp 25,(Qoa y1 y15))] [(2,(Qdc p2))] (B (p2.contains (y1,y15)))),(4,rp [(.tmp 27,(B ((!(p2.contains (y1,y15))))))] (B false))] ⟨Qkz rfl Tryz.underlying190 Tryz.underlying120 zb4 Qt7 Qkw,asb hb21 (amv rfl),trivial⟩<|wfa<|Qam<|bln<|thn<|wxz1<|thn<|arm (mto (n:=36) [(0,(.lit (.func (.yield l) #[] #[]))),(2,.ref 1 1 0 0),(4,I y1),(9,(Qo6 p1)),(10,(I ((p1.length:Int)))),(11,I y1),(17,I x14),(18,(I (w64 (y15+1))))] [0,1,2,3] [(Qrt p0 p1),(.own 1 [[(.mp 2)]]),(Qdc p2),(.far (J (some (q16))))] hφ0 (pc rwl (pc (.rn (rqr rfl)) (pc rwl (pc (rnd Qab) (pc rwl (pc rwl (pc rwl (pc rwl pn)))))))) (qc (spb (lc (rnd Qaj) (lc (rnd Qab) ln))) (qc (spb (lc (.rn (Qij rfl)) ln)) (qc Qfc (qc (.far _) qn))))) (ih ((w64 (y15+1)),q16) h)
    ·exact wfn hc20<|Qbj<|Qav<|Qav<|Qbi rfl<|bln<|thn<|⟨((),q16),h,(mto (n:=36) [(0,(.lit (.func (.yield l) #[] #[]))),(2,.ref 1 1 0 0),(9,(Qo6 p1)),(10,(I ((p1.length:Int)))),(11,I y1)] [0,1,2,3] [(Qrt p0 p1),(.own 1 [[(.mp 2)]]),(Qdc p2),(.far (J (some (q16))))] hφ0 (pc rwl (pc (.rn (rqr rfl)) (pc (rnd Qab) (pc rwl (pc rwl pn))))) (qc (spb (lc (rnd Qaj) (lc (rnd Qab) ln))) (qc (spb (lc (.rn (Qij rfl)) ln)) (qc Qfc (qc (.far _) qn)))))⟩
  ·refine wfn hc6<|Qbj<|Qav<|Qav<|Qbi rfl ?_
   obtain rfl:=osi h
   exact Or.inl rfl
def Qbq (N:Nat) (k3:(List GPort)→Option (List GPort)):(List GPort)→(List GPort)→Option (List GPort)
  | [],y6=>
    k3 (y6)
  | x9::q10,y6=>
    chk (decide ((y6.length+([x9]).length) * 16≤140737488355328))<|
    Qbq N k3 q10 (y6++([x9]))
def Qc9 (N:Nat) (p0:(List GRow)) (p1:(List GElement)) (p2:(List (Int×Int))):Option (List GPort):=
  Qbh (fun y2=>
    some y2) fun k3:(List GPort)→Option (List GPort)=>
  (Qj2 N p0 p1 p2).bind fun q4=>
  Qbq N k3 q4 ([])
def Zis:AV:=.fn (.func 110) [] [(.ref 0 2 (0) 0),(.ref 1 1 (0) 0)]
def Zcy (p0:(List GRow)):AV:=.dat 5 ((p0:List GRow).map Qa0)
def Zcx (p1:(List GElement)):AV:=.dat 7 ((p1:List GElement).map Qad)
def Q82 (y6:(List GPort)):AV:=.acc 4 120 2 ((y6:List GPort).map Qas)
theorem Qg0 (N:Nat) (p0:(List GRow)) (p1:(List GElement)) (p2:(List (Int×Int))) (r:(List GPort)) (h:Qc9 N p0 p1 p2=some r):Spec Tryz.prog 111 [nilS,Zis] [(.own 2 [[(Zcy p0),(Zcx p1)]]),(.own 1 [[(.mp 2)]]),(Qdc p2)] (.dat 2 ((r:List GPort).map Qas)) [.dead,.dead,.dead]:=by
  refine Qai Tryz.func111 rfl 3 (nle rfl) (fun X φ0 w0 hφ0 hd0=>?_)
  unfold Qc9 at h
  refine Qb1<|wxz ?_
  obtain ⟨k3,hk_k3,h⟩:=jko h
  refine wjn (τ:=(List GPort)) (fun t=>k3 t=some r) (fun y2=>⟨mk 13 [(2,.ref 3 1 0 0)],[.dead,.dead,.dead,(.own 1 [[(.acc 4 120 2 ((y2:List GPort).map Qas))]]),.tok]⟩) (fun y2 h=>?_) ?_
  ·subst hk_k3
   refine wxz<|wmr (mto (n:=13) (l':=[(4,(.dat 2 ((y2:List GPort).map Qas)))]) (own':=[.dead,.dead,.dead]) [(4,(.acc 4 120 2 ((y2:List GPort).map Qas)))] [0,1,2] [.dead,.dead,.dead] hφ0 (pc (.dat _ _ _ _ (Qa2 Qa3 _)) pn) (qc .dead (qc .dead (qc .dead qn))))<|Qaf ?_
   obtain rfl:=osi h
   exact ⟨_,Mor.rfl,Qdb (vs:=[(.dat 2 ((y2:List GPort).map Qas))]) ⟨rot,trivial⟩ rfl (NLt.of0 (nld Qa3 _)) (by kernel_rfl) (Qao .dead (Qao .dead (Qao .dead Qbx)))⟩
  ·skip
   refine wxz<|Qal ?_
   obtain ⟨q4,hL5,h⟩:=bno h
   refine wmr (mto (n:=13) (l':=[(2,.ref 3 1 0 0),(6,Zis)]) (own':=[(.own 2 [[(Zcy p0),(Zcx p1)]]),(.own 1 [[(.mp 2)]]),(Qdc p2),(.own 1 [[nilS]])]) [(2,.ref 3 1 0 0),(6,Zis)] [0,1,2,3] [(.own 2 [[(Zcy p0),(Zcx p1)]]),(.own 1 [[(.mp 2)]]),(Qdc p2),(.own 1 [[nilS]])] hφ0 (pc (.rn (rqr rfl)) (pc (.rn (Qbr rn0 (rnc (rqr rfl) (rnc (rqr rfl) rn0)))) pn)) (qc (spb (lc (rnd Qaj) (lc (rnd Qab) ln))) (qc (spb (lc (.rn (Qij rfl)) ln)) (qc Qfc (qc (spb (lc rwl ln)) qn))))) ?_
   refine wmr (Qmg (n:=4) (ty:=120) (m:=2) (q:=3) (mq:=1) (c:=[nilS]) 0 (by kernel_rfl) (by kernel_rfl) (by kernel_rfl) (by decide)) ?_
   refine Qvx (τ:=((List GPort))) (kb:=4) (caps:=[.ref 0 2 0 0,.ref 1 1 0 0]) (σr:=[(.own 2 [[(Zcy p0),(Zcx p1)]]),(.own 1 [[(.mp 2)]]),(Qdc p2)]) (encs:=fun x=>[(.agg #[(.int .i64 (x.Element)),(.int .i64 (x.Outlet))])]) (fun x=>[(.agg [I x.Element,I x.Outlet])]) [0,1,2] (fun n hn=>hφ0 n (Nat.le_trans (nle rfl) hn)) hd0 (Qor N p0 p1 p2 _ hL5) Zfb (by kernel_rfl) (by kernel_rfl) (Qbu (rnc (Qbs rfl) (rnc (Qbs rfl) rn0))) (slc (Qaq (rnc (pld Qaj) (rnc (pld Qab) rn0))) (slc (Qaq (rnc (Zgy rfl) rn0)) (slc Qr2 Qar))) (by kernel_rfl) (fun _=>rfl) (fun x=>⟨(Less.unlits [(.int .i64 (x.Element)),(.int .i64 (x.Outlet))]),trivial⟩) (Zg5 (Qr4 (NLt.ref _ _ _ _ (by decide)) (Qr4 (NLt.fn _ _ _ nl0 (nlc (NLt.ref _ _ _ _ (by decide)) (nlc (NLt.ref _ _ _ _ (by decide)) nl0))) Zac))) (fun y6=>[.dead,.dead,.dead,(.own 1 [[(Q82 y6)]]),.tok]) (fun _=>rfl) (fun _=>rfl) (fun l t=>Qbq N k3 l t=some r) ([]) h (by kernel_rfl) ?_ ?_
   ·intro l11 o12 X15 φ16 w17 hφ14 x9 q10 y6 h
    rw [Qbq] at h
    refine wxz1 ?_
    refine ⟨by kernel_rfl,fun o13=>?_⟩
    refine Qal ?_
    obtain ⟨ha18,h⟩:=cko h
    refine wx1 tbk [(2,rp [(.tmp 9,(.agg [I x9.Element,I x9.Outlet]))] (.dat 2 (([x9]:List GPort).map Qas))),(3,⟨[(.tmp 8,(Q82 y6)),(.tmp 10,(.dat 2 (([x9]:List GPort).map Qas)))],[(4,.tok),(7,.unused)],(.acc 7 120 2 ((y6++([x9]):List GPort).map Qas)),[(4,.dead),(7,.tok)],false⟩)] ⟨Qbo (vs:=[(.agg [I x9.Element,I x9.Outlet])]) rfl Tryz.underlying116 Qlo Qm2 rfl (by decide) rfl (by decide) (by rfl) (by rfl) (by rfl) rfl,Qeq rfl Tryz.underlying116 Zmi (Base.acc _ _) rfl rfl (by rfl) (Qg9 Qas ha18) (Qg8 Qas ha18 (by decide)) (Qg7 Qas) rfl rfl,trivial⟩<|bln ?_
    exact ⟨(y6++([x9])),h,Zg0 (own':=[.dead,.dead,.dead,(.own 1 [[(.acc 4 120 2 (((y6++([x9])):List GPort).map Qas))]]),.tok,(.far (farL l11 o13))]) [0,1,2,3,7,5] [.dead,.dead,.dead,(.own 1 [[(.acc 7 120 2 ((y6++([x9]):List GPort).map Qas))]]),.tok,(.far (farL l11 o13))] (by kernel_rfl) (by kernel_rfl) ⟨.dead,.dead,.dead,(spb (lc (.rn (Qa7 rfl (Qa2 Qa3 _))) ln)),.tok,.far _,trivial⟩⟩
   ·intro y6 h
    rw [Qbq] at h
    exact bln<|thn<|⟨(y6),h,(mto (n:=13) [(2,.ref 3 1 0 0)] [0,1,2,3,4] [.dead,.dead,.dead,(.own 1 [[(Q82 y6)]]),.tok] hφ0 (pc (.rn (rqr rfl)) pn) (qc .dead (qc .dead (qc .dead (qc (spb (lc (.rn (Qa7 rfl (Qa2 Qa3 _))) ln)) (qc .tok qn))))))⟩
def Qfm (N:Nat) (p0:(List GRow)) (p1:(List GElement)) (p2:(List (Int×Int))):Option (List GPort):=
  (Qc9 N p0 p1 p2).bind fun x3=>
  some x3
def Ziv:AV:=.fn (.func 110) [] [(.ref 0 2 (0) 0),(.ref 1 1 (0) 0)]
def Ziu (p0:(List GRow)):AV:=.dat 5 ((p0:List GRow).map Qa0)
def Zit (p1:(List GElement)):AV:=.dat 7 ((p1:List GElement).map Qad)
def Q83 (x3:(List GPort)):AV:=.dat 2 ((x3:List GPort).map Qas)
theorem Qji (N:Nat) (p0:(List GRow)) (p1:(List GElement)) (p2:(List (Int×Int))) (r:(List GPort)) (h:Qfm N p0 p1 p2=some r):Spec Tryz.prog 89 [Ziv] [(.own 2 [[(Ziu p0),(Zit p1)]]),(.own 1 [[(.mp 2)]]),(Qdc p2)] (.dat 2 ((r:List GPort).map Qas)) [.dead,.dead,.dead]:=by
  refine Qai Tryz.func89 rfl 3 (nle rfl) (fun X φ0 w0 hφ0 hd0=>?_)
  unfold Qfm at h
  refine Qb1<|wxz ?_
  obtain ⟨x3,hf2,h⟩:=bno h
  refine wx tbk [(1,⟨[fu 111,((.const (.slice none 0 0)),nilS),(.tmp 3,Ziv)],[(0,(.own 2 [[(Ziu p0),(Zit p1)]])),(1,(.own 1 [[(.mp 2)]])),(2,(Qdc p2))],(Q83 x3),[(0,.dead),(1,.dead),(2,.dead)],false⟩)] ⟨Qat (first:=[]) (cap:=[]) (vs:=[nilS,Ziv]) (σr:=[(.own 2 [[(Ziu p0),(Zit p1)]]),(.own 1 [[(.mp 2)]]),(Qdc p2)]) (σr':=[.dead,.dead,.dead]) (res':=(Q83 x3)) [0,1,2] rfl Zfa (Qg0 N p0 p1 p2 _ hf2) rfl (Qbu (rnc (.plain _ nll) (rnc (Qbr rn0 (rnc (Qbp rfl) (rnc (Qbp rfl) rn0))) rn0))) (slc (Qaq (rnc (pld Qaj) (rnc (pld Qab) rn0))) (slc (Qaq (rnc (Zgx rfl) rn0)) (slc Qr2 Qar))) (slc .dead (slc .dead (slc .dead Qar))) (pld Qa3) rfl rfl rfl,trivial⟩ ?_
  refine wmr (mto (n:=5) (l':=[(2,(Q83 x3))]) (own':=[.dead,.dead,.dead]) [(2,(Q83 x3))] [0,1,2] [.dead,.dead,.dead] hφ0 (pc (rnd Qa3) pn) (qc .dead (qc .dead (qc .dead qn))))<|Qaf ?_
  obtain rfl:=osi h
  exact ⟨_,Mor.rfl,Qdb (vs:=[(Q83 x3)]) ⟨rot,trivial⟩ rfl (NLt.of0 (nld Qa3 _)) (by kernel_rfl) (Qao .dead (Qao .dead (Qao .dead Qbx)))⟩
def Qqu (N:Nat) (p0:GNet):Option ((List GPort)×Int):=
  (Qgt N p0).bind fun x2=>
  bif (!x2) then
   some ([],1)
  else
   (Qj3 N p0).bind fun x5=>
   (Qfm N p0.Table p0.Elements x5).bind fun x7=>
   some (x7,0)
def Zl5 (p0:GNet):AV:=.dat 7 ((p0.Elements:List GElement).map Qad)
def Zc0 (p0:GNet):AV:=.agg [(.dat 5 ((p0.Table:List GRow).map Qa0)),(Zl5 p0)]
def Zcz:AV:=.fn (.func 110) [] [(.ref 1 2 (0) 0),(.ref 2 1 (0) 0)]
def Zc1 (p0:GNet):Slot:=.own 2 [[(.dat 5 ((p0.Table:List GRow).map Qa0)),(Zl5 p0)]]
def Ziw (x7:(List GPort)):AV:=.dat 2 ((x7:List GPort).map Qas)
theorem Qw3 (N:Nat) (p0:GNet) (r:((List GPort)×Int)) (h:Qqu N p0=some r):Spec Tryz.prog 47 [(.agg (Qhv p0))] [] (.tup [(.dat 2 (r.1.map Qas)),(I r.2)]) []:=by
  refine Qai Tryz.func47 rfl 0 (nle rfl) (fun X φ0 w0 hφ0 hd0=>?_)
  unfold Qqu at h
  refine wxz<|wsq ?_
  obtain ⟨x2,hf1,h⟩:=bno h
  refine wx tbk [(1,rp [fu 66,(.tmp 4,(Zc0 p0))] (B x2))] ⟨apc (first:=[]) (cap:=[]) (vs:=[(Zc0 p0)]) rfl Qxl (Qhb N p0 _ hf1) rfl rfl (nlc (NLt.agg _ (nlc (nld Qaj _) (nlc (nld Qab _) nl0))) nl0) nll rfl,trivial⟩ ?_
  refine bfe h (fun hc3 h=>?_) fun hc3 h=>?_
  ·refine wft hc3<|wxz<|Qaf<|Qag ?_
   obtain rfl:=osi h
   exact fend ⟨[(.dat 2 (([]:List GPort).map Qas)),I 1],⟨Qez (v:=nilS) (rot) Less.nil,rot,trivial⟩,rfl⟩ (NLt.tup _ (nlc (nld Qa3 _) (nlc nll nl0)))
  ·refine wfn hc3<|Qam<|thn ?_
   obtain ⟨x5,hf4,h⟩:=bno h
   obtain ⟨x7,hf6,h⟩:=bno h
   refine wx tbk [(1,⟨[fu 75,(.tmp 7,(Zc0 p0))],[(1,.unused),(2,.unused),(3,.unused)],Zcz,[(1,(Zc1 p0)),(2,(.own 1 [[(.mp 3)]])),(3,(Qdc x5))],false⟩),(2,⟨[fu 89,(.tmp 8,Zcz)],[(1,(Zc1 p0)),(2,(.own 1 [[(.mp 3)]])),(3,(Qdc x5))],(Ziw x7),[(1,.dead),(2,.dead),(3,.dead)],false⟩)] ⟨Qat (first:=[]) (cap:=[]) (vs:=[(Zc0 p0)]) (σr:=[]) (σr':=[(Zc1 p0),(.own 1 [[(.mp 3)]]),(Qdc x5)]) (res':=Zcz) [1,2,3] rfl Zkm (Qos N p0 _ hf4) rfl (Qbu (rnc (.plain _ (NLt.agg _ (nlc (nld Qaj _) (nlc (nld Qab _) nl0)))) rn0)) Qar (slc (Qaq (rnc (pld Qaj) (rnc (pld Qab) rn0))) (slc (Qaq (rnc (Zgy rfl) rn0)) (slc Qr2 Qar))) (Qbr rn0 (rnc (Qbs rfl) (rnc (Qbs rfl) rn0))) rfl rfl rfl,Qat (first:=[]) (cap:=[]) (vs:=[Zcz]) (σr:=[(Zc1 p0),(.own 1 [[(.mp 3)]]),(Qdc x5)]) (σr':=[.dead,.dead,.dead]) (res':=(Ziw x7)) [1,2,3] rfl Zkl (Qji N p0.Table p0.Elements x5 _ hf6) rfl (Qbu (rnc (Qbr rn0 (rnc (Qbp rfl) (rnc (Qbp rfl) rn0))) rn0)) (slc (Qaq (rnc (pld Qaj) (rnc (pld Qab) rn0))) (slc (Qaq (rnc (Zgx rfl) rn0)) (slc Qr2 Qar))) (slc .dead (slc .dead (slc .dead Qar))) (pld Qa3) rfl rfl rfl,trivial⟩<|Qaf ?_
   obtain rfl:=osi h
   exact fend ⟨[(Ziw x7),I 0],⟨rot,rot,trivial⟩,rfl⟩ (NLt.tup _ (nlc (nld Qa3 _) (nlc nll nl0)))
end Go.Proofs.YtmbhnllcfmiajaaGreat
