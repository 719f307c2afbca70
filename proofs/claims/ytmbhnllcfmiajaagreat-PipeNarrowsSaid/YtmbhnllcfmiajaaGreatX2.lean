/-
  Functions of the program: what they compute, as plain functions, and that they do. No conditions.
-/
import Derived.Test.YtmbhnllcfmiajaaGreatX1
namespace Go.Proofs.YtmbhnllcfmiajaaGreat
set_option maxRecDepth 100000
set_option maxHeartbeats 4000000
open Go.RowKit
def Qef (N:Nat) (k11:(List (Int×Int))→Option (List (Int×Int))) (x12:GElement):Nat→Int→(List (Int×Int))→Option (List (Int×Int))
  | 0,_,_=>none
  | n20+1,y16,y17=>
    bif (decide (y16<(x12.From.length:Int))) then
     (getI x12.From y16).bind fun x22=>
     Qef N k11 x12 n20 (w64 (y16+1)) (addQ y17 (x22.Element,x22.Outlet))
    else
     k11 (y17)
def Qeg (N:Nat) (p0:GNet) (k3:(List (Int×Int))→Option (List (Int×Int))):Nat→Int→(List (Int×Int))→Option (List (Int×Int))
  | 0,_,_=>none
  | n8+1,y4,y5=>
    bif (decide (y4<(p0.Elements.length:Int))) then
     Qbp (fun y10=>
       Qeg N p0 k3 n8 (w64 (y4+1)) y10) fun k11:(List (Int×Int))→Option (List (Int×Int))=>
     (getI p0.Elements y4).bind fun x12=>
     Qef N k11 x12 N 0 y5
    else
     k3 (y5)
def Qjg (N:Nat) (p0:GNet):Option (List (Int×Int)):=
  Qbp (fun y2=>
    some y2) fun k3:(List (Int×Int))→Option (List (Int×Int))=>
  Qeg N p0 k3 N 0 ([]:List (Int×Int))
def Qn6 (p0:GNet):AV:=.dat 7 ((p0.Elements:List GElement).map Qac)
def Qwj:AV:=.fn (.func 110) [] [(.ref 0 2 (0) 0),(.ref 1 1 (0) 0)]
def Qnl (p0:GNet):Slot:=.own 2 [[(.dat 5 ((p0.Table:List GRow).map Qaw)),(Qn6 p0)]]
def Qtf (x12:GElement):AV:=.dat 2 ((x12.From:List GPort).map Qat)
theorem Qnt (N:Nat) (p0:GNet) (r:(List (Int×Int))) (h:Qjg N p0=some r):Spec Tryz.prog 75 [(.agg [(.dat 5 ((p0.Table:List GRow).map Qaw)),(Qn6 p0)])] [] Qwj [(Qnl p0),(.own 1 [[(.mp 2)]]),(Qdd r)]:=by
  refine Qah Tryz.func75 rfl 3 (nle rfl) (fun X φ0 w0 hφ0 hd0=>?_)
  unfold Qjg at h
  refine Qbx<|wxz ?_
  refine wx tbk [(0,⟨[],[(1,.unused)],(.mp 1),[(1,(Qdd ([]:List (Int×Int))))],false⟩)] ⟨Qqa rfl,trivial⟩ ?_
  obtain ⟨k3,hk_k3,h⟩:=jko h
  refine wjn (τ:=(List (Int×Int))) (fun t=>k3 t=some r) (fun y2=>⟨mk 28 [(1,.ref 0 2 0 0),(3,.ref 1 1 0 0)],[(Qnl p0),(.own 1 [[(.mp 2)]]),(Qdd y2)]⟩) (fun y2 h=>?_) ?_
  ·subst hk_k3
   refine wx tbk [(0,rp [(.tmp 1,.ref 0 2 0 0),(.tmp 3,.ref 1 1 0 0)] Qwj)] ⟨Qfn (fs:=[]) (cs:=[.ref 0 2 0 0,.ref 1 1 0 0]) rfl rfl rfl rfl,trivial⟩ ?_
   refine wmr (mto (n:=28) (l':=[(2,Qwj)]) (own':=[(Qnl p0),(.own 1 [[(.mp 2)]]),(Qdd y2)]) [(2,Qwj)] [0,1,2] [(Qnl p0),(.own 1 [[(.mp 2)]]),(Qdd y2)] hφ0 (pc (.rn (Qbn rn0 (rnc (rqr rfl) (rnc (rqr rfl) rn0)))) pn) (qc (spb (lc (rnd Qai) (lc (rnd Qaa) ln))) (qc (spb (lc (.rn (Qhy rfl)) ln)) (qc Qe2 qn))))<|Qaf ?_
   obtain rfl:=osi h
   exact ⟨_,Mor.rfl,Qdc (vs:=[Qwj]) ⟨rot,trivial⟩ rfl (NLt.fn _ _ _ nl0 (nlc (NLt.ref _ _ _ _ (by decide)) (nlc (NLt.ref _ _ _ _ (by decide)) nl0))) (by kernel_rfl) (Qao (Qbd (nlc (NLt.of0 (nld Qai _)) (nlc (NLt.of0 (nld Qaa _)) nl0))) (Qao (Qbd (nlc (NLt.mp _ (by decide)) nl0)) (Qao Za6 Qbt)))⟩
  ·skip
   refine wx tbk [(2,rp [(.tmp 10,(Qn6 p0))] (I ((p0.Elements.length:Int))))] ⟨alm (c:=Qac) (l:=p0.Elements) (aln rfl Tryz.underlying40 rfl),trivial⟩<|Qal ?_
   refine wmr (mto (n:=28) (l':=[(1,.ref 0 2 0 0),(3,.ref 1 1 0 0),(10,(Qn6 p0)),(11,(I ((p0.Elements.length:Int)))),(12,I 0)]) (own':=[(Qnl p0),(.own 1 [[(.mp 2)]]),(Qdd ([]:List (Int×Int)))]) [(1,.ref 0 2 0 0),(3,.ref 2 1 0 0),(10,(Qn6 p0)),(11,(I ((p0.Elements.length:Int)))),(12,I 0)] [0,2,1] [(Qnl p0),(.own 1 [[(.mp 1)]]),(Qdd ([]:List (Int×Int)))] hφ0 (pc (.rn (rqr rfl)) (pc (.rn (rqr rfl)) (pc (rnd Qaa) (pc rwl (pc rwl pn))))) (qc (spb (lc (rnd Qai) (lc (rnd Qaa) ln))) (qc (spb (lc (.rn (Qhy rfl)) ln)) (qc Qe2 qn)))) ?_
   refine Qcb (τ:=Int×(List (Int×Int))) (fun n t=>Qeg N p0 k3 n t.1 t.2=some r) (fun ⟨y4,y5⟩=>⟨mk 28 [(1,.ref 0 2 0 0),(3,.ref 1 1 0 0),(10,(Qn6 p0)),(11,(I ((p0.Elements.length:Int)))),(12,I y4)],[(Qnl p0),(.own 1 [[(.mp 2)]]),(Qdd y5)]⟩) (fun t h=>by rw [Qeg] at h; cases h) (fun n8 ih t h=>?_) N (0,([]:List (Int×Int))) h
   obtain ⟨y4,y5⟩:=t
   rw [Qeg] at h
   skip
   refine wxz<|wsq ?_
   refine bfe h (fun hc9 h=>?_) fun hc9 h=>?_
   ·refine wft hc9<|Qan<|thn ?_
    obtain ⟨k11,hk_k11,h⟩:=jko h
    refine wjn (τ:=(List (Int×Int))) (fun t=>k11 t=some r) (fun y10=>⟨mk 28 [(1,.ref 0 2 0 0),(3,.ref 1 1 0 0),(10,(Qn6 p0)),(11,(I ((p0.Elements.length:Int)))),(12,I y4)],[(Qnl p0),(.own 1 [[(.mp 2)]]),(Qdd y10)]⟩) (fun y10 h=>?_) ?_
    ·subst hk_k11
     exact wxz1<|thn<|arm (mto (n:=28) [(1,.ref 0 2 0 0),(3,.ref 1 1 0 0),(10,(Qn6 p0)),(11,(I ((p0.Elements.length:Int)))),(12,(I (w64 (y4+1))))] [0,1,2] [(Qnl p0),(.own 1 [[(.mp 2)]]),(Qdd y10)] hφ0 (pc (.rn (rqr rfl)) (pc (.rn (rqr rfl)) (pc (rnd Qaa) (pc rwl (pc rwl pn))))) (qc (spb (lc (rnd Qai) (lc (rnd Qaa) ln))) (qc (spb (lc (.rn (Qhy rfl)) ln)) (qc Qe2 qn)))) (ih (w64 (y4+1),y10) h)
    ·skip
     refine Qal ?_
     obtain ⟨x12,hg13,h⟩:=bno h
     obtain ⟨hi14,hj15⟩:=gsm hg13
     refine wx tbk [(0,rp [(.tmp 10,(Qn6 p0)),(.tmp 12,I y4)] (.dptr (Qac (x12)) 0))] ⟨aid rfl Tryz.underlying40 Qip rfl rfl hi14 (mgt Qac hj15) rfl,trivial⟩ ?_
     refine wx tbk [(2,rp [(.tmp 17,(Qtf x12))] (I ((x12.From.length:Int))))] ⟨alm (c:=Qat) (l:=x12.From) (aln rfl Tryz.underlying116 rfl),trivial⟩<|Qal ?_
     refine wmr (mto (n:=28) (l':=[(1,.ref 0 2 0 0),(3,.ref 1 1 0 0),(10,(Qn6 p0)),(11,(I ((p0.Elements.length:Int)))),(12,I y4),(17,(Qtf x12)),(18,(I ((x12.From.length:Int)))),(19,I 0)]) (own':=[(Qnl p0),(.own 1 [[(.mp 2)]]),(Qdd y5)]) [(1,.ref 0 2 0 0),(3,.ref 1 1 0 0),(10,(Qn6 p0)),(11,(I ((p0.Elements.length:Int)))),(12,I y4),(17,(Qtf x12)),(18,(I ((x12.From.length:Int)))),(19,I 0)] [0,1,2] [(Qnl p0),(.own 1 [[(.mp 2)]]),(Qdd y5)] hφ0 (pc (.rn (rqr rfl)) (pc (.rn (rqr rfl)) (pc (rnd Qaa) (pc rwl (pc rwl (pc (rnd Qa4) (pc rwl (pc rwl pn)))))))) (qc (spb (lc (rnd Qai) (lc (rnd Qaa) ln))) (qc (spb (lc (.rn (Qhy rfl)) ln)) (qc Qe2 qn)))) ?_
     refine Qcb (τ:=Int×(List (Int×Int))) (fun n t=>Qef N k11 x12 n t.1 t.2=some r) (fun ⟨y16,y17⟩=>⟨mk 28 [(1,.ref 0 2 0 0),(3,.ref 1 1 0 0),(10,(Qn6 p0)),(11,(I ((p0.Elements.length:Int)))),(12,I y4),(17,(Qtf x12)),(18,(I ((x12.From.length:Int)))),(19,I y16)],[(Qnl p0),(.own 1 [[(.mp 2)]]),(Qdd y17)]⟩) (fun t h=>by rw [Qef] at h; cases h) (fun n20 ih t h=>?_) N (0,y5) h
     obtain ⟨y16,y17⟩:=t
     rw [Qef] at h
     skip
     refine wxz<|wsq ?_
     refine bfe h (fun hc21 h=>?_) fun hc21 h=>?_
     ·refine wft hc21<|Qan<|thn<|wsq<|Qal ?_
      obtain ⟨x22,hg23,h⟩:=bno h
      obtain ⟨hi24,hj25⟩:=gsm hg23
      refine wx tbk [(0,rp [(.tmp 17,(Qtf x12)),(.tmp 19,I y16)] (.dptr (Qat (x22)) 0))] ⟨aid rfl Tryz.underlying116 Qkz rfl rfl hi24 (mgt Qat hj25) rfl,trivial⟩ ?_
      exact wx1 tbk [(2,⟨[(.tmp 23,(.mp 2)),(.tmp 24,(.agg [I x22.Element,I x22.Outlet])),cb true],[(2,(Qdd y17))],.any,[(2,(Qdd (addQ y17 (x22.Element,x22.Outlet))))],false⟩)] ⟨Qso rfl Tryz.underlying190 Tryz.underlying120 Qsf Qka,trivial⟩<|bln<|thn<|wxz1<|thn<|arm (mto (n:=28) [(1,.ref 0 2 0 0),(3,.ref 1 1 0 0),(10,(Qn6 p0)),(11,(I ((p0.Elements.length:Int)))),(12,I y4),(17,(Qtf x12)),(18,(I ((x12.From.length:Int)))),(19,(I (w64 (y16+1))))] [0,1,2] [(Qnl p0),(.own 1 [[(.mp 2)]]),(Qdd (addQ y17 (x22.Element,x22.Outlet)))] hφ0 (pc (.rn (rqr rfl)) (pc (.rn (rqr rfl)) (pc (rnd Qaa) (pc rwl (pc rwl (pc (rnd Qa4) (pc rwl (pc rwl pn)))))))) (qc (spb (lc (rnd Qai) (lc (rnd Qaa) ln))) (qc (spb (lc (.rn (Qhy rfl)) ln)) (qc Qe2 qn)))) (ih (w64 (y16+1),addQ y17 (x22.Element,x22.Outlet)) h)
     ·exact wfn hc21<|Qbl<|Qay<|Qay<|Qbk rfl<|bln<|thn<|⟨(y17),h,(mto (n:=28) [(1,.ref 0 2 0 0),(3,.ref 1 1 0 0),(10,(Qn6 p0)),(11,(I ((p0.Elements.length:Int)))),(12,I y4)] [0,1,2] [(Qnl p0),(.own 1 [[(.mp 2)]]),(Qdd y17)] hφ0 (pc (.rn (rqr rfl)) (pc (.rn (rqr rfl)) (pc (rnd Qaa) (pc rwl (pc rwl pn))))) (qc (spb (lc (rnd Qai) (lc (rnd Qaa) ln))) (qc (spb (lc (.rn (Qhy rfl)) ln)) (qc Qe2 qn))))⟩
   ·exact wfn hc9<|Qbl<|Qay<|Qay<|Qbk rfl<|thn<|⟨(y5),h,(mto (n:=28) [(1,.ref 0 2 0 0),(3,.ref 1 1 0 0)] [0,1,2] [(Qnl p0),(.own 1 [[(.mp 2)]]),(Qdd y5)] hφ0 (pc (.rn (rqr rfl)) (pc (.rn (rqr rfl)) pn)) (qc (spb (lc (rnd Qai) (lc (rnd Qaa) ln))) (qc (spb (lc (.rn (Qhy rfl)) ln)) (qc Qe2 qn))))⟩
def Qdo (N:Nat) (y1:Int) (p2:(List (Int×Int))) (k8:Unit→Option (List GPort)) (x14:Int):Nat→Int→Option (List GPort)
  | 0,_=>none
  | n19+1,y15=>
    bif (decide (y15<x14)) then
     bif (!(p2.contains (y1,y15))) then
      yld (⟨y1,y15⟩:GPort)<|
      Qdo N y1 p2 k8 x14 n19 (w64 (y15+1))
     else
      Qdo N y1 p2 k8 x14 n19 (w64 (y15+1))
    else
     k8 ()
def Qee (N:Nat) (p1:(List GElement)) (p2:(List (Int×Int))):Nat→Int→Option (List GPort)
  | 0,_=>none
  | n5+1,y1=>
    bif (decide (y1<(p1.length:Int))) then
     Qbp (fun _=>
       Qee N p1 p2 n5 (w64 (y1+1))) fun k8:Unit→Option (List GPort)=>
     (getI p1 y1).bind fun x9=>
     (Qdw N x9).bind fun x14=>
     Qdo N y1 p2 k8 x14 N 0
    else
     some ([])
def Qjf (N:Nat) (_p0:(List GRow)) (p1:(List GElement)) (p2:(List (Int×Int))):Option (List GPort):=
  Qee N p1 p2 N 0
def Qn5 (p1:(List GElement)):AV:=.dat 7 ((p1:List GElement).map Qac)
def Qqi (p0:(List GRow)) (p1:(List GElement)):Slot:=.own 2 [[(.dat 5 ((p0:List GRow).map Qaw)),(Qn5 p1)]]
def Zd5 (x9:GElement):AV:=.agg [(K .u8 (x9.Kind)),(.dat 2 ((x9.From:List GPort).map Qat)),(I (x9.Level)),(I (x9.Amount)),(I (x9.Wide)),(I (x9.Narrow)),(.dat 1 ((x9.Weights:List Int).map Qak))]
def Qnd (y1:Int) (y15:Int):AV:=.agg [(I (y1)),(I (y15))]
theorem Qns (N:Nat) (p0:(List GRow)) (p1:(List GElement)) (p2:(List (Int×Int))) (r:(List GPort)) (h:Qjf N p0 p1 p2=some r):Qsx Tryz.prog 110 [(.ref 0 2 (0) 0),(.ref 1 1 (0) 0)] [(Qqi p0 p1),(.own 1 [[(.mp 2)]]),(Qdd p2)] (fun x=>[(.agg #[(.int .i64 (x.Element)),(.int .i64 (x.Outlet))])]) r:=by
  refine Qto Tryz.func110 rfl rfl (fun X φ0 w0 l J hφ0 hy=>?_)
  unfold Qjf at h
  refine wx tbk [(2,rp [(.tmp 9,(Qn5 p1))] (I ((p1.length:Int))))] ⟨alm (c:=Qac) (l:=p1) (aln rfl Tryz.underlying40 rfl),trivial⟩<|Qal ?_
  refine wmr (mto (n:=36) (l':=[(0,(.lit (.func (.yield l) #[] #[]))),(2,.ref 1 1 0 0),(9,(Qn5 p1)),(10,(I ((p1.length:Int)))),(11,I 0)]) (own':=[(Qqi p0 p1),(.own 1 [[(.mp 2)]]),(Qdd p2),(.far (J (some (r))))]) [(0,(.lit (.func (.yield l) #[] #[]))),(2,.ref 1 1 0 0),(9,(Qn5 p1)),(10,(I ((p1.length:Int)))),(11,I 0)] [0,1,2,3] [(Qqi p0 p1),(.own 1 [[(.mp 2)]]),(Qdd p2),(.far (J (some (r))))] hφ0 (pc rwl (pc (.rn (rqr rfl)) (pc (rnd Qaa) (pc rwl (pc rwl pn))))) (qc (spb (lc (rnd Qai) (lc (rnd Qaa) ln))) (qc (spb (lc (.rn (Qhy rfl)) ln)) (qc Qe2 (qc (.far _) qn))))) ?_
  refine Qcb (τ:=(Int)×List GPort) (fun n t=>Qee N p1 p2 n t.1=some t.2) (fun ⟨y1,q2⟩=>⟨mk 36 [(0,(.lit (.func (.yield l) #[] #[]))),(2,.ref 1 1 0 0),(9,(Qn5 p1)),(10,(I ((p1.length:Int)))),(11,I y1)],[(Qqi p0 p1),(.own 1 [[(.mp 2)]]),(Qdd p2),(.far (J (some (q2))))]⟩) (fun t h=>by rw [Qee] at h; cases h) (fun n5 ih t h=>?_) N ((0),r) h
  obtain ⟨y1,q2⟩:=t
  rw [Qee] at h
  try dsimp only at h
  refine wxz<|wsq ?_
  refine bfe h (fun hc6 h=>?_) fun hc6 h=>?_
  ·refine wft hc6<|Qan<|thn ?_
   obtain ⟨k8,hk_k8,h⟩:=jko h
   refine wjn (τ:=(Unit)×List GPort) (fun t=>k8 t.1=some t.2) (fun ⟨_,q7⟩=>⟨mk 36 [(0,(.lit (.func (.yield l) #[] #[]))),(2,.ref 1 1 0 0),(9,(Qn5 p1)),(10,(I ((p1.length:Int)))),(11,I y1)],[(Qqi p0 p1),(.own 1 [[(.mp 2)]]),(Qdd p2),(.far (J (some (q7))))]⟩) (fun t h=>?_) ?_
   ·subst hk_k8
    obtain ⟨_,q7⟩:=t
    exact wxz1<|thn<|arm (mto (n:=36) [(0,(.lit (.func (.yield l) #[] #[]))),(2,.ref 1 1 0 0),(9,(Qn5 p1)),(10,(I ((p1.length:Int)))),(11,(I (w64 (y1+1))))] [0,1,2,3] [(Qqi p0 p1),(.own 1 [[(.mp 2)]]),(Qdd p2),(.far (J (some (q7))))] hφ0 (pc rwl (pc (.rn (rqr rfl)) (pc (rnd Qaa) (pc rwl (pc rwl pn))))) (qc (spb (lc (rnd Qai) (lc (rnd Qaa) ln))) (qc (spb (lc (.rn (Qhy rfl)) ln)) (qc Qe2 (qc (.far _) qn))))) (ih ((w64 (y1+1)),q7) h)
   ·skip
    refine Qal ?_
    obtain ⟨x9,hg10,h⟩:=bno h
    obtain ⟨hi11,hj12⟩:=gsm hg10
    refine wx tbk [(1,rp [(.tmp 9,(Qn5 p1)),(.tmp 11,I y1)] (.dptr (Qac (x9)) 0))] ⟨aid rfl Tryz.underlying40 Qip rfl rfl hi11 (mgt Qac hj12) rfl,trivial⟩ ?_
    obtain ⟨x14,hf13,h⟩:=bno h
    refine wx tbk [(1,rp [fu 103,(.tmp 16,(Zd5 x9))] (I x14))] ⟨apc (first:=[]) (cap:=[]) (vs:=[(Zd5 x9)]) rfl Qqy (Qet N x9 _ hf13) rfl rfl (nlc (NLt.agg _ (nlc nll (nlc (nld Qa4 _) (nlcc (nlcc (nlc (nld Qag _) nl0)))))) nl0) nll rfl,trivial⟩<|Qal ?_
    refine wmr (mto (n:=36) (l':=[(0,(.lit (.func (.yield l) #[] #[]))),(2,.ref 1 1 0 0),(4,I y1),(9,(Qn5 p1)),(10,(I ((p1.length:Int)))),(11,I y1),(17,I x14),(18,I 0)]) (own':=[(Qqi p0 p1),(.own 1 [[(.mp 2)]]),(Qdd p2),(.far (J (some (q2))))]) [(0,(.lit (.func (.yield l) #[] #[]))),(2,.ref 1 1 0 0),(4,I y1),(9,(Qn5 p1)),(10,(I ((p1.length:Int)))),(11,I y1),(17,I x14),(18,I 0)] [0,1,2,3] [(Qqi p0 p1),(.own 1 [[(.mp 2)]]),(Qdd p2),(.far (J (some (q2))))] hφ0 (pc rwl (pc (.rn (rqr rfl)) (pc rwl (pc (rnd Qaa) (pc rwl (pc rwl (pc rwl (pc rwl pn)))))))) (qc (spb (lc (rnd Qai) (lc (rnd Qaa) ln))) (qc (spb (lc (.rn (Qhy rfl)) ln)) (qc Qe2 (qc (.far _) qn))))) ?_
    refine Qcb (τ:=(Int)×List GPort) (fun n t=>Qdo N y1 p2 k8 x14 n t.1=some t.2) (fun ⟨y15,q16⟩=>⟨mk 36 [(0,(.lit (.func (.yield l) #[] #[]))),(2,.ref 1 1 0 0),(4,I y1),(9,(Qn5 p1)),(10,(I ((p1.length:Int)))),(11,I y1),(17,I x14),(18,I y15)],[(Qqi p0 p1),(.own 1 [[(.mp 2)]]),(Qdd p2),(.far (J (some (q16))))]⟩) (fun t h=>by rw [Qdo] at h; cases h) (fun n19 ih t h=>?_) N ((0),q2) h
    obtain ⟨y15,q16⟩:=t
    rw [Qdo] at h
    try dsimp only at h
    refine wxz<|wsq ?_
    refine bfe h (fun hc20 h=>?_) fun hc20 h=>?_
    ·refine wft hc20<|Qan<|thn<|wsq<|Qal<|wxz ?_
     refine wx tbk [(2,rp [(.tmp 21,I y1),(.tmp 22,I y15)] (Qnd y1 y15))] ⟨Qax (vs:=[I y1,I y15]) rfl Qqj Ql3 rfl (by rfl) rfl,trivial⟩ ?_
     refine bfe h (fun hb21 h=>?_) fun hb21 h=>?_
     ·obtain ⟨q22,hy_,hq_⟩:=Qzb h
      clear h
      subst hq_
      have h:=hy_
      clear hy_
      refine Zda 7 [rb [(.tmp 2,.ref 1 1 0 0)] [(1,(.own 1 [[(.mp 2)]]))] (.mp 2),rb [(.tmp 7,.ref 4 2 0 0)] [(4,.own 2 [[I y1,I y15]])] (Qnd y1 y15),rb [(.tmp 24,(.mp 2)),(.tmp 25,(Qnd y1 y15))] [(2,(Qdd p2))] (B (p2.contains (y1,y15))),rp [(.tmp 26,(B (p2.contains (y1,y15))))] (B ((!(p2.contains (y1,y15))))),rp [(.tmp 27,(B ((!(p2.contains (y1,y15))))))] (B true),rp [(.tmp 28,B true),(.tmp 0,(.lit (.func (.yield l) #[] #[])))] (.lit (.func (.yield l) #[] #[])),rb [(.tmp 28,B true),(.tmp 7,.ref 4 2 0 0)] [(4,.own 2 [[I y1,I y15]])] (Qnd y1 y15),⟨[(.tmp 28,B true),(.tmp 29,(.lit (.func (.yield l) #[] #[]))),(.tmp 30,(Qnd y1 y15))],[(3,(.far (J (some ((⟨y1,y15⟩:GPort)::q22)))))],B true,[(3,(.far (J (some (q22)))))],false⟩,rp [(.tmp 28,B true),(.tmp 31,B true)] (B false),rp [(.tmp 28,B true),(.tmp 32,B false),cb false] (B false)] [rb [(.tmp 2,.ref 1 1 0 0)] [(1,(.own 1 [[(.mp 2)]]))] (.mp 2),rb [(.tmp 7,.ref 4 2 0 0)] [(4,.own 2 [[I y1,I y15]])] (Qnd y1 y15),rb [(.tmp 24,(.mp 2)),(.tmp 25,(Qnd y1 y15))] [(2,(Qdd p2))] (B (p2.contains (y1,y15))),rp [(.tmp 26,(B (p2.contains (y1,y15))))] (B ((!(p2.contains (y1,y15))))),rp [(.tmp 27,(B ((!(p2.contains (y1,y15))))))] (B true),rp [(.tmp 28,B true),(.tmp 0,(.lit (.func (.yield l) #[] #[])))] (.lit (.func (.yield l) #[] #[])),rb [(.tmp 28,B true),(.tmp 7,.ref 4 2 0 0)] [(4,.own 2 [[I y1,I y15]])] (Qnd y1 y15),⟨[(.tmp 28,B true),(.tmp 29,(.lit (.func (.yield l) #[] #[]))),(.tmp 30,(Qnd y1 y15))],[(3,(.far (J (some ((⟨y1,y15⟩:GPort)::q22)))))],B false,[(3,(.far (J none)))],false⟩,rp [(.tmp 28,B true),(.tmp 31,B false)] (B true),rp [(.tmp 28,B true),(.tmp 32,B true),cb false] (B true)] (by exact ⟨by kernel_rfl,by kernel_rfl⟩) (by exact ⟨by kernel_rfl,by kernel_rfl⟩) rfl rfl rfl rfl (Qyg (Qnz (rd':=(.tmp 29,.lit (.func (.yield l) #[] #[]))::[(.tmp 30,.lit (.agg #[(.int .i64 ((⟨y1,y15⟩:GPort).Element)),(.int .i64 ((⟨y1,y15⟩:GPort).Outlet))]))]) ⟨rfl,lrf,rfl,(Less.lits [(.int .i64 (y1)),(.int .i64 (y15))]),trivial⟩ (Qmq (x:=(⟨y1,y15⟩:GPort)) (rest:=q22) rfl rfl hy rfl))) (⟨fun _ _=>ald rfl Zgy (by decide) rfl (nle rfl) rfl,fun _ _=>ald rfl Qkz (by decide) rfl (nle rfl) rfl,fun _ _=>Qkd rfl Tryz.underlying190 Tryz.underlying120 zb4 Qsf Qka,fun _ _=>Qkc rfl,fun _ _=>asb hb21 (amv rfl),fun _ _=>ag_ (amv rfl),fun _ _=>ag_ (ald rfl Qkz (by decide) rfl (nle rfl) rfl),fun _ h=>absurd rfl h,fun _ _=>ag_ (Qkc rfl),fun _ _=>apk rfl rfl,trivial⟩) (⟨fun _ _=>ald rfl Zgy (by decide) rfl (nle rfl) rfl,fun _ _=>ald rfl Qkz (by decide) rfl (nle rfl) rfl,fun _ _=>Qkd rfl Tryz.underlying190 Tryz.underlying120 zb4 Qsf Qka,fun _ _=>Qkc rfl,fun _ _=>asb hb21 (amv rfl),fun _ _=>ag_ (amv rfl),fun _ _=>ag_ (ald rfl Qkz (by decide) rfl (nle rfl) rfl),fun _ h=>absurd rfl h,fun _ _=>ag_ (Qkc rfl),fun _ _=>apk rfl rfl,trivial⟩) ?_ ?_
      ·skip
       exact wfa<|Qan<|bln<|thn<|wxz1<|thn<|arm (mto (n:=36) [(0,(.lit (.func (.yield l) #[] #[]))),(2,.ref 1 1 0 0),(4,I y1),(9,(Qn5 p1)),(10,(I ((p1.length:Int)))),(11,I y1),(17,I x14),(18,(I (w64 (y15+1))))] [0,1,2,3] [(Qqi p0 p1),(.own 1 [[(.mp 2)]]),(Qdd p2),(.far (J (some (q22))))] hφ0 (pc rwl (pc (.rn (rqr rfl)) (pc rwl (pc (rnd Qaa) (pc rwl (pc rwl (pc rwl (pc rwl pn)))))))) (qc (spb (lc (rnd Qai) (lc (rnd Qaa) ln))) (qc (spb (lc (.rn (Qhy rfl)) ln)) (qc Qe2 (qc (.far _) qn))))) (ih ((w64 (y15+1)),q22) h)
      ·clear h
       refine wtr<|Qaf<|Qam<|Qae<|Qae<|Qam<|Qam<|Qae<|Qae<|Qam ?_
       exact Or.inr (by kernel_rfl)
     ·exact wx tbk [(2,rb [(.tmp 24,(.mp 2)),(.tmp 25,(Qnd y1 y15))] [(2,(Qdd p2))] (B (p2.contains (y1,y15)))),(4,rp [(.tmp 27,(B ((!(p2.contains (y1,y15))))))] (B false))] ⟨Qkd rfl Tryz.underlying190 Tryz.underlying120 zb4 Qsf Qka,asb hb21 (amv rfl),trivial⟩<|wfa<|Qan<|bln<|thn<|wxz1<|thn<|arm (mto (n:=36) [(0,(.lit (.func (.yield l) #[] #[]))),(2,.ref 1 1 0 0),(4,I y1),(9,(Qn5 p1)),(10,(I ((p1.length:Int)))),(11,I y1),(17,I x14),(18,(I (w64 (y15+1))))] [0,1,2,3] [(Qqi p0 p1),(.own 1 [[(.mp 2)]]),(Qdd p2),(.far (J (some (q16))))] hφ0 (pc rwl (pc (.rn (rqr rfl)) (pc rwl (pc (rnd Qaa) (pc rwl (pc rwl (pc rwl (pc rwl pn)))))))) (qc (spb (lc (rnd Qai) (lc (rnd Qaa) ln))) (qc (spb (lc (.rn (Qhy rfl)) ln)) (qc Qe2 (qc (.far _) qn))))) (ih ((w64 (y15+1)),q16) h)
    ·exact wfn hc20<|Qbl<|Qay<|Qay<|Qbk rfl<|bln<|thn<|⟨((),q16),h,(mto (n:=36) [(0,(.lit (.func (.yield l) #[] #[]))),(2,.ref 1 1 0 0),(9,(Qn5 p1)),(10,(I ((p1.length:Int)))),(11,I y1)] [0,1,2,3] [(Qqi p0 p1),(.own 1 [[(.mp 2)]]),(Qdd p2),(.far (J (some (q16))))] hφ0 (pc rwl (pc (.rn (rqr rfl)) (pc (rnd Qaa) (pc rwl (pc rwl pn))))) (qc (spb (lc (rnd Qai) (lc (rnd Qaa) ln))) (qc (spb (lc (.rn (Qhy rfl)) ln)) (qc Qe2 (qc (.far _) qn)))))⟩
  ·refine wfn hc6<|Qbl<|Qay<|Qay<|Qbk rfl ?_
   obtain rfl:=osi h
   exact Or.inl rfl
def Qbm (N:Nat) (k3:(List GPort)→Option (List GPort)):(List GPort)→(List GPort)→Option (List GPort)
  | [],y6=>
    k3 (y6)
  | x9::q10,y6=>
    chk (decide ((y6.length+([x9]).length) * 16≤140737488355328))<|
    Qbm N k3 q10 (y6++([x9]))
def Qda (N:Nat) (p0:(List GRow)) (p1:(List GElement)) (p2:(List (Int×Int))):Option (List GPort):=
  Qbp (fun y2=>
    some y2) fun k3:(List GPort)→Option (List GPort)=>
  (Qjf N p0 p1 p2).bind fun q4=>
  Qbm N k3 q4 ([])
def Zge:AV:=.fn (.func 110) [] [(.ref 0 2 (0) 0),(.ref 1 1 (0) 0)]
def Zao (p0:(List GRow)):AV:=.dat 5 ((p0:List GRow).map Qaw)
def Zan (p1:(List GElement)):AV:=.dat 7 ((p1:List GElement).map Qac)
def Q6o (y6:(List GPort)):AV:=.acc 4 120 2 ((y6:List GPort).map Qat)
theorem Qgl (N:Nat) (p0:(List GRow)) (p1:(List GElement)) (p2:(List (Int×Int))) (r:(List GPort)) (h:Qda N p0 p1 p2=some r):Spec Tryz.prog 111 [nilS,Zge] [(.own 2 [[(Zao p0),(Zan p1)]]),(.own 1 [[(.mp 2)]]),(Qdd p2)] (.dat 2 ((r:List GPort).map Qat)) [.dead,.dead,.dead]:=by
  refine Qah Tryz.func111 rfl 3 (nle rfl) (fun X φ0 w0 hφ0 hd0=>?_)
  unfold Qda at h
  refine Qbx<|wxz ?_
  obtain ⟨k3,hk_k3,h⟩:=jko h
  refine wjn (τ:=(List GPort)) (fun t=>k3 t=some r) (fun y2=>⟨mk 13 [(2,.ref 3 1 0 0)],[.dead,.dead,.dead,(.own 1 [[(.acc 4 120 2 ((y2:List GPort).map Qat))]]),.tok]⟩) (fun y2 h=>?_) ?_
  ·subst hk_k3
   refine wxz<|wmr (mto (n:=13) (l':=[(4,(.dat 2 ((y2:List GPort).map Qat)))]) (own':=[.dead,.dead,.dead]) [(4,(.acc 4 120 2 ((y2:List GPort).map Qat)))] [0,1,2] [.dead,.dead,.dead] hφ0 (pc (.dat _ _ _ _ (Qca Qa4 _)) pn) (qc .dead (qc .dead (qc .dead qn))))<|Qaf ?_
   obtain rfl:=osi h
   exact ⟨_,Mor.rfl,Qdc (vs:=[(.dat 2 ((y2:List GPort).map Qat))]) ⟨rot,trivial⟩ rfl (NLt.of0 (nld Qa4 _)) (by kernel_rfl) (Qao .dead (Qao .dead (Qao .dead Qbt)))⟩
  ·skip
   refine wxz<|Qal ?_
   obtain ⟨q4,hL5,h⟩:=bno h
   refine wmr (mto (n:=13) (l':=[(2,.ref 3 1 0 0),(6,Zge)]) (own':=[(.own 2 [[(Zao p0),(Zan p1)]]),(.own 1 [[(.mp 2)]]),(Qdd p2),(.own 1 [[nilS]])]) [(2,.ref 3 1 0 0),(6,Zge)] [0,1,2,3] [(.own 2 [[(Zao p0),(Zan p1)]]),(.own 1 [[(.mp 2)]]),(Qdd p2),(.own 1 [[nilS]])] hφ0 (pc (.rn (rqr rfl)) (pc (.rn (Qbn rn0 (rnc (rqr rfl) (rnc (rqr rfl) rn0)))) pn)) (qc (spb (lc (rnd Qai) (lc (rnd Qaa) ln))) (qc (spb (lc (.rn (Qhy rfl)) ln)) (qc Qe2 (qc (spb (lc rwl ln)) qn))))) ?_
   refine wmr (Qqt (n:=4) (ty:=120) (m:=2) (q:=3) (mq:=1) (c:=[nilS]) 0 (by kernel_rfl) (by kernel_rfl) (by kernel_rfl) (by decide)) ?_
   refine Qt8 (τ:=((List GPort))) (kb:=4) (caps:=[.ref 0 2 0 0,.ref 1 1 0 0]) (σr:=[(.own 2 [[(Zao p0),(Zan p1)]]),(.own 1 [[(.mp 2)]]),(Qdd p2)]) (encs:=fun x=>[(.agg #[(.int .i64 (x.Element)),(.int .i64 (x.Outlet))])]) (fun x=>[(.agg [I x.Element,I x.Outlet])]) [0,1,2] (fun n hn=>hφ0 n (Nat.le_trans (nle rfl) hn)) hd0 (Qns N p0 p1 p2 _ hL5) Zc0 (by kernel_rfl) (by kernel_rfl) (Qbr (rnc (Qbo rfl) (rnc (Qbo rfl) rn0))) (slc (Qaq (rnc (pld Qai) (rnc (pld Qaa) rn0))) (slc (Qaq (rnc (Zeh rfl) rn0)) (slc Qqq Qar))) (by kernel_rfl) (fun _=>rfl) (fun x=>⟨(Less.unlits [(.int .i64 (x.Element)),(.int .i64 (x.Outlet))]),trivial⟩) (Zeo (Qqs (NLt.ref _ _ _ _ (by decide)) (Qqs (NLt.fn _ _ _ nl0 (nlc (NLt.ref _ _ _ _ (by decide)) (nlc (NLt.ref _ _ _ _ (by decide)) nl0))) Q7w))) (fun y6=>[.dead,.dead,.dead,(.own 1 [[(Q6o y6)]]),.tok]) (fun _=>rfl) (fun _=>rfl) (fun l t=>Qbm N k3 l t=some r) ([]) h (by kernel_rfl) ?_ ?_
   ·intro l11 o12 X15 φ16 w17 hφ14 x9 q10 y6 h
    rw [Qbm] at h
    refine wxz1 ?_
    refine ⟨by kernel_rfl,fun o13=>?_⟩
    refine Qal ?_
    obtain ⟨ha18,h⟩:=cko h
    refine wx1 tbk [(2,rp [(.tmp 9,(.agg [I x9.Element,I x9.Outlet]))] (.dat 2 (([x9]:List GPort).map Qat))),(3,⟨[(.tmp 8,(Q6o y6)),(.tmp 10,(.dat 2 (([x9]:List GPort).map Qat)))],[(4,.tok),(7,.unused)],(.acc 7 120 2 ((y6++([x9]):List GPort).map Qat)),[(4,.dead),(7,.tok)],false⟩)] ⟨Qbw (vs:=[(.agg [I x9.Element,I x9.Outlet])]) rfl Tryz.underlying116 Qkz Ql3 rfl (by decide) rfl (by decide) (by rfl) (by rfl) (by rfl) rfl,Qgo rfl Tryz.underlying116 Zjt (Base.acc _ _) rfl rfl (by rfl) (Qjk Qat ha18) (Qjj Qat ha18 (by decide)) (Qji Qat) rfl rfl,trivial⟩<|bln ?_
    exact ⟨(y6++([x9])),h,Zej (own':=[.dead,.dead,.dead,(.own 1 [[(.acc 4 120 2 (((y6++([x9])):List GPort).map Qat))]]),.tok,(.far (farL l11 o13))]) [0,1,2,3,7,5] [.dead,.dead,.dead,(.own 1 [[(.acc 7 120 2 ((y6++([x9]):List GPort).map Qat))]]),.tok,(.far (farL l11 o13))] (by kernel_rfl) (by kernel_rfl) ⟨.dead,.dead,.dead,(spb (lc (.rn (Qcu rfl (Qca Qa4 _))) ln)),.tok,.far _,trivial⟩⟩
   ·intro y6 h
    rw [Qbm] at h
    exact bln<|thn<|⟨(y6),h,(mto (n:=13) [(2,.ref 3 1 0 0)] [0,1,2,3,4] [.dead,.dead,.dead,(.own 1 [[(Q6o y6)]]),.tok] hφ0 (pc (.rn (rqr rfl)) pn) (qc .dead (qc .dead (qc .dead (qc (spb (lc (.rn (Qcu rfl (Qca Qa4 _))) ln)) (qc .tok qn))))))⟩
def Qfd (N:Nat) (p0:(List GRow)) (p1:(List GElement)) (p2:(List (Int×Int))):Option (List GPort):=
  (Qda N p0 p1 p2).bind fun x3=>
  some x3
def Zgh:AV:=.fn (.func 110) [] [(.ref 0 2 (0) 0),(.ref 1 1 (0) 0)]
def Zgg (p0:(List GRow)):AV:=.dat 5 ((p0:List GRow).map Qaw)
def Zgf (p1:(List GElement)):AV:=.dat 7 ((p1:List GElement).map Qac)
def Q6p (x3:(List GPort)):AV:=.dat 2 ((x3:List GPort).map Qat)
theorem Qiz (N:Nat) (p0:(List GRow)) (p1:(List GElement)) (p2:(List (Int×Int))) (r:(List GPort)) (h:Qfd N p0 p1 p2=some r):Spec Tryz.prog 89 [Zgh] [(.own 2 [[(Zgg p0),(Zgf p1)]]),(.own 1 [[(.mp 2)]]),(Qdd p2)] (.dat 2 ((r:List GPort).map Qat)) [.dead,.dead,.dead]:=by
  refine Qah Tryz.func89 rfl 3 (nle rfl) (fun X φ0 w0 hφ0 hd0=>?_)
  unfold Qfd at h
  refine Qbx<|wxz ?_
  obtain ⟨x3,hf2,h⟩:=bno h
  refine wx tbk [(1,⟨[fu 111,((.const (.slice none 0 0)),nilS),(.tmp 3,Zgh)],[(0,(.own 2 [[(Zgg p0),(Zgf p1)]])),(1,(.own 1 [[(.mp 2)]])),(2,(Qdd p2))],(Q6p x3),[(0,.dead),(1,.dead),(2,.dead)],false⟩)] ⟨Qas (first:=[]) (cap:=[]) (vs:=[nilS,Zgh]) (σr:=[(.own 2 [[(Zgg p0),(Zgf p1)]]),(.own 1 [[(.mp 2)]]),(Qdd p2)]) (σr':=[.dead,.dead,.dead]) (res':=(Q6p x3)) [0,1,2] rfl Zcz (Qgl N p0 p1 p2 _ hf2) rfl (Qbr (rnc (.plain _ nll) (rnc (Qbn rn0 (rnc (Qbj rfl) (rnc (Qbj rfl) rn0))) rn0))) (slc (Qaq (rnc (pld Qai) (rnc (pld Qaa) rn0))) (slc (Qaq (rnc (Zeg rfl) rn0)) (slc Qqq Qar))) (slc .dead (slc .dead (slc .dead Qar))) (pld Qa4) rfl rfl rfl,trivial⟩ ?_
  refine wmr (mto (n:=5) (l':=[(2,(Q6p x3))]) (own':=[.dead,.dead,.dead]) [(2,(Q6p x3))] [0,1,2] [.dead,.dead,.dead] hφ0 (pc (rnd Qa4) pn) (qc .dead (qc .dead (qc .dead qn))))<|Qaf ?_
  obtain rfl:=osi h
  exact ⟨_,Mor.rfl,Qdc (vs:=[(Q6p x3)]) ⟨rot,trivial⟩ rfl (NLt.of0 (nld Qa4 _)) (by kernel_rfl) (Qao .dead (Qao .dead (Qao .dead Qbt)))⟩
def Qpk (N:Nat) (p0:GNet):Option ((List GPort)×Int):=
  (Qge N p0).bind fun x2=>
  bif (!x2) then
   some ([],1)
  else
   (Qjg N p0).bind fun x5=>
   (Qfd N p0.Table p0.Elements x5).bind fun x7=>
   some (x7,0)
def Zjh (p0:GNet):AV:=.dat 7 ((p0.Elements:List GElement).map Qac)
def Zaq (p0:GNet):AV:=.agg [(.dat 5 ((p0.Table:List GRow).map Qaw)),(Zjh p0)]
def Zap:AV:=.fn (.func 110) [] [(.ref 1 2 (0) 0),(.ref 2 1 (0) 0)]
def Zar (p0:GNet):Slot:=.own 2 [[(.dat 5 ((p0.Table:List GRow).map Qaw)),(Zjh p0)]]
def Zgi (x7:(List GPort)):AV:=.dat 2 ((x7:List GPort).map Qat)
theorem Qvb (N:Nat) (p0:GNet) (r:((List GPort)×Int)) (h:Qpk N p0=some r):Spec Tryz.prog 47 [(.agg (Qhn p0))] [] (.tup [(.dat 2 (r.1.map Qat)),(I r.2)]) []:=by
  refine Qah Tryz.func47 rfl 0 (nle rfl) (fun X φ0 w0 hφ0 hd0=>?_)
  unfold Qpk at h
  refine wxz<|wsq ?_
  obtain ⟨x2,hf1,h⟩:=bno h
  refine wx tbk [(1,rp [fu 66,(.tmp 4,(Zaq p0))] (B x2))] ⟨apc (first:=[]) (cap:=[]) (vs:=[(Zaq p0)]) rfl Qvm (Qgs N p0 _ hf1) rfl rfl (nlc (NLt.agg _ (nlc (nld Qai _) (nlc (nld Qaa _) nl0))) nl0) nll rfl,trivial⟩ ?_
  refine bfe h (fun hc3 h=>?_) fun hc3 h=>?_
  ·refine wft hc3<|wxz<|Qaf<|Qae ?_
   obtain rfl:=osi h
   exact fend ⟨[(.dat 2 (([]:List GPort).map Qat)),I 1],⟨Qe7 (v:=nilS) (rot) Less.nil,rot,trivial⟩,rfl⟩ (NLt.tup _ (nlc (nld Qa4 _) (nlc nll nl0)))
  ·refine wfn hc3<|Qan<|thn ?_
   obtain ⟨x5,hf4,h⟩:=bno h
   obtain ⟨x7,hf6,h⟩:=bno h
   refine wx tbk [(1,⟨[fu 75,(.tmp 7,(Zaq p0))],[(1,.unused),(2,.unused),(3,.unused)],Zap,[(1,(Zar p0)),(2,(.own 1 [[(.mp 3)]])),(3,(Qdd x5))],false⟩),(2,⟨[fu 89,(.tmp 8,Zap)],[(1,(Zar p0)),(2,(.own 1 [[(.mp 3)]])),(3,(Qdd x5))],(Zgi x7),[(1,.dead),(2,.dead),(3,.dead)],false⟩)] ⟨Qas (first:=[]) (cap:=[]) (vs:=[(Zaq p0)]) (σr:=[]) (σr':=[(Zar p0),(.own 1 [[(.mp 3)]]),(Qdd x5)]) (res':=Zap) [1,2,3] rfl Zh8 (Qnt N p0 _ hf4) rfl (Qbr (rnc (.plain _ (NLt.agg _ (nlc (nld Qai _) (nlc (nld Qaa _) nl0)))) rn0)) Qar (slc (Qaq (rnc (pld Qai) (rnc (pld Qaa) rn0))) (slc (Qaq (rnc (Zeh rfl) rn0)) (slc Qqq Qar))) (Qbn rn0 (rnc (Qbo rfl) (rnc (Qbo rfl) rn0))) rfl rfl rfl,Qas (first:=[]) (cap:=[]) (vs:=[Zap]) (σr:=[(Zar p0),(.own 1 [[(.mp 3)]]),(Qdd x5)]) (σr':=[.dead,.dead,.dead]) (res':=(Zgi x7)) [1,2,3] rfl Zh7 (Qiz N p0.Table p0.Elements x5 _ hf6) rfl (Qbr (rnc (Qbn rn0 (rnc (Qbj rfl) (rnc (Qbj rfl) rn0))) rn0)) (slc (Qaq (rnc (pld Qai) (rnc (pld Qaa) rn0))) (slc (Qaq (rnc (Zeg rfl) rn0)) (slc Qqq Qar))) (slc .dead (slc .dead (slc .dead Qar))) (pld Qa4) rfl rfl rfl,trivial⟩<|Qaf ?_
   obtain rfl:=osi h
   exact fend ⟨[(Zgi x7),I 0],⟨rot,rot,trivial⟩,rfl⟩ (NLt.tup _ (nlc (nld Qa4 _) (nlc nll nl0)))
end Go.Proofs.YtmbhnllcfmiajaaGreat
