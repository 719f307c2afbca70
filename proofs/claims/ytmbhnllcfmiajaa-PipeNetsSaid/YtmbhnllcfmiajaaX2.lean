/-
  Functions of the program: what they compute, as plain functions, and that they do. No conditions.
-/
import Derived.Test.YtmbhnllcfmiajaaX1
namespace Go.Proofs.Ytmbhnllcfmiajaa
set_option maxRecDepth 100000
set_option maxHeartbeats 4000000
open Go.RowKit
def Qdb (N : Nat) (k11 : (List (Int × Int)) → Option (List (Int × Int))) (x12 : GElement) : Nat → Int → (List (Int × Int)) → Option (List (Int × Int))
  | 0, _, _ => none
  | n20 + 1, y16, y17 =>
    bif (decide (y16 < (x12.From.length : Int))) then
     (getI x12.From y16).bind fun x22 =>
     Qdb N k11 x12 n20 (w64 (y16 + 1)) (addQ y17 (x22.Element, x22.Outlet))
    else
     k11 (y17)
def Qdc (N : Nat) (p0 : GNet) (k3 : (List (Int × Int)) → Option (List (Int × Int))) : Nat → Int → (List (Int × Int)) → Option (List (Int × Int))
  | 0, _, _ => none
  | n8 + 1, y4, y5 =>
    bif (decide (y4 < (p0.Elements.length : Int))) then
     Qbz (fun y10 =>
       Qdc N p0 k3 n8 (w64 (y4 + 1)) y10) fun k11 : (List (Int × Int)) → Option (List (Int × Int)) =>
     (getI p0.Elements y4).bind fun x12 =>
     Qdb N k11 x12 N 0 y5
    else
     k3 (y5)
def Qgs (N : Nat) (p0 : GNet) : Option (List (Int × Int)) :=
  Qbz (fun y2 =>
    some y2) fun k3 : (List (Int × Int)) → Option (List (Int × Int)) =>
  Qdc N p0 k3 N 0 ([] : List (Int × Int))
def Qnm (p0 : GNet) : AV := .dat 7 ((p0.Elements : List GElement).map Qac)
def Quq : AV := .fn (.func 53) [] [(.ref 0 2 (0) 0), (.ref 1 1 (0) 0)]
def Qm3 (p0 : GNet) : Slot := .own 2 [[(.dat 5 ((p0.Table : List GRow).map Qa3)), (Qnm p0)]]
def Qsa (x12 : GElement) : AV := .dat 2 ((x12.From : List GPort).map Qam)
theorem Qnb (N : Nat) (p0 : GNet) (r : (List (Int × Int))) (h : Qgs N p0 = some r) : Spec Try.prog 30 [(.agg [(.dat 5 ((p0.Table : List GRow).map Qa3)), (Qnm p0)])] [] Quq [(Qm3 p0), (.own 1 [[(.mp 2)]]), (Qdi r)] := by
  refine Qak Try.func30 rfl 3 (nle rfl) (fun X φ0 w0 hφ0 hd0 => ?_)
  unfold Qgs at h
  refine Qbp ?_
  refine wx tbk [] trivial ?_
  refine wx tbk [(0, ⟨[], [(1, .unused)], (.mp 1), [(1, (Qdi ([] : List (Int × Int))))], false⟩)] ⟨Qpj rfl, trivial⟩ ?_
  obtain ⟨k3, hk_k3, h⟩ := jko h
  refine wjn (τ := (List (Int × Int))) (fun t => k3 t = some r) (fun y2 => ⟨mk 28 [(1, .ref 0 2 0 0), (3, .ref 1 1 0 0)], [(Qm3 p0), (.own 1 [[(.mp 2)]]), (Qdi y2)]⟩) (fun y2 h => ?_) ?_
  ·subst hk_k3
   refine wx tbk [(0, rp [(.tmp 1, .ref 0 2 0 0), (.tmp 3, .ref 1 1 0 0)] Quq)] ⟨Qfu (fs := []) (cs := [.ref 0 2 0 0, .ref 1 1 0 0]) rfl rfl rfl rfl, trivial⟩ ?_
   refine wmr (mto (n := 28) (l' := [(2, Quq)]) (own' := [(Qm3 p0), (.own 1 [[(.mp 2)]]), (Qdi y2)]) [(2, Quq)] [0, 1, 2] [(Qm3 p0), (.own 1 [[(.mp 2)]]), (Qdi y2)] hφ0 (pc (.rn (Qav rn0 (rnc (rqr rfl) (rnc (rqr rfl) rn0)))) pn) (qc (spb (lc (.rn (.plain _ (nld Qah _))) (lc (.rn (.plain _ (nld Qaa _))) ln))) (qc (spb (lc (.rn (Qh2 rfl)) ln)) (qc Qe6 qn)))) ?_
   refine Qad ?_
   obtain rfl := osi h
   exact ⟨_, Mor.rfl, Qcz (vs := [Quq]) ⟨rot (by kernel_rfl), trivial⟩ rfl (NLt.fn _ _ _ nl0 (nlc (NLt.ref _ _ _ _ (by decide)) (nlc (NLt.ref _ _ _ _ (by decide)) nl0))) (by kernel_rfl) (Qal (Qa4 (nlc (NLt.of0 (nld Qah _)) (nlc (NLt.of0 (nld Qaa _)) nl0))) (Qal (Qa4 (nlc (NLt.mp _ (by decide)) nl0)) (Qal Q6z Qbn)))⟩
  ·skip
   refine wx tbk [(2, rp [(.tmp 10, (Qnm p0))] (I ((p0.Elements.length : Int))))] ⟨alm (c := Qac) (l := p0.Elements) (aln rfl Try.underlying40 rfl), trivial⟩ ?_
   refine Qan ?_
   refine wmr (mto (n := 28) (l' := [(1, .ref 0 2 0 0), (3, .ref 1 1 0 0), (10, (Qnm p0)), (11, (I ((p0.Elements.length : Int)))), (12, I 0)]) (own' := [(Qm3 p0), (.own 1 [[(.mp 2)]]), (Qdi ([] : List (Int × Int)))]) [(1, .ref 0 2 0 0), (3, .ref 2 1 0 0), (10, (Qnm p0)), (11, (I ((p0.Elements.length : Int)))), (12, I 0)] [0, 2, 1] [(Qm3 p0), (.own 1 [[(.mp 1)]]), (Qdi ([] : List (Int × Int)))] hφ0 (pc (.rn (rqr rfl)) (pc (.rn (rqr rfl)) (pc (.rn (.plain _ (nld Qaa _))) (pc rwl (pc rwl pn))))) (qc (spb (lc (.rn (.plain _ (nld Qah _))) (lc (.rn (.plain _ (nld Qaa _))) ln))) (qc (spb (lc (.rn (Qh2 rfl)) ln)) (qc Qe6 qn)))) ?_
   refine Qby (τ := Int × (List (Int × Int))) (fun n t => Qdc N p0 k3 n t.1 t.2 = some r) (fun ⟨y4, y5⟩ => ⟨mk 28 [(1, .ref 0 2 0 0), (3, .ref 1 1 0 0), (10, (Qnm p0)), (11, (I ((p0.Elements.length : Int)))), (12, I y4)], [(Qm3 p0), (.own 1 [[(.mp 2)]]), (Qdi y5)]⟩) (fun t h => by rw [Qdc] at h; cases h) (fun n8 ih t h => ?_) N (0, ([] : List (Int × Int))) h
   obtain ⟨y4, y5⟩ := t
   rw [Qdc] at h
   skip
   refine wx tbk [] trivial ?_
   refine wsq ?_
   rcases bft ((decide (y4 < (p0.Elements.length : Int)))) with hc9 | hc9
   ·replace h := Qaw hc9 h
    refine wft hc9 (by kernel_rfl) ?_
    refine Qap ?_
    refine thn ?_
    obtain ⟨k11, hk_k11, h⟩ := jko h
    refine wjn (τ := (List (Int × Int))) (fun t => k11 t = some r) (fun y10 => ⟨mk 28 [(1, .ref 0 2 0 0), (3, .ref 1 1 0 0), (10, (Qnm p0)), (11, (I ((p0.Elements.length : Int)))), (12, I y4)], [(Qm3 p0), (.own 1 [[(.mp 2)]]), (Qdi y10)]⟩) (fun y10 h => ?_) ?_
    ·subst hk_k11
     refine wx1 tbk [] trivial ?_
     refine thn ?_
     exact arm (mto (n := 28) [(1, .ref 0 2 0 0), (3, .ref 1 1 0 0), (10, (Qnm p0)), (11, (I ((p0.Elements.length : Int)))), (12, (I (w64 (y4 + 1))))] [0, 1, 2] [(Qm3 p0), (.own 1 [[(.mp 2)]]), (Qdi y10)] hφ0 (pc (.rn (rqr rfl)) (pc (.rn (rqr rfl)) (pc (.rn (.plain _ (nld Qaa _))) (pc rwl (pc rwl pn))))) (qc (spb (lc (.rn (.plain _ (nld Qah _))) (lc (.rn (.plain _ (nld Qaa _))) ln))) (qc (spb (lc (.rn (Qh2 rfl)) ln)) (qc Qe6 qn)))) (ih (w64 (y4 + 1), y10) h)
    ·skip
     refine Qan ?_
     obtain ⟨x12, hg13, h⟩ := bno h
     obtain ⟨hi14, hj15⟩ := gsm hg13
     refine wx tbk [(0, rp [(.tmp 10, (Qnm p0)), (.tmp 12, I y4)] (.dptr (Qac (x12)) 0))] ⟨aid rfl Try.underlying40 ti76 rfl rfl hi14 (mgt Qac hj15) rfl, trivial⟩ ?_
     refine wx tbk [(2, rp [(.tmp 17, (Qsa x12))] (I ((x12.From.length : Int))))] ⟨alm (c := Qam) (l := x12.From) (aln rfl Try.underlying53 rfl), trivial⟩ ?_
     refine Qan ?_
     refine wmr (mto (n := 28) (l' := [(1, .ref 0 2 0 0), (3, .ref 1 1 0 0), (10, (Qnm p0)), (11, (I ((p0.Elements.length : Int)))), (12, I y4), (17, (Qsa x12)), (18, (I ((x12.From.length : Int)))), (19, I 0)]) (own' := [(Qm3 p0), (.own 1 [[(.mp 2)]]), (Qdi y5)]) [(1, .ref 0 2 0 0), (3, .ref 1 1 0 0), (10, (Qnm p0)), (11, (I ((p0.Elements.length : Int)))), (12, I y4), (17, (Qsa x12)), (18, (I ((x12.From.length : Int)))), (19, I 0)] [0, 1, 2] [(Qm3 p0), (.own 1 [[(.mp 2)]]), (Qdi y5)] hφ0 (pc (.rn (rqr rfl)) (pc (.rn (rqr rfl)) (pc (.rn (.plain _ (nld Qaa _))) (pc rwl (pc rwl (pc (.rn (.plain _ (nld Qau _))) (pc rwl (pc rwl pn)))))))) (qc (spb (lc (.rn (.plain _ (nld Qah _))) (lc (.rn (.plain _ (nld Qaa _))) ln))) (qc (spb (lc (.rn (Qh2 rfl)) ln)) (qc Qe6 qn)))) ?_
     refine Qby (τ := Int × (List (Int × Int))) (fun n t => Qdb N k11 x12 n t.1 t.2 = some r) (fun ⟨y16, y17⟩ => ⟨mk 28 [(1, .ref 0 2 0 0), (3, .ref 1 1 0 0), (10, (Qnm p0)), (11, (I ((p0.Elements.length : Int)))), (12, I y4), (17, (Qsa x12)), (18, (I ((x12.From.length : Int)))), (19, I y16)], [(Qm3 p0), (.own 1 [[(.mp 2)]]), (Qdi y17)]⟩) (fun t h => by rw [Qdb] at h; cases h) (fun n20 ih t h => ?_) N (0, y5) h
     obtain ⟨y16, y17⟩ := t
     rw [Qdb] at h
     skip
     refine wx tbk [] trivial ?_
     refine wsq ?_
     rcases bft ((decide (y16 < (x12.From.length : Int)))) with hc21 | hc21
     ·replace h := Qaw hc21 h
      refine wft hc21 (by kernel_rfl) ?_
      refine Qap ?_
      refine thn ?_
      refine wsq ?_
      refine Qan ?_
      obtain ⟨x22, hg23, h⟩ := bno h
      obtain ⟨hi24, hj25⟩ := gsm hg23
      refine wx tbk [(0, rp [(.tmp 17, (Qsa x12)), (.tmp 19, I y16)] (.dptr (Qam (x22)) 0))] ⟨aid rfl Try.underlying53 ti57 rfl rfl hi24 (mgt Qam hj25) rfl, trivial⟩ ?_
      refine wx1 tbk [(2, ⟨[(.tmp 23, (.mp 2)), (.tmp 24, (.agg [I x22.Element, I x22.Outlet])), cb true], [(2, (Qdi y17))], .any, [(2, (Qdi (addQ y17 (x22.Element, x22.Outlet))))], false⟩)] ⟨Qrj rfl Try.underlying122 Try.underlying57 Qxi Qne, trivial⟩ ?_
      refine bln ?_
      refine thn ?_
      refine wx1 tbk [] trivial ?_
      refine thn ?_
      exact arm (mto (n := 28) [(1, .ref 0 2 0 0), (3, .ref 1 1 0 0), (10, (Qnm p0)), (11, (I ((p0.Elements.length : Int)))), (12, I y4), (17, (Qsa x12)), (18, (I ((x12.From.length : Int)))), (19, (I (w64 (y16 + 1))))] [0, 1, 2] [(Qm3 p0), (.own 1 [[(.mp 2)]]), (Qdi (addQ y17 (x22.Element, x22.Outlet)))] hφ0 (pc (.rn (rqr rfl)) (pc (.rn (rqr rfl)) (pc (.rn (.plain _ (nld Qaa _))) (pc rwl (pc rwl (pc (.rn (.plain _ (nld Qau _))) (pc rwl (pc rwl pn)))))))) (qc (spb (lc (.rn (.plain _ (nld Qah _))) (lc (.rn (.plain _ (nld Qaa _))) ln))) (qc (spb (lc (.rn (Qh2 rfl)) ln)) (qc Qe6 qn)))) (ih (w64 (y16 + 1), addQ y17 (x22.Element, x22.Outlet)) h)
     ·replace h := Qax hc21 h
      refine wfn hc21 (by kernel_rfl) ?_
      refine Qbi ?_
      refine Qay ?_
      refine Qay ?_
      refine Qbh rfl ?_
      refine bln ?_
      refine thn ?_
      exact ⟨(y17), h, (mto (n := 28) [(1, .ref 0 2 0 0), (3, .ref 1 1 0 0), (10, (Qnm p0)), (11, (I ((p0.Elements.length : Int)))), (12, I y4)] [0, 1, 2] [(Qm3 p0), (.own 1 [[(.mp 2)]]), (Qdi y17)] hφ0 (pc (.rn (rqr rfl)) (pc (.rn (rqr rfl)) (pc (.rn (.plain _ (nld Qaa _))) (pc rwl (pc rwl pn))))) (qc (spb (lc (.rn (.plain _ (nld Qah _))) (lc (.rn (.plain _ (nld Qaa _))) ln))) (qc (spb (lc (.rn (Qh2 rfl)) ln)) (qc Qe6 qn))))⟩
   ·replace h := Qax hc9 h
    refine wfn hc9 (by kernel_rfl) ?_
    refine Qbi ?_
    refine Qay ?_
    refine Qay ?_
    refine Qbh rfl ?_
    refine thn ?_
    exact ⟨(y5), h, (mto (n := 28) [(1, .ref 0 2 0 0), (3, .ref 1 1 0 0)] [0, 1, 2] [(Qm3 p0), (.own 1 [[(.mp 2)]]), (Qdi y5)] hφ0 (pc (.rn (rqr rfl)) (pc (.rn (rqr rfl)) pn)) (qc (spb (lc (.rn (.plain _ (nld Qah _))) (lc (.rn (.plain _ (nld Qaa _))) ln))) (qc (spb (lc (.rn (Qh2 rfl)) ln)) (qc Qe6 qn))))⟩
def Qcs (N : Nat) (y1 : Int) (p2 : (List (Int × Int))) (k8 : Unit → Option (List GPort)) (x14 : Int) : Nat → Int → Option (List GPort)
  | 0, _ => none
  | n19 + 1, y15 =>
    bif (decide (y15 < x14)) then
     bif (!(p2.contains (y1, y15))) then
      yld (⟨y1, y15⟩ : GPort) <|
      Qcs N y1 p2 k8 x14 n19 (w64 (y15 + 1))
     else
      Qcs N y1 p2 k8 x14 n19 (w64 (y15 + 1))
    else
     k8 ()
def Qce (N : Nat) (p1 : (List GElement)) (p2 : (List (Int × Int))) : Nat → Int → Option (List GPort)
  | 0, _ => none
  | n5 + 1, y1 =>
    bif (decide (y1 < (p1.length : Int))) then
     Qbz (fun _ =>
       Qce N p1 p2 n5 (w64 (y1 + 1))) fun k8 : Unit → Option (List GPort) =>
     (getI p1 y1).bind fun x9 =>
     (Qdw N x9).bind fun x14 =>
     Qcs N y1 p2 k8 x14 N 0
    else
     some ([])
def Qhh (N : Nat) (_p0 : (List GRow)) (p1 : (List GElement)) (p2 : (List (Int × Int))) : Option (List GPort) :=
  Qce N p1 p2 N 0
def Qnl (p1 : (List GElement)) : AV := .dat 7 ((p1 : List GElement).map Qac)
def Qpq (p0 : (List GRow)) (p1 : (List GElement)) : Slot := .own 2 [[(.dat 5 ((p0 : List GRow).map Qa3)), (Qnl p1)]]
def Q8l (x9 : GElement) : AV := .agg [(K .u8 (x9.Kind)), (.dat 2 ((x9.From : List GPort).map Qam)), (I (x9.Level)), (I (x9.Amount)), (I (x9.Wide)), (I (x9.Narrow)), (.dat 1 ((x9.Weights : List Int).map Qaj))]
def Qmv (y1 : Int) (y15 : Int) : AV := .agg [(I (y1)), (I (y15))]
theorem Qna (N : Nat) (p0 : (List GRow)) (p1 : (List GElement)) (p2 : (List (Int × Int))) (r : (List GPort)) (h : Qhh N p0 p1 p2 = some r) : Qrr Try.prog 53 [(.ref 0 2 (0) 0), (.ref 1 1 (0) 0)] [(Qpq p0 p1), (.own 1 [[(.mp 2)]]), (Qdi p2)] (fun x => [(.agg #[(.int .i64 (x.Element)), (.int .i64 (x.Outlet))])]) r := by
  refine Qsh Try.func53 rfl rfl (fun X φ0 w0 l J hφ0 hy => ?_)
  unfold Qhh at h
  refine wx tbk [(2, rp [(.tmp 9, (Qnl p1))] (I ((p1.length : Int))))] ⟨alm (c := Qac) (l := p1) (aln rfl Try.underlying40 rfl), trivial⟩ ?_
  refine Qan ?_
  refine wmr (mto (n := 36) (l' := [(0, (.lit (.func (.yield l) #[] #[]))), (2, .ref 1 1 0 0), (9, (Qnl p1)), (10, (I ((p1.length : Int)))), (11, I 0)]) (own' := [(Qpq p0 p1), (.own 1 [[(.mp 2)]]), (Qdi p2), (.far (J (some (r))))]) [(0, (.lit (.func (.yield l) #[] #[]))), (2, .ref 1 1 0 0), (9, (Qnl p1)), (10, (I ((p1.length : Int)))), (11, I 0)] [0, 1, 2, 3] [(Qpq p0 p1), (.own 1 [[(.mp 2)]]), (Qdi p2), (.far (J (some (r))))] hφ0 (pc rwl (pc (.rn (rqr rfl)) (pc (.rn (.plain _ (nld Qaa _))) (pc rwl (pc rwl pn))))) (qc (spb (lc (.rn (.plain _ (nld Qah _))) (lc (.rn (.plain _ (nld Qaa _))) ln))) (qc (spb (lc (.rn (Qh2 rfl)) ln)) (qc Qe6 (qc (.far _) qn))))) ?_
  refine Qby (τ := (Int) × List GPort) (fun n t => Qce N p1 p2 n t.1 = some t.2) (fun ⟨y1, q2⟩ => ⟨mk 36 [(0, (.lit (.func (.yield l) #[] #[]))), (2, .ref 1 1 0 0), (9, (Qnl p1)), (10, (I ((p1.length : Int)))), (11, I y1)], [(Qpq p0 p1), (.own 1 [[(.mp 2)]]), (Qdi p2), (.far (J (some (q2))))]⟩) (fun t h => by rw [Qce] at h; cases h) (fun n5 ih t h => ?_) N ((0), r) h
  obtain ⟨y1, q2⟩ := t
  rw [Qce] at h
  try dsimp only at h
  refine wx tbk [] trivial ?_
  refine wsq ?_
  rcases bft ((decide (y1 < (p1.length : Int)))) with hc6 | hc6
  ·replace h := Qaw hc6 h
   refine wft hc6 (by kernel_rfl) ?_
   refine Qap ?_
   refine thn ?_
   obtain ⟨k8, hk_k8, h⟩ := jko h
   refine wjn (τ := (Unit) × List GPort) (fun t => k8 t.1 = some t.2) (fun ⟨_, q7⟩ => ⟨mk 36 [(0, (.lit (.func (.yield l) #[] #[]))), (2, .ref 1 1 0 0), (9, (Qnl p1)), (10, (I ((p1.length : Int)))), (11, I y1)], [(Qpq p0 p1), (.own 1 [[(.mp 2)]]), (Qdi p2), (.far (J (some (q7))))]⟩) (fun t h => ?_) ?_
   ·subst hk_k8
    obtain ⟨_, q7⟩ := t
    refine wx1 tbk [] trivial ?_
    refine thn ?_
    exact arm (mto (n := 36) [(0, (.lit (.func (.yield l) #[] #[]))), (2, .ref 1 1 0 0), (9, (Qnl p1)), (10, (I ((p1.length : Int)))), (11, (I (w64 (y1 + 1))))] [0, 1, 2, 3] [(Qpq p0 p1), (.own 1 [[(.mp 2)]]), (Qdi p2), (.far (J (some (q7))))] hφ0 (pc rwl (pc (.rn (rqr rfl)) (pc (.rn (.plain _ (nld Qaa _))) (pc rwl (pc rwl pn))))) (qc (spb (lc (.rn (.plain _ (nld Qah _))) (lc (.rn (.plain _ (nld Qaa _))) ln))) (qc (spb (lc (.rn (Qh2 rfl)) ln)) (qc Qe6 (qc (.far _) qn))))) (ih ((w64 (y1 + 1)), q7) h)
   ·skip
    refine Qan ?_
    obtain ⟨x9, hg10, h⟩ := bno h
    obtain ⟨hi11, hj12⟩ := gsm hg10
    refine wx tbk [(1, rp [(.tmp 9, (Qnl p1)), (.tmp 11, I y1)] (.dptr (Qac (x9)) 0))] ⟨aid rfl Try.underlying40 ti76 rfl rfl hi11 (mgt Qac hj12) rfl, trivial⟩ ?_
    obtain ⟨x14, hf13, h⟩ := bno h
    refine wx tbk [(1, rp [fu 54, (.tmp 16, (Q8l x9))] (I x14))] ⟨apc (first := []) (cap := []) (vs := [(Q8l x9)]) rfl Qtv (Qew N x9 _ hf13) rfl rfl (nlc (NLt.agg _ (nlc nll (nlc (nld Qau _) (nlc nll (nlc nll (nlc nll (nlc nll (nlc (nld Qab _) nl0)))))))) nl0) nll rfl, trivial⟩ ?_
    refine Qan ?_
    refine wmr (mto (n := 36) (l' := [(0, (.lit (.func (.yield l) #[] #[]))), (2, .ref 1 1 0 0), (4, I y1), (9, (Qnl p1)), (10, (I ((p1.length : Int)))), (11, I y1), (17, I x14), (18, I 0)]) (own' := [(Qpq p0 p1), (.own 1 [[(.mp 2)]]), (Qdi p2), (.far (J (some (q2))))]) [(0, (.lit (.func (.yield l) #[] #[]))), (2, .ref 1 1 0 0), (4, I y1), (9, (Qnl p1)), (10, (I ((p1.length : Int)))), (11, I y1), (17, I x14), (18, I 0)] [0, 1, 2, 3] [(Qpq p0 p1), (.own 1 [[(.mp 2)]]), (Qdi p2), (.far (J (some (q2))))] hφ0 (pc rwl (pc (.rn (rqr rfl)) (pc rwl (pc (.rn (.plain _ (nld Qaa _))) (pc rwl (pc rwl (pc rwl (pc rwl pn)))))))) (qc (spb (lc (.rn (.plain _ (nld Qah _))) (lc (.rn (.plain _ (nld Qaa _))) ln))) (qc (spb (lc (.rn (Qh2 rfl)) ln)) (qc Qe6 (qc (.far _) qn))))) ?_
    refine Qby (τ := (Int) × List GPort) (fun n t => Qcs N y1 p2 k8 x14 n t.1 = some t.2) (fun ⟨y15, q16⟩ => ⟨mk 36 [(0, (.lit (.func (.yield l) #[] #[]))), (2, .ref 1 1 0 0), (4, I y1), (9, (Qnl p1)), (10, (I ((p1.length : Int)))), (11, I y1), (17, I x14), (18, I y15)], [(Qpq p0 p1), (.own 1 [[(.mp 2)]]), (Qdi p2), (.far (J (some (q16))))]⟩) (fun t h => by rw [Qcs] at h; cases h) (fun n19 ih t h => ?_) N ((0), q2) h
    obtain ⟨y15, q16⟩ := t
    rw [Qcs] at h
    try dsimp only at h
    refine wx tbk [] trivial ?_
    refine wsq ?_
    rcases bft ((decide (y15 < x14))) with hc20 | hc20
    ·replace h := Qaw hc20 h
     refine wft hc20 (by kernel_rfl) ?_
     refine Qap ?_
     refine thn ?_
     refine wsq ?_
     refine Qan ?_
     refine wx tbk [] trivial ?_
     refine wx tbk [(2, rp [(.tmp 21, I y1), (.tmp 22, I y15)] (Qmv y1 y15))] ⟨Qa2 (vs := [I y1, I y15]) rfl ts57 tz57 rfl (by rfl) rfl, trivial⟩ ?_
     rcases bft ((!(p2.contains (y1, y15)))) with hb21 | hb21
     ·replace h := Qaw hb21 h
      obtain ⟨q22, hy_, hq_⟩ := Qwp h
      clear h
      subst hq_
      have h := hy_
      clear hy_
      refine Q7r 7 [rb [(.tmp 2, .ref 1 1 0 0)] [(1, (.own 1 [[(.mp 2)]]))] (.mp 2), rb [(.tmp 7, .ref 4 2 0 0)] [(4, .own 2 [[I y1, I y15]])] (Qmv y1 y15), rb [(.tmp 24, (.mp 2)), (.tmp 25, (Qmv y1 y15))] [(2, (Qdi p2))] (B (p2.contains (y1, y15))), rp [(.tmp 26, (B (p2.contains (y1, y15))))] (B ((!(p2.contains (y1, y15))))), rp [(.tmp 27, (B ((!(p2.contains (y1, y15))))))] (B true), rp [(.tmp 28, B true), (.tmp 0, (.lit (.func (.yield l) #[] #[])))] (.lit (.func (.yield l) #[] #[])), rb [(.tmp 28, B true), (.tmp 7, .ref 4 2 0 0)] [(4, .own 2 [[I y1, I y15]])] (Qmv y1 y15), ⟨[(.tmp 28, B true), (.tmp 29, (.lit (.func (.yield l) #[] #[]))), (.tmp 30, (Qmv y1 y15))], [(3, (.far (J (some ((⟨y1, y15⟩ : GPort) :: q22)))))], B true, [(3, (.far (J (some (q22)))))], false⟩, rp [(.tmp 28, B true), (.tmp 31, B true)] (B false), rp [(.tmp 28, B true), (.tmp 32, B false), cb false] (B false)] [rb [(.tmp 2, .ref 1 1 0 0)] [(1, (.own 1 [[(.mp 2)]]))] (.mp 2), rb [(.tmp 7, .ref 4 2 0 0)] [(4, .own 2 [[I y1, I y15]])] (Qmv y1 y15), rb [(.tmp 24, (.mp 2)), (.tmp 25, (Qmv y1 y15))] [(2, (Qdi p2))] (B (p2.contains (y1, y15))), rp [(.tmp 26, (B (p2.contains (y1, y15))))] (B ((!(p2.contains (y1, y15))))), rp [(.tmp 27, (B ((!(p2.contains (y1, y15))))))] (B true), rp [(.tmp 28, B true), (.tmp 0, (.lit (.func (.yield l) #[] #[])))] (.lit (.func (.yield l) #[] #[])), rb [(.tmp 28, B true), (.tmp 7, .ref 4 2 0 0)] [(4, .own 2 [[I y1, I y15]])] (Qmv y1 y15), ⟨[(.tmp 28, B true), (.tmp 29, (.lit (.func (.yield l) #[] #[]))), (.tmp 30, (Qmv y1 y15))], [(3, (.far (J (some ((⟨y1, y15⟩ : GPort) :: q22)))))], B false, [(3, (.far (J none)))], false⟩, rp [(.tmp 28, B true), (.tmp 31, B false)] (B true), rp [(.tmp 28, B true), (.tmp 32, B true), cb false] (B true)] (by exact ⟨by kernel_rfl, by kernel_rfl⟩) (by exact ⟨by kernel_rfl, by kernel_rfl⟩) rfl rfl rfl rfl (Qvz (Qnf (rd' := (.tmp 29, .lit (.func (.yield l) #[] #[])) :: [(.tmp 30, .lit (.agg #[(.int .i64 ((⟨y1, y15⟩ : GPort).Element)), (.int .i64 ((⟨y1, y15⟩ : GPort).Outlet))]))]) ⟨rfl, lrf, rfl, (Less.lits [(.int .i64 (y1)), (.int .i64 (y15))]), trivial⟩ (Ql7 (x := (⟨y1, y15⟩ : GPort)) (rest := q22) rfl rfl hy rfl))) (⟨fun _ _ => ald rfl Za5 (by decide) rfl (nle rfl) rfl, fun _ _ => ald rfl ti57 (by decide) rfl (nle rfl) rfl, fun _ _ => Qj6 rfl Try.underlying122 Try.underlying57 zb4 Qxi Qne, fun _ _ => Qj5 rfl, fun _ _ => asb hb21 (amv rfl), fun _ _ => ag_ (amv rfl), fun _ _ => ag_ (ald rfl ti57 (by decide) rfl (nle rfl) rfl), fun _ h => absurd rfl h, fun _ _ => ag_ (Qj5 rfl), fun _ _ => apk rfl rfl, trivial⟩) (⟨fun _ _ => ald rfl Za5 (by decide) rfl (nle rfl) rfl, fun _ _ => ald rfl ti57 (by decide) rfl (nle rfl) rfl, fun _ _ => Qj6 rfl Try.underlying122 Try.underlying57 zb4 Qxi Qne, fun _ _ => Qj5 rfl, fun _ _ => asb hb21 (amv rfl), fun _ _ => ag_ (amv rfl), fun _ _ => ag_ (ald rfl ti57 (by decide) rfl (nle rfl) rfl), fun _ h => absurd rfl h, fun _ _ => ag_ (Qj5 rfl), fun _ _ => apk rfl rfl, trivial⟩) ?_ ?_
      ·skip
       refine Qgt (by kernel_rfl) ?_
       refine Qap ?_
       refine bln ?_
       refine thn ?_
       refine wx1 tbk [] trivial ?_
       refine thn ?_
       exact arm (mto (n := 36) [(0, (.lit (.func (.yield l) #[] #[]))), (2, .ref 1 1 0 0), (4, I y1), (9, (Qnl p1)), (10, (I ((p1.length : Int)))), (11, I y1), (17, I x14), (18, (I (w64 (y15 + 1))))] [0, 1, 2, 3] [(Qpq p0 p1), (.own 1 [[(.mp 2)]]), (Qdi p2), (.far (J (some (q22))))] hφ0 (pc rwl (pc (.rn (rqr rfl)) (pc rwl (pc (.rn (.plain _ (nld Qaa _))) (pc rwl (pc rwl (pc rwl (pc rwl pn)))))))) (qc (spb (lc (.rn (.plain _ (nld Qah _))) (lc (.rn (.plain _ (nld Qaa _))) ln))) (qc (spb (lc (.rn (Qh2 rfl)) ln)) (qc Qe6 (qc (.far _) qn))))) (ih ((w64 (y15 + 1)), q22) h)
      ·clear h
       refine Qbk (by kernel_rfl) ?_
       refine Qad ?_
       refine Qas ?_
       refine Qaf ?_
       refine Qaf ?_
       refine Qas ?_
       refine Qas ?_
       refine Qaf ?_
       refine Qaf ?_
       refine Qas ?_
       exact Or.inr (by kernel_rfl)
     ·replace h := Qax hb21 h
      refine wx tbk [(2, rb [(.tmp 24, (.mp 2)), (.tmp 25, (Qmv y1 y15))] [(2, (Qdi p2))] (B (p2.contains (y1, y15)))), (4, rp [(.tmp 27, (B ((!(p2.contains (y1, y15))))))] (B false))] ⟨Qj6 rfl Try.underlying122 Try.underlying57 zb4 Qxi Qne, asb hb21 (amv rfl), trivial⟩ ?_
      refine Qgt (by kernel_rfl) ?_
      refine Qap ?_
      refine bln ?_
      refine thn ?_
      refine wx1 tbk [] trivial ?_
      refine thn ?_
      exact arm (mto (n := 36) [(0, (.lit (.func (.yield l) #[] #[]))), (2, .ref 1 1 0 0), (4, I y1), (9, (Qnl p1)), (10, (I ((p1.length : Int)))), (11, I y1), (17, I x14), (18, (I (w64 (y15 + 1))))] [0, 1, 2, 3] [(Qpq p0 p1), (.own 1 [[(.mp 2)]]), (Qdi p2), (.far (J (some (q16))))] hφ0 (pc rwl (pc (.rn (rqr rfl)) (pc rwl (pc (.rn (.plain _ (nld Qaa _))) (pc rwl (pc rwl (pc rwl (pc rwl pn)))))))) (qc (spb (lc (.rn (.plain _ (nld Qah _))) (lc (.rn (.plain _ (nld Qaa _))) ln))) (qc (spb (lc (.rn (Qh2 rfl)) ln)) (qc Qe6 (qc (.far _) qn))))) (ih ((w64 (y15 + 1)), q16) h)
    ·replace h := Qax hc20 h
     refine wfn hc20 (by kernel_rfl) ?_
     refine Qbi ?_
     refine Qay ?_
     refine Qay ?_
     refine Qbh rfl ?_
     refine bln ?_
     refine thn ?_
     exact ⟨((), q16), h, (mto (n := 36) [(0, (.lit (.func (.yield l) #[] #[]))), (2, .ref 1 1 0 0), (9, (Qnl p1)), (10, (I ((p1.length : Int)))), (11, I y1)] [0, 1, 2, 3] [(Qpq p0 p1), (.own 1 [[(.mp 2)]]), (Qdi p2), (.far (J (some (q16))))] hφ0 (pc rwl (pc (.rn (rqr rfl)) (pc (.rn (.plain _ (nld Qaa _))) (pc rwl (pc rwl pn))))) (qc (spb (lc (.rn (.plain _ (nld Qah _))) (lc (.rn (.plain _ (nld Qaa _))) ln))) (qc (spb (lc (.rn (Qh2 rfl)) ln)) (qc Qe6 (qc (.far _) qn)))))⟩
  ·replace h := Qax hc6 h
   refine wfn hc6 (by kernel_rfl) ?_
   refine Qbi ?_
   refine Qay ?_
   refine Qay ?_
   refine Qbh rfl ?_
   obtain rfl := osi h
   exact Or.inl rfl
def Qa5 (N : Nat) (k3 : (List GPort) → Option (List GPort)) : (List GPort) → (List GPort) → Option (List GPort)
  | [], y6 =>
    k3 (y6)
  | x9 :: q10, y6 =>
    chk (decide ((y6.length + ([x9]).length) * 16 ≤ 140737488355328)) <|
    Qa5 N k3 q10 (y6 ++ ([x9]))
def Qco (N : Nat) (p0 : (List GRow)) (p1 : (List GElement)) (p2 : (List (Int × Int))) : Option (List GPort) :=
  Qbz (fun y2 =>
    some y2) fun k3 : (List GPort) → Option (List GPort) =>
  (Qhh N p0 p1 p2).bind fun q4 =>
  Qa5 N k3 q4 ([])
def Zap : AV := .fn (.func 53) [] [(.ref 0 2 (0) 0), (.ref 1 1 (0) 0)]
def Q6n (p0 : (List GRow)) : AV := .dat 5 ((p0 : List GRow).map Qa3)
def Q6m (p1 : (List GElement)) : AV := .dat 7 ((p1 : List GElement).map Qac)
def Q2y (y6 : (List GPort)) : AV := .acc 4 57 2 ((y6 : List GPort).map Qam)
theorem Qgr (N : Nat) (p0 : (List GRow)) (p1 : (List GElement)) (p2 : (List (Int × Int))) (r : (List GPort)) (h : Qco N p0 p1 p2 = some r) : Spec Try.prog 59 [nilS, Zap] [(.own 2 [[(Q6n p0), (Q6m p1)]]), (.own 1 [[(.mp 2)]]), (Qdi p2)] (.dat 2 ((r : List GPort).map Qam)) [.dead, .dead, .dead] := by
  refine Qak Try.func59 rfl 3 (nle rfl) (fun X φ0 w0 hφ0 hd0 => ?_)
  unfold Qco at h
  refine Qbp ?_
  refine wx tbk [] trivial ?_
  obtain ⟨k3, hk_k3, h⟩ := jko h
  refine wjn (τ := (List GPort)) (fun t => k3 t = some r) (fun y2 => ⟨mk 13 [(2, .ref 3 1 0 0)], [.dead, .dead, .dead, (.own 1 [[(.acc 4 57 2 ((y2 : List GPort).map Qam))]]), .tok]⟩) (fun y2 h => ?_) ?_
  ·subst hk_k3
   refine wx tbk [] trivial ?_
   refine wmr (mto (n := 13) (l' := [(4, (.dat 2 ((y2 : List GPort).map Qam)))]) (own' := [.dead, .dead, .dead]) [(4, (.acc 4 57 2 ((y2 : List GPort).map Qam)))] [0, 1, 2] [.dead, .dead, .dead] hφ0 (pc (.dat _ _ _ _ (Qbo Qau _)) pn) (qc .dead (qc .dead (qc .dead qn)))) ?_
   refine Qad ?_
   obtain rfl := osi h
   exact ⟨_, Mor.rfl, Qcz (vs := [(.dat 2 ((y2 : List GPort).map Qam))]) ⟨rot (by kernel_rfl), trivial⟩ rfl (NLt.of0 (nld Qau _)) (by kernel_rfl) (Qal .dead (Qal .dead (Qal .dead Qbn)))⟩
  ·skip
   refine wx tbk [] trivial ?_
   refine Qan ?_
   obtain ⟨q4, hL5, h⟩ := bno h
   refine wmr (mto (n := 13) (l' := [(2, .ref 3 1 0 0), (6, Zap)]) (own' := [(.own 2 [[(Q6n p0), (Q6m p1)]]), (.own 1 [[(.mp 2)]]), (Qdi p2), (.own 1 [[nilS]])]) [(2, .ref 3 1 0 0), (6, Zap)] [0, 1, 2, 3] [(.own 2 [[(Q6n p0), (Q6m p1)]]), (.own 1 [[(.mp 2)]]), (Qdi p2), (.own 1 [[nilS]])] hφ0 (pc (.rn (rqr rfl)) (pc (.rn (Qav rn0 (rnc (rqr rfl) (rnc (rqr rfl) rn0)))) pn)) (qc (spb (lc (.rn (.plain _ (nld Qah _))) (lc (.rn (.plain _ (nld Qaa _))) ln))) (qc (spb (lc (.rn (Qh2 rfl)) ln)) (qc Qe6 (qc (spb (lc rwl ln)) qn))))) ?_
   refine wmr (Qp1 (n := 4) (ty := 57) (m := 2) (q := 3) (mq := 1) (c := [nilS]) 0 (by kernel_rfl) (by kernel_rfl) (by kernel_rfl) (by decide)) ?_
   refine Qss (τ := ((List GPort))) (kb := 4) (caps := [.ref 0 2 0 0, .ref 1 1 0 0]) (σr := [(.own 2 [[(Q6n p0), (Q6m p1)]]), (.own 1 [[(.mp 2)]]), (Qdi p2)]) (encs := fun x => [(.agg #[(.int .i64 (x.Element)), (.int .i64 (x.Outlet))])]) (fun x => [(.agg [I x.Element, I x.Outlet])]) [0, 1, 2] (fun n hn => hφ0 n (Nat.le_trans (nle rfl) hn)) hd0 (Qna N p0 p1 p2 _ hL5) Zcq (by kernel_rfl) (by kernel_rfl) (Qbm (rnc (Qbb rfl) (rnc (Qbb rfl) rn0))) (slc (Qag (rnc (.plain _ (nld Qah _)) (rnc (.plain _ (nld Qaa _)) rn0))) (slc (Qag (rnc (Q8v rfl) rn0)) (slc Qpy Qaq))) (by kernel_rfl) (fun _ => rfl) (fun x => ⟨(Less.unlits [(.int .i64 (x.Element)), (.int .i64 (x.Outlet))]), trivial⟩) (Q80 (Qp0 (NLt.ref _ _ _ _ (by decide)) (Qp0 (NLt.fn _ _ _ nl0 (nlc (NLt.ref _ _ _ _ (by decide)) (nlc (NLt.ref _ _ _ _ (by decide)) nl0))) Q3y))) (fun y6 => [.dead, .dead, .dead, (.own 1 [[(Q2y y6)]]), .tok]) (fun _ => rfl) (fun _ => rfl) (fun l t => Qa5 N k3 l t = some r) ([]) h (by kernel_rfl) ?_ ?_
   ·intro l11 o12 X15 φ16 w17 hφ14 x9 q10 y6 h
    rw [Qa5] at h
    refine wx1 tbk [] trivial ?_
    refine ⟨by kernel_rfl, fun o13 => ?_⟩
    refine Qan ?_
    obtain ⟨ha18, h⟩ := cko h
    refine wx1 tbk [(2, rp [(.tmp 9, (.agg [I x9.Element, I x9.Outlet]))] (.dat 2 (([x9] : List GPort).map Qam))), (3, ⟨[(.tmp 8, (Q2y y6)), (.tmp 10, (.dat 2 (([x9] : List GPort).map Qam)))], [(4, .tok), (7, .unused)], (.acc 7 57 2 ((y6 ++ ([x9]) : List GPort).map Qam)), [(4, .dead), (7, .tok)], false⟩)] ⟨Qb1 (vs := [(.agg [I x9.Element, I x9.Outlet])]) rfl Try.underlying53 ti57 tz57 rfl (by decide) rfl (by decide) (by rfl) (by rfl) (by rfl) rfl, Qgk rfl Try.underlying53 te57 (Base.acc _ _) rfl rfl (by rfl) (Qij Qam ha18) (Qii Qam ha18 (by decide)) (Qih Qam) rfl rfl, trivial⟩ ?_
    refine bln ?_
    exact ⟨(y6 ++ ([x9])), h, Q8w (own' := [.dead, .dead, .dead, (.own 1 [[(.acc 4 57 2 (((y6 ++ ([x9])) : List GPort).map Qam))]]), .tok, (.far (farL l11 o13))]) [0, 1, 2, 3, 7, 5] [.dead, .dead, .dead, (.own 1 [[(.acc 7 57 2 ((y6 ++ ([x9]) : List GPort).map Qam))]]), .tok, (.far (farL l11 o13))] (by kernel_rfl) (by kernel_rfl) ⟨.dead, .dead, .dead, (spb (lc (.rn (Qbx rfl (Qbo Qau _))) ln)), .tok, .far _, trivial⟩⟩
   ·intro y6 h
    rw [Qa5] at h
    refine bln ?_
    refine thn ?_
    exact ⟨(y6), h, (mto (n := 13) [(2, .ref 3 1 0 0)] [0, 1, 2, 3, 4] [.dead, .dead, .dead, (.own 1 [[(Q2y y6)]]), .tok] hφ0 (pc (.rn (rqr rfl)) pn) (qc .dead (qc .dead (qc .dead (qc (spb (lc (.rn (Qbx rfl (Qbo Qau _))) ln)) (qc .tok qn))))))⟩
def Qd4 (N : Nat) (p0 : (List GRow)) (p1 : (List GElement)) (p2 : (List (Int × Int))) : Option (List GPort) :=
  (Qco N p0 p1 p2).bind fun x3 =>
  some x3
def Zas : AV := .fn (.func 53) [] [(.ref 0 2 (0) 0), (.ref 1 1 (0) 0)]
def Zar (p0 : (List GRow)) : AV := .dat 5 ((p0 : List GRow).map Qa3)
def Zaq (p1 : (List GElement)) : AV := .dat 7 ((p1 : List GElement).map Qac)
def Q2z (x3 : (List GPort)) : AV := .dat 2 ((x3 : List GPort).map Qam)
theorem Qiw (N : Nat) (p0 : (List GRow)) (p1 : (List GElement)) (p2 : (List (Int × Int))) (r : (List GPort)) (h : Qd4 N p0 p1 p2 = some r) : Spec Try.prog 33 [Zas] [(.own 2 [[(Zar p0), (Zaq p1)]]), (.own 1 [[(.mp 2)]]), (Qdi p2)] (.dat 2 ((r : List GPort).map Qam)) [.dead, .dead, .dead] := by
  refine Qak Try.func33 rfl 3 (nle rfl) (fun X φ0 w0 hφ0 hd0 => ?_)
  unfold Qd4 at h
  refine Qbp ?_
  refine wx tbk [] trivial ?_
  obtain ⟨x3, hf2, h⟩ := bno h
  refine wx tbk [(1, ⟨[fu 59, ((.const (.slice none 0 0)), nilS), (.tmp 3, Zas)], [(0, (.own 2 [[(Zar p0), (Zaq p1)]])), (1, (.own 1 [[(.mp 2)]])), (2, (Qdi p2))], (Q2z x3), [(0, .dead), (1, .dead), (2, .dead)], false⟩)] ⟨Qar (first := []) (cap := []) (vs := [nilS, Zas]) (σr := [(.own 2 [[(Zar p0), (Zaq p1)]]), (.own 1 [[(.mp 2)]]), (Qdi p2)]) (σr' := [.dead, .dead, .dead]) (res' := (Q2z x3)) [0, 1, 2] rfl Zcn (Qgr N p0 p1 p2 _ hf2) rfl (Qbm (rnc (.plain _ nll) (rnc (Qav rn0 (rnc (Qa0 rfl) (rnc (Qa0 rfl) rn0))) rn0))) (slc (Qag (rnc (.plain _ (nld Qah _)) (rnc (.plain _ (nld Qaa _)) rn0))) (slc (Qag (rnc (Q8u rfl) rn0)) (slc Qpy Qaq))) (slc .dead (slc .dead (slc .dead Qaq))) (.plain _ (nld Qau _)) rfl rfl rfl, trivial⟩ ?_
  refine wmr (mto (n := 5) (l' := [(2, (Q2z x3))]) (own' := [.dead, .dead, .dead]) [(2, (Q2z x3))] [0, 1, 2] [.dead, .dead, .dead] hφ0 (pc (.rn (.plain _ (nld Qau _))) pn) (qc .dead (qc .dead (qc .dead qn)))) ?_
  refine Qad ?_
  obtain rfl := osi h
  exact ⟨_, Mor.rfl, Qcz (vs := [(Q2z x3)]) ⟨rot (by kernel_rfl), trivial⟩ rfl (NLt.of0 (nld Qau _)) (by kernel_rfl) (Qal .dead (Qal .dead (Qal .dead Qbn)))⟩
def Qhb (N : Nat) (p0 : GNet) : Option ((List GPort) × Int) :=
  (Qfl N p0).bind fun x2 =>
  bif (!x2) then
   some ([], 1)
  else
   (Qgs N p0).bind fun x5 =>
   (Qd4 N p0.Table p0.Elements x5).bind fun x7 =>
   some (x7, 0)
def Zd6 (p0 : GNet) : AV := .dat 7 ((p0.Elements : List GElement).map Qac)
def Q6p (p0 : GNet) : AV := .agg [(.dat 5 ((p0.Table : List GRow).map Qa3)), (Zd6 p0)]
def Q6o : AV := .fn (.func 53) [] [(.ref 1 2 (0) 0), (.ref 2 1 (0) 0)]
def Q6q (p0 : GNet) : Slot := .own 2 [[(.dat 5 ((p0.Table : List GRow).map Qa3)), (Zd6 p0)]]
def Zat (x7 : (List GPort)) : AV := .dat 2 ((x7 : List GPort).map Qam)
theorem Qn4 (N : Nat) (p0 : GNet) (r : ((List GPort) × Int)) (h : Qhb N p0 = some r) : Spec Try.prog 13 [(.agg (Qia p0))] [] (.tup [(.dat 2 (r.1.map Qam)), (I r.2)]) [] := by
  refine Qak Try.func13 rfl 0 (nle rfl) (fun X φ0 w0 hφ0 hd0 => ?_)
  unfold Qhb at h
  refine wx tbk [] trivial ?_
  refine wsq ?_
  obtain ⟨x2, hf1, h⟩ := bno h
  refine wx tbk [(1, rp [fu 32, (.tmp 4, (Q6p p0))] (B x2))] ⟨apc (first := []) (cap := []) (vs := [(Q6p p0)]) rfl Qq7 (Qf0 N p0 _ hf1) rfl rfl (nlc (NLt.agg _ (nlc (nld Qah _) (nlc (nld Qaa _) nl0))) nl0) nll rfl, trivial⟩ ?_
  rcases bft ((!x2)) with hc3 | hc3
  ·replace h := Qaw hc3 h
   refine wft hc3 (by kernel_rfl) ?_
   refine wx tbk [] trivial ?_
   refine Qad ?_
   refine Qaf ?_
   obtain rfl := osi h
   exact fend ⟨[(.dat 2 (([] : List GPort).map Qam)), I 1], ⟨Qe9 (v := nilS) (rot (by kernel_rfl)) Less.nil, rot (by kernel_rfl), trivial⟩, rfl⟩ (NLt.tup _ (nlc (nld Qau _) (nlc nll nl0)))
  ·replace h := Qax hc3 h
   refine wfn hc3 (by kernel_rfl) ?_
   refine Qap ?_
   refine thn ?_
   obtain ⟨x5, hf4, h⟩ := bno h
   obtain ⟨x7, hf6, h⟩ := bno h
   refine wx tbk [(1, ⟨[fu 30, (.tmp 7, (Q6p p0))], [(1, .unused), (2, .unused), (3, .unused)], Q6o, [(1, (Q6q p0)), (2, (.own 1 [[(.mp 3)]])), (3, (Qdi x5))], false⟩), (2, ⟨[fu 33, (.tmp 8, Q6o)], [(1, (Q6q p0)), (2, (.own 1 [[(.mp 3)]])), (3, (Qdi x5))], (Zat x7), [(1, .dead), (2, .dead), (3, .dead)], false⟩)] ⟨Qar (first := []) (cap := []) (vs := [(Q6p p0)]) (σr := []) (σr' := [(Q6q p0), (.own 1 [[(.mp 3)]]), (Qdi x5)]) (res' := Q6o) [1, 2, 3] rfl Zcy (Qnb N p0 _ hf4) rfl (Qbm (rnc (.plain _ (NLt.agg _ (nlc (nld Qah _) (nlc (nld Qaa _) nl0)))) rn0)) Qaq (slc (Qag (rnc (.plain _ (nld Qah _)) (rnc (.plain _ (nld Qaa _)) rn0))) (slc (Qag (rnc (Q8v rfl) rn0)) (slc Qpy Qaq))) (Qav rn0 (rnc (Qbb rfl) (rnc (Qbb rfl) rn0))) rfl rfl rfl, Qar (first := []) (cap := []) (vs := [Q6o]) (σr := [(Q6q p0), (.own 1 [[(.mp 3)]]), (Qdi x5)]) (σr' := [.dead, .dead, .dead]) (res' := (Zat x7)) [1, 2, 3] rfl Zcx (Qiw N p0.Table p0.Elements x5 _ hf6) rfl (Qbm (rnc (Qav rn0 (rnc (Qa0 rfl) (rnc (Qa0 rfl) rn0))) rn0)) (slc (Qag (rnc (.plain _ (nld Qah _)) (rnc (.plain _ (nld Qaa _)) rn0))) (slc (Qag (rnc (Q8u rfl) rn0)) (slc Qpy Qaq))) (slc .dead (slc .dead (slc .dead Qaq))) (.plain _ (nld Qau _)) rfl rfl rfl, trivial⟩ ?_
   refine Qad ?_
   obtain rfl := osi h
   exact fend ⟨[(Zat x7), I 0], ⟨rot (by kernel_rfl), rot (by kernel_rfl), trivial⟩, rfl⟩ (NLt.tup _ (nlc (nld Qau _) (nlc nll nl0)))
end Go.Proofs.Ytmbhnllcfmiajaa
