/-
  Functions of the program: what they compute, as plain functions, and that they do. No conditions.
-/
import Derived.Test.YtmbhnllcfmiajaaX1
namespace Go.Proofs.Ytmbhnllcfmiajaa
set_option maxRecDepth 100000
set_option maxHeartbeats 4000000
open Go.RowKit
def Qee (N : Nat) (k11 : (List (Int × Int)) → Option (List (Int × Int))) (x12 : GElement) : Nat → Int → (List (Int × Int)) → Option (List (Int × Int))
  | 0, _, _ => none
  | n20 + 1, y16, y17 =>
    bif (decide (y16 < (x12.From.length : Int))) then
     (getI x12.From y16).bind fun x22 =>
     Qee N k11 x12 n20 (w64 (y16 + 1)) (addQ y17 (x22.Element, x22.Outlet))
    else
     k11 (y17)
def Qef (N : Nat) (p0 : GNet) (k3 : (List (Int × Int)) → Option (List (Int × Int))) : Nat → Int → (List (Int × Int)) → Option (List (Int × Int))
  | 0, _, _ => none
  | n8 + 1, y4, y5 =>
    bif (decide (y4 < (p0.Elements.length : Int))) then
     Qcv (fun y10 =>
       Qef N p0 k3 n8 (w64 (y4 + 1)) y10) fun k11 : (List (Int × Int)) → Option (List (Int × Int)) =>
     (getI p0.Elements y4).bind fun x12 =>
     Qee N k11 x12 N 0 y5
    else
     k3 (y5)
def Qi3 (N : Nat) (p0 : GNet) : Option (List (Int × Int)) :=
  Qcv (fun y2 =>
    some y2) fun k3 : (List (Int × Int)) → Option (List (Int × Int)) =>
  Qef N p0 k3 N 0 ([] : List (Int × Int))
def Qnh (p0 : GNet) : AV := .dat 7 ((p0.Elements : List GElement).map Qah)
def Qup : AV := .fn (.func 53) [] [(.ref 0 2 (0) 0), (.ref 1 1 (0) 0)]
def Qmv (p0 : GNet) : Slot := .own 2 [[(.dat 5 ((p0.Table : List GRow).map Qav)), (Qnh p0)]]
def Qsa (x12 : GElement) : AV := .dat 2 ((x12.From : List GPort).map Qa7)
theorem Qm5 (N : Nat) (p0 : GNet) (r : (List (Int × Int))) (h : Qi3 N p0 = some r) : Spec Try.prog 30 [(.agg [(.dat 5 ((p0.Table : List GRow).map Qav)), (Qnh p0)])] [] Qup [(Qmv p0), (.own 1 [[(.mp 2)]]), (Qde r)] := by
  refine Qag Try.func30 rfl 3 (nle rfl) (fun X φ0 w0 hφ0 hd0 => ?_)
  unfold Qi3 at h
  refine Qbs ?_
  refine wx tbk [] trivial ?_
  refine wx tbk [(0, ⟨[], [(1, .unused)], (.mp 1), [(1, (Qde ([] : List (Int × Int))))], false⟩)] ⟨Qph rfl, trivial⟩ ?_
  obtain ⟨k3, hk_k3, h⟩ := jko h
  refine wjn (τ := (List (Int × Int))) (fun t => k3 t = some r) (fun y2 => ⟨mk 28 [(1, .ref 0 2 0 0), (3, .ref 1 1 0 0)], [(Qmv p0), (.own 1 [[(.mp 2)]]), (Qde y2)]⟩) (fun y2 h => ?_) ?_
  ·subst hk_k3
   refine wx tbk [(0, rp [(.tmp 1, .ref 0 2 0 0), (.tmp 3, .ref 1 1 0 0)] Qup)] ⟨Qej (fs := []) (cs := [.ref 0 2 0 0, .ref 1 1 0 0]) rfl rfl rfl rfl, trivial⟩ ?_
   refine wmr (mto (n := 28) (l' := [(2, Qup)]) (own' := [(Qmv p0), (.own 1 [[(.mp 2)]]), (Qde y2)]) [(2, Qup)] [0, 1, 2] [(Qmv p0), (.own 1 [[(.mp 2)]]), (Qde y2)] hφ0 (pc (.rn (Qbe rn0 (rnc (rqr rfl) (rnc (rqr rfl) rn0)))) pn) (qc (spb (lc (.rn (.plain _ (nld Qai _))) (lc (.rn (.plain _ (nld Qac _))) ln))) (qc (spb (lc (.rn (Qht rfl)) ln)) (qc Qe0 qn)))) ?_
   refine Qad ?_
   obtain rfl := osi h
   exact ⟨_, Mor.rfl, Qcx (vs := [Qup]) ⟨rot (by kernel_rfl), trivial⟩ rfl (NLt.fn _ _ _ nl0 (nlc (NLt.ref _ _ _ _ (by decide)) (nlc (NLt.ref _ _ _ _ (by decide)) nl0))) (by kernel_rfl) (Qak (Qa6 (nlc (NLt.of0 (nld Qai _)) (nlc (NLt.of0 (nld Qac _)) nl0))) (Qak (Qa6 (nlc (NLt.mp _ (by decide)) nl0)) (Qak Q8p Qbo)))⟩
  ·skip
   refine wx tbk [(2, rp [(.tmp 10, (Qnh p0))] (I ((p0.Elements.length : Int))))] ⟨alm (c := Qah) (l := p0.Elements) (aln rfl Try.underlying40 rfl), trivial⟩ ?_
   refine Qaq ?_
   refine wmr (mto (n := 28) (l' := [(1, .ref 0 2 0 0), (3, .ref 1 1 0 0), (10, (Qnh p0)), (11, (I ((p0.Elements.length : Int)))), (12, I 0)]) (own' := [(Qmv p0), (.own 1 [[(.mp 2)]]), (Qde ([] : List (Int × Int)))]) [(1, .ref 0 2 0 0), (3, .ref 2 1 0 0), (10, (Qnh p0)), (11, (I ((p0.Elements.length : Int)))), (12, I 0)] [0, 2, 1] [(Qmv p0), (.own 1 [[(.mp 1)]]), (Qde ([] : List (Int × Int)))] hφ0 (pc (.rn (rqr rfl)) (pc (.rn (rqr rfl)) (pc (.rn (.plain _ (nld Qac _))) (pc rwl (pc rwl pn))))) (qc (spb (lc (.rn (.plain _ (nld Qai _))) (lc (.rn (.plain _ (nld Qac _))) ln))) (qc (spb (lc (.rn (Qht rfl)) ln)) (qc Qe0 qn)))) ?_
   refine Qc9 (τ := Int × (List (Int × Int))) (fun n t => Qef N p0 k3 n t.1 t.2 = some r) (fun ⟨y4, y5⟩ => ⟨mk 28 [(1, .ref 0 2 0 0), (3, .ref 1 1 0 0), (10, (Qnh p0)), (11, (I ((p0.Elements.length : Int)))), (12, I y4)], [(Qmv p0), (.own 1 [[(.mp 2)]]), (Qde y5)]⟩) (fun t h => by rw [Qef] at h; cases h) (fun n8 ih t h => ?_) N (0, ([] : List (Int × Int))) h
   obtain ⟨y4, y5⟩ := t
   rw [Qef] at h
   skip
   refine wx tbk [] trivial ?_
   refine wsq ?_
   rcases bft ((decide (y4 < (p0.Elements.length : Int)))) with hc9 | hc9
   ·replace h := Qa2 hc9 h
    refine wft hc9 (by kernel_rfl) ?_
    refine Qar ?_
    refine thn ?_
    obtain ⟨k11, hk_k11, h⟩ := jko h
    refine wjn (τ := (List (Int × Int))) (fun t => k11 t = some r) (fun y10 => ⟨mk 28 [(1, .ref 0 2 0 0), (3, .ref 1 1 0 0), (10, (Qnh p0)), (11, (I ((p0.Elements.length : Int)))), (12, I y4)], [(Qmv p0), (.own 1 [[(.mp 2)]]), (Qde y10)]⟩) (fun y10 h => ?_) ?_
    ·subst hk_k11
     refine wx1 tbk [] trivial ?_
     refine thn ?_
     exact arm (mto (n := 28) [(1, .ref 0 2 0 0), (3, .ref 1 1 0 0), (10, (Qnh p0)), (11, (I ((p0.Elements.length : Int)))), (12, (I (w64 (y4 + 1))))] [0, 1, 2] [(Qmv p0), (.own 1 [[(.mp 2)]]), (Qde y10)] hφ0 (pc (.rn (rqr rfl)) (pc (.rn (rqr rfl)) (pc (.rn (.plain _ (nld Qac _))) (pc rwl (pc rwl pn))))) (qc (spb (lc (.rn (.plain _ (nld Qai _))) (lc (.rn (.plain _ (nld Qac _))) ln))) (qc (spb (lc (.rn (Qht rfl)) ln)) (qc Qe0 qn)))) (ih (w64 (y4 + 1), y10) h)
    ·skip
     refine Qaq ?_
     obtain ⟨x12, hg13, h⟩ := bno h
     obtain ⟨hi14, hj15⟩ := gsm hg13
     refine wx tbk [(0, rp [(.tmp 10, (Qnh p0)), (.tmp 12, I y4)] (.dptr (Qah (x12)) 0))] ⟨aid rfl Try.underlying40 ti76 rfl rfl hi14 (mgt Qah hj15) rfl, trivial⟩ ?_
     refine wx tbk [(2, rp [(.tmp 17, (Qsa x12))] (I ((x12.From.length : Int))))] ⟨alm (c := Qa7) (l := x12.From) (aln rfl Try.underlying53 rfl), trivial⟩ ?_
     refine Qaq ?_
     refine wmr (mto (n := 28) (l' := [(1, .ref 0 2 0 0), (3, .ref 1 1 0 0), (10, (Qnh p0)), (11, (I ((p0.Elements.length : Int)))), (12, I y4), (17, (Qsa x12)), (18, (I ((x12.From.length : Int)))), (19, I 0)]) (own' := [(Qmv p0), (.own 1 [[(.mp 2)]]), (Qde y5)]) [(1, .ref 0 2 0 0), (3, .ref 1 1 0 0), (10, (Qnh p0)), (11, (I ((p0.Elements.length : Int)))), (12, I y4), (17, (Qsa x12)), (18, (I ((x12.From.length : Int)))), (19, I 0)] [0, 1, 2] [(Qmv p0), (.own 1 [[(.mp 2)]]), (Qde y5)] hφ0 (pc (.rn (rqr rfl)) (pc (.rn (rqr rfl)) (pc (.rn (.plain _ (nld Qac _))) (pc rwl (pc rwl (pc (.rn (.plain _ (nld Qcp _))) (pc rwl (pc rwl pn)))))))) (qc (spb (lc (.rn (.plain _ (nld Qai _))) (lc (.rn (.plain _ (nld Qac _))) ln))) (qc (spb (lc (.rn (Qht rfl)) ln)) (qc Qe0 qn)))) ?_
     refine Qc9 (τ := Int × (List (Int × Int))) (fun n t => Qee N k11 x12 n t.1 t.2 = some r) (fun ⟨y16, y17⟩ => ⟨mk 28 [(1, .ref 0 2 0 0), (3, .ref 1 1 0 0), (10, (Qnh p0)), (11, (I ((p0.Elements.length : Int)))), (12, I y4), (17, (Qsa x12)), (18, (I ((x12.From.length : Int)))), (19, I y16)], [(Qmv p0), (.own 1 [[(.mp 2)]]), (Qde y17)]⟩) (fun t h => by rw [Qee] at h; cases h) (fun n20 ih t h => ?_) N (0, y5) h
     obtain ⟨y16, y17⟩ := t
     rw [Qee] at h
     skip
     refine wx tbk [] trivial ?_
     refine wsq ?_
     rcases bft ((decide (y16 < (x12.From.length : Int)))) with hc21 | hc21
     ·replace h := Qa2 hc21 h
      refine wft hc21 (by kernel_rfl) ?_
      refine Qar ?_
      refine thn ?_
      refine wsq ?_
      refine Qaq ?_
      obtain ⟨x22, hg23, h⟩ := bno h
      obtain ⟨hi24, hj25⟩ := gsm hg23
      refine wx tbk [(0, rp [(.tmp 17, (Qsa x12)), (.tmp 19, I y16)] (.dptr (Qa7 (x22)) 0))] ⟨aid rfl Try.underlying53 ti57 rfl rfl hi24 (mgt Qa7 hj25) rfl, trivial⟩ ?_
      refine wx1 tbk [(2, ⟨[(.tmp 23, (.mp 2)), (.tmp 24, (.agg [I x22.Element, I x22.Outlet])), cb true], [(2, (Qde y17))], .any, [(2, (Qde (addQ y17 (x22.Element, x22.Outlet))))], false⟩)] ⟨Qrj rfl Try.underlying122 Try.underlying57 Qyb Qm9, trivial⟩ ?_
      refine bln ?_
      refine thn ?_
      refine wx1 tbk [] trivial ?_
      refine thn ?_
      exact arm (mto (n := 28) [(1, .ref 0 2 0 0), (3, .ref 1 1 0 0), (10, (Qnh p0)), (11, (I ((p0.Elements.length : Int)))), (12, I y4), (17, (Qsa x12)), (18, (I ((x12.From.length : Int)))), (19, (I (w64 (y16 + 1))))] [0, 1, 2] [(Qmv p0), (.own 1 [[(.mp 2)]]), (Qde (addQ y17 (x22.Element, x22.Outlet)))] hφ0 (pc (.rn (rqr rfl)) (pc (.rn (rqr rfl)) (pc (.rn (.plain _ (nld Qac _))) (pc rwl (pc rwl (pc (.rn (.plain _ (nld Qcp _))) (pc rwl (pc rwl pn)))))))) (qc (spb (lc (.rn (.plain _ (nld Qai _))) (lc (.rn (.plain _ (nld Qac _))) ln))) (qc (spb (lc (.rn (Qht rfl)) ln)) (qc Qe0 qn)))) (ih (w64 (y16 + 1), addQ y17 (x22.Element, x22.Outlet)) h)
     ·replace h := Qa3 hc21 h
      refine wfn hc21 (by kernel_rfl) ?_
      refine Qcf ?_
      refine Qa8 ?_
      refine Qa8 ?_
      refine Qce rfl ?_
      refine bln ?_
      refine thn ?_
      exact ⟨(y17), h, (mto (n := 28) [(1, .ref 0 2 0 0), (3, .ref 1 1 0 0), (10, (Qnh p0)), (11, (I ((p0.Elements.length : Int)))), (12, I y4)] [0, 1, 2] [(Qmv p0), (.own 1 [[(.mp 2)]]), (Qde y17)] hφ0 (pc (.rn (rqr rfl)) (pc (.rn (rqr rfl)) (pc (.rn (.plain _ (nld Qac _))) (pc rwl (pc rwl pn))))) (qc (spb (lc (.rn (.plain _ (nld Qai _))) (lc (.rn (.plain _ (nld Qac _))) ln))) (qc (spb (lc (.rn (Qht rfl)) ln)) (qc Qe0 qn))))⟩
   ·replace h := Qa3 hc9 h
    refine wfn hc9 (by kernel_rfl) ?_
    refine Qcf ?_
    refine Qa8 ?_
    refine Qa8 ?_
    refine Qce rfl ?_
    refine thn ?_
    exact ⟨(y5), h, (mto (n := 28) [(1, .ref 0 2 0 0), (3, .ref 1 1 0 0)] [0, 1, 2] [(Qmv p0), (.own 1 [[(.mp 2)]]), (Qde y5)] hφ0 (pc (.rn (rqr rfl)) (pc (.rn (rqr rfl)) pn)) (qc (spb (lc (.rn (.plain _ (nld Qai _))) (lc (.rn (.plain _ (nld Qac _))) ln))) (qc (spb (lc (.rn (Qht rfl)) ln)) (qc Qe0 qn))))⟩
def Qdl (N : Nat) (y1 : Int) (p2 : (List (Int × Int))) (k8 : Unit → Option (List GPort)) (x14 : Int) : Nat → Int → Option (List GPort)
  | 0, _ => none
  | n19 + 1, y15 =>
    bif (decide (y15 < x14)) then
     bif (!(p2.contains (y1, y15))) then
      yld (⟨y1, y15⟩ : GPort) <|
      Qdl N y1 p2 k8 x14 n19 (w64 (y15 + 1))
     else
      Qdl N y1 p2 k8 x14 n19 (w64 (y15 + 1))
    else
     k8 ()
def Qed (N : Nat) (p1 : (List GElement)) (p2 : (List (Int × Int))) : Nat → Int → Option (List GPort)
  | 0, _ => none
  | n5 + 1, y1 =>
    bif (decide (y1 < (p1.length : Int))) then
     Qcv (fun _ =>
       Qed N p1 p2 n5 (w64 (y1 + 1))) fun k8 : Unit → Option (List GPort) =>
     (getI p1 y1).bind fun x9 =>
     (Qds N x9).bind fun x14 =>
     Qdl N y1 p2 k8 x14 N 0
    else
     some ([])
def Qi2 (N : Nat) (_p0 : (List GRow)) (p1 : (List GElement)) (p2 : (List (Int × Int))) : Option (List GPort) :=
  Qed N p1 p2 N 0
def Qng (p1 : (List GElement)) : AV := .dat 7 ((p1 : List GElement).map Qah)
def Qpo (p0 : (List GRow)) (p1 : (List GElement)) : Slot := .own 2 [[(.dat 5 ((p0 : List GRow).map Qav)), (Qng p1)]]
def Zag (x9 : GElement) : AV := .agg [(K .u8 (x9.Kind)), (.dat 2 ((x9.From : List GPort).map Qa7)), (I (x9.Level)), (I (x9.Amount)), (I (x9.Wide)), (I (x9.Narrow)), (.dat 1 ((x9.Weights : List Int).map Qam))]
def Qmm (y1 : Int) (y15 : Int) : AV := .agg [(I (y1)), (I (y15))]
theorem Qm4 (N : Nat) (p0 : (List GRow)) (p1 : (List GElement)) (p2 : (List (Int × Int))) (r : (List GPort)) (h : Qi2 N p0 p1 p2 = some r) : Qo4 Try.prog 53 [(.ref 0 2 (0) 0), (.ref 1 1 (0) 0)] [(Qpo p0 p1), (.own 1 [[(.mp 2)]]), (Qde p2)] (fun x => [(.agg #[(.int .i64 (x.Element)), (.int .i64 (x.Outlet))])]) r := by
  refine Qok Try.func53 rfl rfl (fun X φ0 w0 l J hφ0 hy => ?_)
  unfold Qi2 at h
  refine wx tbk [(2, rp [(.tmp 9, (Qng p1))] (I ((p1.length : Int))))] ⟨alm (c := Qah) (l := p1) (aln rfl Try.underlying40 rfl), trivial⟩ ?_
  refine Qaq ?_
  refine wmr (mto (n := 36) (l' := [(0, (.lit (.func (.yield l) #[] #[]))), (2, .ref 1 1 0 0), (9, (Qng p1)), (10, (I ((p1.length : Int)))), (11, I 0)]) (own' := [(Qpo p0 p1), (.own 1 [[(.mp 2)]]), (Qde p2), (.far (J (some (r))))]) [(0, (.lit (.func (.yield l) #[] #[]))), (2, .ref 1 1 0 0), (9, (Qng p1)), (10, (I ((p1.length : Int)))), (11, I 0)] [0, 1, 2, 3] [(Qpo p0 p1), (.own 1 [[(.mp 2)]]), (Qde p2), (.far (J (some (r))))] hφ0 (pc rwl (pc (.rn (rqr rfl)) (pc (.rn (.plain _ (nld Qac _))) (pc rwl (pc rwl pn))))) (qc (spb (lc (.rn (.plain _ (nld Qai _))) (lc (.rn (.plain _ (nld Qac _))) ln))) (qc (spb (lc (.rn (Qht rfl)) ln)) (qc Qe0 (qc (.far _) qn))))) ?_
  refine Qc9 (τ := (Int) × List GPort) (fun n t => Qed N p1 p2 n t.1 = some t.2) (fun ⟨y1, q2⟩ => ⟨mk 36 [(0, (.lit (.func (.yield l) #[] #[]))), (2, .ref 1 1 0 0), (9, (Qng p1)), (10, (I ((p1.length : Int)))), (11, I y1)], [(Qpo p0 p1), (.own 1 [[(.mp 2)]]), (Qde p2), (.far (J (some (q2))))]⟩) (fun t h => by rw [Qed] at h; cases h) (fun n5 ih t h => ?_) N ((0), r) h
  obtain ⟨y1, q2⟩ := t
  rw [Qed] at h
  try dsimp only at h
  refine wx tbk [] trivial ?_
  refine wsq ?_
  rcases bft ((decide (y1 < (p1.length : Int)))) with hc6 | hc6
  ·replace h := Qa2 hc6 h
   refine wft hc6 (by kernel_rfl) ?_
   refine Qar ?_
   refine thn ?_
   obtain ⟨k8, hk_k8, h⟩ := jko h
   refine wjn (τ := (Unit) × List GPort) (fun t => k8 t.1 = some t.2) (fun ⟨_, q7⟩ => ⟨mk 36 [(0, (.lit (.func (.yield l) #[] #[]))), (2, .ref 1 1 0 0), (9, (Qng p1)), (10, (I ((p1.length : Int)))), (11, I y1)], [(Qpo p0 p1), (.own 1 [[(.mp 2)]]), (Qde p2), (.far (J (some (q7))))]⟩) (fun t h => ?_) ?_
   ·subst hk_k8
    obtain ⟨_, q7⟩ := t
    refine wx1 tbk [] trivial ?_
    refine thn ?_
    exact arm (mto (n := 36) [(0, (.lit (.func (.yield l) #[] #[]))), (2, .ref 1 1 0 0), (9, (Qng p1)), (10, (I ((p1.length : Int)))), (11, (I (w64 (y1 + 1))))] [0, 1, 2, 3] [(Qpo p0 p1), (.own 1 [[(.mp 2)]]), (Qde p2), (.far (J (some (q7))))] hφ0 (pc rwl (pc (.rn (rqr rfl)) (pc (.rn (.plain _ (nld Qac _))) (pc rwl (pc rwl pn))))) (qc (spb (lc (.rn (.plain _ (nld Qai _))) (lc (.rn (.plain _ (nld Qac _))) ln))) (qc (spb (lc (.rn (Qht rfl)) ln)) (qc Qe0 (qc (.far _) qn))))) (ih ((w64 (y1 + 1)), q7) h)
   ·skip
    refine Qaq ?_
    obtain ⟨x9, hg10, h⟩ := bno h
    obtain ⟨hi11, hj12⟩ := gsm hg10
    refine wx tbk [(1, rp [(.tmp 9, (Qng p1)), (.tmp 11, I y1)] (.dptr (Qah (x9)) 0))] ⟨aid rfl Try.underlying40 ti76 rfl rfl hi11 (mgt Qah hj12) rfl, trivial⟩ ?_
    obtain ⟨x14, hf13, h⟩ := bno h
    refine wx tbk [(1, rp [fu 54, (.tmp 16, (Zag x9))] (I x14))] ⟨apc (first := []) (cap := []) (vs := [(Zag x9)]) rfl Qtw (Qeu N x9 _ hf13) rfl rfl (nlc (NLt.agg _ (nlc nll (nlc (nld Qcp _) (nlc nll (nlc nll (nlc nll (nlc nll (nlc (nld Qaf _) nl0)))))))) nl0) nll rfl, trivial⟩ ?_
    refine Qaq ?_
    refine wmr (mto (n := 36) (l' := [(0, (.lit (.func (.yield l) #[] #[]))), (2, .ref 1 1 0 0), (4, I y1), (9, (Qng p1)), (10, (I ((p1.length : Int)))), (11, I y1), (17, I x14), (18, I 0)]) (own' := [(Qpo p0 p1), (.own 1 [[(.mp 2)]]), (Qde p2), (.far (J (some (q2))))]) [(0, (.lit (.func (.yield l) #[] #[]))), (2, .ref 1 1 0 0), (4, I y1), (9, (Qng p1)), (10, (I ((p1.length : Int)))), (11, I y1), (17, I x14), (18, I 0)] [0, 1, 2, 3] [(Qpo p0 p1), (.own 1 [[(.mp 2)]]), (Qde p2), (.far (J (some (q2))))] hφ0 (pc rwl (pc (.rn (rqr rfl)) (pc rwl (pc (.rn (.plain _ (nld Qac _))) (pc rwl (pc rwl (pc rwl (pc rwl pn)))))))) (qc (spb (lc (.rn (.plain _ (nld Qai _))) (lc (.rn (.plain _ (nld Qac _))) ln))) (qc (spb (lc (.rn (Qht rfl)) ln)) (qc Qe0 (qc (.far _) qn))))) ?_
    refine Qc9 (τ := (Int) × List GPort) (fun n t => Qdl N y1 p2 k8 x14 n t.1 = some t.2) (fun ⟨y15, q16⟩ => ⟨mk 36 [(0, (.lit (.func (.yield l) #[] #[]))), (2, .ref 1 1 0 0), (4, I y1), (9, (Qng p1)), (10, (I ((p1.length : Int)))), (11, I y1), (17, I x14), (18, I y15)], [(Qpo p0 p1), (.own 1 [[(.mp 2)]]), (Qde p2), (.far (J (some (q16))))]⟩) (fun t h => by rw [Qdl] at h; cases h) (fun n19 ih t h => ?_) N ((0), q2) h
    obtain ⟨y15, q16⟩ := t
    rw [Qdl] at h
    try dsimp only at h
    refine wx tbk [] trivial ?_
    refine wsq ?_
    rcases bft ((decide (y15 < x14))) with hc20 | hc20
    ·replace h := Qa2 hc20 h
     refine wft hc20 (by kernel_rfl) ?_
     refine Qar ?_
     refine thn ?_
     refine wsq ?_
     refine Qaq ?_
     refine wx tbk [] trivial ?_
     refine wx tbk [(2, rp [(.tmp 21, I y1), (.tmp 22, I y15)] (Qmm y1 y15))] ⟨Qat (vs := [I y1, I y15]) rfl ts57 tz57 rfl (by rfl) rfl, trivial⟩ ?_
     rcases bft ((!(p2.contains (y1, y15)))) with hb21 | hb21
     ·replace h := Qa2 hb21 h
      obtain ⟨q22, hy_, hq_⟩ := Qs9 h
      clear h
      subst hq_
      have h := hy_
      clear hy_
      refine Q0v 7 [rb [(.tmp 2, .ref 1 1 0 0)] [(1, (.own 1 [[(.mp 2)]]))] (.mp 2), rb [(.tmp 7, .ref 4 2 0 0)] [(4, .own 2 [[I y1, I y15]])] (Qmm y1 y15), rb [(.tmp 24, (.mp 2)), (.tmp 25, (Qmm y1 y15))] [(2, (Qde p2))] (B (p2.contains (y1, y15))), rp [(.tmp 26, (B (p2.contains (y1, y15))))] (B ((!(p2.contains (y1, y15))))), rp [(.tmp 27, (B ((!(p2.contains (y1, y15))))))] (B true), rp [(.tmp 28, B true), (.tmp 0, (.lit (.func (.yield l) #[] #[])))] (.lit (.func (.yield l) #[] #[])), rb [(.tmp 28, B true), (.tmp 7, .ref 4 2 0 0)] [(4, .own 2 [[I y1, I y15]])] (Qmm y1 y15), ⟨[(.tmp 28, B true), (.tmp 29, (.lit (.func (.yield l) #[] #[]))), (.tmp 30, (Qmm y1 y15))], [(3, (.far (J (some ((⟨y1, y15⟩ : GPort) :: q22)))))], B true, [(3, (.far (J (some (q22)))))], false⟩, rp [(.tmp 28, B true), (.tmp 31, B true)] (B false), rp [(.tmp 28, B true), (.tmp 32, B false), cb false] (B false)] [rb [(.tmp 2, .ref 1 1 0 0)] [(1, (.own 1 [[(.mp 2)]]))] (.mp 2), rb [(.tmp 7, .ref 4 2 0 0)] [(4, .own 2 [[I y1, I y15]])] (Qmm y1 y15), rb [(.tmp 24, (.mp 2)), (.tmp 25, (Qmm y1 y15))] [(2, (Qde p2))] (B (p2.contains (y1, y15))), rp [(.tmp 26, (B (p2.contains (y1, y15))))] (B ((!(p2.contains (y1, y15))))), rp [(.tmp 27, (B ((!(p2.contains (y1, y15))))))] (B true), rp [(.tmp 28, B true), (.tmp 0, (.lit (.func (.yield l) #[] #[])))] (.lit (.func (.yield l) #[] #[])), rb [(.tmp 28, B true), (.tmp 7, .ref 4 2 0 0)] [(4, .own 2 [[I y1, I y15]])] (Qmm y1 y15), ⟨[(.tmp 28, B true), (.tmp 29, (.lit (.func (.yield l) #[] #[]))), (.tmp 30, (Qmm y1 y15))], [(3, (.far (J (some ((⟨y1, y15⟩ : GPort) :: q22)))))], B false, [(3, (.far (J none)))], false⟩, rp [(.tmp 28, B true), (.tmp 31, B false)] (B true), rp [(.tmp 28, B true), (.tmp 32, B true), cb false] (B true)] (by exact ⟨by kernel_rfl, by kernel_rfl⟩) (by exact ⟨by kernel_rfl, by kernel_rfl⟩) rfl rfl rfl rfl (Qwc (Qla (rd' := (.tmp 29, .lit (.func (.yield l) #[] #[])) :: [(.tmp 30, .lit (.agg #[(.int .i64 ((⟨y1, y15⟩ : GPort).Element)), (.int .i64 ((⟨y1, y15⟩ : GPort).Outlet))]))]) ⟨rfl, lrf, rfl, (Less.lits [(.int .i64 (y1)), (.int .i64 (y15))]), trivial⟩ (Qj5 (x := (⟨y1, y15⟩ : GPort)) (rest := q22) rfl rfl hy rfl))) (⟨fun _ _ => ald rfl Zcw (by decide) rfl (nle rfl) rfl, fun _ _ => ald rfl ti57 (by decide) rfl (nle rfl) rfl, fun _ _ => Qjv rfl Try.underlying122 Try.underlying57 zb4 Qyb Qm9, fun _ _ => Qh3 rfl, fun _ _ => asb hb21 (amv rfl), fun _ _ => ag_ (amv rfl), fun _ _ => ag_ (ald rfl ti57 (by decide) rfl (nle rfl) rfl), fun _ h => absurd rfl h, fun _ _ => ag_ (Qh3 rfl), fun _ _ => apk rfl rfl, trivial⟩) (⟨fun _ _ => ald rfl Zcw (by decide) rfl (nle rfl) rfl, fun _ _ => ald rfl ti57 (by decide) rfl (nle rfl) rfl, fun _ _ => Qjv rfl Try.underlying122 Try.underlying57 zb4 Qyb Qm9, fun _ _ => Qh3 rfl, fun _ _ => asb hb21 (amv rfl), fun _ _ => ag_ (amv rfl), fun _ _ => ag_ (ald rfl ti57 (by decide) rfl (nle rfl) rfl), fun _ h => absurd rfl h, fun _ _ => ag_ (Qh3 rfl), fun _ _ => apk rfl rfl, trivial⟩) ?_ ?_
      ·skip
       refine Qg6 (by kernel_rfl) ?_
       refine Qar ?_
       refine bln ?_
       refine thn ?_
       refine wx1 tbk [] trivial ?_
       refine thn ?_
       exact arm (mto (n := 36) [(0, (.lit (.func (.yield l) #[] #[]))), (2, .ref 1 1 0 0), (4, I y1), (9, (Qng p1)), (10, (I ((p1.length : Int)))), (11, I y1), (17, I x14), (18, (I (w64 (y15 + 1))))] [0, 1, 2, 3] [(Qpo p0 p1), (.own 1 [[(.mp 2)]]), (Qde p2), (.far (J (some (q22))))] hφ0 (pc rwl (pc (.rn (rqr rfl)) (pc rwl (pc (.rn (.plain _ (nld Qac _))) (pc rwl (pc rwl (pc rwl (pc rwl pn)))))))) (qc (spb (lc (.rn (.plain _ (nld Qai _))) (lc (.rn (.plain _ (nld Qac _))) ln))) (qc (spb (lc (.rn (Qht rfl)) ln)) (qc Qe0 (qc (.far _) qn))))) (ih ((w64 (y15 + 1)), q22) h)
      ·clear h
       refine Qbq (by kernel_rfl) ?_
       refine Qad ?_
       refine Qaw ?_
       refine Qaj ?_
       refine Qaj ?_
       refine Qaw ?_
       refine Qaw ?_
       refine Qaj ?_
       refine Qaj ?_
       refine Qaw ?_
       exact Or.inr (by kernel_rfl)
     ·replace h := Qa3 hb21 h
      refine wx tbk [(2, rb [(.tmp 24, (.mp 2)), (.tmp 25, (Qmm y1 y15))] [(2, (Qde p2))] (B (p2.contains (y1, y15)))), (4, rp [(.tmp 27, (B ((!(p2.contains (y1, y15))))))] (B false))] ⟨Qjv rfl Try.underlying122 Try.underlying57 zb4 Qyb Qm9, asb hb21 (amv rfl), trivial⟩ ?_
      refine Qg6 (by kernel_rfl) ?_
      refine Qar ?_
      refine bln ?_
      refine thn ?_
      refine wx1 tbk [] trivial ?_
      refine thn ?_
      exact arm (mto (n := 36) [(0, (.lit (.func (.yield l) #[] #[]))), (2, .ref 1 1 0 0), (4, I y1), (9, (Qng p1)), (10, (I ((p1.length : Int)))), (11, I y1), (17, I x14), (18, (I (w64 (y15 + 1))))] [0, 1, 2, 3] [(Qpo p0 p1), (.own 1 [[(.mp 2)]]), (Qde p2), (.far (J (some (q16))))] hφ0 (pc rwl (pc (.rn (rqr rfl)) (pc rwl (pc (.rn (.plain _ (nld Qac _))) (pc rwl (pc rwl (pc rwl (pc rwl pn)))))))) (qc (spb (lc (.rn (.plain _ (nld Qai _))) (lc (.rn (.plain _ (nld Qac _))) ln))) (qc (spb (lc (.rn (Qht rfl)) ln)) (qc Qe0 (qc (.far _) qn))))) (ih ((w64 (y15 + 1)), q16) h)
    ·replace h := Qa3 hc20 h
     refine wfn hc20 (by kernel_rfl) ?_
     refine Qcf ?_
     refine Qa8 ?_
     refine Qa8 ?_
     refine Qce rfl ?_
     refine bln ?_
     refine thn ?_
     exact ⟨((), q16), h, (mto (n := 36) [(0, (.lit (.func (.yield l) #[] #[]))), (2, .ref 1 1 0 0), (9, (Qng p1)), (10, (I ((p1.length : Int)))), (11, I y1)] [0, 1, 2, 3] [(Qpo p0 p1), (.own 1 [[(.mp 2)]]), (Qde p2), (.far (J (some (q16))))] hφ0 (pc rwl (pc (.rn (rqr rfl)) (pc (.rn (.plain _ (nld Qac _))) (pc rwl (pc rwl pn))))) (qc (spb (lc (.rn (.plain _ (nld Qai _))) (lc (.rn (.plain _ (nld Qac _))) ln))) (qc (spb (lc (.rn (Qht rfl)) ln)) (qc Qe0 (qc (.far _) qn)))))⟩
  ·replace h := Qa3 hc6 h
   refine wfn hc6 (by kernel_rfl) ?_
   refine Qcf ?_
   refine Qa8 ?_
   refine Qa8 ?_
   refine Qce rfl ?_
   obtain rfl := osi h
   exact Or.inl rfl
def Qbn (N : Nat) (k3 : (List GPort) → Option (List GPort)) : (List GPort) → (List GPort) → Option (List GPort)
  | [], y6 =>
    k3 (y6)
  | x9 :: q10, y6 =>
    chk (decide ((y6.length + ([x9]).length) * 16 ≤ 140737488355328)) <|
    Qbn N k3 q10 (y6 ++ ([x9]))
def Qdb (N : Nat) (p0 : (List GRow)) (p1 : (List GElement)) (p2 : (List (Int × Int))) : Option (List GPort) :=
  Qcv (fun y2 =>
    some y2) fun k3 : (List GPort) → Option (List GPort) =>
  (Qi2 N p0 p1 p2).bind fun q4 =>
  Qbn N k3 q4 ([])
def Zce : AV := .fn (.func 53) [] [(.ref 0 2 (0) 0), (.ref 1 1 (0) 0)]
def Q8a (p0 : (List GRow)) : AV := .dat 5 ((p0 : List GRow).map Qav)
def Q79 (p1 : (List GElement)) : AV := .dat 7 ((p1 : List GElement).map Qah)
def Q33 (y6 : (List GPort)) : AV := .acc 4 57 2 ((y6 : List GPort).map Qa7)
theorem Qgj (N : Nat) (p0 : (List GRow)) (p1 : (List GElement)) (p2 : (List (Int × Int))) (r : (List GPort)) (h : Qdb N p0 p1 p2 = some r) : Spec Try.prog 59 [nilS, Zce] [(.own 2 [[(Q8a p0), (Q79 p1)]]), (.own 1 [[(.mp 2)]]), (Qde p2)] (.dat 2 ((r : List GPort).map Qa7)) [.dead, .dead, .dead] := by
  refine Qag Try.func59 rfl 3 (nle rfl) (fun X φ0 w0 hφ0 hd0 => ?_)
  unfold Qdb at h
  refine Qbs ?_
  refine wx tbk [] trivial ?_
  obtain ⟨k3, hk_k3, h⟩ := jko h
  refine wjn (τ := (List GPort)) (fun t => k3 t = some r) (fun y2 => ⟨mk 13 [(2, .ref 3 1 0 0)], [.dead, .dead, .dead, (.own 1 [[(.acc 4 57 2 ((y2 : List GPort).map Qa7))]]), .tok]⟩) (fun y2 h => ?_) ?_
  ·subst hk_k3
   refine wx tbk [] trivial ?_
   refine wmr (mto (n := 13) (l' := [(4, (.dat 2 ((y2 : List GPort).map Qa7)))]) (own' := [.dead, .dead, .dead]) [(4, (.acc 4 57 2 ((y2 : List GPort).map Qa7)))] [0, 1, 2] [.dead, .dead, .dead] hφ0 (pc (.dat _ _ _ _ (Qei Qcp _)) pn) (qc .dead (qc .dead (qc .dead qn)))) ?_
   refine Qad ?_
   obtain rfl := osi h
   exact ⟨_, Mor.rfl, Qcx (vs := [(.dat 2 ((y2 : List GPort).map Qa7))]) ⟨rot (by kernel_rfl), trivial⟩ rfl (NLt.of0 (nld Qcp _)) (by kernel_rfl) (Qak .dead (Qak .dead (Qak .dead Qbo)))⟩
  ·skip
   refine wx tbk [] trivial ?_
   refine Qaq ?_
   obtain ⟨q4, hL5, h⟩ := bno h
   refine wmr (mto (n := 13) (l' := [(2, .ref 3 1 0 0), (6, Zce)]) (own' := [(.own 2 [[(Q8a p0), (Q79 p1)]]), (.own 1 [[(.mp 2)]]), (Qde p2), (.own 1 [[nilS]])]) [(2, .ref 3 1 0 0), (6, Zce)] [0, 1, 2, 3] [(.own 2 [[(Q8a p0), (Q79 p1)]]), (.own 1 [[(.mp 2)]]), (Qde p2), (.own 1 [[nilS]])] hφ0 (pc (.rn (rqr rfl)) (pc (.rn (Qbe rn0 (rnc (rqr rfl) (rnc (rqr rfl) rn0)))) pn)) (qc (spb (lc (.rn (.plain _ (nld Qai _))) (lc (.rn (.plain _ (nld Qac _))) ln))) (qc (spb (lc (.rn (Qht rfl)) ln)) (qc Qe0 (qc (spb (lc rwl ln)) qn))))) ?_
   refine wmr (Qtp (n := 4) (ty := 57) (m := 2) (q := 3) (mq := 1) (c := [nilS]) 0 (by kernel_rfl) (by kernel_rfl) (by kernel_rfl) (by decide)) ?_
   refine Qoy (τ := ((List GPort))) (kb := 4) (caps := [.ref 0 2 0 0, .ref 1 1 0 0]) (σr := [(.own 2 [[(Q8a p0), (Q79 p1)]]), (.own 1 [[(.mp 2)]]), (Qde p2)]) (encs := fun x => [(.agg #[(.int .i64 (x.Element)), (.int .i64 (x.Outlet))])]) (fun x => [(.agg [I x.Element, I x.Outlet])]) [0, 1, 2] (fun n hn => hφ0 n (Nat.le_trans (nle rfl) hn)) hd0 (Qm4 N p0 p1 p2 _ hL5) Zet (by kernel_rfl) (by kernel_rfl) (Qbr (rnc (Qbk rfl) (rnc (Qbk rfl) rn0))) (slc (Qal (rnc (.plain _ (nld Qai _)) (rnc (.plain _ (nld Qac _)) rn0))) (slc (Qal (rnc (Zap rfl) rn0)) (slc Qpv Qan))) (by kernel_rfl) (fun _ => rfl) (fun x => ⟨(Less.unlits [(.int .i64 (x.Element)), (.int .i64 (x.Outlet))]), trivial⟩) (Q5t (Ql4 (NLt.ref _ _ _ _ (by decide)) (Ql4 (NLt.fn _ _ _ nl0 (nlc (NLt.ref _ _ _ _ (by decide)) (nlc (NLt.ref _ _ _ _ (by decide)) nl0))) Qxp))) (fun y6 => [.dead, .dead, .dead, (.own 1 [[(Q33 y6)]]), .tok]) (fun _ => rfl) (fun _ => rfl) (fun l t => Qbn N k3 l t = some r) ([]) h (by kernel_rfl) ?_ ?_
   ·intro l11 o12 X15 φ16 w17 hφ14 x9 q10 y6 h
    rw [Qbn] at h
    refine wx1 tbk [] trivial ?_
    refine ⟨by kernel_rfl, fun o13 => ?_⟩
    refine Qaq ?_
    obtain ⟨ha18, h⟩ := cko h
    refine wx1 tbk [(2, rp [(.tmp 9, (.agg [I x9.Element, I x9.Outlet]))] (.dat 2 (([x9] : List GPort).map Qa7))), (3, ⟨[(.tmp 8, (Q33 y6)), (.tmp 10, (.dat 2 (([x9] : List GPort).map Qa7)))], [(4, .tok), (7, .unused)], (.acc 7 57 2 ((y6 ++ ([x9]) : List GPort).map Qa7)), [(4, .dead), (7, .tok)], false⟩)] ⟨Qbp (vs := [(.agg [I x9.Element, I x9.Outlet])]) rfl Try.underlying53 ti57 tz57 rfl (by decide) rfl (by decide) (by rfl) (by rfl) (by rfl) rfl, Qkv rfl Try.underlying53 te57 (Base.acc _ _) rfl rfl (by rfl) (Qo3 Qa7 ha18) (Qo2 Qa7 ha18 (by decide)) (Qo1 Qa7) rfl rfl, trivial⟩ ?_
    refine bln ?_
    exact ⟨(y6 ++ ([x9])), h, Q5d (own' := [.dead, .dead, .dead, (.own 1 [[(.acc 4 57 2 (((y6 ++ ([x9])) : List GPort).map Qa7))]]), .tok, (.far (farL l11 o13))]) [0, 1, 2, 3, 7, 5] [.dead, .dead, .dead, (.own 1 [[(.acc 7 57 2 ((y6 ++ ([x9]) : List GPort).map Qa7))]]), .tok, (.far (farL l11 o13))] (by kernel_rfl) (by kernel_rfl) ⟨.dead, .dead, .dead, (spb (lc (.rn (Qgn rfl (Qei Qcp _))) ln)), .tok, .far _, trivial⟩⟩
   ·intro y6 h
    rw [Qbn] at h
    refine bln ?_
    refine thn ?_
    exact ⟨(y6), h, (mto (n := 13) [(2, .ref 3 1 0 0)] [0, 1, 2, 3, 4] [.dead, .dead, .dead, (.own 1 [[(Q33 y6)]]), .tok] hφ0 (pc (.rn (rqr rfl)) pn) (qc .dead (qc .dead (qc .dead (qc (spb (lc (.rn (Qgn rfl (Qei Qcp _))) ln)) (qc .tok qn))))))⟩
def Qfa (N : Nat) (p0 : (List GRow)) (p1 : (List GElement)) (p2 : (List (Int × Int))) : Option (List GPort) :=
  (Qdb N p0 p1 p2).bind fun x3 =>
  some x3
def Zch : AV := .fn (.func 53) [] [(.ref 0 2 (0) 0), (.ref 1 1 (0) 0)]
def Zcg (p0 : (List GRow)) : AV := .dat 5 ((p0 : List GRow).map Qav)
def Zcf (p1 : (List GElement)) : AV := .dat 7 ((p1 : List GElement).map Qah)
def Q34 (x3 : (List GPort)) : AV := .dat 2 ((x3 : List GPort).map Qa7)
theorem Qis (N : Nat) (p0 : (List GRow)) (p1 : (List GElement)) (p2 : (List (Int × Int))) (r : (List GPort)) (h : Qfa N p0 p1 p2 = some r) : Spec Try.prog 33 [Zch] [(.own 2 [[(Zcg p0), (Zcf p1)]]), (.own 1 [[(.mp 2)]]), (Qde p2)] (.dat 2 ((r : List GPort).map Qa7)) [.dead, .dead, .dead] := by
  refine Qag Try.func33 rfl 3 (nle rfl) (fun X φ0 w0 hφ0 hd0 => ?_)
  unfold Qfa at h
  refine Qbs ?_
  refine wx tbk [] trivial ?_
  obtain ⟨x3, hf2, h⟩ := bno h
  refine wx tbk [(1, ⟨[fu 59, ((.const (.slice none 0 0)), nilS), (.tmp 3, Zch)], [(0, (.own 2 [[(Zcg p0), (Zcf p1)]])), (1, (.own 1 [[(.mp 2)]])), (2, (Qde p2))], (Q34 x3), [(0, .dead), (1, .dead), (2, .dead)], false⟩)] ⟨Qao (first := []) (cap := []) (vs := [nilS, Zch]) (σr := [(.own 2 [[(Zcg p0), (Zcf p1)]]), (.own 1 [[(.mp 2)]]), (Qde p2)]) (σr' := [.dead, .dead, .dead]) (res' := (Q34 x3)) [0, 1, 2] rfl Zeq (Qgj N p0 p1 p2 _ hf2) rfl (Qbr (rnc (.plain _ nll) (rnc (Qbe rn0 (rnc (Qbb rfl) (rnc (Qbb rfl) rn0))) rn0))) (slc (Qal (rnc (.plain _ (nld Qai _)) (rnc (.plain _ (nld Qac _)) rn0))) (slc (Qal (rnc (Zao rfl) rn0)) (slc Qpv Qan))) (slc .dead (slc .dead (slc .dead Qan))) (.plain _ (nld Qcp _)) rfl rfl rfl, trivial⟩ ?_
  refine wmr (mto (n := 5) (l' := [(2, (Q34 x3))]) (own' := [.dead, .dead, .dead]) [(2, (Q34 x3))] [0, 1, 2] [.dead, .dead, .dead] hφ0 (pc (.rn (.plain _ (nld Qcp _))) pn) (qc .dead (qc .dead (qc .dead qn)))) ?_
  refine Qad ?_
  obtain rfl := osi h
  exact ⟨_, Mor.rfl, Qcx (vs := [(Q34 x3)]) ⟨rot (by kernel_rfl), trivial⟩ rfl (NLt.of0 (nld Qcp _)) (by kernel_rfl) (Qak .dead (Qak .dead (Qak .dead Qbo)))⟩
def Qop (N : Nat) (p0 : GNet) : Option ((List GPort) × Int) :=
  (Qgc N p0).bind fun x2 =>
  bif (!x2) then
   some ([], 1)
  else
   (Qi3 N p0).bind fun x5 =>
   (Qfa N p0.Table p0.Elements x5).bind fun x7 =>
   some (x7, 0)
def Zf5 (p0 : GNet) : AV := .dat 7 ((p0.Elements : List GElement).map Qah)
def Q8c (p0 : GNet) : AV := .agg [(.dat 5 ((p0.Table : List GRow).map Qav)), (Zf5 p0)]
def Q8b : AV := .fn (.func 53) [] [(.ref 1 2 (0) 0), (.ref 2 1 (0) 0)]
def Q8d (p0 : GNet) : Slot := .own 2 [[(.dat 5 ((p0.Table : List GRow).map Qav)), (Zf5 p0)]]
def Zci (x7 : (List GPort)) : AV := .dat 2 ((x7 : List GPort).map Qa7)
theorem Qtl (N : Nat) (p0 : GNet) (r : ((List GPort) × Int)) (h : Qop N p0 = some r) : Spec Try.prog 13 [(.agg (Qpg p0))] [] (.tup [(.dat 2 (r.1.map Qa7)), (I r.2)]) [] := by
  refine Qag Try.func13 rfl 0 (nle rfl) (fun X φ0 w0 hφ0 hd0 => ?_)
  unfold Qop at h
  refine wx tbk [] trivial ?_
  refine wsq ?_
  obtain ⟨x2, hf1, h⟩ := bno h
  refine wx tbk [(1, rp [fu 32, (.tmp 4, (Q8c p0))] (B x2))] ⟨apc (first := []) (cap := []) (vs := [(Q8c p0)]) rfl Qtx (Qgq N p0 _ hf1) rfl rfl (nlc (NLt.agg _ (nlc (nld Qai _) (nlc (nld Qac _) nl0))) nl0) nll rfl, trivial⟩ ?_
  rcases bft ((!x2)) with hc3 | hc3
  ·replace h := Qa2 hc3 h
   refine wft hc3 (by kernel_rfl) ?_
   refine wx tbk [] trivial ?_
   refine Qad ?_
   refine Qaj ?_
   obtain rfl := osi h
   exact fend ⟨[(.dat 2 (([] : List GPort).map Qa7)), I 1], ⟨Qe4 (v := nilS) (rot (by kernel_rfl)) Less.nil, rot (by kernel_rfl), trivial⟩, rfl⟩ (NLt.tup _ (nlc (nld Qcp _) (nlc nll nl0)))
  ·replace h := Qa3 hc3 h
   refine wfn hc3 (by kernel_rfl) ?_
   refine Qar ?_
   refine thn ?_
   obtain ⟨x5, hf4, h⟩ := bno h
   obtain ⟨x7, hf6, h⟩ := bno h
   refine wx tbk [(1, ⟨[fu 30, (.tmp 7, (Q8c p0))], [(1, .unused), (2, .unused), (3, .unused)], Q8b, [(1, (Q8d p0)), (2, (.own 1 [[(.mp 3)]])), (3, (Qde x5))], false⟩), (2, ⟨[fu 33, (.tmp 8, Q8b)], [(1, (Q8d p0)), (2, (.own 1 [[(.mp 3)]])), (3, (Qde x5))], (Zci x7), [(1, .dead), (2, .dead), (3, .dead)], false⟩)] ⟨Qao (first := []) (cap := []) (vs := [(Q8c p0)]) (σr := []) (σr' := [(Q8d p0), (.own 1 [[(.mp 3)]]), (Qde x5)]) (res' := Q8b) [1, 2, 3] rfl Ze1 (Qm5 N p0 _ hf4) rfl (Qbr (rnc (.plain _ (NLt.agg _ (nlc (nld Qai _) (nlc (nld Qac _) nl0)))) rn0)) Qan (slc (Qal (rnc (.plain _ (nld Qai _)) (rnc (.plain _ (nld Qac _)) rn0))) (slc (Qal (rnc (Zap rfl) rn0)) (slc Qpv Qan))) (Qbe rn0 (rnc (Qbk rfl) (rnc (Qbk rfl) rn0))) rfl rfl rfl, Qao (first := []) (cap := []) (vs := [Q8b]) (σr := [(Q8d p0), (.own 1 [[(.mp 3)]]), (Qde x5)]) (σr' := [.dead, .dead, .dead]) (res' := (Zci x7)) [1, 2, 3] rfl Ze0 (Qis N p0.Table p0.Elements x5 _ hf6) rfl (Qbr (rnc (Qbe rn0 (rnc (Qbb rfl) (rnc (Qbb rfl) rn0))) rn0)) (slc (Qal (rnc (.plain _ (nld Qai _)) (rnc (.plain _ (nld Qac _)) rn0))) (slc (Qal (rnc (Zao rfl) rn0)) (slc Qpv Qan))) (slc .dead (slc .dead (slc .dead Qan))) (.plain _ (nld Qcp _)) rfl rfl rfl, trivial⟩ ?_
   refine Qad ?_
   obtain rfl := osi h
   exact fend ⟨[(Zci x7), I 0], ⟨rot (by kernel_rfl), rot (by kernel_rfl), trivial⟩, rfl⟩ (NLt.tup _ (nlc (nld Qcp _) (nlc nll nl0)))
end Go.Proofs.Ytmbhnllcfmiajaa
