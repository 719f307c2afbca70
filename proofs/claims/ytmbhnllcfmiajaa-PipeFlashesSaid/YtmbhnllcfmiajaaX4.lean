/-
  Functions of the program: what they compute, as plain functions, and that they do. No conditions.
-/
import Derived.Test.YtmbhnllcfmiajaaX3
namespace Go.Proofs.Ytmbhnllcfmiajaa
set_option maxRecDepth 100000
set_option maxHeartbeats 4000000
open Go.RowKit
def Qe1 (_N : Nat) (p0 : (List Int)) : Option Unit :=
  chk (!p0.isEmpty) <|
  chk (!p0.isEmpty) <|
  chk (decide ((0 + p0.length) * 8 ≤ 140737488355328)) <|
  some ()
def Zbr (p0 : (List Int)) : AV := .dat 1 ((p0 : List Int).map Qam)
def Q7x (p0 : (List Int)) : Slot := .own 1 ((p0 : List Int).map Qam)
def Zfw : AV := .acc 0 3 1 ((([] : List Int) : List Int).map Qam)
theorem Qjy (N : Nat) (p0 : (List Int)) (r : Unit) (h : Qe1 N p0 = some r) : Spec Try.prog 50 [(Zbr p0)] [] (.own 0 1 (0) (p0.length)) [(Q7x p0)] := by
  refine Qag Try.func50 rfl 1 (nle rfl) (fun X φ0 w0 hφ0 hd0 => ?_)
  unfold Qe1 at h
  refine Qbs ?_
  refine wx tbk [] trivial ?_
  refine wsq ?_
  obtain ⟨hz1, h⟩ := cko h
  refine wx tbk [(1, rp [(.tmp 3, (Zbr p0)), ((.const (.slice none 0 0)), nilS)] (B false))] ⟨Qyo rfl Try.underlying27 rfl (Qk6 hz1), trivial⟩ ?_
  refine Qg6 (by kernel_rfl) ?_
  refine Qar ?_
  refine thn ?_
  obtain ⟨ha3, h⟩ := cko h
  obtain ⟨ha2, h⟩ := cko h
  refine wx tbk [(0, ⟨[], [(0, .unused)], Zfw, [(0, .tok)], false⟩), (2, ⟨[(.tmp 5, Zfw), (.tmp 6, (Zbr p0))], [(0, .tok), (1, .unused)], (.own 1 1 (0) (p0.length)), [(0, .dead), (1, (Q7x p0))], false⟩)] ⟨Qt7 rfl Try.underlying27 ti3 tz3, Q2w rfl Try.underlying27 te3 (Base.acc _ _) rfl rfl (Qk6 ha3) (Q8y Qam Zdd _) (Q9s Qam ha2) (Q9r Qam ha2 (by decide)) (List.length_map _), trivial⟩ ?_
  refine wmr (mto (n := 8) (l' := [(2, (.own 0 1 (0) (p0.length)))]) (own' := [(Q7x p0)]) [(2, (.own 1 1 (0) (p0.length)))] [1] [(Q7x p0)] hφ0 (pc (.rn (Qba rfl)) pn) (qc (spr Qaf) qn)) ?_
  refine Qad ?_
  obtain rfl := osi h
  exact ⟨_, Mor.rfl, Qcx (vs := [(.own 0 1 (0) (p0.length))]) ⟨rot (by kernel_rfl), trivial⟩ rfl (NLt.own _ _ _ _ (by decide)) (by kernel_rfl) (Qak (Qcl Qaf _) Qbo)⟩
theorem Qoo : DRet Try.prog 51 [1, 1] := by
  refine Qpf (t := 5) (args := [.any, .any]) Try.func51 rfl (fun _ _ => rfl) (by kernel_rfl) Zc6 0 (nle rfl) (fun X φ0 w0 hφ0 => ?_)
  refine Qaq ?_
  refine wx tbk [(0, rp [(.tmp 5, (.lit .nilIface)), (.const .nilIface, (.lit .nilIface))] (B true))] ⟨Qv9 rfl Try.underlying20, trivial⟩ ?_
  refine Qbq (by kernel_rfl) ?_
  refine wx1 tbk [] trivial ?_
  refine bln ?_
  exact fend ⟨[], trivial, rfl⟩ (.tup _ nl0)
def Qfc (_N : Nat) (p0 : GElement) (p1 : Int) : Option Int :=
  chk (p0.Narrow != 0) <|
  (some (if (w64 (p0.Wide - (w64 (p1.tdiv p0.Narrow)))) > 0 then w64 (p0.Wide - (w64 (p1.tdiv p0.Narrow))) else 0)).bind fun x2 =>
  some x2
theorem Qh6 (N : Nat) (p0 : GElement) (p1 : Int) (r : Int) (h : Qfc N p0 p1 = some r) : Spec Try.prog 36 [(.agg (Qah p0)), (I p1)] [] (I r) [] := by
  refine Qag Try.func36 rfl 0 (nle rfl) (fun X φ0 w0 hφ0 hd0 => ?_)
  unfold Qfc at h
  refine wx tbk [] trivial ?_
  obtain ⟨hz1, h⟩ := cko h
  obtain ⟨x2, hl3, h⟩ := bno h
  refine wxd tbk [(5, rp [(.tmp 7, I p1), (.tmp 9, I p0.Narrow)] (I (w64 (p1.tdiv p0.Narrow)))), (7, rp [ci 0, (.tmp 11, (I (w64 (p0.Wide - (w64 (p1.tdiv p0.Narrow))))))] (I x2))] ⟨Qn4 rfl (Qnb hz1), Qjw hl3 (Qn5 rfl), trivial⟩ ?_
  refine Qad ?_
  obtain rfl := osi h
  exact fend ⟨[I x2], ⟨rot (by kernel_rfl), trivial⟩, rfl⟩ nll
def Qf8 (_N : Nat) (_p0 : Int) (_p1 : (List GRow)) (_p2 : (List GElement)) (_p3 : Nat) (_p4 : Nat) (_p5 : Nat) (_p6 : (List GStream)) (_p7 : Int) (_p8 : (List (List GStream))) (_p9 : (List GLost)) (_p10 : (List Int)) : Option Unit :=
  some ()
def Q7w (p1 : (List GRow)) (p2 : (List GElement)) (p3 : Nat) (p4 : Nat) (p5 : Nat) (p6 : (List GStream)) (p7 : Int) : Slot := .own 7 [[(.dat 5 ((p1 : List GRow).map Qav)), (.dat 7 ((p2 : List GElement).map Qah)), (.own 1 1 (0) (p3)), (.own 2 4 (0) (p4)), (.own 3 1 (0) (p5)), (.dat 4 ((p6 : List GStream).map Qaa)), (I (p7))]]
def Q7v (p8 : (List (List GStream))) : Slot := .own 1 ((p8 : List (List GStream)).map Qab)
def Q7u (p9 : (List GLost)) : Slot := .own 4 ((p9 : List GLost).map Qax)
def Q7t (p10 : (List Int)) : Slot := .own 1 ((p10 : List Int).map Qam)
def Q3o : AV := .fn (.func 90) [] [(.ref 4 1 (0) 0), (.ref 5 1 (0) 0)]
def Zbo : Slot := .own 1 [[(.ref 0 7 (0) 0)]]
theorem Qmf (N : Nat) (p0 : Int) (p1 : (List GRow)) (p2 : (List GElement)) (p3 : Nat) (p4 : Nat) (p5 : Nat) (p6 : (List GStream)) (p7 : Int) (p8 : (List (List GStream))) (p9 : (List GLost)) (p10 : (List Int)) (r : Unit) (h : Qf8 N p0 p1 p2 p3 p4 p5 p6 p7 p8 p9 p10 = some r) : Spec Try.prog 74 [(.ref 0 7 (0) 0), (I (p0))] [(Q7w p1 p2 p3 p4 p5 p6 p7), (Q7v p8), (Q7u p9), (Q7t p10)] Q3o [(Q7w p1 p2 p3 p4 p5 p6 p7), (Q7v p8), (Q7u p9), (Q7t p10), Zbo, (.own 1 [[(I (p0))]])] := by
  refine Qag Try.func74 rfl 6 (nle rfl) (fun X φ0 w0 hφ0 hd0 => ?_)
  unfold Qf8 at h
  refine Qbs ?_
  refine wx tbk [] trivial ?_
  refine wx tbk [(0, rp [(.tmp 2, .ref 4 1 0 0), (.tmp 3, .ref 5 1 0 0)] Q3o)] ⟨Qej (fs := []) (cs := [.ref 4 1 0 0, .ref 5 1 0 0]) rfl rfl rfl rfl, trivial⟩ ?_
  refine wmr (mto (n := 6) (l' := [(4, Q3o)]) (own' := [(Q7w p1 p2 p3 p4 p5 p6 p7), (Q7v p8), (Q7u p9), (Q7t p10), Zbo, (.own 1 [[I p0]])]) [(4, Q3o)] [0, 1, 2, 3, 4, 5] [(Q7w p1 p2 p3 p4 p5 p6 p7), (Q7v p8), (Q7u p9), (Q7t p10), Zbo, (.own 1 [[I p0]])] hφ0 (pc (.rn (Qbe rn0 (rnc (rqr rfl) (rnc (rqr rfl) rn0)))) pn) (qc (spb (lc (.rn (.plain _ (nld Qai _))) (lc (.rn (.plain _ (nld Qac _))) (lc (.rn (Qba rfl)) (lc (.rn (Qba rfl)) (lc (.rn (Qba rfl)) (lc (.rn (.plain _ (nld Qae _))) (lc rwl ln)))))))) (qc (spr Qap) (qc (spr Qa1) (qc (spr Qaf) (qc (spb (lc (.rn (rqr rfl)) ln)) (qc (spb (lc rwl ln)) qn))))))) ?_
  refine Qad ?_
  obtain rfl := osi h
  exact ⟨_, Mor.rfl, Qcx (vs := [Q3o]) ⟨rot (by kernel_rfl), trivial⟩ rfl (NLt.fn _ _ _ nl0 (nlc (NLt.ref _ _ _ _ (by decide)) (nlc (NLt.ref _ _ _ _ (by decide)) nl0))) (by kernel_rfl) (Qak (Qa6 (nlc (NLt.of0 (nld Qai _)) (nlc (NLt.of0 (nld Qac _)) (nlc (NLt.own _ _ _ _ (by decide)) (nlc (NLt.own _ _ _ _ (by decide)) (nlc (NLt.own _ _ _ _ (by decide)) (nlc (NLt.of0 (nld Qae _)) (nlc (NLt.of0 nll) nl0)))))))) (Qak (Qcl Qap _) (Qak (Qcl Qa1 _) (Qak (Qcl Qaf _) (Qak (Qa6 (nlc (NLt.ref _ _ _ _ (by decide)) nl0)) (Qak (Qa6 (nlc (NLt.of0 nll) nl0)) Qbo))))))⟩
def Qch (N : Nat) (p0 : (List Int)) (k1 : Unit → Option Int) (p1 : Int) : Nat → Int → Option Int
  | 0, _ => none
  | n4 + 1, y2 =>
    bif (decide (y2 < (p0.length : Int))) then
     (getI p0 y2).bind fun x6 =>
     bif (p1 == x6) then
      some y2
     else
      Qch N p0 k1 p1 n4 (w64 (y2 + 1))
    else
     k1 ()
def Qeo (N : Nat) (p0 : (List Int)) (p1 : Int) : Option Int :=
  Qcv (fun _ =>
    some (-1)) fun k1 : Unit → Option Int =>
  Qch N p0 k1 p1 N 0
def Q1b (p0 : (List Int)) : AV := .dat 1 ((p0 : List Int).map Qam)
theorem Qhg (N : Nat) (p0 : (List Int)) (p1 : Int) (r : Int) (h : Qeo N p0 p1 = some r) : Spec Try.prog 91 [(.dat 1 (p0.map Qam)), (I p1)] [] (I r) [] := by
  refine Qag Try.func91 rfl 0 (nle rfl) (fun X φ0 w0 hφ0 hd0 => ?_)
  unfold Qeo at h
  refine wx tbk [] trivial ?_
  obtain ⟨k1, hk_k1, h⟩ := jko h
  refine wjn (τ := Unit) (fun t => k1 t = some r) (fun _ => ⟨mk 19 [], []⟩) (fun t h => ?_) ?_
  ·subst hk_k1
   refine wx tbk [] trivial ?_
   refine Qad ?_
   obtain rfl := osi h
   exact fend ⟨[(I ((-1)))], ⟨rot (by kernel_rfl), trivial⟩, rfl⟩ nll
  ·skip
   refine wx tbk [(1, rp [(.tmp 6, (Q1b p0))] (I ((p0.length : Int))))] ⟨alm (c := Qam) (l := p0) (aln rfl Try.underlying27 rfl), trivial⟩ ?_
   refine Qaq ?_
   refine wmr (mto (n := 19) (l' := [(0, (Q1b p0)), (1, I p1), (7, (I ((p0.length : Int)))), (8, I 0)]) (own' := []) [(0, (Q1b p0)), (1, I p1), (7, (I ((p0.length : Int)))), (8, I 0)] [] [] hφ0 (pc (.rn (.plain _ (nld Qaf _))) (pc rwl (pc rwl (pc rwl pn)))) qn) ?_
   refine Qc9 (τ := Int) (fun n t => Qch N p0 k1 p1 n t = some r) (fun y2 => ⟨mk 19 [(0, (Q1b p0)), (1, I p1), (7, (I ((p0.length : Int)))), (8, I y2)], []⟩) (fun t h => by rw [Qch] at h; cases h) (fun n4 ih y2 h => ?_) N (0) h
   rw [Qch] at h
   skip
   refine wx tbk [] trivial ?_
   refine wsq ?_
   rcases bft ((decide (y2 < (p0.length : Int)))) with hc5 | hc5
   ·replace h := Qa2 hc5 h
    refine wft hc5 (by kernel_rfl) ?_
    refine Qar ?_
    refine thn ?_
    refine wsq ?_
    refine Qaq ?_
    refine wx tbk [] trivial ?_
    obtain ⟨x6, hg7, h⟩ := bno h
    obtain ⟨hi8, hj9⟩ := gsm hg7
    refine wx tbk [(3, rp [(.tmp 12, (Q1b p0)), (.tmp 13, I y2)] (.dptr (Qam (x6)) 0))] ⟨aid rfl Try.underlying27 ti3 rfl rfl hi8 (mgt Qam hj9) rfl, trivial⟩ ?_
    rcases bft ((p1 == x6)) with hc10 | hc10
    ·replace h := Qa2 hc10 h
     refine wft hc10 (by kernel_rfl) ?_
     refine wx tbk [] trivial ?_
     refine Qad ?_
     refine Qaw ?_
     refine Qaj ?_
     refine Qaj ?_
     refine Qaw ?_
     refine Qaj ?_
     obtain rfl := osi h
     exact fend ⟨[I y2], ⟨rot (by kernel_rfl), trivial⟩, rfl⟩ nll
    ·replace h := Qa3 hc10 h
     refine wfn hc10 (by kernel_rfl) ?_
     refine Qar ?_
     refine bln ?_
     refine thn ?_
     refine wx1 tbk [] trivial ?_
     refine thn ?_
     exact arm (mto (n := 19) [(0, (Q1b p0)), (1, I p1), (7, (I ((p0.length : Int)))), (8, (I (w64 (y2 + 1))))] [] [] hφ0 (pc (.rn (.plain _ (nld Qaf _))) (pc rwl (pc rwl (pc rwl pn)))) qn) (ih (w64 (y2 + 1)) h)
   ·replace h := Qa3 hc5 h
    refine wfn hc5 (by kernel_rfl) ?_
    refine Qcf ?_
    refine Qa8 ?_
    refine Qa8 ?_
    refine Qce rfl ?_
    refine thn ?_
    exact ⟨(), h, (mto (n := 19) [] [] [] hφ0 pn qn)⟩
def Qc3 (N : Nat) (x1 : GElement) (p2 : (List (List GStream))) : Nat → Int → Option (List GStream)
  | 0, _ => none
  | n19 + 1, y15 =>
    bif (decide (y15 < (x1.From.length : Int))) then
     (getI x1.From y15).bind fun x21 =>
     (getI p2 x21.Element).bind fun x25 =>
     (getI x25 x21.Outlet).bind fun x29 =>
     yld x29 <|
     Qc3 N x1 p2 n19 (w64 (y15 + 1))
    else
     some ([])
def Qf7 (N : Nat) (p0 : (List GRow)) (p1 : (List GElement)) (p2 : (List (List GStream))) (_p3 : (List GLost)) (_p4 : (List Int)) (p5 : (List GStream)) (_p6 : Int) (p7 : Int) : Option (List GStream) :=
  (getI p1 p7).bind fun x1 =>
  bif (x1.Kind == 1) then
   (Qhh N (⟨p0, p1⟩ : GNet) 1).bind fun x7 =>
   (Qeo N x7 p7).bind fun x9 =>
   (getI p5 x9).bind fun x10 =>
   yld x10 <|
   some ([])
  else
   Qc3 N x1 p2 N 0
def Qfy (p0 : (List GRow)) : AV := .dat 5 ((p0 : List GRow).map Qav)
def Qfl (p1 : (List GElement)) : AV := .dat 7 ((p1 : List GElement).map Qah)
def Qfj (p2 : (List (List GStream))) : AV := .dat 1 ((p2 : List (List GStream)).map Qab)
def Qf5 (p3 : (List GLost)) : AV := .dat 4 ((p3 : List GLost).map Qax)
def Qf4 (p4 : (List Int)) : AV := .dat 1 ((p4 : List Int).map Qam)
def Qfi (p5 : (List GStream)) : AV := .dat 4 ((p5 : List GStream).map Qaa)
def Q1e (p0 : (List GRow)) (p1 : (List GElement)) : AV := .agg [(Qfy p0), (Qfl p1)]
def Q1d (x7 : (List Int)) : AV := .dat 1 ((x7 : List Int).map Qam)
def Q7s (x10 : GStream) : AV := .agg [(I (x10.Mass)), (I (x10.Heat)), (I (x10.Silica)), (I (x10.Gas))]
def Q1c (x1 : GElement) : AV := .dat 2 ((x1.From : List GPort).map Qa7)
def Qo8 (x21 : GPort) : Slot := .own 2 [[(I (x21.Element)), (I (x21.Outlet))]]
def Qze (x25 : (List GStream)) : AV := .dat 4 ((x25 : List GStream).map Qaa)
def Qzd (x29 : GStream) : AV := .agg [(I (x29.Mass)), (I (x29.Heat)), (I (x29.Silica)), (I (x29.Gas))]
theorem Qme (N : Nat) (p0 : (List GRow)) (p1 : (List GElement)) (p2 : (List (List GStream))) (p3 : (List GLost)) (p4 : (List Int)) (p5 : (List GStream)) (p6 : Int) (p7 : Int) (r : (List GStream)) (h : Qf7 N p0 p1 p2 p3 p4 p5 p6 p7 = some r) : Qo4 Try.prog 90 [(.dptr [(.dptr [(Qfy p0), (Qfl p1), (Qfj p2), (Qf5 p3), (Qf4 p4), (Qfi p5), (I (p6))] 0)] 0), (.dptr [(I (p7))] 0)] [] (fun x => [(.agg #[(.int .i64 (x.Mass)), (.int .i64 (x.Heat)), (.int .i64 (x.Silica)), (.int .i64 (x.Gas))])]) r := by
  refine Qok Try.func90 rfl rfl (fun X φ0 w0 l J hφ0 hy => ?_)
  unfold Qf7 at h
  refine wsq ?_
  obtain ⟨x1, hg2, h⟩ := bno h
  obtain ⟨hi3, hj4⟩ := gsm hg2
  refine wxd tbk [(6, rp [(.tmp 10, (Qfl p1)), (.tmp 11, I p7)] (.dptr (Qah (x1)) 0))] ⟨aid rfl Try.underlying40 ti76 rfl rfl hi3 (mgt Qah hj4) rfl, trivial⟩ ?_
  rcases bft ((x1.Kind == 1)) with hc5 | hc5
  ·replace h := Qa2 hc5 h
   refine wft hc5 (by kernel_rfl) ?_
   obtain ⟨x7, hf6, h⟩ := bno h
   obtain ⟨x9, hf8, h⟩ := bno h
   obtain ⟨x10, hg11, h⟩ := bno h
   obtain ⟨hi12, hj13⟩ := gsm hg11
   obtain ⟨q14, hy_, hq_⟩ := Qs9 h
   clear h
   subst hq_
   have h := hy_
   clear hy_
   refine Qv7 14 [mv 0 (.lit (.func (.yield l) #[] #[])), rp [(.tmp 1, (.dptr [(.dptr [(Qfy p0), (Qfl p1), (Qfj p2), (Qf5 p3), (Qf4 p4), (Qfi p5), I p6] 0)] 0))] (.dptr [(Qfy p0), (Qfl p1), (Qfj p2), (Qf5 p3), (Qf4 p4), (Qfi p5), I p6] 0), mv 17 (.dptr [(Qfy p0), (Qfl p1), (Qfj p2), (Qf5 p3), (Qf4 p4), (Qfi p5), I p6] 0), rp [(.tmp 18, (.dptr [(Qfy p0), (Qfl p1), (Qfj p2), (Qf5 p3), (Qf4 p4), (Qfi p5), I p6] 0))] (.dptr [(Qfy p0), (Qfl p1), (Qfj p2), (Qf5 p3), (Qf4 p4), (Qfi p5), I p6] 5), rp [(.tmp 19, (.dptr [(Qfy p0), (Qfl p1), (Qfj p2), (Qf5 p3), (Qf4 p4), (Qfi p5), I p6] 5))] (Qfi p5), rp [(.tmp 1, (.dptr [(.dptr [(Qfy p0), (Qfl p1), (Qfj p2), (Qf5 p3), (Qf4 p4), (Qfi p5), I p6] 0)] 0))] (.dptr [(Qfy p0), (Qfl p1), (Qfj p2), (Qf5 p3), (Qf4 p4), (Qfi p5), I p6] 0), mv 21 (.dptr [(Qfy p0), (Qfl p1), (Qfj p2), (Qf5 p3), (Qf4 p4), (Qfi p5), I p6] 0), mv 22 (.dptr [(Qfy p0), (Qfl p1), (Qfj p2), (Qf5 p3), (Qf4 p4), (Qfi p5), I p6] 0), rp [(.tmp 23, (.dptr [(Qfy p0), (Qfl p1), (Qfj p2), (Qf5 p3), (Qf4 p4), (Qfi p5), I p6] 0))] (Q1e p0 p1), rp [fu 70, (.tmp 24, (Q1e p0 p1)), (.const (.int .u8 1), (K .u8 (1)))] (Q1d x7), rp [(.tmp 2, (.dptr [I p7] 0))] (I p7), rp [fu 91, (.tmp 25, (Q1d x7)), (.tmp 26, I p7)] (I x9), rp [(.tmp 20, (Qfi p5)), (.tmp 27, I x9)] (.dptr (Qaa (x10)) 0), rp [(.tmp 28, (.dptr (Qaa (x10)) 0))] (Q7s x10), ⟨[(.tmp 16, (.lit (.func (.yield l) #[] #[]))), (.tmp 29, (Q7s x10))], [(0, (.far (J (some (x10 :: q14)))))], B true, [(0, (.far (J (some (q14)))))], false⟩] [mv 0 (.lit (.func (.yield l) #[] #[])), rp [(.tmp 1, (.dptr [(.dptr [(Qfy p0), (Qfl p1), (Qfj p2), (Qf5 p3), (Qf4 p4), (Qfi p5), I p6] 0)] 0))] (.dptr [(Qfy p0), (Qfl p1), (Qfj p2), (Qf5 p3), (Qf4 p4), (Qfi p5), I p6] 0), mv 17 (.dptr [(Qfy p0), (Qfl p1), (Qfj p2), (Qf5 p3), (Qf4 p4), (Qfi p5), I p6] 0), rp [(.tmp 18, (.dptr [(Qfy p0), (Qfl p1), (Qfj p2), (Qf5 p3), (Qf4 p4), (Qfi p5), I p6] 0))] (.dptr [(Qfy p0), (Qfl p1), (Qfj p2), (Qf5 p3), (Qf4 p4), (Qfi p5), I p6] 5), rp [(.tmp 19, (.dptr [(Qfy p0), (Qfl p1), (Qfj p2), (Qf5 p3), (Qf4 p4), (Qfi p5), I p6] 5))] (Qfi p5), rp [(.tmp 1, (.dptr [(.dptr [(Qfy p0), (Qfl p1), (Qfj p2), (Qf5 p3), (Qf4 p4), (Qfi p5), I p6] 0)] 0))] (.dptr [(Qfy p0), (Qfl p1), (Qfj p2), (Qf5 p3), (Qf4 p4), (Qfi p5), I p6] 0), mv 21 (.dptr [(Qfy p0), (Qfl p1), (Qfj p2), (Qf5 p3), (Qf4 p4), (Qfi p5), I p6] 0), mv 22 (.dptr [(Qfy p0), (Qfl p1), (Qfj p2), (Qf5 p3), (Qf4 p4), (Qfi p5), I p6] 0), rp [(.tmp 23, (.dptr [(Qfy p0), (Qfl p1), (Qfj p2), (Qf5 p3), (Qf4 p4), (Qfi p5), I p6] 0))] (Q1e p0 p1), rp [fu 70, (.tmp 24, (Q1e p0 p1)), (.const (.int .u8 1), (K .u8 (1)))] (Q1d x7), rp [(.tmp 2, (.dptr [I p7] 0))] (I p7), rp [fu 91, (.tmp 25, (Q1d x7)), (.tmp 26, I p7)] (I x9), rp [(.tmp 20, (Qfi p5)), (.tmp 27, I x9)] (.dptr (Qaa (x10)) 0), rp [(.tmp 28, (.dptr (Qaa (x10)) 0))] (Q7s x10), ⟨[(.tmp 16, (.lit (.func (.yield l) #[] #[]))), (.tmp 29, (Q7s x10))], [(0, (.far (J (some (x10 :: q14)))))], B false, [(0, (.far (J none)))], false⟩] (by exact ⟨by kernel_rfl, by kernel_rfl⟩) (by exact ⟨by kernel_rfl, by kernel_rfl⟩) rfl rfl rfl rfl (Qla (rd' := (.tmp 16, .lit (.func (.yield l) #[] #[])) :: [(.tmp 29, .lit (.agg #[(.int .i64 (x10.Mass)), (.int .i64 (x10.Heat)), (.int .i64 (x10.Silica)), (.int .i64 (x10.Gas))]))]) ⟨rfl, lrf, rfl, (Less.lits [(.int .i64 (x10.Mass)), (.int .i64 (x10.Heat)), (.int .i64 (x10.Silica)), (.int .i64 (x10.Gas))]), trivial⟩ (Qj5 (x := x10) (rest := q14) rfl rfl hy rfl)) (⟨fun _ _ => amv rfl, fun _ _ => ald_ rfl ti89 (by decide) (nle rfl) rfl, fun _ _ => anc rfl rfl, fun _ _ => afd rfl Try.underlying93 rfl rfl ti45 (by decide) rfl, fun _ _ => ald_ rfl ti45 (by decide) (nle rfl) rfl, fun _ _ => ald_ rfl ti89 (by decide) (nle rfl) rfl, fun _ _ => anc rfl rfl, fun _ _ => afd rfl Try.underlying93 rfl rfl ti42 (by decide) rfl, fun _ _ => ald_ rfl ti42 (by decide) (nle rfl) rfl, fun _ _ => apc (first := []) (cap := []) (vs := [(Q1e p0 p1), (K .u8 (1))]) rfl Qtv (Qhw N (⟨p0, p1⟩ : GNet) 1 _ hf6) rfl rfl (nlc (NLt.agg _ (nlc (nld Qai _) (nlc (nld Qac _) nl0))) (nlc nll nl0)) (nld Qaf _) rfl, fun _ _ => ald_ rfl ti3 (by decide) (nle rfl) rfl, fun _ _ => apc (first := []) (cap := []) (vs := [(Q1d x7), I p7]) rfl Q6f (Qhg N x7 p7 _ hf8) rfl rfl (nlc (nld Qaf _) (nlc nll nl0)) nll rfl, fun _ _ => aid rfl Try.underlying45 ti48 rfl rfl hi12 (mgt Qaa hj13) rfl, fun _ _ => ald_ rfl ti48 (by decide) (nle rfl) rfl, fun _ h => absurd rfl h, trivial⟩) (⟨fun _ _ => amv rfl, fun _ _ => ald_ rfl ti89 (by decide) (nle rfl) rfl, fun _ _ => anc rfl rfl, fun _ _ => afd rfl Try.underlying93 rfl rfl ti45 (by decide) rfl, fun _ _ => ald_ rfl ti45 (by decide) (nle rfl) rfl, fun _ _ => ald_ rfl ti89 (by decide) (nle rfl) rfl, fun _ _ => anc rfl rfl, fun _ _ => afd rfl Try.underlying93 rfl rfl ti42 (by decide) rfl, fun _ _ => ald_ rfl ti42 (by decide) (nle rfl) rfl, fun _ _ => apc (first := []) (cap := []) (vs := [(Q1e p0 p1), (K .u8 (1))]) rfl Qtv (Qhw N (⟨p0, p1⟩ : GNet) 1 _ hf6) rfl rfl (nlc (NLt.agg _ (nlc (nld Qai _) (nlc (nld Qac _) nl0))) (nlc nll nl0)) (nld Qaf _) rfl, fun _ _ => ald_ rfl ti3 (by decide) (nle rfl) rfl, fun _ _ => apc (first := []) (cap := []) (vs := [(Q1d x7), I p7]) rfl Q6f (Qhg N x7 p7 _ hf8) rfl rfl (nlc (nld Qaf _) (nlc nll nl0)) nll rfl, fun _ _ => aid rfl Try.underlying45 ti48 rfl rfl hi12 (mgt Qaa hj13) rfl, fun _ _ => ald_ rfl ti48 (by decide) (nle rfl) rfl, fun _ h => absurd rfl h, trivial⟩) ?_ ?_
   ·skip
    refine Qad ?_
    refine Qaj ?_
    obtain rfl := osi h
    exact Or.inl rfl
   ·clear h
    refine Qad ?_
    refine Qaj ?_
    exact Or.inr (by kernel_rfl)
  ·replace h := Qa3 hc5 h
   refine wfn hc5 (by kernel_rfl) ?_
   refine Qar ?_
   refine thn ?_
   refine wxd tbk [(6, rp [(.tmp 35, (Qfl p1)), (.tmp 36, I p7)] (.dptr (Qah (x1)) 0)), (9, rp [(.tmp 39, (Q1c x1))] (I ((x1.From.length : Int))))] ⟨aid rfl Try.underlying40 ti76 rfl rfl hi3 (mgt Qah hj4) rfl, alm (c := Qa7) (l := x1.From) (aln rfl Try.underlying53 rfl), trivial⟩ ?_
   refine Qaq ?_
   refine wmr (mto (n := 62) (l' := [(0, (.lit (.func (.yield l) #[] #[]))), (1, (.dptr [(.dptr [(Qfy p0), (Qfl p1), (Qfj p2), (Qf5 p3), (Qf4 p4), (Qfi p5), I p6] 0)] 0)), (39, (Q1c x1)), (40, (I ((x1.From.length : Int)))), (41, I 0)]) (own' := [(.far (J (some (r))))]) [(0, (.lit (.func (.yield l) #[] #[]))), (1, (.dptr [(.dptr [(Qfy p0), (Qfl p1), (Qfj p2), (Qf5 p3), (Qf4 p4), (Qfi p5), I p6] 0)] 0)), (39, (Q1c x1)), (40, (I ((x1.From.length : Int)))), (41, I 0)] [0] [(.far (J (some (r))))] hφ0 (pc rwl (pc (.rn (.plain _ (NLt.dptr _ _ (nlc (NLt.dptr _ _ (nlc (nld Qai _) (nlc (nld Qac _) (nlc (nld Qap _) (nlc (nld Qa1 _) (nlc (nld Qaf _) (nlc (nld Qae _) (nlc nll nl0)))))))) nl0)))) (pc (.rn (.plain _ (nld Qcp _))) (pc rwl (pc rwl pn))))) (qc (.far _) qn)) ?_
   refine Qc9 (τ := (Int) × List GStream) (fun n t => Qc3 N x1 p2 n t.1 = some t.2) (fun ⟨y15, q16⟩ => ⟨mk 62 [(0, (.lit (.func (.yield l) #[] #[]))), (1, (.dptr [(.dptr [(Qfy p0), (Qfl p1), (Qfj p2), (Qf5 p3), (Qf4 p4), (Qfi p5), I p6] 0)] 0)), (39, (Q1c x1)), (40, (I ((x1.From.length : Int)))), (41, I y15)], [(.far (J (some (q16))))]⟩) (fun t h => by rw [Qc3] at h; cases h) (fun n19 ih t h => ?_) N ((0), r) h
   obtain ⟨y15, q16⟩ := t
   rw [Qc3] at h
   try dsimp only at h
   refine wx tbk [] trivial ?_
   refine wsq ?_
   rcases bft ((decide (y15 < (x1.From.length : Int)))) with hc20 | hc20
   ·replace h := Qa2 hc20 h
    refine wft hc20 (by kernel_rfl) ?_
    refine Qar ?_
    refine thn ?_
    refine wsq ?_
    refine Qaq ?_
    obtain ⟨x21, hg22, h⟩ := bno h
    obtain ⟨hi23, hj24⟩ := gsm hg22
    refine wx tbk [(0, rp [(.tmp 39, (Q1c x1)), (.tmp 41, I y15)] (.dptr (Qa7 (x21)) 0))] ⟨aid rfl Try.underlying53 ti57 rfl rfl hi23 (mgt Qa7 hj24) rfl, trivial⟩ ?_
    obtain ⟨x25, hg26, h⟩ := bno h
    obtain ⟨hi27, hj28⟩ := gsm hg26
    obtain ⟨x29, hg30, h⟩ := bno h
    obtain ⟨hi31, hj32⟩ := gsm hg30
    obtain ⟨q33, hy_, hq_⟩ := Qs9 h
    clear h
    subst hq_
    have h := hy_
    clear hy_
    refine Qv7 14 [mv 0 (.lit (.func (.yield l) #[] #[])), rp [(.tmp 1, (.dptr [(.dptr [(Qfy p0), (Qfl p1), (Qfj p2), (Qf5 p3), (Qf4 p4), (Qfi p5), I p6] 0)] 0))] (.dptr [(Qfy p0), (Qfl p1), (Qfj p2), (Qf5 p3), (Qf4 p4), (Qfi p5), I p6] 0), mv 46 (.dptr [(Qfy p0), (Qfl p1), (Qfj p2), (Qf5 p3), (Qf4 p4), (Qfi p5), I p6] 0), rp [(.tmp 47, (.dptr [(Qfy p0), (Qfl p1), (Qfj p2), (Qf5 p3), (Qf4 p4), (Qfi p5), I p6] 0))] (.dptr [(Qfy p0), (Qfl p1), (Qfj p2), (Qf5 p3), (Qf4 p4), (Qfi p5), I p6] 2), mv 48 (.dptr [(Qfy p0), (Qfl p1), (Qfj p2), (Qf5 p3), (Qf4 p4), (Qfi p5), I p6] 2), rp [(.tmp 49, (.dptr [(Qfy p0), (Qfl p1), (Qfj p2), (Qf5 p3), (Qf4 p4), (Qfi p5), I p6] 2))] (Qfj p2), rb [(.tmp 5, .ref 1 2 0 0)] [(1, (Qo8 x21))] (.ref 1 2 0 0), rb [(.tmp 51, .ref 1 2 0 0)] [(1, (Qo8 x21))] (I x21.Element), rp [(.tmp 50, (Qfj p2)), (.tmp 52, I x21.Element)] (.dptr (Qab (x25)) 0), rp [(.tmp 53, (.dptr (Qab (x25)) 0))] (Qze x25), rb [(.tmp 5, .ref 1 2 0 0)] [(1, (Qo8 x21))] (.ref 1 2 0 1), rb [(.tmp 55, .ref 1 2 0 1)] [(1, (Qo8 x21))] (I x21.Outlet), rp [(.tmp 54, (Qze x25)), (.tmp 56, I x21.Outlet)] (.dptr (Qaa (x29)) 0), rp [(.tmp 57, (.dptr (Qaa (x29)) 0))] (Qzd x29), ⟨[(.tmp 45, (.lit (.func (.yield l) #[] #[]))), (.tmp 58, (Qzd x29))], [(0, (.far (J (some (x29 :: q33)))))], B true, [(0, (.far (J (some (q33)))))], false⟩, rp [(.tmp 59, B true)] (B false)] [mv 0 (.lit (.func (.yield l) #[] #[])), rp [(.tmp 1, (.dptr [(.dptr [(Qfy p0), (Qfl p1), (Qfj p2), (Qf5 p3), (Qf4 p4), (Qfi p5), I p6] 0)] 0))] (.dptr [(Qfy p0), (Qfl p1), (Qfj p2), (Qf5 p3), (Qf4 p4), (Qfi p5), I p6] 0), mv 46 (.dptr [(Qfy p0), (Qfl p1), (Qfj p2), (Qf5 p3), (Qf4 p4), (Qfi p5), I p6] 0), rp [(.tmp 47, (.dptr [(Qfy p0), (Qfl p1), (Qfj p2), (Qf5 p3), (Qf4 p4), (Qfi p5), I p6] 0))] (.dptr [(Qfy p0), (Qfl p1), (Qfj p2), (Qf5 p3), (Qf4 p4), (Qfi p5), I p6] 2), mv 48 (.dptr [(Qfy p0), (Qfl p1), (Qfj p2), (Qf5 p3), (Qf4 p4), (Qfi p5), I p6] 2), rp [(.tmp 49, (.dptr [(Qfy p0), (Qfl p1), (Qfj p2), (Qf5 p3), (Qf4 p4), (Qfi p5), I p6] 2))] (Qfj p2), rb [(.tmp 5, .ref 1 2 0 0)] [(1, (Qo8 x21))] (.ref 1 2 0 0), rb [(.tmp 51, .ref 1 2 0 0)] [(1, (Qo8 x21))] (I x21.Element), rp [(.tmp 50, (Qfj p2)), (.tmp 52, I x21.Element)] (.dptr (Qab (x25)) 0), rp [(.tmp 53, (.dptr (Qab (x25)) 0))] (Qze x25), rb [(.tmp 5, .ref 1 2 0 0)] [(1, (Qo8 x21))] (.ref 1 2 0 1), rb [(.tmp 55, .ref 1 2 0 1)] [(1, (Qo8 x21))] (I x21.Outlet), rp [(.tmp 54, (Qze x25)), (.tmp 56, I x21.Outlet)] (.dptr (Qaa (x29)) 0), rp [(.tmp 57, (.dptr (Qaa (x29)) 0))] (Qzd x29), ⟨[(.tmp 45, (.lit (.func (.yield l) #[] #[]))), (.tmp 58, (Qzd x29))], [(0, (.far (J (some (x29 :: q33)))))], B false, [(0, (.far (J none)))], false⟩, rp [(.tmp 59, B false)] (B true)] (by exact ⟨by kernel_rfl, by kernel_rfl⟩) (by exact ⟨by kernel_rfl, by kernel_rfl⟩) rfl rfl rfl rfl (Qla (rd' := (.tmp 45, .lit (.func (.yield l) #[] #[])) :: [(.tmp 58, .lit (.agg #[(.int .i64 (x29.Mass)), (.int .i64 (x29.Heat)), (.int .i64 (x29.Silica)), (.int .i64 (x29.Gas))]))]) ⟨rfl, lrf, rfl, (Less.lits [(.int .i64 (x29.Mass)), (.int .i64 (x29.Heat)), (.int .i64 (x29.Silica)), (.int .i64 (x29.Gas))]), trivial⟩ (Qj5 (x := x29) (rest := q33) rfl rfl hy rfl)) (⟨fun _ _ => amv rfl, fun _ _ => ald_ rfl ti89 (by decide) (nle rfl) rfl, fun _ _ => anc rfl rfl, fun _ _ => afd rfl Try.underlying93 rfl rfl ti34 (by decide) rfl, fun _ _ => afd rfl Try.underlying34 rfl rfl ti31 (by decide) rfl, fun _ _ => ald_ rfl ti31 (by decide) (nle rfl) rfl, fun _ _ => afa rfl Try.underlying57 rfl rfl ti3 (by decide) rfl, fun _ _ => ald rfl ti3 (by decide) rfl (nle rfl) rfl, fun _ _ => aid rfl Try.underlying31 ti45 rfl rfl hi27 (mgt Qab hj28) rfl, fun _ _ => ald_ rfl ti45 (by decide) (nle rfl) rfl, fun _ _ => afa rfl Try.underlying57 rfl rfl ti3 (by decide) rfl, fun _ _ => ald rfl ti3 (by decide) rfl (nle rfl) rfl, fun _ _ => aid rfl Try.underlying45 ti48 rfl rfl hi31 (mgt Qaa hj32) rfl, fun _ _ => ald_ rfl ti48 (by decide) (nle rfl) rfl, fun _ h => absurd rfl h, fun _ _ => Qh3 rfl, trivial⟩) (⟨fun _ _ => amv rfl, fun _ _ => ald_ rfl ti89 (by decide) (nle rfl) rfl, fun _ _ => anc rfl rfl, fun _ _ => afd rfl Try.underlying93 rfl rfl ti34 (by decide) rfl, fun _ _ => afd rfl Try.underlying34 rfl rfl ti31 (by decide) rfl, fun _ _ => ald_ rfl ti31 (by decide) (nle rfl) rfl, fun _ _ => afa rfl Try.underlying57 rfl rfl ti3 (by decide) rfl, fun _ _ => ald rfl ti3 (by decide) rfl (nle rfl) rfl, fun _ _ => aid rfl Try.underlying31 ti45 rfl rfl hi27 (mgt Qab hj28) rfl, fun _ _ => ald_ rfl ti45 (by decide) (nle rfl) rfl, fun _ _ => afa rfl Try.underlying57 rfl rfl ti3 (by decide) rfl, fun _ _ => ald rfl ti3 (by decide) rfl (nle rfl) rfl, fun _ _ => aid rfl Try.underlying45 ti48 rfl rfl hi31 (mgt Qaa hj32) rfl, fun _ _ => ald_ rfl ti48 (by decide) (nle rfl) rfl, fun _ h => absurd rfl h, fun _ _ => Qh3 rfl, trivial⟩) ?_ ?_
    ·skip
     refine Qg6 (by kernel_rfl) ?_
     refine Qar ?_
     refine bln ?_
     refine thn ?_
     refine wx1 tbk [] trivial ?_
     refine thn ?_
     exact arm (mto (n := 62) [(0, (.lit (.func (.yield l) #[] #[]))), (1, (.dptr [(.dptr [(Qfy p0), (Qfl p1), (Qfj p2), (Qf5 p3), (Qf4 p4), (Qfi p5), I p6] 0)] 0)), (39, (Q1c x1)), (40, (I ((x1.From.length : Int)))), (41, (I (w64 (y15 + 1))))] [0] [(.far (J (some (q33))))] hφ0 (pc rwl (pc (.rn (.plain _ (NLt.dptr _ _ (nlc (NLt.dptr _ _ (nlc (nld Qai _) (nlc (nld Qac _) (nlc (nld Qap _) (nlc (nld Qa1 _) (nlc (nld Qaf _) (nlc (nld Qae _) (nlc nll nl0)))))))) nl0)))) (pc (.rn (.plain _ (nld Qcp _))) (pc rwl (pc rwl pn))))) (qc (.far _) qn)) (ih ((w64 (y15 + 1)), q33) h)
    ·clear h
     refine Qbq (by kernel_rfl) ?_
     refine Qad ?_
     refine Qaw ?_
     refine Qaj ?_
     refine Qaj ?_
     refine Qaw ?_
     exact Or.inr (by kernel_rfl)
   ·replace h := Qa3 hc20 h
    refine wfn hc20 (by kernel_rfl) ?_
    refine Qcf ?_
    refine Qa8 ?_
    refine Qa8 ?_
    refine Qce rfl ?_
    obtain rfl := osi h
    exact Or.inl rfl
def Qau (N : Nat) (k3 : (List GStream) → Option (List GStream)) : (List GStream) → (List GStream) → Option (List GStream)
  | [], y6 =>
    k3 (y6)
  | x9 :: q10, y6 =>
    chk (decide ((y6.length + ([x9]).length) * 32 ≤ 140737488355328)) <|
    Qau N k3 q10 (y6 ++ ([x9]))
def Qb9 (N : Nat) (p0 : (List GRow)) (p1 : (List GElement)) (p2 : (List (List GStream))) (p3 : (List GLost)) (p4 : (List Int)) (p5 : (List GStream)) (p6 : Int) (p7 : Int) : Option (List GStream) :=
  Qcv (fun y2 =>
    some y2) fun k3 : (List GStream) → Option (List GStream) =>
  (Qf7 N p0 p1 p2 p3 p4 p5 p6 p7).bind fun q4 =>
  Qau N k3 q4 ([])
def Zbm (p0 : (List GRow)) (p1 : (List GElement)) (p2 : (List (List GStream))) (p3 : (List GLost)) (p4 : (List Int)) (p5 : (List GStream)) (p6 : Int) (p7 : Int) : AV := .fn (.func 90) [] [(.dptr [(.dptr [(.dat 5 ((p0 : List GRow).map Qav)), (.dat 7 ((p1 : List GElement).map Qah)), (.dat 1 ((p2 : List (List GStream)).map Qab)), (.dat 4 ((p3 : List GLost).map Qax)), (.dat 1 ((p4 : List Int).map Qam)), (.dat 4 ((p5 : List GStream).map Qaa)), (I (p6))] 0)] 0), (.dptr [(I (p7))] 0)]
def Q3m (y6 : (List GStream)) : AV := .acc 1 48 4 ((y6 : List GStream).map Qaa)
def Zad (x9 : GStream) : AV := .agg [(I (x9.Mass)), (I (x9.Heat)), (I (x9.Silica)), (I (x9.Gas))]
theorem Qfs (N : Nat) (p0 : (List GRow)) (p1 : (List GElement)) (p2 : (List (List GStream))) (p3 : (List GLost)) (p4 : (List Int)) (p5 : (List GStream)) (p6 : Int) (p7 : Int) (r : (List GStream)) (h : Qb9 N p0 p1 p2 p3 p4 p5 p6 p7 = some r) : Spec Try.prog 89 [nilS, (Zbm p0 p1 p2 p3 p4 p5 p6 p7)] [] (.acc 0 48 4 ((r : List GStream).map Qaa)) [.tok] := by
  refine Qag Try.func89 rfl 1 (nle rfl) (fun X φ0 w0 hφ0 hd0 => ?_)
  unfold Qb9 at h
  refine Qbs ?_
  refine wx tbk [] trivial ?_
  obtain ⟨k3, hk_k3, h⟩ := jko h
  refine wjn (τ := (List GStream)) (fun t => k3 t = some r) (fun y2 => ⟨mk 13 [(2, .ref 0 1 0 0)], [(.own 1 [[(.acc 1 48 4 ((y2 : List GStream).map Qaa))]]), .tok]⟩) (fun y2 h => ?_) ?_
  ·subst hk_k3
   refine wx tbk [] trivial ?_
   refine wmr (mto (n := 13) (l' := [(4, (.acc 0 48 4 ((y2 : List GStream).map Qaa)))]) (own' := [.tok]) [(4, (.acc 1 48 4 ((y2 : List GStream).map Qaa)))] [1] [.tok] hφ0 (pc (.rn (Qgn rfl (Qei Qae _))) pn) (qc .tok qn)) ?_
   refine Qad ?_
   obtain rfl := osi h
   exact ⟨_, Mor.rfl, Qcx (vs := [(.acc 0 48 4 ((y2 : List GStream).map Qaa))]) ⟨rot (by kernel_rfl), trivial⟩ rfl (NLt.acc _ _ _ _ (by decide) (Qto Qae _)) (by kernel_rfl) (Qak .tok Qbo)⟩
  ·skip
   refine wx tbk [] trivial ?_
   refine Qaq ?_
   obtain ⟨q4, hL5, h⟩ := bno h
   refine wmr (mto (n := 13) (l' := [(2, .ref 0 1 0 0), (6, (Zbm p0 p1 p2 p3 p4 p5 p6 p7))]) (own' := [(.own 1 [[nilS]])]) [(2, .ref 0 1 0 0), (6, (Zbm p0 p1 p2 p3 p4 p5 p6 p7))] [0] [(.own 1 [[nilS]])] hφ0 (pc (.rn (rqr rfl)) (pc (.rn (Qbe rn0 (rnc (.plain _ (NLt.dptr _ _ (nlc (NLt.dptr _ _ (nlc (nld Qai _) (nlc (nld Qac _) (nlc (nld Qap _) (nlc (nld Qa1 _) (nlc (nld Qaf _) (nlc (nld Qae _) (nlc nll nl0)))))))) nl0))) (rnc (.plain _ (NLt.dptr _ _ (nlc nll nl0))) rn0)))) pn)) (qc (spb (lc rwl ln)) qn)) ?_
   refine wmr (Qtp (n := 1) (ty := 48) (m := 4) (q := 0) (mq := 1) (c := [nilS]) 0 (by kernel_rfl) (by kernel_rfl) (by kernel_rfl) (by decide)) ?_
   refine Qoy (τ := ((List GStream))) (kb := 1) (caps := [(.dptr [(.dptr [(.dat 5 ((p0 : List GRow).map Qav)), (.dat 7 ((p1 : List GElement).map Qah)), (.dat 1 ((p2 : List (List GStream)).map Qab)), (.dat 4 ((p3 : List GLost).map Qax)), (.dat 1 ((p4 : List Int).map Qam)), (.dat 4 ((p5 : List GStream).map Qaa)), I p6] 0)] 0), (.dptr [I p7] 0)]) (σr := []) (encs := fun x => [(.agg #[(.int .i64 (x.Mass)), (.int .i64 (x.Heat)), (.int .i64 (x.Silica)), (.int .i64 (x.Gas))])]) (fun x => [(.agg [I x.Mass, I x.Heat, I x.Silica, I x.Gas])]) [] (fun n hn => hφ0 n (Nat.le_trans (nle rfl) hn)) hd0 (Qme N p0 p1 p2 p3 p4 p5 p6 p7 _ hL5) Zd3 (by kernel_rfl) (by kernel_rfl) (Qbr (rnc (.plain _ (NLt.dptr _ _ (nlc (NLt.dptr _ _ (nlc (nld Qai _) (nlc (nld Qac _) (nlc (nld Qap _) (nlc (nld Qa1 _) (nlc (nld Qaf _) (nlc (nld Qae _) (nlc nll nl0)))))))) nl0))) (rnc (.plain _ (NLt.dptr _ _ (nlc nll nl0))) rn0))) Qan (by kernel_rfl) (fun _ => rfl) (fun x => ⟨(Less.unlits [(.int .i64 (x.Mass)), (.int .i64 (x.Heat)), (.int .i64 (x.Silica)), (.int .i64 (x.Gas))]), trivial⟩) (Q5t (Ql4 (NLt.ref _ _ _ _ (by decide)) (Ql4 (NLt.of0 (NLt.fn _ _ _ nl0 (nlc (NLt.dptr _ _ (nlc (NLt.dptr _ _ (nlc (nld Qai _) (nlc (nld Qac _) (nlc (nld Qap _) (nlc (nld Qa1 _) (nlc (nld Qaf _) (nlc (nld Qae _) (nlc nll nl0)))))))) nl0)) (nlc (NLt.dptr _ _ (nlc nll nl0)) nl0)))) Qxp))) (fun y6 => [(.own 1 [[(Q3m y6)]]), .tok]) (fun _ => rfl) (fun _ => rfl) (fun l t => Qau N k3 l t = some r) ([]) h (by kernel_rfl) ?_ ?_
   ·intro l11 o12 X15 φ16 w17 hφ14 x9 q10 y6 h
    rw [Qau] at h
    refine wx1 tbk [] trivial ?_
    refine ⟨by kernel_rfl, fun o13 => ?_⟩
    refine Qaq ?_
    obtain ⟨ha18, h⟩ := cko h
    refine wx1 tbk [(2, rp [(.tmp 9, (Zad x9))] (.dat 4 (([x9] : List GStream).map Qaa))), (3, ⟨[(.tmp 8, (Q3m y6)), (.tmp 10, (.dat 4 (([x9] : List GStream).map Qaa)))], [(1, .tok), (4, .unused)], (.acc 4 48 4 ((y6 ++ ([x9]) : List GStream).map Qaa)), [(1, .dead), (4, .tok)], false⟩)] ⟨Qbp (vs := [(Zad x9)]) rfl Try.underlying45 ti48 tz48 rfl (by decide) rfl (by decide) (by rfl) (by rfl) (by rfl) rfl, Qkv rfl Try.underlying45 te48 (Base.acc _ _) rfl rfl (by rfl) (Qo3 Qaa ha18) (Qo2 Qaa ha18 (by decide)) (Qo1 Qaa) rfl rfl, trivial⟩ ?_
    refine bln ?_
    exact ⟨(y6 ++ ([x9])), h, Q5d (own' := [(.own 1 [[(.acc 1 48 4 (((y6 ++ ([x9])) : List GStream).map Qaa))]]), .tok, (.far (farL l11 o13))]) [0, 4, 2] [(.own 1 [[(.acc 4 48 4 ((y6 ++ ([x9]) : List GStream).map Qaa))]]), .tok, (.far (farL l11 o13))] (by kernel_rfl) (by kernel_rfl) ⟨(spb (lc (.rn (Qgn rfl (Qei Qae _))) ln)), .tok, .far _, trivial⟩⟩
   ·intro y6 h
    rw [Qau] at h
    refine bln ?_
    refine thn ?_
    exact ⟨(y6), h, (mto (n := 13) [(2, .ref 0 1 0 0)] [0, 1] [(.own 1 [[(Q3m y6)]]), .tok] hφ0 (pc (.rn (rqr rfl)) pn) (qc (spb (lc (.rn (Qgn rfl (Qei Qae _))) ln)) (qc .tok qn)))⟩
def Qby (N : Nat) (p0 : (List GRow)) (p1 : (List GElement)) (p2 : (List (List GStream))) (p3 : (List GLost)) (p4 : (List Int)) (p5 : (List GStream)) (p6 : Int) (p7 : Int) : Option (List GStream) :=
  (Qb9 N p0 p1 p2 p3 p4 p5 p6 p7).bind fun x3 =>
  some x3
def Zbn (p0 : (List GRow)) (p1 : (List GElement)) (p2 : (List (List GStream))) (p3 : (List GLost)) (p4 : (List Int)) (p5 : (List GStream)) (p6 : Int) (p7 : Int) : AV := .fn (.func 90) [] [(.dptr [(.dptr [(.dat 5 ((p0 : List GRow).map Qav)), (.dat 7 ((p1 : List GElement).map Qah)), (.dat 1 ((p2 : List (List GStream)).map Qab)), (.dat 4 ((p3 : List GLost).map Qax)), (.dat 1 ((p4 : List Int).map Qam)), (.dat 4 ((p5 : List GStream).map Qaa)), (I (p6))] 0)] 0), (.dptr [(I (p7))] 0)]
def Q3n (x3 : (List GStream)) : AV := .acc 0 48 4 ((x3 : List GStream).map Qaa)
theorem Qhs (N : Nat) (p0 : (List GRow)) (p1 : (List GElement)) (p2 : (List (List GStream))) (p3 : (List GLost)) (p4 : (List Int)) (p5 : (List GStream)) (p6 : Int) (p7 : Int) (r : (List GStream)) (h : Qby N p0 p1 p2 p3 p4 p5 p6 p7 = some r) : Spec Try.prog 73 [(Zbn p0 p1 p2 p3 p4 p5 p6 p7)] [] (.acc 0 48 4 ((r : List GStream).map Qaa)) [.tok] := by
  refine Qag Try.func73 rfl 1 (nle rfl) (fun X φ0 w0 hφ0 hd0 => ?_)
  unfold Qby at h
  refine Qbs ?_
  refine wx tbk [] trivial ?_
  obtain ⟨x3, hf2, h⟩ := bno h
  refine wx tbk [(1, ⟨[fu 89, ((.const (.slice none 0 0)), nilS), (.tmp 3, (Zbn p0 p1 p2 p3 p4 p5 p6 p7))], [(0, .unused)], (Q3n x3), [(0, .tok)], false⟩)] ⟨Qao (first := []) (cap := []) (vs := [nilS, (Zbn p0 p1 p2 p3 p4 p5 p6 p7)]) (σr := []) (σr' := [.tok]) (res' := (Q3n x3)) [0] rfl Zd4 (Qfs N p0 p1 p2 p3 p4 p5 p6 p7 _ hf2) rfl (Qbr (rnc (.plain _ nll) (rnc (.plain _ (NLt.fn _ _ _ nl0 (nlc (NLt.dptr _ _ (nlc (NLt.dptr _ _ (nlc (nld Qai _) (nlc (nld Qac _) (nlc (nld Qap _) (nlc (nld Qa1 _) (nlc (nld Qaf _) (nlc (nld Qae _) (nlc nll nl0)))))))) nl0)) (nlc (NLt.dptr _ _ (nlc nll nl0)) nl0)))) rn0))) Qan (slc .tok Qan) (Q46 rfl (Qei Qae _)) rfl rfl rfl, trivial⟩ ?_
  refine wmr (mto (n := 5) (l' := [(2, (Q3n x3))]) (own' := [.tok]) [(2, (Q3n x3))] [0] [.tok] hφ0 (pc (.rn (Qgn rfl (Qei Qae _))) pn) (qc .tok qn)) ?_
  refine Qad ?_
  obtain rfl := osi h
  exact ⟨_, Mor.rfl, Qcx (vs := [(Q3n x3)]) ⟨rot (by kernel_rfl), trivial⟩ rfl (NLt.acc _ _ _ _ (by decide) (Qto Qae _)) (by kernel_rfl) (Qak .tok Qbo)⟩
def Qe5 (_N : Nat) (_p0 : Int) (p1 : GStream) (_p2 : (List GRow)) (_p3 : (List GElement)) (_p4 : Nat) (_p5 : Nat) (_p6 : Nat) (_p7 : (List GStream)) (_p8 : Int) (_p9 : (List (List GStream))) (_p10 : (List GLost)) (_p11 : (List Int)) : Option (List GStream) :=
  some ([p1])
def Zbl (p1 : GStream) : AV := .agg [(I (p1.Mass)), (I (p1.Heat)), (I (p1.Silica)), (I (p1.Gas))]
def Q7q (p2 : (List GRow)) (p3 : (List GElement)) (p4 : Nat) (p5 : Nat) (p6 : Nat) (p7 : (List GStream)) (p8 : Int) : Slot := .own 7 [[(.dat 5 ((p2 : List GRow).map Qav)), (.dat 7 ((p3 : List GElement).map Qah)), (.own 1 1 (0) (p4)), (.own 2 4 (0) (p5)), (.own 3 1 (0) (p6)), (.dat 4 ((p7 : List GStream).map Qaa)), (I (p8))]]
def Q7p (p9 : (List (List GStream))) : Slot := .own 1 ((p9 : List (List GStream)).map Qab)
def Q7o (p10 : (List GLost)) : Slot := .own 4 ((p10 : List GLost).map Qax)
def Q7n (p11 : (List Int)) : Slot := .own 1 ((p11 : List Int).map Qam)
def Q7r (p1 : GStream) : AV := .dat 4 (([p1] : List GStream).map Qaa)
theorem Qg3 (N : Nat) (p0 : Int) (p1 : GStream) (p2 : (List GRow)) (p3 : (List GElement)) (p4 : Nat) (p5 : Nat) (p6 : Nat) (p7 : (List GStream)) (p8 : Int) (p9 : (List (List GStream))) (p10 : (List GLost)) (p11 : (List Int)) (r : (List GStream)) (h : Qe5 N p0 p1 p2 p3 p4 p5 p6 p7 p8 p9 p10 p11 = some r) : Spec Try.prog 75 [(.ref 0 7 (0) 0), (I (p0)), (Zbl p1)] [(Q7q p2 p3 p4 p5 p6 p7 p8), (Q7p p9), (Q7o p10), (Q7n p11)] (.dat 4 ((r : List GStream).map Qaa)) [(Q7q p2 p3 p4 p5 p6 p7 p8), (Q7p p9), (Q7o p10), (Q7n p11)] := by
  refine Qag Try.func75 rfl 4 (nle rfl) (fun X φ0 w0 hφ0 hd0 => ?_)
  unfold Qe5 at h
  refine Qbs ?_
  refine wx tbk [] trivial ?_
  refine wx tbk [(1, rp [(.tmp 7, (Zbl p1))] (Q7r p1))] ⟨Qbp (vs := [(Zbl p1)]) rfl Try.underlying45 ti48 tz48 rfl (by decide) rfl (by decide) (by rfl) (by rfl) (by rfl) rfl, trivial⟩ ?_
  refine wmr (mto (n := 9) (l' := [(6, (Q7r p1))]) (own' := [(Q7q p2 p3 p4 p5 p6 p7 p8), (Q7p p9), (Q7o p10), (Q7n p11)]) [(6, (Q7r p1))] [0, 1, 2, 3] [(Q7q p2 p3 p4 p5 p6 p7 p8), (Q7p p9), (Q7o p10), (Q7n p11)] hφ0 (pc (.rn (.plain _ (nld Qae _))) pn) (qc (spb (lc (.rn (.plain _ (nld Qai _))) (lc (.rn (.plain _ (nld Qac _))) (lc (.rn (Qba rfl)) (lc (.rn (Qba rfl)) (lc (.rn (Qba rfl)) (lc (.rn (.plain _ (nld Qae _))) (lc rwl ln)))))))) (qc (spr Qap) (qc (spr Qa1) (qc (spr Qaf) qn))))) ?_
  refine Qad ?_
  obtain rfl := osi h
  exact ⟨_, Mor.rfl, Qcx (vs := [(Q7r p1)]) ⟨rot (by kernel_rfl), trivial⟩ rfl (NLt.of0 (nld Qae _)) (by kernel_rfl) (Qak (Qa6 (nlc (NLt.of0 (nld Qai _)) (nlc (NLt.of0 (nld Qac _)) (nlc (NLt.own _ _ _ _ (by decide)) (nlc (NLt.own _ _ _ _ (by decide)) (nlc (NLt.own _ _ _ _ (by decide)) (nlc (NLt.of0 (nld Qae _)) (nlc (NLt.of0 nll) nl0)))))))) (Qak (Qcl Qap _) (Qak (Qcl Qa1 _) (Qak (Qcl Qaf _) Qbo))))⟩
def Qg0 (_N : Nat) (p0 : Int) (p1 : GStream) (_p2 : (List GRow)) (p3 : (List GElement)) (_p4 : Nat) (p5 : Nat) (_p6 : Nat) (_p7 : (List GStream)) (_p8 : Int) (_p9 : (List (List GStream))) (p10 : (List GLost)) (_p11 : (List Int)) : Option ((List GStream) × (List GLost)) :=
  (getI p3 p0).bind fun x3 =>
  (some (if p1.Heat < x3.Amount then p1.Heat else x3.Amount)).bind fun x7 =>
  chk (decide (0 ≤ p0) && decide (p0.toNat < p5)) <|
  (p10[p0.toNat]?).bind fun x10 =>
  some ([(⟨p1.Mass, w64 (p1.Heat - x7), p1.Silica, p1.Gas⟩ : GStream)], p10.set p0.toNat (⟨x7, x10.Silica, x10.Gas, x10.Scale⟩ : GLost))
def Q1a (p2 : (List GRow)) (p3 : (List GElement)) (p4 : Nat) (p5 : Nat) (p6 : Nat) (p7 : (List GStream)) (p8 : Int) : Slot := .own 7 [[(.dat 5 ((p2 : List GRow).map Qav)), (.dat 7 ((p3 : List GElement).map Qah)), (.own 1 1 (0) (p4)), (.own 2 4 (0) (p5)), (.own 3 1 (0) (p6)), (.dat 4 ((p7 : List GStream).map Qaa)), (I (p8))]]
def Qzb (p9 : (List (List GStream))) : Slot := .own 1 ((p9 : List (List GStream)).map Qab)
def Zbk (p10 : (List GLost)) : Slot := .own 4 ((p10 : List GLost).map Qax)
def Qza (p11 : (List Int)) : Slot := .own 1 ((p11 : List Int).map Qam)
def Zac (p1 : GStream) (x7 : Int) : AV := .agg [(I (p1.Mass)), (I (w64 (p1.Heat - x7))), (I (p1.Silica)), (I (p1.Gas))]
def Qzc (p1 : GStream) (x7 : Int) : AV := .dat 4 (([(⟨p1.Mass, w64 (p1.Heat - x7), p1.Silica, p1.Gas⟩ : GStream)] : List GStream).map Qaa)
theorem Qmg (N : Nat) (p0 : Int) (p1 : GStream) (p2 : (List GRow)) (p3 : (List GElement)) (p4 : Nat) (p5 : Nat) (p6 : Nat) (p7 : (List GStream)) (p8 : Int) (p9 : (List (List GStream))) (p10 : (List GLost)) (p11 : (List Int)) (r : ((List GStream) × (List GLost))) (h : Qg0 N p0 p1 p2 p3 p4 p5 p6 p7 p8 p9 p10 p11 = some r) : Spec Try.prog 76 [(.ref 0 7 (0) 0), (I (p0)), (.agg [(I (p1.Mass)), (I (p1.Heat)), (I (p1.Silica)), (I (p1.Gas))])] [(Q1a p2 p3 p4 p5 p6 p7 p8), (Qzb p9), (Zbk p10), (Qza p11)] (.dat 4 ((r.1 : List GStream).map Qaa)) [(Q1a p2 p3 p4 p5 p6 p7 p8), (Qzb p9), (.own 4 ((r.2 : List GLost).map Qax)), (Qza p11)] := by
  refine Qag Try.func76 rfl 4 (nle rfl) (fun X φ0 w0 hφ0 hd0 => ?_)
  unfold Qg0 at h
  refine Qbs ?_
  refine wx tbk [] trivial ?_
  obtain ⟨x3, hg4, h⟩ := bno h
  obtain ⟨hi5, hj6⟩ := gsm hg4
  obtain ⟨x7, hl8, h⟩ := bno h
  refine wxd tbk [(1, rb [(.tmp 8, .ref 0 7 0 0)] [(0, (Q1a p2 p3 p4 p5 p6 p7 p8))] (.ref 0 7 0 0)), (6, rp [(.tmp 12, (.dat 7 ((p3 : List GElement).map Qah))), (.tmp 13, I p0)] (.dptr (Qah (x3)) 0)), (11, rp [(.tmp 16, I x3.Amount), (.tmp 18, I p1.Heat)] (I ((if p1.Heat < x3.Amount then p1.Heat else x3.Amount)))), (12, rp [(.tmp 19, (I ((if p1.Heat < x3.Amount then p1.Heat else x3.Amount))))] (I x7))] ⟨Qbd rfl, aid rfl Try.underlying40 ti76 rfl rfl hi5 (mgt Qah hj6) rfl, Qrk rfl, Qjw hl8 (aas rfl), trivial⟩ ?_
  obtain ⟨hi9, h⟩ := cko h
  obtain ⟨hi9a, hi9b⟩ := Qfe hi9
  obtain ⟨x10, hg11, h⟩ := bno h
  refine wx tbk [(1, rb [(.tmp 20, .ref 0 7 0 0)] [(0, (Q1a p2 p3 p4 p5 p6 p7 p8))] (.ref 0 7 0 0)), (7, rb [(.tmp 24, (.own 2 4 (0) (p5))), (.tmp 25, I p0)] [(2, (Zbk p10))] (.ref 2 4 (p0.toNat) 0)), (9, ⟨[(.tmp 28, (.ref 2 4 (p0.toNat) 0)), (.tmp 26, I x7)], [(2, (Zbk p10))], .any, [(2, (.own 4 ((p10.set p0.toNat (⟨x7, x10.Silica, x10.Gas, x10.Scale⟩ : GLost) : List GLost).map Qax)))], false⟩)] ⟨Qbd rfl, aio rfl Try.underlying32 ti50 (odt hi9a) (odt hi9b) (Nat.zero_add _), ast rfl ti3 (by rfl) (mgt Qax hg11) (nle rfl) (Qg2 Qax rfl), trivial⟩ ?_
  refine wx tbk [] trivial ?_
  refine wx tbk [(1, rp [(.tmp 34, (Zac p1 x7))] (Qzc p1 x7))] ⟨Qbp (vs := [(Zac p1 x7)]) rfl Try.underlying45 ti48 tz48 rfl (by decide) rfl (by decide) (by rfl) (by rfl) (by rfl) rfl, trivial⟩ ?_
  refine wmr (mto (n := 36) (l' := [(6, (Qzc p1 x7))]) (own' := [(Q1a p2 p3 p4 p5 p6 p7 p8), (Qzb p9), (.own 4 (((p10.set p0.toNat (⟨x7, x10.Silica, x10.Gas, x10.Scale⟩ : GLost)) : List GLost).map Qax)), (Qza p11)]) [(6, (Qzc p1 x7))] [0, 1, 2, 3] [(Q1a p2 p3 p4 p5 p6 p7 p8), (Qzb p9), (.own 4 ((p10.set p0.toNat (⟨x7, x10.Silica, x10.Gas, x10.Scale⟩ : GLost) : List GLost).map Qax)), (Qza p11)] hφ0 (pc (.rn (.plain _ (nld Qae _))) pn) (qc (spb (lc (.rn (.plain _ (nld Qai _))) (lc (.rn (.plain _ (nld Qac _))) (lc (.rn (Qba rfl)) (lc (.rn (Qba rfl)) (lc (.rn (Qba rfl)) (lc (.rn (.plain _ (nld Qae _))) (lc rwl ln)))))))) (qc (spr Qap) (qc (spr Qa1) (qc (spr Qaf) qn))))) ?_
  refine Qad ?_
  obtain rfl := osi h
  exact ⟨_, Mor.rfl, Qcx (vs := [(Qzc p1 x7)]) ⟨rot (by kernel_rfl), trivial⟩ rfl (NLt.of0 (nld Qae _)) (by kernel_rfl) (Qak (Qa6 (nlc (NLt.of0 (nld Qai _)) (nlc (NLt.of0 (nld Qac _)) (nlc (NLt.own _ _ _ _ (by decide)) (nlc (NLt.own _ _ _ _ (by decide)) (nlc (NLt.own _ _ _ _ (by decide)) (nlc (NLt.of0 (nld Qae _)) (nlc (NLt.of0 nll) nl0)))))))) (Qak (Qcl Qap _) (Qak (Qcl Qa1 _) (Qak (Qcl Qaf _) Qbo))))⟩
def Qfk (N : Nat) (p0 : (List GRow)) (p1 : Int) : Option Bool :=
  (Qct N p1 0 (w64 ((p0.length : Int) - 1))).bind fun x2 =>
  some x2
theorem Qjl (N : Nat) (p0 : (List GRow)) (p1 : Int) (r : Bool) (h : Qfk N p0 p1 = some r) : Spec Try.prog 42 [(.dat 5 (p0.map Qav)), (I p1)] [] (B r) [] := by
  refine Qag Try.func42 rfl 0 (nle rfl) (fun X φ0 w0 hφ0 hd0 => ?_)
  unfold Qfk at h
  refine wx tbk [] trivial ?_
  obtain ⟨x2, hf1, h⟩ := bno h
  refine wx tbk [(2, rp [(.tmp 6, (.dat 5 ((p0 : List GRow).map Qav)))] (I ((p0.length : Int)))), (4, rp [fu 45, (.tmp 5, I p1), ci 0, (.tmp 8, (I (w64 ((p0.length : Int) - 1))))] (B x2))] ⟨alm (c := Qav) (l := p0) (aln rfl Try.underlying39 rfl), apc (first := []) (cap := []) (vs := [I p1, I 0, (I (w64 ((p0.length : Int) - 1)))]) rfl Qdf (Qas N p1 0 (w64 ((p0.length : Int) - 1)) _ hf1) rfl rfl (nlc nll (nlc nll (nlc nll nl0))) nll rfl, trivial⟩ ?_
  refine Qad ?_
  obtain rfl := osi h
  exact fend ⟨[B x2], ⟨rot (by kernel_rfl), trivial⟩, rfl⟩ nll
def Qe7 (_N : Nat) (p0 : (List GRow)) (p1 : Int) : Option GFlash :=
  (getI p0 p1).bind fun x1 =>
  some (⟨x1⟩ : GFlash)
def Zbh (x1 : GRow) : AV := .agg [(I (x1.T)), (I (x1.P)), (I (x1.Liquid)), (I (x1.Vapour)), (I (x1.Silica))]
theorem Qj2 (N : Nat) (p0 : (List GRow)) (p1 : Int) (r : GFlash) (h : Qe7 N p0 p1 = some r) : Spec Try.prog 43 [(.dat 5 (p0.map Qav)), (I p1)] [] (.agg (Qt1 r)) [] := by
  refine Qag Try.func43 rfl 0 (nle rfl) (fun X φ0 w0 hφ0 hd0 => ?_)
  unfold Qe7 at h
  refine wx tbk [] trivial ?_
  obtain ⟨x1, hg2, h⟩ := bno h
  obtain ⟨hi3, hj4⟩ := gsm hg2
  refine wx tbk [(2, rp [(.tmp 5, (.dat 5 ((p0 : List GRow).map Qav))), (.tmp 6, I p1)] (.dptr (Qav (x1)) 0)), (4, mv 8 (Zbh x1))] ⟨aid rfl Try.underlying39 Qrw rfl rfl hi3 (mgt Qav hj4) rfl, Qat (vs := [(Zbh x1)]) rfl Zg9 Zga rfl (by rfl) rfl, trivial⟩ ?_
  refine Qad ?_
  obtain rfl := osi h
  exact fend ⟨[(Zbh x1)], ⟨Qcm (n := 0) (m := 5) (j := 0) (i := 0) (xs := [[I x1.T, I x1.P, I x1.Liquid, I x1.Vapour, I x1.Silica]]) (by kernel_rfl) (by kernel_rfl) Zgd (by decide) rfl (nle rfl) rfl, trivial⟩, rfl⟩ (NLt.agg _ (nlc nll (nlc nll (nlc nll (nlc nll (nlc nll nl0))))))
def Qfm (_N : Nat) (p0 : GFlash) (p1 : GStream) : Option Int :=
  (some (w64 (p1.Heat - (w64 (p1.Mass * p0.Row.Liquid))))).bind fun x1 =>
  bif (decide (x1 ≤ 0)) then
   some 0
  else
   bif (decide (p1.Heat ≥ (w64 (p1.Mass * p0.Row.Vapour)))) then
    some p1.Mass
   else
    chk ((w64 (p0.Row.Vapour - p0.Row.Liquid)) != 0) <|
    (some (w64 (x1.tdiv (w64 (p0.Row.Vapour - p0.Row.Liquid))))).bind fun x6 =>
    some x6
theorem Qlp (N : Nat) (p0 : GFlash) (p1 : GStream) (r : Int) (h : Qfm N p0 p1 = some r) : Spec Try.prog 65 [(.agg (Qt1 p0)), (.agg (Qaa p1))] [] (I r) [] := by
  refine Qag Try.func65 rfl 0 (nle rfl) (fun X φ0 w0 hφ0 hd0 => ?_)
  unfold Qfm at h
  refine wx tbk [] trivial ?_
  obtain ⟨x1, hl2, h⟩ := bno h
  refine wx tbk [(9, rp [(.tmp 14, (I (w64 (p1.Heat - (w64 (p1.Mass * p0.Row.Liquid))))))] (I x1))] ⟨Qjw hl2 (aas rfl), trivial⟩ ?_
  refine wsq ?_
  refine Qaq ?_
  refine wx tbk [] trivial ?_
  rcases bft ((decide (x1 ≤ 0))) with hc3 | hc3
  ·replace h := Qa2 hc3 h
   refine wft hc3 (by kernel_rfl) ?_
   refine wx tbk [] trivial ?_
   refine Qad ?_
   refine Qaw ?_
   refine Qaj ?_
   obtain rfl := osi h
   exact fend ⟨[I 0], ⟨rot (by kernel_rfl), trivial⟩, rfl⟩ nll
  ·replace h := Qa3 hc3 h
   refine wfn hc3 (by kernel_rfl) ?_
   refine wx tbk [] trivial ?_
   rcases bft ((decide (p1.Heat ≥ (w64 (p1.Mass * p0.Row.Vapour))))) with hc4 | hc4
   ·replace h := Qa2 hc4 h
    refine wft hc4 (by kernel_rfl) ?_
    refine wx tbk [] trivial ?_
    refine Qad ?_
    refine Qaw ?_
    refine Qaj ?_
    obtain rfl := osi h
    exact fend ⟨[I p1.Mass], ⟨rot (by kernel_rfl), trivial⟩, rfl⟩ nll
   ·replace h := Qa3 hc4 h
    refine wfn hc4 (by kernel_rfl) ?_
    refine Qar ?_
    refine bln ?_
    refine thn ?_
    obtain ⟨hz5, h⟩ := cko h
    obtain ⟨x6, hl7, h⟩ := bno h
    refine wx tbk [(8, rp [(.tmp 30, I x1), (.tmp 37, (I (w64 (p0.Row.Vapour - p0.Row.Liquid))))] (I (w64 (x1.tdiv (w64 (p0.Row.Vapour - p0.Row.Liquid)))))), (9, rp [(.tmp 38, (I (w64 (x1.tdiv (w64 (p0.Row.Vapour - p0.Row.Liquid))))))] (I x6))] ⟨Qn4 rfl (Qnb hz5), Qjw hl7 (aas rfl), trivial⟩ ?_
    refine Qad ?_
    obtain rfl := osi h
    exact fend ⟨[I x6], ⟨rot (by kernel_rfl), trivial⟩, rfl⟩ nll
def Qdv (N : Nat) (p0 : GFlash) (p1 : GStream) : Option GParts :=
  (Qfm N (⟨(⟨p0.Row.T, p0.Row.P, p0.Row.Liquid, p0.Row.Vapour, p0.Row.Silica⟩ : GRow)⟩ : GFlash) p1).bind fun x2 =>
  Qcv (fun ⟨y3, y4, y5, y6, y7, _, y9⟩ =>
    (some (if (w64 (y6 * p0.Row.Silica)) < p1.Silica then w64 (y6 * p0.Row.Silica) else p1.Silica)).bind fun x11 =>
    bif (decide (y6 > 0)) then
     (some (if (w64 (y7 - (w64 (y6 * p0.Row.Liquid)))) > 0 then w64 (y7 - (w64 (y6 * p0.Row.Liquid))) else 0)).bind fun x14 =>
     some (⟨(⟨y3, y4, 0, y5⟩ : GStream), (⟨y6, y7, x11, y9⟩ : GStream), x14, w64 (p1.Silica - x11)⟩ : GParts)
    else
     some (⟨(⟨y3, y4, 0, y5⟩ : GStream), (⟨y6, y7, x11, y9⟩ : GStream), 0, w64 (p1.Silica - x11)⟩ : GParts)) fun k10 : Int × Int × Int × Int × Int × Int × Int → Option GParts =>
  bif (x2 == 0) then
   k10 (0, 0, 0, p1.Mass, p1.Heat, p1.Silica, p1.Gas)
  else
   bif (x2 == p1.Mass) then
    k10 (x2, p1.Heat, p1.Gas, 0, 0, 0, 0)
   else
    k10 (x2, w64 (x2 * p0.Row.Vapour), p1.Gas, w64 (p1.Mass - x2), w64 (p1.Heat - (w64 (x2 * p0.Row.Vapour))), 0, 0)
def Zfu (p0 : GFlash) : AV := .agg [(I (p0.Row.T)), (I (p0.Row.P)), (I (p0.Row.Liquid)), (I (p0.Row.Vapour)), (I (p0.Row.Silica))]
def Zft (p1 : GStream) : AV := .agg [(I (p1.Mass)), (I (p1.Heat)), (I (p1.Silica)), (I (p1.Gas))]
def Q7l (p0 : GFlash) : Slot := .own 5 [[(I (p0.Row.T)), (I (p0.Row.P)), (I (p0.Row.Liquid)), (I (p0.Row.Vapour)), (I (p0.Row.Silica))]]
def Q7k (p1 : GStream) : Slot := .own 4 [[(I (p1.Mass)), (I (p1.Heat)), (I (p1.Silica)), (I (p1.Gas))]]
theorem Qj1 (N : Nat) (p0 : GFlash) (p1 : GStream) (r : GParts) (h : Qdv N p0 p1 = some r) : Spec Try.prog 44 [(.agg (Qt1 p0)), (.agg (Qaa p1))] [] (.agg (Qbf r)) [] := by
  refine Qag Try.func44 rfl 0 (nle rfl) (fun X φ0 w0 hφ0 hd0 => ?_)
  unfold Qdv at h
  refine wx tbk [] trivial ?_
  obtain ⟨x2, hf1, h⟩ := bno h
  refine wx tbk [(2, rp [fu 65, (.tmp 7, (Zfu p0)), (.tmp 8, (Zft p1))] (I x2))] ⟨apc (first := []) (cap := []) (vs := [(Zfu p0), (Zft p1)]) rfl Zem (Qlp N (⟨(⟨p0.Row.T, p0.Row.P, p0.Row.Liquid, p0.Row.Vapour, p0.Row.Silica⟩ : GRow)⟩ : GFlash) p1 _ hf1) rfl rfl (nlc (NLt.agg _ (nlc nll (nlc nll (nlc nll (nlc nll (nlc nll nl0)))))) (nlc (NLt.agg _ (nlc nll (nlc nll (nlc nll (nlc nll nl0))))) nl0)) nll rfl, trivial⟩ ?_
  obtain ⟨k10, hk_k10, h⟩ := jko h
  refine wjn (τ := Int × Int × Int × Int × Int × Int × Int) (fun t => k10 t = some r) (fun ⟨y3, y4, y5, y6, y7, y8, y9⟩ => ⟨mk 87 [(2, .ref 0 5 0 0), (3, .ref 1 4 0 0), (4, .ref 2 10 0 0)], [(Q7l p0), (Q7k p1), (.own 10 [[I y3, I y4, I 0, I y5, I y6, I y7, I y8, I y9, I 0, I 0]])]⟩) (fun t h => ?_) ?_
  ·subst hk_k10
   obtain ⟨y3, y4, y5, y6, y7, y8, y9⟩ := t
   obtain ⟨x11, hl12, h⟩ := bno h
   refine wx tbk [(9, rp [(.tmp 52, I p1.Silica), (.tmp 59, (I (w64 (y6 * p0.Row.Silica))))] (I x11))] ⟨Qjw hl12 (Qrk rfl), trivial⟩ ?_
   refine wxd tbk [] trivial ?_
   refine wsq ?_
   refine wx tbk [] trivial ?_
   rcases bft ((decide (y6 > 0))) with hc13 | hc13
   ·replace h := Qa2 hc13 h
    refine wft hc13 (by kernel_rfl) ?_
    obtain ⟨x14, hl15, h⟩ := bno h
    refine wx1 tbk [(11, rp [ci 0, (.tmp 83, (I (w64 (y7 - (w64 (y6 * p0.Row.Liquid))))))] (I x14))] ⟨Qjw hl15 (Qn5 rfl), trivial⟩ ?_
    refine thn ?_
    refine wx tbk [] trivial ?_
    refine Qad ?_
    obtain rfl := osi h
    exact fend ⟨[(.agg [I y3, I y4, I 0, I y5, I y6, I y7, I x11, I y9, I x14, (I (w64 (p1.Silica - x11)))])], ⟨Qcm (n := 2) (m := 10) (j := 0) (i := 0) (xs := [[I y3, I y4, I 0, I y5, I y6, I y7, I x11, I y9, I x14, (I (w64 (p1.Silica - x11)))]]) (by kernel_rfl) (by kernel_rfl) ti79 (by decide) rfl (nle rfl) rfl, trivial⟩, rfl⟩ (NLt.agg _ (nlc nll (nlc nll (nlc nll (nlc nll (nlc nll (nlc nll (nlc nll (nlc nll (nlc nll (nlc nll nl0)))))))))))
   ·replace h := Qa3 hc13 h
    refine wfn hc13 (by kernel_rfl) ?_
    refine Qar ?_
    refine thn ?_
    refine wx tbk [] trivial ?_
    refine Qad ?_
    obtain rfl := osi h
    exact fend ⟨[(.agg [I y3, I y4, I 0, I y5, I y6, I y7, I x11, I y9, I 0, (I (w64 (p1.Silica - x11)))])], ⟨Qcm (n := 2) (m := 10) (j := 0) (i := 0) (xs := [[I y3, I y4, I 0, I y5, I y6, I y7, I x11, I y9, I 0, (I (w64 (p1.Silica - x11)))]]) (by kernel_rfl) (by kernel_rfl) ti79 (by decide) rfl (nle rfl) rfl, trivial⟩, rfl⟩ (NLt.agg _ (nlc nll (nlc nll (nlc nll (nlc nll (nlc nll (nlc nll (nlc nll (nlc nll (nlc nll (nlc nll nl0)))))))))))
  ·skip
   refine Qaq ?_
   refine wx tbk [] trivial ?_
   rcases bft ((x2 == 0)) with hc16 | hc16
   ·replace h := Qa2 hc16 h
    refine wft hc16 (by kernel_rfl) ?_
    refine wx1 tbk [] trivial ?_
    refine bln ?_
    refine thn ?_
    exact ⟨(0, 0, 0, p1.Mass, p1.Heat, p1.Silica, p1.Gas), h, (mto (n := 87) [(2, .ref 0 5 0 0), (3, .ref 1 4 0 0), (4, .ref 2 10 0 0)] [0, 1, 2] [(Q7l p0), (Q7k p1), (.own 10 [[I 0, I 0, I 0, I 0, I p1.Mass, I p1.Heat, I p1.Silica, I p1.Gas, I 0, I 0]])] hφ0 (pc (.rn (rqr rfl)) (pc (.rn (rqr rfl)) (pc (.rn (rqr rfl)) pn))) (qc (spb (lc rwl (lc rwl (lc rwl (lc rwl (lc rwl ln)))))) (qc (spb (lc rwl (lc rwl (lc rwl (lc rwl ln))))) (qc (spb (lc rwl (lc rwl (lc rwl (lc rwl (lc rwl (lc rwl (lc rwl (lc rwl (lc rwl (lc rwl ln))))))))))) qn))))⟩
   ·replace h := Qa3 hc16 h
    refine wfn hc16 (by kernel_rfl) ?_
    refine wx tbk [] trivial ?_
    rcases bft ((x2 == p1.Mass)) with hc17 | hc17
    ·replace h := Qa2 hc17 h
     refine wft hc17 (by kernel_rfl) ?_
     refine wx1 tbk [(5, rp [(.tmp 44, I x2), (.tmp 46, I p1.Heat), (.tmp 48, I p1.Gas)] (.agg [I x2, I p1.Heat, I 0, I p1.Gas]))] ⟨Qat (vs := [I x2, I p1.Heat, I p1.Gas]) rfl ts48 tz48 rfl (by rfl) rfl, trivial⟩ ?_
     refine bln ?_
     refine thn ?_
     exact ⟨(x2, p1.Heat, p1.Gas, 0, 0, 0, 0), h, (mto (n := 87) [(2, .ref 0 5 0 0), (3, .ref 1 4 0 0), (4, .ref 2 10 0 0)] [0, 1, 2] [(Q7l p0), (Q7k p1), (.own 10 [[I x2, I p1.Heat, I 0, I p1.Gas, I 0, I 0, I 0, I 0, I 0, I 0]])] hφ0 (pc (.rn (rqr rfl)) (pc (.rn (rqr rfl)) (pc (.rn (rqr rfl)) pn))) (qc (spb (lc rwl (lc rwl (lc rwl (lc rwl (lc rwl ln)))))) (qc (spb (lc rwl (lc rwl (lc rwl (lc rwl ln))))) (qc (spb (lc rwl (lc rwl (lc rwl (lc rwl (lc rwl (lc rwl (lc rwl (lc rwl (lc rwl (lc rwl ln))))))))))) qn))))⟩
    ·replace h := Qa3 hc17 h
     refine wfn hc17 (by kernel_rfl) ?_
     refine wx tbk [(8, rp [(.tmp 10, I x2), (.tmp 15, (I (w64 (x2 * p0.Row.Vapour)))), (.tmp 17, I p1.Gas)] (.agg [I x2, (I (w64 (x2 * p0.Row.Vapour))), I 0, I p1.Gas]))] ⟨Qat (vs := [I x2, (I (w64 (x2 * p0.Row.Vapour))), I p1.Gas]) rfl ts48 tz48 rfl (by rfl) rfl, trivial⟩ ?_
     refine wx1 tbk [(12, rp [(.tmp 23, (I (w64 (p1.Mass - x2)))), (.tmp 31, (I (w64 (p1.Heat - (w64 (x2 * p0.Row.Vapour))))))] (.agg [(I (w64 (p1.Mass - x2))), (I (w64 (p1.Heat - (w64 (x2 * p0.Row.Vapour))))), I 0, I 0]))] ⟨Qat (vs := [(I (w64 (p1.Mass - x2))), (I (w64 (p1.Heat - (w64 (x2 * p0.Row.Vapour)))))]) rfl ts48 tz48 rfl (by rfl) rfl, trivial⟩ ?_
     refine bln ?_
     refine thn ?_
     exact ⟨(x2, w64 (x2 * p0.Row.Vapour), p1.Gas, w64 (p1.Mass - x2), w64 (p1.Heat - (w64 (x2 * p0.Row.Vapour))), 0, 0), h, (mto (n := 87) [(2, .ref 0 5 0 0), (3, .ref 1 4 0 0), (4, .ref 2 10 0 0)] [0, 1, 2] [(Q7l p0), (Q7k p1), (.own 10 [[I x2, (I (w64 (x2 * p0.Row.Vapour))), I 0, I p1.Gas, (I (w64 (p1.Mass - x2))), (I (w64 (p1.Heat - (w64 (x2 * p0.Row.Vapour))))), I 0, I 0, I 0, I 0]])] hφ0 (pc (.rn (rqr rfl)) (pc (.rn (rqr rfl)) (pc (.rn (rqr rfl)) pn))) (qc (spb (lc rwl (lc rwl (lc rwl (lc rwl (lc rwl ln)))))) (qc (spb (lc rwl (lc rwl (lc rwl (lc rwl ln))))) (qc (spb (lc rwl (lc rwl (lc rwl (lc rwl (lc rwl (lc rwl (lc rwl (lc rwl (lc rwl (lc rwl ln))))))))))) qn))))⟩
def Qhe (N : Nat) (p0 : (List GRow)) (p1 : Int) (p2 : GStream) : Option (GParts × Int) :=
  (Qdx N p0).bind fun x2 =>
  bif (!x2) then
   some ((⟨(⟨0, 0, 0, 0⟩ : GStream), (⟨0, 0, 0, 0⟩ : GStream), 0, 0⟩ : GParts), 1)
  else
   (Qfk N p0 p1).bind fun x5 =>
   bif (!x5) then
    some ((⟨(⟨0, 0, 0, 0⟩ : GStream), (⟨0, 0, 0, 0⟩ : GStream), 0, 0⟩ : GParts), 2)
   else
    (Qda N p2).bind fun x8 =>
    bif (!x8) then
     some ((⟨(⟨0, 0, 0, 0⟩ : GStream), (⟨0, 0, 0, 0⟩ : GStream), 0, 0⟩ : GParts), 1)
    else
     (Qe7 N p0 p1).bind fun x11 =>
     (Qdv N (⟨(⟨x11.Row.T, x11.Row.P, x11.Row.Liquid, x11.Row.Vapour, x11.Row.Silica⟩ : GRow)⟩ : GFlash) p2).bind fun x13 =>
     some ((⟨(⟨x13.Steam.Mass, x13.Steam.Heat, x13.Steam.Silica, x13.Steam.Gas⟩ : GStream), (⟨x13.Water.Mass, x13.Water.Heat, x13.Water.Silica, x13.Water.Gas⟩ : GStream), x13.Rest, x13.Scale⟩ : GParts), 0)
def Q08 (p0 : (List GRow)) : AV := .dat 5 ((p0 : List GRow).map Qav)
def Q07 : AV := .agg [(I (0)), (I (0)), (I (0)), (I (0)), (I (0)), (I (0)), (I (0)), (I (0)), (I (0)), (I (0))]
def Q7m (p2 : GStream) : AV := .agg [(I (p2.Mass)), (I (p2.Heat)), (I (p2.Silica)), (I (p2.Gas))]
def Zbi (x11 : GFlash) : AV := .agg [(I (x11.Row.T)), (I (x11.Row.P)), (I (x11.Row.Liquid)), (I (x11.Row.Vapour)), (I (x11.Row.Silica))]
def Zfv (x13 : GParts) : AV := .agg [(I (x13.Steam.Mass)), (I (x13.Steam.Heat)), (I (x13.Steam.Silica)), (I (x13.Steam.Gas)), (I (x13.Water.Mass)), (I (x13.Water.Heat)), (I (x13.Water.Silica)), (I (x13.Water.Gas)), (I (x13.Rest)), (I (x13.Scale))]
theorem Qls (N : Nat) (p0 : (List GRow)) (p1 : Int) (p2 : GStream) (r : (GParts × Int)) (h : Qhe N p0 p1 p2 = some r) : Spec Try.prog 25 [(.dat 5 (p0.map Qav)), (I p1), (.agg (Qaa p2))] [] (.tup [(.agg (Qbf r.1)), (I r.2)]) [] := by
  refine Qag Try.func25 rfl 0 (nle rfl) (fun X φ0 w0 hφ0 hd0 => ?_)
  unfold Qhe at h
  refine wx tbk [] trivial ?_
  refine wsq ?_
  refine Qaq ?_
  obtain ⟨x2, hf1, h⟩ := bno h
  refine wx tbk [(1, rp [fu 41, (.tmp 9, (Q08 p0))] (B x2))] ⟨apc (first := []) (cap := []) (vs := [(Q08 p0)]) rfl Qx4 (Qgs N p0 _ hf1) rfl rfl (nlc (nld Qai _) nl0) nll rfl, trivial⟩ ?_
  rcases bft ((!x2)) with hc3 | hc3
  ·replace h := Qa2 hc3 h
   refine wft hc3 (by kernel_rfl) ?_
   refine wx tbk [(0, rp [] Q07)] ⟨Qat (vs := []) rfl ts79 tz79 rfl (by rfl) rfl, trivial⟩ ?_
   refine Qad ?_
   refine Qaw ?_
   refine Qaj ?_
   obtain rfl := osi h
   exact fend ⟨[Q07, I 1], ⟨Qcm (n := 1) (m := 10) (j := 0) (i := 0) (xs := [[I 0, I 0, I 0, I 0, I 0, I 0, I 0, I 0, I 0, I 0]]) (by kernel_rfl) (by kernel_rfl) ti79 (by decide) rfl (nle rfl) rfl, rot (by kernel_rfl), trivial⟩, rfl⟩ (NLt.tup _ (nlc (NLt.agg _ (nlc nll (nlc nll (nlc nll (nlc nll (nlc nll (nlc nll (nlc nll (nlc nll (nlc nll (nlc nll nl0))))))))))) (nlc nll nl0)))
  ·replace h := Qa3 hc3 h
   refine wfn hc3 (by kernel_rfl) ?_
   obtain ⟨x5, hf4, h⟩ := bno h
   refine wx tbk [(2, rp [fu 42, (.tmp 14, (Q08 p0)), (.tmp 15, I p1)] (B x5))] ⟨apc (first := []) (cap := []) (vs := [(Q08 p0), I p1]) rfl Q6n (Qjl N p0 p1 _ hf4) rfl rfl (nlc (nld Qai _) (nlc nll nl0)) nll rfl, trivial⟩ ?_
   rcases bft ((!x5)) with hc6 | hc6
   ·replace h := Qa2 hc6 h
    refine wft hc6 (by kernel_rfl) ?_
    refine wx tbk [(0, rp [] Q07)] ⟨Qat (vs := []) rfl ts79 tz79 rfl (by rfl) rfl, trivial⟩ ?_
    refine Qad ?_
    refine Qaw ?_
    refine Qaj ?_
    obtain rfl := osi h
    exact fend ⟨[Q07, I 2], ⟨Qcm (n := 1) (m := 10) (j := 0) (i := 0) (xs := [[I 0, I 0, I 0, I 0, I 0, I 0, I 0, I 0, I 0, I 0]]) (by kernel_rfl) (by kernel_rfl) ti79 (by decide) rfl (nle rfl) rfl, rot (by kernel_rfl), trivial⟩, rfl⟩ (NLt.tup _ (nlc (NLt.agg _ (nlc nll (nlc nll (nlc nll (nlc nll (nlc nll (nlc nll (nlc nll (nlc nll (nlc nll (nlc nll nl0))))))))))) (nlc nll nl0)))
   ·replace h := Qa3 hc6 h
    refine wfn hc6 (by kernel_rfl) ?_
    obtain ⟨x8, hf7, h⟩ := bno h
    refine wx tbk [(1, rp [fu 34, (.tmp 20, (Q7m p2))] (B x8))] ⟨apc (first := []) (cap := []) (vs := [(Q7m p2)]) rfl Qna (Qc6 N p2 _ hf7) rfl rfl (nlc (NLt.agg _ (nlc nll (nlc nll (nlc nll (nlc nll nl0))))) nl0) nll rfl, trivial⟩ ?_
    rcases bft ((!x8)) with hc9 | hc9
    ·replace h := Qa2 hc9 h
     refine wft hc9 (by kernel_rfl) ?_
     refine wx tbk [(0, rp [] Q07)] ⟨Qat (vs := []) rfl ts79 tz79 rfl (by rfl) rfl, trivial⟩ ?_
     refine Qad ?_
     refine Qaw ?_
     refine Qaj ?_
     obtain rfl := osi h
     exact fend ⟨[Q07, I 1], ⟨Qcm (n := 1) (m := 10) (j := 0) (i := 0) (xs := [[I 0, I 0, I 0, I 0, I 0, I 0, I 0, I 0, I 0, I 0]]) (by kernel_rfl) (by kernel_rfl) ti79 (by decide) rfl (nle rfl) rfl, rot (by kernel_rfl), trivial⟩, rfl⟩ (NLt.tup _ (nlc (NLt.agg _ (nlc nll (nlc nll (nlc nll (nlc nll (nlc nll (nlc nll (nlc nll (nlc nll (nlc nll (nlc nll nl0))))))))))) (nlc nll nl0)))
    ·replace h := Qa3 hc9 h
     refine wfn hc9 (by kernel_rfl) ?_
     refine Qar ?_
     refine bln ?_
     refine thn ?_
     obtain ⟨x11, hf10, h⟩ := bno h
     obtain ⟨x13, hf12, h⟩ := bno h
     refine wxd tbk [(2, rp [fu 43, (.tmp 24, (Q08 p0)), (.tmp 25, I p1)] (Zbi x11)), (4, rp [fu 44, (.tmp 26, (Zbi x11)), (.tmp 27, (Q7m p2))] (Zfv x13))] ⟨apc (first := []) (cap := []) (vs := [(Q08 p0), I p1]) rfl Q6m (Qj2 N p0 p1 _ hf10) rfl rfl (nlc (nld Qai _) (nlc nll nl0)) (NLt.agg _ (nlc nll (nlc nll (nlc nll (nlc nll (nlc nll nl0)))))) rfl, apc (first := []) (cap := []) (vs := [(Zbi x11), (Q7m p2)]) rfl Q6l (Qj1 N (⟨(⟨x11.Row.T, x11.Row.P, x11.Row.Liquid, x11.Row.Vapour, x11.Row.Silica⟩ : GRow)⟩ : GFlash) p2 _ hf12) rfl rfl (nlc (NLt.agg _ (nlc nll (nlc nll (nlc nll (nlc nll (nlc nll nl0)))))) (nlc (NLt.agg _ (nlc nll (nlc nll (nlc nll (nlc nll nl0))))) nl0)) (NLt.agg _ (nlc nll (nlc nll (nlc nll (nlc nll (nlc nll (nlc nll (nlc nll (nlc nll (nlc nll (nlc nll nl0))))))))))) rfl, trivial⟩ ?_
     refine Qad ?_
     obtain rfl := osi h
     exact fend ⟨[(Zfv x13), I 0], ⟨Qcm (n := 1) (m := 10) (j := 0) (i := 0) (xs := [[I x13.Steam.Mass, I x13.Steam.Heat, I x13.Steam.Silica, I x13.Steam.Gas, I x13.Water.Mass, I x13.Water.Heat, I x13.Water.Silica, I x13.Water.Gas, I x13.Rest, I x13.Scale]]) (by kernel_rfl) (by kernel_rfl) ti79 (by decide) rfl (nle rfl) rfl, rot (by kernel_rfl), trivial⟩, rfl⟩ (NLt.tup _ (nlc (NLt.agg _ (nlc nll (nlc nll (nlc nll (nlc nll (nlc nll (nlc nll (nlc nll (nlc nll (nlc nll (nlc nll nl0))))))))))) (nlc nll nl0)))
def Qes (N : Nat) (p0 : Int) (p1 : GStream) (p2 : (List Int)) (_p3 : (List GRow)) (_p4 : (List GElement)) (_p5 : Nat) (p6 : Nat) (_p7 : Nat) (_p8 : (List GStream)) (_p9 : Int) (_p10 : (List (List GStream))) (p11 : (List GLost)) (_p12 : (List Int)) : Option ((List GStream) × (List GLost)) :=
  (Qik N p1 p2).bind fun x4 =>
  chk (decide (0 ≤ p0) && decide (p0.toNat < p6)) <|
  (p11[p0.toNat]?).bind fun x6 =>
  chk (decide (0 ≤ p0) && decide (p0.toNat < p6)) <|
  ((p11.set p0.toNat (⟨x4.2.1.Heat, x6.Silica, x6.Gas, x6.Scale⟩ : GLost))[p0.toNat]?).bind fun x9 =>
  chk (decide (0 ≤ p0) && decide (p0.toNat < p6)) <|
  (((p11.set p0.toNat (⟨x4.2.1.Heat, x6.Silica, x6.Gas, x6.Scale⟩ : GLost)).set p0.toNat (⟨x9.Heat, x4.2.1.Silica, x9.Gas, x9.Scale⟩ : GLost))[p0.toNat]?).bind fun x12 =>
  some (x4.1, ((p11.set p0.toNat (⟨x4.2.1.Heat, x6.Silica, x6.Gas, x6.Scale⟩ : GLost)).set p0.toNat (⟨x9.Heat, x4.2.1.Silica, x9.Gas, x9.Scale⟩ : GLost)).set p0.toNat (⟨x12.Heat, x12.Silica, x4.2.1.Gas, x12.Scale⟩ : GLost))
def Zbg (p1 : GStream) : AV := .agg [(I (p1.Mass)), (I (p1.Heat)), (I (p1.Silica)), (I (p1.Gas))]
def Zbf (p2 : (List Int)) : AV := .dat 1 ((p2 : List Int).map Qam)
def Qp3 (p3 : (List GRow)) (p4 : (List GElement)) (p5 : Nat) (p6 : Nat) (p7 : Nat) (p8 : (List GStream)) (p9 : Int) : Slot := .own 7 [[(.dat 5 ((p3 : List GRow).map Qav)), (.dat 7 ((p4 : List GElement).map Qah)), (.own 1 1 (0) (p5)), (.own 2 4 (0) (p6)), (.own 3 1 (0) (p7)), (.dat 4 ((p8 : List GStream).map Qaa)), (I (p9))]]
def Qy2 (p10 : (List (List GStream))) : Slot := .own 1 ((p10 : List (List GStream)).map Qab)
def Q3f (p11 : (List GLost)) : Slot := .own 4 ((p11 : List GLost).map Qax)
def Qy1 (p12 : (List Int)) : Slot := .own 1 ((p12 : List Int).map Qam)
def Qy3 (x4 : ((List GStream) × GLoss × Int)) : AV := .dat 4 ((x4.1 : List GStream).map Qaa)
def Q3e (p11 : (List GLost)) (p0 : Int) (x4 : ((List GStream) × GLoss × Int)) (x6 : GLost) : Slot := .own 4 ((p11.set p0.toNat (⟨x4.2.1.Heat, x6.Silica, x6.Gas, x6.Scale⟩ : GLost) : List GLost).map Qax)
def Q3d (p11 : (List GLost)) (p0 : Int) (x4 : ((List GStream) × GLoss × Int)) (x6 : GLost) (x9 : GLost) : Slot := .own 4 (((p11.set p0.toNat (⟨x4.2.1.Heat, x6.Silica, x6.Gas, x6.Scale⟩ : GLost)).set p0.toNat (⟨x9.Heat, x4.2.1.Silica, x9.Gas, x9.Scale⟩ : GLost) : List GLost).map Qax)
def Q99 (p11 : (List GLost)) (p0 : Int) (x4 : ((List GStream) × GLoss × Int)) (x6 : GLost) (x9 : GLost) (x12 : GLost) : Slot := .own 4 ((((p11.set p0.toNat (⟨x4.2.1.Heat, x6.Silica, x6.Gas, x6.Scale⟩ : GLost)).set p0.toNat (⟨x9.Heat, x4.2.1.Silica, x9.Gas, x9.Scale⟩ : GLost)).set p0.toNat (⟨x12.Heat, x12.Silica, x4.2.1.Gas, x12.Scale⟩ : GLost) : List GLost).map Qax)
theorem Qiv (N : Nat) (p0 : Int) (p1 : GStream) (p2 : (List Int)) (p3 : (List GRow)) (p4 : (List GElement)) (p5 : Nat) (p6 : Nat) (p7 : Nat) (p8 : (List GStream)) (p9 : Int) (p10 : (List (List GStream))) (p11 : (List GLost)) (p12 : (List Int)) (r : ((List GStream) × (List GLost))) (h : Qes N p0 p1 p2 p3 p4 p5 p6 p7 p8 p9 p10 p11 p12 = some r) : Spec Try.prog 92 [(.ref 0 7 (0) 0), (I (p0)), (Zbg p1), (Zbf p2)] [(Qp3 p3 p4 p5 p6 p7 p8 p9), (Qy2 p10), (Q3f p11), (Qy1 p12)] (.dat 4 ((r.1 : List GStream).map Qaa)) [(Qp3 p3 p4 p5 p6 p7 p8 p9), (Qy2 p10), (.own 4 ((r.2 : List GLost).map Qax)), (Qy1 p12)] := by
  refine Qag Try.func92 rfl 4 (nle rfl) (fun X φ0 w0 hφ0 hd0 => ?_)
  unfold Qes at h
  refine Qbs ?_
  refine wx tbk [] trivial ?_
  obtain ⟨x4, hf3, h⟩ := bno h
  refine wx tbk [(2, rp [fu 96, (.tmp 13, (Zbg p1)), (.tmp 14, (Zbf p2))] (.tup [(Qy3 x4), (.agg [I x4.2.1.Heat, I x4.2.1.Silica, I x4.2.1.Gas]), I x4.2.2]))] ⟨apc (first := []) (cap := []) (vs := [(Zbg p1), (Zbf p2)]) rfl Zdz (Qqm N p1 p2 _ hf3) rfl rfl (nlc (NLt.agg _ (nlc nll (nlc nll (nlc nll (nlc nll nl0))))) (nlc (nld Qaf _) nl0)) (NLt.tup _ (nlc (nld Qae _) (nlc (NLt.agg _ (nlc nll (nlc nll (nlc nll nl0)))) (nlc nll nl0)))) rfl, trivial⟩ ?_
  obtain ⟨hi5, h⟩ := cko h
  obtain ⟨hi5a, hi5b⟩ := Qfe hi5
  obtain ⟨x6, hg7, h⟩ := bno h
  obtain ⟨hi8, h⟩ := cko h
  obtain ⟨hi8a, hi8b⟩ := Qfe hi8
  obtain ⟨x9, hg10, h⟩ := bno h
  obtain ⟨hi11, h⟩ := cko h
  obtain ⟨hi11a, hi11b⟩ := Qfe hi11
  obtain ⟨x12, hg13, h⟩ := bno h
  refine wxd tbk [(1, rb [(.tmp 19, .ref 0 7 0 0)] [(0, (Qp3 p3 p4 p5 p6 p7 p8 p9))] (.ref 0 7 0 0)), (7, rb [(.tmp 25, .ref 0 7 0 0)] [(0, (Qp3 p3 p4 p5 p6 p7 p8 p9))] (.ref 0 7 0 0)), (13, rb [(.tmp 31, .ref 0 7 0 0)] [(0, (Qp3 p3 p4 p5 p6 p7 p8 p9))] (.ref 0 7 0 0)), (24, rb [(.tmp 23, (.own 2 4 (0) (p6))), (.tmp 24, I p0)] [(2, (Q3f p11))] (.ref 2 4 (p0.toNat) 0)), (26, ⟨[(.tmp 44, (.ref 2 4 (p0.toNat) 0)), (.tmp 38, I x4.2.1.Heat)], [(2, (Q3f p11))], .any, [(2, (Q3e p11 p0 x4 x6))], false⟩), (27, rb [(.tmp 29, (.own 2 4 (0) (p6))), (.tmp 30, I p0)] [(2, (Q3e p11 p0 x4 x6))] (.ref 2 4 (p0.toNat) 0)), (29, ⟨[(.tmp 46, (.ref 2 4 (p0.toNat) 1)), (.tmp 40, I x4.2.1.Silica)], [(2, (Q3e p11 p0 x4 x6))], .any, [(2, (Q3d p11 p0 x4 x6 x9))], false⟩), (30, rb [(.tmp 35, (.own 2 4 (0) (p6))), (.tmp 36, I p0)] [(2, (Q3d p11 p0 x4 x6 x9))] (.ref 2 4 (p0.toNat) 0)), (32, ⟨[(.tmp 48, (.ref 2 4 (p0.toNat) 2)), (.tmp 42, I x4.2.1.Gas)], [(2, (Q3d p11 p0 x4 x6 x9))], .any, [(2, (Q99 p11 p0 x4 x6 x9 x12))], false⟩)] ⟨Qbd rfl, Qbd rfl, Qbd rfl, aio rfl Try.underlying32 ti50 (odt hi5a) (odt hi5b) (Nat.zero_add _), ast rfl ti3 (by rfl) (mgt Qax hg7) (nle rfl) (Qg2 Qax rfl), aio rfl Try.underlying32 ti50 (odt hi8a) (odt hi8b) (Nat.zero_add _), ast rfl ti3 (by rfl) (mgt Qax hg10) (nle rfl) (Qg2 Qax rfl), aio rfl Try.underlying32 ti50 (odt hi11a) (odt hi11b) (Nat.zero_add _), ast rfl ti3 (by rfl) (mgt Qax hg13) (nle rfl) (Qg2 Qax rfl), trivial⟩ ?_
  refine wx tbk [] trivial ?_
  refine wmr (mto (n := 50) (l' := [(8, (Qy3 x4))]) (own' := [(Qp3 p3 p4 p5 p6 p7 p8 p9), (Qy2 p10), (.own 4 (((((p11.set p0.toNat (⟨x4.2.1.Heat, x6.Silica, x6.Gas, x6.Scale⟩ : GLost)).set p0.toNat (⟨x9.Heat, x4.2.1.Silica, x9.Gas, x9.Scale⟩ : GLost)).set p0.toNat (⟨x12.Heat, x12.Silica, x4.2.1.Gas, x12.Scale⟩ : GLost)) : List GLost).map Qax)), (Qy1 p12)]) [(8, (Qy3 x4))] [0, 1, 2, 3] [(Qp3 p3 p4 p5 p6 p7 p8 p9), (Qy2 p10), (Q99 p11 p0 x4 x6 x9 x12), (Qy1 p12)] hφ0 (pc (.rn (.plain _ (nld Qae _))) pn) (qc (spb (lc (.rn (.plain _ (nld Qai _))) (lc (.rn (.plain _ (nld Qac _))) (lc (.rn (Qba rfl)) (lc (.rn (Qba rfl)) (lc (.rn (Qba rfl)) (lc (.rn (.plain _ (nld Qae _))) (lc rwl ln)))))))) (qc (spr Qap) (qc (spr Qa1) (qc (spr Qaf) qn))))) ?_
  refine Qad ?_
  obtain rfl := osi h
  exact ⟨_, Mor.rfl, Qcx (vs := [(Qy3 x4)]) ⟨rot (by kernel_rfl), trivial⟩ rfl (NLt.of0 (nld Qae _)) (by kernel_rfl) (Qak (Qa6 (nlc (NLt.of0 (nld Qai _)) (nlc (NLt.of0 (nld Qac _)) (nlc (NLt.own _ _ _ _ (by decide)) (nlc (NLt.own _ _ _ _ (by decide)) (nlc (NLt.own _ _ _ _ (by decide)) (nlc (NLt.of0 (nld Qae _)) (nlc (NLt.of0 nll) nl0)))))))) (Qak (Qcl Qap _) (Qak (Qcl Qa1 _) (Qak (Qcl Qaf _) Qbo))))⟩
def Qep (N : Nat) (p0 : Int) (p1 : GStream) (p2 : (List GRow)) (p3 : (List GElement)) (p4 : Nat) (p5 : Nat) (p6 : Nat) (p7 : (List GStream)) (p8 : Int) (p9 : (List (List GStream))) (p10 : (List GLost)) (p11 : (List Int)) : Option ((List GStream) × Int × (List GLost) × (List Int)) :=
  (getI p3 p0).bind fun x5 =>
  (Qhe N p2 x5.Level p1).bind fun x10 =>
  chk (decide (0 ≤ p0) && decide (p0.toNat < p5)) <|
  (p10[p0.toNat]?).bind fun x12 =>
  chk (decide (0 ≤ p0) && decide (p0.toNat < p6)) <|
  (p11[p0.toNat]?).bind fun x15 =>
  chk (decide (0 ≤ p0) && decide (p0.toNat < p6)) <|
  (p11[p0.toNat]?).bind fun _ =>
  bif (x5.Amount == 0) then
   some ([(⟨x10.1.Steam.Mass, x10.1.Steam.Heat, x10.1.Steam.Silica, x10.1.Steam.Gas⟩ : GStream), (⟨x10.1.Water.Mass, x10.1.Water.Heat, x10.1.Water.Silica, x10.1.Water.Gas⟩ : GStream)], w64 (p8 + x10.1.Steam.Mass), p10.set p0.toNat (⟨x12.Heat, x12.Silica, x12.Gas, x10.1.Scale⟩ : GLost), p11.set p0.toNat (w64 (x15 + x10.1.Scale)))
  else
   (Qes N p0 (⟨x10.1.Water.Mass, x10.1.Water.Heat, x10.1.Water.Silica, x10.1.Water.Gas⟩ : GStream) ([w64 (1000 - x5.Amount), x5.Amount]) p2 p3 p4 p5 p6 p7 (w64 (p8 + x10.1.Steam.Mass)) p9 (p10.set p0.toNat (⟨x12.Heat, x12.Silica, x12.Gas, x10.1.Scale⟩ : GLost)) (p11.set p0.toNat (w64 (x15 + x10.1.Scale)))).bind fun x22 =>
   (getI x22.1 1).bind fun x23 =>
   (Qfb N ([(⟨x10.1.Steam.Mass, x10.1.Steam.Heat, x10.1.Steam.Silica, x10.1.Steam.Gas⟩ : GStream), x23])).bind fun x28 =>
   (getI x22.1 0).bind fun x29 =>
   some ([x28, x29], w64 (p8 + x10.1.Steam.Mass), x22.2, p11.set p0.toNat (w64 (x15 + x10.1.Scale)))
def Zbj (p1 : GStream) : AV := .agg [(I (p1.Mass)), (I (p1.Heat)), (I (p1.Silica)), (I (p1.Gas))]
def Qwl (p2 : (List GRow)) : AV := .dat 5 ((p2 : List GRow).map Qav)
def Q09 (p3 : (List GElement)) : AV := .dat 7 ((p3 : List GElement).map Qah)
def Q3k (p7 : (List GStream)) : AV := .dat 4 ((p7 : List GStream).map Qaa)
def Qwk (p2 : (List GRow)) (p3 : (List GElement)) (p4 : Nat) (p5 : Nat) (p6 : Nat) (p7 : (List GStream)) (p8 : Int) : Slot := .own 7 [[(Qwl p2), (Q09 p3), (.own 1 1 (0) (p4)), (.own 2 4 (0) (p5)), (.own 3 1 (0) (p6)), (Q3k p7), (I (p8))]]
def Qml (p9 : (List (List GStream))) : Slot := .own 1 ((p9 : List (List GStream)).map Qab)
def Q3l (p10 : (List GLost)) : Slot := .own 4 ((p10 : List GLost).map Qax)
def Quc (p11 : (List Int)) : Slot := .own 1 ((p11 : List Int).map Qam)
def Qy9 (p10 : (List GLost)) (p0 : Int) (x12 : GLost) (x10 : (GParts × Int)) : Slot := .own 4 ((p10.set p0.toNat (⟨x12.Heat, x12.Silica, x12.Gas, x10.1.Scale⟩ : GLost) : List GLost).map Qax)
def Qp4 (p11 : (List Int)) (p0 : Int) (x15 : Int) (x10 : (GParts × Int)) : Slot := .own 1 ((p11.set p0.toNat (w64 (x15 + x10.1.Scale)) : List Int).map Qam)
def Qy8 (x10 : (GParts × Int)) : AV := .agg [(I (x10.1.Steam.Mass)), (I (x10.1.Steam.Heat)), (I (x10.1.Steam.Silica)), (I (x10.1.Steam.Gas))]
def Q3j (x10 : (GParts × Int)) : AV := .agg [(I (x10.1.Water.Mass)), (I (x10.1.Water.Heat)), (I (x10.1.Water.Silica)), (I (x10.1.Water.Gas))]
def Qy7 (x10 : (GParts × Int)) : AV := .dat 4 (([(⟨x10.1.Steam.Mass, x10.1.Steam.Heat, x10.1.Steam.Silica, x10.1.Steam.Gas⟩ : GStream), (⟨x10.1.Water.Mass, x10.1.Water.Heat, x10.1.Water.Silica, x10.1.Water.Gas⟩ : GStream)] : List GStream).map Qaa)
def Qr8 (p2 : (List GRow)) (p3 : (List GElement)) (p4 : Nat) (p5 : Nat) (p6 : Nat) (p7 : (List GStream)) (p8 : Int) (x10 : (GParts × Int)) : Slot := .own 7 [[(Qwl p2), (Q09 p3), (.own 1 1 (0) (p4)), (.own 2 4 (0) (p5)), (.own 3 1 (0) (p6)), (Q3k p7), (I (w64 (p8 + x10.1.Steam.Mass)))]]
def Q3i (x5 : GElement) : AV := .dat 1 (([w64 (1000 - x5.Amount), x5.Amount] : List Int).map Qam)
def Qy5 (x22 : ((List GStream) × (List GLost))) : AV := .dat 4 ((x22.1 : List GStream).map Qaa)
def Qy6 (x22 : ((List GStream) × (List GLost))) : Slot := .own 4 ((x22.2 : List GLost).map Qax)
def Zab (x23 : GStream) : AV := .agg [(I (x23.Mass)), (I (x23.Heat)), (I (x23.Silica)), (I (x23.Gas))]
def Q3h (x10 : (GParts × Int)) (x23 : GStream) : AV := .dat 4 (([(⟨x10.1.Steam.Mass, x10.1.Steam.Heat, x10.1.Steam.Silica, x10.1.Steam.Gas⟩ : GStream), x23] : List GStream).map Qaa)
def Q3g (x28 : GStream) : AV := .agg [(I (x28.Mass)), (I (x28.Heat)), (I (x28.Silica)), (I (x28.Gas))]
def Zaa (x29 : GStream) : AV := .agg [(I (x29.Mass)), (I (x29.Heat)), (I (x29.Silica)), (I (x29.Gas))]
def Qy4 (x28 : GStream) (x29 : GStream) : AV := .dat 4 (([x28, x29] : List GStream).map Qaa)
theorem Qkk (N : Nat) (p0 : Int) (p1 : GStream) (p2 : (List GRow)) (p3 : (List GElement)) (p4 : Nat) (p5 : Nat) (p6 : Nat) (p7 : (List GStream)) (p8 : Int) (p9 : (List (List GStream))) (p10 : (List GLost)) (p11 : (List Int)) (r : ((List GStream) × Int × (List GLost) × (List Int))) (h : Qep N p0 p1 p2 p3 p4 p5 p6 p7 p8 p9 p10 p11 = some r) : Spec Try.prog 77 [(.ref 0 7 (0) 0), (I (p0)), (Zbj p1)] [(Qwk p2 p3 p4 p5 p6 p7 p8), (Qml p9), (Q3l p10), (Quc p11)] (.dat 4 ((r.1 : List GStream).map Qaa)) [(.own 7 [[(Qwl p2), (Q09 p3), (.own 1 1 (0) (p4)), (.own 2 4 (0) (p5)), (.own 3 1 (0) (p6)), (Q3k p7), (I (r.2.1))]]), (Qml p9), (.own 4 ((r.2.2.1 : List GLost).map Qax)), (.own 1 ((r.2.2.2 : List Int).map Qam))] := by
  refine Qag Try.func77 rfl 4 (nle rfl) (fun X φ0 w0 hφ0 hd0 => ?_)
  unfold Qep at h
  refine Qbs ?_
  refine wx tbk [] trivial ?_
  obtain ⟨x5, hg6, h⟩ := bno h
  obtain ⟨hi7, hj8⟩ := gsm hg6
  refine wx tbk [(1, rb [(.tmp 11, .ref 0 7 0 0)] [(0, (Qwk p2 p3 p4 p5 p6 p7 p8))] (.ref 0 7 0 0)), (6, rp [(.tmp 15, (Q09 p3)), (.tmp 16, I p0)] (.dptr (Qah (x5)) 0))] ⟨Qbd rfl, aid rfl Try.underlying40 ti76 rfl rfl hi7 (mgt Qah hj8) rfl, trivial⟩ ?_
  obtain ⟨x10, hf9, h⟩ := bno h
  refine wxd tbk [(1, rb [(.tmp 20, .ref 0 7 0 0)] [(0, (Qwk p2 p3 p4 p5 p6 p7 p8))] (.ref 0 7 0 0)), (8, rp [fu 25, (.tmp 24, (Qwl p2)), (.tmp 26, I x5.Level), (.tmp 27, (Zbj p1))] (.tup [(.agg [I x10.1.Steam.Mass, I x10.1.Steam.Heat, I x10.1.Steam.Silica, I x10.1.Steam.Gas, I x10.1.Water.Mass, I x10.1.Water.Heat, I x10.1.Water.Silica, I x10.1.Water.Gas, I x10.1.Rest, I x10.1.Scale]), I x10.2]))] ⟨Qbd rfl, apc (first := []) (cap := []) (vs := [(Qwl p2), I x5.Level, (Zbj p1)]) rfl Q6q (Qls N p2 x5.Level p1 _ hf9) rfl rfl (nlc (nld Qai _) (nlc nll (nlc (NLt.agg _ (nlc nll (nlc nll (nlc nll (nlc nll nl0))))) nl0))) (NLt.tup _ (nlc (NLt.agg _ (nlc nll (nlc nll (nlc nll (nlc nll (nlc nll (nlc nll (nlc nll (nlc nll (nlc nll (nlc nll nl0))))))))))) (nlc nll nl0))) rfl, trivial⟩ ?_
  obtain ⟨hi11, h⟩ := cko h
  obtain ⟨hi11a, hi11b⟩ := Qfe hi11
  obtain ⟨x12, hg13, h⟩ := bno h
  refine wxd tbk [(1, rb [(.tmp 31, .ref 0 7 0 0)] [(0, (Qwk p2 p3 p4 p5 p6 p7 p8))] (.ref 0 7 0 0)), (8, rb [(.tmp 35, (.own 2 4 (0) (p5))), (.tmp 36, I p0)] [(2, (Q3l p10))] (.ref 2 4 (p0.toNat) 0)), (10, ⟨[(.tmp 40, (.ref 2 4 (p0.toNat) 3)), (.tmp 38, I x10.1.Scale)], [(2, (Q3l p10))], .any, [(2, (Qy9 p10 p0 x12 x10))], false⟩)] ⟨Qbd rfl, aio rfl Try.underlying32 ti50 (odt hi11a) (odt hi11b) (Nat.zero_add _), ast rfl ti3 (by rfl) (mgt Qax hg13) (nle rfl) (Qg2 Qax rfl), trivial⟩ ?_
  obtain ⟨hi14, h⟩ := cko h
  obtain ⟨hi14a, hi14b⟩ := Qfe hi14
  obtain ⟨x15, hg16, h⟩ := bno h
  obtain ⟨hi17, h⟩ := cko h
  obtain ⟨hi17a, hi17b⟩ := Qfe hi17
  obtain ⟨x18, hg19, h⟩ := bno h
  refine wxd tbk [(1, rb [(.tmp 41, .ref 0 7 0 0)] [(0, (Qwk p2 p3 p4 p5 p6 p7 p8))] (.ref 0 7 0 0)), (6, rb [(.tmp 45, (.own 3 1 (0) (p6))), (.tmp 46, I p0)] [(3, (Quc p11))] (.ref 3 1 (p0.toNat) 0)), (7, rb [(.tmp 47, (.ref 3 1 (p0.toNat) 0))] [(3, (Quc p11))] (I x15)), (11, rb [(.tmp 45, (.own 3 1 (0) (p6))), (.tmp 46, I p0)] [(3, (Quc p11))] (.ref 3 1 (p0.toNat) 0)), (12, ⟨[(.tmp 52, (.ref 3 1 (p0.toNat) 0)), (.tmp 51, (I (w64 (x15 + x10.1.Scale))))], [(3, (Quc p11))], .any, [(3, (Qp4 p11 p0 x15 x10))], false⟩)] ⟨Qbd rfl, aio rfl Try.underlying27 ti3 (odt hi14a) (odt hi14b) (Nat.zero_add _), ald rfl ti3 (by decide) (mgt Qam hg16) (nle rfl) rfl, aio rfl Try.underlying27 ti3 (odt hi17a) (odt hi17b) (Nat.zero_add _), ast rfl ti3 (by rfl) (mgt Qam hg19) (nle rfl) (Qg2 Qam rfl), trivial⟩ ?_
  refine wxd tbk [(1, rb [(.tmp 53, .ref 0 7 0 0)] [(0, (Qwk p2 p3 p4 p5 p6 p7 p8))] (.ref 0 7 0 0)), (8, rb [(.tmp 53, .ref 0 7 0 0)] [(0, (Qwk p2 p3 p4 p5 p6 p7 p8))] (.ref 0 7 0 0))] ⟨Qbd rfl, Qbd rfl, trivial⟩ ?_
  refine wsq ?_
  refine wx tbk [] trivial ?_
  rcases bft ((x5.Amount == 0)) with hc20 | hc20
  ·replace h := Qa2 hc20 h
   refine wft hc20 (by kernel_rfl) ?_
   refine wx tbk [(4, rp [(.tmp 67, (Qy8 x10)), (.tmp 69, (Q3j x10))] (Qy7 x10))] ⟨Qbp (vs := [(Qy8 x10), (Q3j x10)]) rfl Try.underlying45 ti48 tz48 rfl (by decide) rfl (by decide) (by rfl) (by rfl) (by rfl) rfl, trivial⟩ ?_
   refine wmr (mto (n := 93) (l' := [(6, (Qy7 x10))]) (own' := [(.own 7 [[(Qwl p2), (Q09 p3), (.own 1 1 (0) (p4)), (.own 2 4 (0) (p5)), (.own 3 1 (0) (p6)), (Q3k p7), (I ((w64 (p8 + x10.1.Steam.Mass))))]]), (Qml p9), (.own 4 (((p10.set p0.toNat (⟨x12.Heat, x12.Silica, x12.Gas, x10.1.Scale⟩ : GLost)) : List GLost).map Qax)), (.own 1 (((p11.set p0.toNat (w64 (x15 + x10.1.Scale))) : List Int).map Qam))]) [(6, (Qy7 x10))] [0, 1, 2, 3] [(Qr8 p2 p3 p4 p5 p6 p7 p8 x10), (Qml p9), (Qy9 p10 p0 x12 x10), (Qp4 p11 p0 x15 x10)] hφ0 (pc (.rn (.plain _ (nld Qae _))) pn) (qc (spb (lc (.rn (.plain _ (nld Qai _))) (lc (.rn (.plain _ (nld Qac _))) (lc (.rn (Qba rfl)) (lc (.rn (Qba rfl)) (lc (.rn (Qba rfl)) (lc (.rn (.plain _ (nld Qae _))) (lc rwl ln)))))))) (qc (spr Qap) (qc (spr Qa1) (qc (spr Qaf) qn))))) ?_
   refine Qad ?_
   refine Qaj ?_
   obtain rfl := osi h
   exact ⟨_, Mor.rfl, Qcx (vs := [(Qy7 x10)]) ⟨rot (by kernel_rfl), trivial⟩ rfl (NLt.of0 (nld Qae _)) (by kernel_rfl) (Qak (Qa6 (nlc (NLt.of0 (nld Qai _)) (nlc (NLt.of0 (nld Qac _)) (nlc (NLt.own _ _ _ _ (by decide)) (nlc (NLt.own _ _ _ _ (by decide)) (nlc (NLt.own _ _ _ _ (by decide)) (nlc (NLt.of0 (nld Qae _)) (nlc (NLt.of0 nll) nl0)))))))) (Qak (Qcl Qap _) (Qak (Qcl Qa1 _) (Qak (Qcl Qaf _) Qbo))))⟩
  ·replace h := Qa3 hc20 h
   refine wfn hc20 (by kernel_rfl) ?_
   refine Qar ?_
   refine thn ?_
   obtain ⟨x22, hf21, h⟩ := bno h
   refine wx tbk [(9, rp [(.tmp 77, (I (w64 (1000 - x5.Amount)))), (.tmp 79, I x5.Amount)] (Q3i x5)), (10, ⟨[fu 92, (.tmp 71, .ref 0 7 0 0), (.tmp 72, I p0), (.tmp 74, (Q3j x10)), (.tmp 80, (Q3i x5))], [(0, (Qr8 p2 p3 p4 p5 p6 p7 p8 x10)), (1, (Qml p9)), (2, (Qy9 p10 p0 x12 x10)), (3, (Qp4 p11 p0 x15 x10))], (Qy5 x22), [(0, (Qr8 p2 p3 p4 p5 p6 p7 p8 x10)), (1, (Qml p9)), (2, (Qy6 x22)), (3, (Qp4 p11 p0 x15 x10))], false⟩)] ⟨Qbp (vs := [(I (w64 (1000 - x5.Amount))), I x5.Amount]) rfl Try.underlying27 ti3 tz3 rfl (by decide) rfl (by decide) (by rfl) (by rfl) (by rfl) rfl, Qao (first := []) (cap := []) (vs := [.ref 0 7 0 0, I p0, (.agg [(I ((⟨x10.1.Water.Mass, x10.1.Water.Heat, x10.1.Water.Silica, x10.1.Water.Gas⟩ : GStream).Mass)), (I ((⟨x10.1.Water.Mass, x10.1.Water.Heat, x10.1.Water.Silica, x10.1.Water.Gas⟩ : GStream).Heat)), (I ((⟨x10.1.Water.Mass, x10.1.Water.Heat, x10.1.Water.Silica, x10.1.Water.Gas⟩ : GStream).Silica)), (I ((⟨x10.1.Water.Mass, x10.1.Water.Heat, x10.1.Water.Silica, x10.1.Water.Gas⟩ : GStream).Gas))]), (Q3i x5)]) (σr := [(Qr8 p2 p3 p4 p5 p6 p7 p8 x10), (Qml p9), (Qy9 p10 p0 x12 x10), (Qp4 p11 p0 x15 x10)]) (σr' := [(Qr8 p2 p3 p4 p5 p6 p7 p8 x10), (Qml p9), (Qy6 x22), (Qp4 p11 p0 x15 x10)]) (res' := (Qy5 x22)) [0, 1, 2, 3] rfl Q6e (Qiv N p0 (⟨x10.1.Water.Mass, x10.1.Water.Heat, x10.1.Water.Silica, x10.1.Water.Gas⟩ : GStream) ([w64 (1000 - x5.Amount), x5.Amount]) p2 p3 p4 p5 p6 p7 (w64 (p8 + x10.1.Steam.Mass)) p9 (p10.set p0.toNat (⟨x12.Heat, x12.Silica, x12.Gas, x10.1.Scale⟩ : GLost)) (p11.set p0.toNat (w64 (x15 + x10.1.Scale))) _ hf21) rfl (Qbr (rnc (Qbb rfl) (rnc (.plain _ nll) (rnc (.plain _ (NLt.agg _ (nlc nll (nlc nll (nlc nll (nlc nll nl0)))))) (rnc (.plain _ (nld Qaf _)) rn0))))) (slc (Qal (rnc (.plain _ (nld Qai _)) (rnc (.plain _ (nld Qac _)) (rnc (Qc7 rfl) (rnc (Qc7 rfl) (rnc (Qc7 rfl) (rnc (.plain _ (nld Qae _)) (rnc (.plain _ nll) rn0)))))))) (slc (Qa9 Qap) (slc (Qa9 Qa1) (slc (Qa9 Qaf) Qan)))) (slc (Qal (rnc (.plain _ (nld Qai _)) (rnc (.plain _ (nld Qac _)) (rnc (Qdd rfl) (rnc (Qdd rfl) (rnc (Qdd rfl) (rnc (.plain _ (nld Qae _)) (rnc (.plain _ nll) rn0)))))))) (slc (Qa9 Qap) (slc (Qa9 Qa1) (slc (Qa9 Qaf) Qan)))) (.plain _ (nld Qae _)) rfl rfl rfl, trivial⟩ ?_
   obtain ⟨x23, hg24, h⟩ := bno h
   obtain ⟨hi25, hj26⟩ := gsm hg24
   obtain ⟨x28, hf27, h⟩ := bno h
   obtain ⟨x29, hg30, h⟩ := bno h
   obtain ⟨hi31, hj32⟩ := gsm hg30
   refine wxd tbk [(3, rp [(.tmp 84, (Qy5 x22)), ci 1] (.dptr (Qaa (x23)) 0)), (5, rp [(.tmp 83, (Qy8 x10)), (.tmp 86, (Zab x23))] (Q3h x10 x23)), (6, rp [fu 31, (.tmp 87, (Q3h x10 x23))] (Q3g x28)), (8, rp [(.tmp 89, (Qy5 x22)), ci 0] (.dptr (Qaa (x29)) 0)), (10, rp [(.tmp 88, (Q3g x28)), (.tmp 91, (Zaa x29))] (Qy4 x28 x29))] ⟨aid rfl Try.underlying45 ti48 rfl rfl hi25 (mgt Qaa hj26) rfl, Qbp (vs := [(Qy8 x10), (Zab x23)]) rfl Try.underlying45 ti48 tz48 rfl (by decide) rfl (by decide) (by rfl) (by rfl) (by rfl) rfl, apc (first := []) (cap := []) (vs := [(Q3h x10 x23)]) rfl Qx5 (Qkd N ([(⟨x10.1.Steam.Mass, x10.1.Steam.Heat, x10.1.Steam.Silica, x10.1.Steam.Gas⟩ : GStream), x23]) _ hf27) rfl rfl (nlc (nld Qae _) nl0) (NLt.agg _ (nlc nll (nlc nll (nlc nll (nlc nll nl0))))) rfl, aid rfl Try.underlying45 ti48 rfl rfl hi31 (mgt Qaa hj32) rfl, Qbp (vs := [(Q3g x28), (Zaa x29)]) rfl Try.underlying45 ti48 tz48 rfl (by decide) rfl (by decide) (by rfl) (by rfl) (by rfl) rfl, trivial⟩ ?_
   refine wmr (mto (n := 93) (l' := [(6, (Qy4 x28 x29))]) (own' := [(.own 7 [[(Qwl p2), (Q09 p3), (.own 1 1 (0) (p4)), (.own 2 4 (0) (p5)), (.own 3 1 (0) (p6)), (Q3k p7), (I ((w64 (p8 + x10.1.Steam.Mass))))]]), (Qml p9), (Qy6 x22), (.own 1 (((p11.set p0.toNat (w64 (x15 + x10.1.Scale))) : List Int).map Qam))]) [(6, (Qy4 x28 x29))] [0, 1, 2, 3] [(Qr8 p2 p3 p4 p5 p6 p7 p8 x10), (Qml p9), (Qy6 x22), (Qp4 p11 p0 x15 x10)] hφ0 (pc (.rn (.plain _ (nld Qae _))) pn) (qc (spb (lc (.rn (.plain _ (nld Qai _))) (lc (.rn (.plain _ (nld Qac _))) (lc (.rn (Qba rfl)) (lc (.rn (Qba rfl)) (lc (.rn (Qba rfl)) (lc (.rn (.plain _ (nld Qae _))) (lc rwl ln)))))))) (qc (spr Qap) (qc (spr Qa1) (qc (spr Qaf) qn))))) ?_
   refine Qad ?_
   obtain rfl := osi h
   exact ⟨_, Mor.rfl, Qcx (vs := [(Qy4 x28 x29)]) ⟨rot (by kernel_rfl), trivial⟩ rfl (NLt.of0 (nld Qae _)) (by kernel_rfl) (Qak (Qa6 (nlc (NLt.of0 (nld Qai _)) (nlc (NLt.of0 (nld Qac _)) (nlc (NLt.own _ _ _ _ (by decide)) (nlc (NLt.own _ _ _ _ (by decide)) (nlc (NLt.own _ _ _ _ (by decide)) (nlc (NLt.of0 (nld Qae _)) (nlc (NLt.of0 nll) nl0)))))))) (Qak (Qcl Qap _) (Qak (Qcl Qa1 _) (Qak (Qcl Qaf _) Qbo))))⟩
def Qgp (N : Nat) (p0 : Int) (p1 : GStream) (p2 : (List GRow)) (p3 : (List GElement)) (p4 : Nat) (p5 : Nat) (p6 : Nat) (p7 : (List GStream)) (p8 : Int) (p9 : (List (List GStream))) (p10 : (List GLost)) (p11 : (List Int)) : Option ((List GStream) × (List GLost)) :=
  (getI p3 p0).bind fun x3 =>
  (Qes N p0 p1 x3.Weights p2 p3 p4 p5 p6 p7 p8 p9 p10 p11).bind fun x8 =>
  some (x8.1, x8.2)
def Zbe (p1 : GStream) : AV := .agg [(I (p1.Mass)), (I (p1.Heat)), (I (p1.Silica)), (I (p1.Gas))]
def Qs5 (p2 : (List GRow)) (p3 : (List GElement)) (p4 : Nat) (p5 : Nat) (p6 : Nat) (p7 : (List GStream)) (p8 : Int) : Slot := .own 7 [[(.dat 5 ((p2 : List GRow).map Qav)), (.dat 7 ((p3 : List GElement).map Qah)), (.own 1 1 (0) (p4)), (.own 2 4 (0) (p5)), (.own 3 1 (0) (p6)), (.dat 4 ((p7 : List GStream).map Qaa)), (I (p8))]]
def Qua (p9 : (List (List GStream))) : Slot := .own 1 ((p9 : List (List GStream)).map Qab)
def Zbd (p10 : (List GLost)) : Slot := .own 4 ((p10 : List GLost).map Qax)
def Qt9 (p11 : (List Int)) : Slot := .own 1 ((p11 : List Int).map Qam)
def Qub (x8 : ((List GStream) × (List GLost))) : AV := .dat 4 ((x8.1 : List GStream).map Qaa)
def Qy0 (x8 : ((List GStream) × (List GLost))) : Slot := .own 4 ((x8.2 : List GLost).map Qax)
theorem Qlx (N : Nat) (p0 : Int) (p1 : GStream) (p2 : (List GRow)) (p3 : (List GElement)) (p4 : Nat) (p5 : Nat) (p6 : Nat) (p7 : (List GStream)) (p8 : Int) (p9 : (List (List GStream))) (p10 : (List GLost)) (p11 : (List Int)) (r : ((List GStream) × (List GLost))) (h : Qgp N p0 p1 p2 p3 p4 p5 p6 p7 p8 p9 p10 p11 = some r) : Spec Try.prog 78 [(.ref 0 7 (0) 0), (I (p0)), (Zbe p1)] [(Qs5 p2 p3 p4 p5 p6 p7 p8), (Qua p9), (Zbd p10), (Qt9 p11)] (.dat 4 ((r.1 : List GStream).map Qaa)) [(Qs5 p2 p3 p4 p5 p6 p7 p8), (Qua p9), (.own 4 ((r.2 : List GLost).map Qax)), (Qt9 p11)] := by
  refine Qag Try.func78 rfl 4 (nle rfl) (fun X φ0 w0 hφ0 hd0 => ?_)
  unfold Qgp at h
  refine Qbs ?_
  refine wx tbk [] trivial ?_
  obtain ⟨x3, hg4, h⟩ := bno h
  obtain ⟨hi5, hj6⟩ := gsm hg4
  obtain ⟨x8, hf7, h⟩ := bno h
  refine wxd tbk [(4, rb [(.tmp 10, .ref 0 7 0 0)] [(0, (Qs5 p2 p3 p4 p5 p6 p7 p8))] (.ref 0 7 0 0)), (9, rp [(.tmp 14, (.dat 7 ((p3 : List GElement).map Qah))), (.tmp 15, I p0)] (.dptr (Qah (x3)) 0)), (12, ⟨[fu 92, (.tmp 7, .ref 0 7 0 0), (.tmp 8, I p0), (.tmp 9, (Zbe p1)), (.tmp 18, (.dat 1 ((x3.Weights : List Int).map Qam)))], [(0, (Qs5 p2 p3 p4 p5 p6 p7 p8)), (1, (Qua p9)), (2, (Zbd p10)), (3, (Qt9 p11))], (Qub x8), [(0, (Qs5 p2 p3 p4 p5 p6 p7 p8)), (1, (Qua p9)), (2, (Qy0 x8)), (3, (Qt9 p11))], false⟩)] ⟨Qbd rfl, aid rfl Try.underlying40 ti76 rfl rfl hi5 (mgt Qah hj6) rfl, Qao (first := []) (cap := []) (vs := [.ref 0 7 0 0, I p0, (Zbe p1), (.dat 1 ((x3.Weights : List Int).map Qam))]) (σr := [(Qs5 p2 p3 p4 p5 p6 p7 p8), (Qua p9), (Zbd p10), (Qt9 p11)]) (σr' := [(Qs5 p2 p3 p4 p5 p6 p7 p8), (Qua p9), (Qy0 x8), (Qt9 p11)]) (res' := (Qub x8)) [0, 1, 2, 3] rfl Q6e (Qiv N p0 p1 x3.Weights p2 p3 p4 p5 p6 p7 p8 p9 p10 p11 _ hf7) rfl (Qbr (rnc (Qbb rfl) (rnc (.plain _ nll) (rnc (.plain _ (NLt.agg _ (nlc nll (nlc nll (nlc nll (nlc nll nl0)))))) (rnc (.plain _ (nld Qaf _)) rn0))))) (slc (Qal (rnc (.plain _ (nld Qai _)) (rnc (.plain _ (nld Qac _)) (rnc (Qc7 rfl) (rnc (Qc7 rfl) (rnc (Qc7 rfl) (rnc (.plain _ (nld Qae _)) (rnc (.plain _ nll) rn0)))))))) (slc (Qa9 Qap) (slc (Qa9 Qa1) (slc (Qa9 Qaf) Qan)))) (slc (Qal (rnc (.plain _ (nld Qai _)) (rnc (.plain _ (nld Qac _)) (rnc (Qdd rfl) (rnc (Qdd rfl) (rnc (Qdd rfl) (rnc (.plain _ (nld Qae _)) (rnc (.plain _ nll) rn0)))))))) (slc (Qa9 Qap) (slc (Qa9 Qa1) (slc (Qa9 Qaf) Qan)))) (.plain _ (nld Qae _)) rfl rfl rfl, trivial⟩ ?_
  refine wmr (mto (n := 20) (l' := [(6, (Qub x8))]) (own' := [(Qs5 p2 p3 p4 p5 p6 p7 p8), (Qua p9), (Qy0 x8), (Qt9 p11)]) [(6, (Qub x8))] [0, 1, 2, 3] [(Qs5 p2 p3 p4 p5 p6 p7 p8), (Qua p9), (Qy0 x8), (Qt9 p11)] hφ0 (pc (.rn (.plain _ (nld Qae _))) pn) (qc (spb (lc (.rn (.plain _ (nld Qai _))) (lc (.rn (.plain _ (nld Qac _))) (lc (.rn (Qba rfl)) (lc (.rn (Qba rfl)) (lc (.rn (Qba rfl)) (lc (.rn (.plain _ (nld Qae _))) (lc rwl ln)))))))) (qc (spr Qap) (qc (spr Qa1) (qc (spr Qaf) qn))))) ?_
  refine Qad ?_
  obtain rfl := osi h
  exact ⟨_, Mor.rfl, Qcx (vs := [(Qub x8)]) ⟨rot (by kernel_rfl), trivial⟩ rfl (NLt.of0 (nld Qae _)) (by kernel_rfl) (Qak (Qa6 (nlc (NLt.of0 (nld Qai _)) (nlc (NLt.of0 (nld Qac _)) (nlc (NLt.own _ _ _ _ (by decide)) (nlc (NLt.own _ _ _ _ (by decide)) (nlc (NLt.own _ _ _ _ (by decide)) (nlc (NLt.of0 (nld Qae _)) (nlc (NLt.of0 nll) nl0)))))))) (Qak (Qcl Qap _) (Qak (Qcl Qa1 _) (Qak (Qcl Qaf _) Qbo))))⟩
def Qcu (N : Nat) (p0 : Int) (p1 : Int) (p2 : (List GRow)) (p3 : (List GElement)) (p4 : Nat) (p5 : Nat) (p6 : Nat) (p7 : (List GStream)) (p8 : Int) (p9 : (List (List GStream))) (p10 : (List GLost)) (p11 : (List Int)) : Option ((Int × (List (List GStream)) × (List GLost) × (List Int)) ⊕ Int) :=
  (Qf8 N p0 p2 p3 p4 p5 p6 p7 p8 p9 p10 p11).bind fun _ =>
  chk (decide (p4 ≤ p9.length)) <|
  chk (decide (p5 ≤ p10.length)) <|
  chk (decide (p6 ≤ p11.length)) <|
  (Qby N p2 p3 (p9.take p4) (p10.take p5) (p11.take p6) p7 p8 p0).bind fun x12 =>
  (Qfb N x12).bind fun x14 =>
  Qcv (fun _ =>
    (getI p3 p0).bind fun x16 =>
    bif (x16.Kind == 0) then
     none
    else
     bif (x16.Kind == 1) then
      (Qe5 N p0 x14 p2 p3 p4 p5 p6 p7 p8 p9 p10 p11).bind fun x23 =>
      chk (decide (0 ≤ p0) && decide (p0.toNat < p4)) <|
      (p9[p0.toNat]?).bind fun _ =>
      some (.inl (p8, p9.set p0.toNat x23, p10, p11))
     else
      bif (x16.Kind == 2) then
       (Qe5 N p0 x14 p2 p3 p4 p5 p6 p7 p8 p9 p10 p11).bind fun x29 =>
       chk (decide (0 ≤ p0) && decide (p0.toNat < p4)) <|
       (p9[p0.toNat]?).bind fun _ =>
       some (.inl (p8, p9.set p0.toNat x29, p10, p11))
      else
       bif (x16.Kind == 3) then
        (Qg0 N p0 x14 p2 p3 p4 p5 p6 p7 p8 p9 p10 p11).bind fun x35 =>
        chk (decide (0 ≤ p0) && decide (p0.toNat < p4)) <|
        (p9[p0.toNat]?).bind fun _ =>
        some (.inl (p8, p9.set p0.toNat x35.1, x35.2, p11))
       else
        bif (x16.Kind == 4) then
         (Qep N p0 x14 p2 p3 p4 p5 p6 p7 p8 p9 p10 p11).bind fun x41 =>
         chk (decide (0 ≤ p0) && decide (p0.toNat < p4)) <|
         (p9[p0.toNat]?).bind fun _ =>
         some (.inl (x41.2.1, p9.set p0.toNat x41.1, x41.2.2.1, x41.2.2.2))
        else
         bif (x16.Kind == 5) then
          (Qgp N p0 x14 p2 p3 p4 p5 p6 p7 p8 p9 p10 p11).bind fun x47 =>
          chk (decide (0 ≤ p0) && decide (p0.toNat < p4)) <|
          (p9[p0.toNat]?).bind fun _ =>
          some (.inl (p8, p9.set p0.toNat x47.1, x47.2, p11))
         else
          bif (x16.Kind == 6) then
           (Qe5 N p0 x14 p2 p3 p4 p5 p6 p7 p8 p9 p10 p11).bind fun x53 =>
           chk (decide (0 ≤ p0) && decide (p0.toNat < p4)) <|
           (p9[p0.toNat]?).bind fun _ =>
           some (.inl (p8, p9.set p0.toNat x53, p10, p11))
          else
           none) fun k15 : Unit → Option ((Int × (List (List GStream)) × (List GLost) × (List Int)) ⊕ Int) =>
  bif (decide (x14.Mass > p1)) then
   some (.inr p0)
  else
   k15 ()
def Qem (p2 : (List GRow)) : AV := .dat 5 ((p2 : List GRow).map Qav)
def Qdm (p3 : (List GElement)) : AV := .dat 7 ((p3 : List GElement).map Qah)
def Qel (p7 : (List GStream)) : AV := .dat 4 ((p7 : List GStream).map Qaa)
def Qf0 (p2 : (List GRow)) (p3 : (List GElement)) (p4 : Nat) (p5 : Nat) (p6 : Nat) (p7 : (List GStream)) (p8 : Int) : Slot := .own 7 [[(Qem p2), (Qdm p3), (.own 1 1 (0) (p4)), (.own 2 4 (0) (p5)), (.own 3 1 (0) (p6)), (Qel p7), (I (p8))]]
def Qfh (p9 : (List (List GStream))) : Slot := .own 1 ((p9 : List (List GStream)).map Qab)
def Qgy (p10 : (List GLost)) : Slot := .own 4 ((p10 : List GLost).map Qax)
def Qfz (p11 : (List Int)) : Slot := .own 1 ((p11 : List Int).map Qam)
def Zbp : AV := .fn (.func 90) [] [(.ref 4 1 (0) 0), (.ref 5 1 (0) 0)]
def Zbq : Slot := .own 1 [[(.ref 0 7 (0) 0)]]
def Q3s (x12 : (List GStream)) : AV := .acc 6 48 4 ((x12 : List GStream).map Qaa)
def Qhk (x14 : GStream) : AV := .agg [(I (x14.Mass)), (I (x14.Heat)), (I (x14.Silica)), (I (x14.Gas))]
def Qo9 (x14 : GStream) : Slot := .own 4 [[(I (x14.Mass)), (I (x14.Heat)), (I (x14.Silica)), (I (x14.Gas))]]
def Qlc : Slot := .own 7 [[(.lit .nilFunc), (.fn (.func 75) [] []), (.fn (.func 75) [] []), (.fn (.func 76) [] []), (.fn (.func 77) [] []), (.fn (.func 78) [] []), (.fn (.func 75) [] [])]]
def Q3r (x23 : (List GStream)) : AV := .dat 4 ((x23 : List GStream).map Qaa)
def Q3q (x29 : (List GStream)) : AV := .dat 4 ((x29 : List GStream).map Qaa)
def Qzj (x35 : ((List GStream) × (List GLost))) : Slot := .own 4 ((x35.2 : List GLost).map Qax)
def Qzi (p2 : (List GRow)) (p3 : (List GElement)) (p4 : Nat) (p5 : Nat) (p6 : Nat) (p7 : (List GStream)) (x41 : ((List GStream) × Int × (List GLost) × (List Int))) : Slot := .own 7 [[(Qem p2), (Qdm p3), (.own 1 1 (0) (p4)), (.own 2 4 (0) (p5)), (.own 3 1 (0) (p6)), (Qel p7), (I (x41.2.1))]]
def Qzh (x41 : ((List GStream) × Int × (List GLost) × (List Int))) : Slot := .own 4 ((x41.2.2.1 : List GLost).map Qax)
def Qzg (x41 : ((List GStream) × Int × (List GLost) × (List Int))) : Slot := .own 1 ((x41.2.2.2 : List Int).map Qam)
def Qzf (x47 : ((List GStream) × (List GLost))) : Slot := .own 4 ((x47.2 : List GLost).map Qax)
def Q3p (x53 : (List GStream)) : AV := .dat 4 ((x53 : List GStream).map Qaa)
theorem Qhu (N : Nat) (p0 : Int) (p1 : Int) (p2 : (List GRow)) (p3 : (List GElement)) (p4 : Nat) (p5 : Nat) (p6 : Nat) (p7 : (List GStream)) (p8 : Int) (p9 : (List (List GStream))) (p10 : (List GLost)) (p11 : (List Int)) (r : ((Int × (List (List GStream)) × (List GLost) × (List Int)) ⊕ Int)) (h : Qcu N p0 p1 p2 p3 p4 p5 p6 p7 p8 p9 p10 p11 = some r) : Zg1 Try.prog 52 [(.ref 0 7 (0) 0), (I (p0)), (I (p1))] [(Qf0 p2 p3 p4 p5 p6 p7 p8), (Qfh p9), (Qgy p10), (Qfz p11)]  ((Sum.elim (fun r => .ret (.tup []) [(.own 7 [[(.dat 5 ((p2 : List GRow).map Qav)), (.dat 7 ((p3 : List GElement).map Qah)), (.own 1 1 (0) (p4)), (.own 2 4 (0) (p5)), (.own 3 1 (0) (p6)), (.dat 4 ((p7 : List GStream).map Qaa)), (I (r.1))]]), (.own 1 ((r.2.1 : List (List GStream)).map Qab)), (.own 4 ((r.2.2.1 : List GLost).map Qax)), (.own 1 ((r.2.2.2 : List Int).map Qam))]) (fun r => .pan (.iface 120 (.agg #[(.int .i64 (r))]))) : ((Int × (List (List GStream)) × (List GLost) × (List Int)) ⊕ Int) → Out) r) := by
  refine Qu2 Try.func52 rfl 4 (nle rfl) (fun X φ0 w0 hφ0 hd0 => ?_)
  unfold Qcu at h
  obtain ⟨x7, hf6, h⟩ := bno h
  obtain ⟨hz8, h⟩ := cko h
  obtain ⟨hz9, h⟩ := cko h
  obtain ⟨hz10, h⟩ := cko h
  obtain ⟨x12, hf11, h⟩ := bno h
  obtain ⟨x14, hf13, h⟩ := bno h
  refine wx tbk [(2, ⟨[fu 74, (.tmp 8, .ref 0 7 0 0), (.tmp 9, I p0)], [(0, (Qf0 p2 p3 p4 p5 p6 p7 p8)), (1, (Qfh p9)), (2, (Qgy p10)), (3, (Qfz p11)), (4, .unused), (5, .unused)], Zbp, [(0, (Qf0 p2 p3 p4 p5 p6 p7 p8)), (1, (Qfh p9)), (2, (Qgy p10)), (3, (Qfz p11)), (4, Zbq), (5, .own 1 [[I p0]])], false⟩), (3, ⟨[fu 73, (.tmp 10, Zbp)], [(4, Zbq), (0, (Qf0 p2 p3 p4 p5 p6 p7 p8)), (1, (Qfh p9)), (2, (Qgy p10)), (3, (Qfz p11)), (5, .own 1 [[I p0]]), (6, .unused)], (Q3s x12), [(6, .tok)], false⟩), (4, rp [fu 31, (.tmp 11, (Q3s x12))] (Qhk x14))] ⟨Qao (first := []) (cap := []) (vs := [.ref 0 7 0 0, I p0]) (σr := [(Qf0 p2 p3 p4 p5 p6 p7 p8), (Qfh p9), (Qgy p10), (Qfz p11)]) (σr' := [(Qf0 p2 p3 p4 p5 p6 p7 p8), (Qfh p9), (Qgy p10), (Qfz p11), Zbq, (.own 1 [[I p0]])]) (res' := Zbp) [0, 1, 2, 3, 4, 5] rfl Zeg (Qmf N p0 p2 p3 p4 p5 p6 p7 p8 p9 p10 p11 _ hf6) rfl (Qbr (rnc (Qbb rfl) (rnc (.plain _ nll) rn0))) (slc (Qal (rnc (.plain _ (nld Qai _)) (rnc (.plain _ (nld Qac _)) (rnc (Qc7 rfl) (rnc (Qc7 rfl) (rnc (Qc7 rfl) (rnc (.plain _ (nld Qae _)) (rnc (.plain _ nll) rn0)))))))) (slc (Qa9 Qap) (slc (Qa9 Qa1) (slc (Qa9 Qaf) Qan)))) (slc (Qal (rnc (.plain _ (nld Qai _)) (rnc (.plain _ (nld Qac _)) (rnc (Qdd rfl) (rnc (Qdd rfl) (rnc (Qdd rfl) (rnc (.plain _ (nld Qae _)) (rnc (.plain _ nll) rn0)))))))) (slc (Qa9 Qap) (slc (Qa9 Qa1) (slc (Qa9 Qaf) (slc (Qal (rnc (Qbk rfl) rn0)) (slc (Qal (rnc (.plain _ nll) rn0)) Qan)))))) (Qbe rn0 (rnc (Qbk rfl) (rnc (Qbk rfl) rn0))) rfl rfl rfl, Qjc (rd' := [fu 73, (.tmp 10, (.fn (.func 90) [] [(.dptr [(.dptr [(Qem p2), (Qdm p3), (.dat 1 ((p9.take p4 : List (List GStream)).map Qab)), (.dat 4 ((p10.take p5 : List GLost).map Qax)), (.dat 1 ((p11.take p6 : List Int).map Qam)), (Qel p7), I p8] 0)] 0), (.dptr [I p0] 0)]))]) [(4, 1, [[.ref 0 7 0 0]]), (0, 7, [[(Qem p2), (Qdm p3), (.own 1 1 (0) (p4)), (.own 2 4 (0) (p5)), (.own 3 1 (0) (p6)), (Qel p7), I p8]]), (1, 1, (p9 : List (List GStream)).map Qab), (2, 4, (p10 : List GLost).map Qax), (3, 1, (p11 : List Int).map Qam), (5, 1, [[I p0]])] ⟨rfl, .same _, rfl, (Q9i trivial ⟨(Qnz 0 rfl (lc (Qnz 1 rfl (lc (.same _) (lc (.same _) (lc (Qx8 2 rfl hz8) (lc (Qx8 3 rfl hz9) (lc (Qx8 4 rfl hz10) (lc (.same _) (lc (.same _) ln)))))))) ln)), (Qnz 5 rfl (lc (.same _) ln)), trivial⟩), trivial⟩ (by rfl) (.acc _ _ _ _ (nin rfl) (by simp) (Q84 Qxw _)) (Q8s .tok Qtf) (Qao (first := []) (cap := []) (vs := [(.fn (.func 90) [] [(.dptr [(.dptr [(Qem p2), (Qdm p3), (.dat 1 ((p9.take p4 : List (List GStream)).map Qab)), (.dat 4 ((p10.take p5 : List GLost).map Qax)), (.dat 1 ((p11.take p6 : List Int).map Qam)), (Qel p7), I p8] 0)] 0), (.dptr [I p0] 0)])]) (σr := []) (σr' := [.tok]) (res' := (Q3s x12)) [6] rfl Zeh (Qhs N p2 p3 (p9.take p4) (p10.take p5) (p11.take p6) p7 p8 p0 _ hf11) rfl (Qbr (rnc (.plain _ (NLt.fn _ _ _ nl0 (nlc (NLt.dptr _ _ (nlc (NLt.dptr _ _ (nlc (nld Qai _) (nlc (nld Qac _) (nlc (nld Qap _) (nlc (nld Qa1 _) (nlc (nld Qaf _) (nlc (nld Qae _) (nlc nll nl0)))))))) nl0)) (nlc (NLt.dptr _ _ (nlc nll nl0)) nl0)))) rn0)) Qan (slc .tok Qan) (Q46 rfl (Qei Qae _)) rfl rfl rfl), awk (rd' := (.func 31, (.fn (.func 31) [] [])) :: [(.tmp 11, (.dat 4 ((x12 : List GStream).map Qaa)))]) ⟨rfl, lrf, rfl, Less.acc, trivial⟩ (apc (first := []) (cap := []) (vs := [(.dat 4 ((x12 : List GStream).map Qaa))]) rfl Qx5 (Qkd N x12 _ hf13) rfl rfl (nlc (nld Qae _) nl0) (NLt.agg _ (nlc nll (nlc nll (nlc nll (nlc nll nl0))))) rfl), trivial⟩ ?_
  obtain ⟨k15, hk_k15, h⟩ := jko h
  refine wjn (τ := Unit) (fun t => k15 t = some r) (fun _ => ⟨mk 43 [(0, .ref 0 7 0 0), (1, I p0), (6, .ref 4 4 0 0)], [(Qf0 p2 p3 p4 p5 p6 p7 p8), (Qfh p9), (Qgy p10), (Qfz p11), (Qo9 x14)]⟩) (fun t h => ?_) ?_
  ·subst hk_k15
   refine wx tbk [(0, rp [fu 75, fu 75, fu 76, fu 77, fu 78, fu 75] (.agg [(.lit .nilFunc), (.fn (.func 75) [] []), (.fn (.func 75) [] []), (.fn (.func 76) [] []), (.fn (.func 77) [] []), (.fn (.func 78) [] []), (.fn (.func 75) [] [])]))] ⟨Qpj (vs := [(.fn (.func 75) [] []), (.fn (.func 75) [] []), (.fn (.func 76) [] []), (.fn (.func 77) [] []), (.fn (.func 78) [] []), (.fn (.func 75) [] [])]) rfl Try.underlying144 Qnk Zf8 rfl (by rfl) rfl, trivial⟩ ?_
   obtain ⟨x16, hg17, h⟩ := bno h
   obtain ⟨hi18, hj19⟩ := gsm hg17
   rcases bft ((x16.Kind == 0)) with hb20 | hb20
   ·replace h := Qa2 hb20 h
    cases h
   ·replace h := Qa3 hb20 h
    rcases bft ((x16.Kind == 1)) with hb21 | hb21
    ·replace h := Qa2 hb21 h
     obtain ⟨x23, hf22, h⟩ := bno h
     obtain ⟨hi24, h⟩ := cko h
     obtain ⟨hi24a, hi24b⟩ := Qfe hi24
     obtain ⟨x25, hg26, h⟩ := bno h
     refine Qku [mv 0 (.ref 0 7 0 0), ⟨[(.tmp 21, .ref 0 7 0 0)], [], .ref 0 7 0 0, [], false⟩, ⟨[(.tmp 22, .ref 0 7 0 0)], [], .ref 0 7 0 2, [], false⟩, ⟨[(.tmp 23, .ref 0 7 0 2)], [], .ref 0 7 0 2, [], false⟩, ⟨[(.tmp 24, .ref 0 7 0 2)], [], (.own 1 1 (0) (p4)), [], false⟩, mv 1 (I p0), mv 0 (.ref 0 7 0 0), ⟨[(.tmp 27, .ref 0 7 0 0)], [], .ref 0 7 0 0, [], false⟩, ⟨[(.tmp 28, .ref 0 7 0 0)], [], .ref 0 7 0 0, [], false⟩, ⟨[(.tmp 29, .ref 0 7 0 0)], [], .ref 0 7 0 1, [], false⟩, ⟨[(.tmp 30, .ref 0 7 0 1)], [], (Qdm p3), [], false⟩, mv 1 (I p0), rp [(.tmp 31, (Qdm p3)), (.tmp 32, I p0)] (.dptr (Qah (x16)) 0), mv 33 (.dptr (Qah (x16)) 0), rp [(.tmp 34, (.dptr (Qah (x16)) 0))] (K .u8 (x16.Kind)), rb [(.tmp 7, .ref 5 7 0 0), (.tmp 35, (K .u8 (x16.Kind)))] [(5, Qlc)] (.ref 5 7 0 1), rb [(.tmp 36, .ref 5 7 0 1)] [(5, Qlc)] (.fn (.func 75) [] []), mv 0 (.ref 0 7 0 0), mv 1 (I p0), rb [(.tmp 6, .ref 4 4 0 0)] [(4, (Qo9 x14))] (Qhk x14), ⟨[(.tmp 37, (.fn (.func 75) [] [])), (.tmp 38, .ref 0 7 0 0), (.tmp 39, I p0), (.tmp 40, (Qhk x14))], [(0, (Qf0 p2 p3 p4 p5 p6 p7 p8)), (1, (Qfh p9)), (2, (Qgy p10)), (3, (Qfz p11))], (Q3r x23), [(0, (Qf0 p2 p3 p4 p5 p6 p7 p8)), (1, (Qfh p9)), (2, (Qgy p10)), (3, (Qfz p11))], false⟩, rb [(.tmp 25, (.own 1 1 (0) (p4))), (.tmp 26, I p0)] [(1, (Qfh p9))] (.ref 1 1 (p0.toNat) 0), ⟨[(.tmp 42, (.ref 1 1 (p0.toNat) 0)), (.tmp 41, (Q3r x23))], [(1, (Qfh p9))], .any, [(1, (.own 1 ((p9.set p0.toNat x23 : List (List GStream)).map Qab)))], false⟩] ?_ ?_
     ·exact ⟨fun _ => .hard (amv rfl), fun _ => .soft 0 (.own 7 [[(Qem p2), (Qdm p3), (.own 1 1 (0) (p4)), (.own 2 4 (0) (p5)), (.own 3 1 (0) (p6)), (Qel p7), I p8]]) (Qbd rfl) (SImp.box ⟨lrf, lrf, lrf, lrf, lrf, lrf, lrf, trivial⟩) ⟨trivial, trivial, trivial, trivial, trivial, trivial, trivial, trivial, trivial, trivial, trivial, trivial, trivial, trivial, trivial, trivial, trivial, trivial, trivial, trivial, ⟨(SImp.box ⟨lrf, lrf, lrf, lrf, lrf, lrf, lrf, trivial⟩), trivial, trivial, trivial, trivial⟩, trivial, ⟨trivial, trivial⟩, trivial⟩, fun _ => .soft 0 (.own 7 [[(Qem p2), (Qdm p3), (.own 1 1 (0) (p4)), (.own 2 4 (0) (p5)), (.own 3 1 (0) (p6)), (Qel p7), I p8]]) (afa rfl Try.underlying93 rfl rfl ti34 (by decide) rfl) (SImp.box ⟨lrf, lrf, lrf, lrf, lrf, lrf, lrf, trivial⟩) ⟨trivial, trivial, trivial, trivial, trivial, trivial, trivial, trivial, trivial, trivial, trivial, trivial, trivial, trivial, trivial, trivial, trivial, trivial, trivial, trivial, ⟨(SImp.box ⟨lrf, lrf, lrf, lrf, lrf, lrf, lrf, trivial⟩), trivial, trivial, trivial, trivial⟩, trivial, ⟨trivial, trivial⟩, trivial⟩, fun _ => .soft 0 (.own 7 [[(Qem p2), (Qdm p3), (.own 1 1 (0) (p4)), (.own 2 4 (0) (p5)), (.own 3 1 (0) (p6)), (Qel p7), I p8]]) (afa rfl Try.underlying34 rfl rfl ti31 (by decide) rfl) (SImp.box ⟨lrf, lrf, lrf, lrf, lrf, lrf, lrf, trivial⟩) ⟨trivial, trivial, trivial, trivial, trivial, trivial, trivial, trivial, trivial, trivial, trivial, trivial, trivial, trivial, trivial, trivial, trivial, trivial, trivial, trivial, ⟨(SImp.box ⟨lrf, lrf, lrf, lrf, lrf, lrf, lrf, trivial⟩), trivial, trivial, trivial, trivial⟩, trivial, ⟨trivial, trivial⟩, trivial⟩, fun _ => .soft 0 (.own 7 [[(Qem p2), (Qdm p3), (.own 1 1 (0) (p4)), (.own 2 4 (0) (p5)), (.own 3 1 (0) (p6)), (Qel p7), I p8]]) (ald rfl ti31 (by decide) rfl (nle rfl) rfl) (SImp.box ⟨lrf, lrf, lrf, lrf, lrf, lrf, lrf, trivial⟩) ⟨trivial, trivial, trivial, trivial, trivial, trivial, trivial, trivial, trivial, trivial, trivial, trivial, trivial, trivial, trivial, trivial, trivial, trivial, trivial, trivial, ⟨(SImp.box ⟨lrf, lrf, lrf, lrf, lrf, lrf, lrf, trivial⟩), trivial, trivial, trivial, trivial⟩, trivial, ⟨trivial, trivial⟩, trivial⟩, fun _ => .hard (amv rfl), fun _ => .hard (amv rfl), fun _ => .soft 0 (.own 7 [[(Qem p2), (Qdm p3), (.own 1 1 (0) (p4)), (.own 2 4 (0) (p5)), (.own 3 1 (0) (p6)), (Qel p7), I p8]]) (Qbd rfl) (SImp.box ⟨lrf, lrf, lrf, lrf, lrf, lrf, lrf, trivial⟩) ⟨trivial, trivial, trivial, trivial, trivial, trivial, trivial, trivial, trivial, trivial, trivial, trivial, trivial, trivial, trivial, trivial, trivial, trivial, trivial, trivial, ⟨(SImp.box ⟨lrf, lrf, lrf, lrf, lrf, lrf, lrf, trivial⟩), trivial, trivial, trivial, trivial⟩, trivial, ⟨trivial, trivial⟩, trivial⟩, fun _ => .soft 0 (.own 7 [[(Qem p2), (Qdm p3), (.own 1 1 (0) (p4)), (.own 2 4 (0) (p5)), (.own 3 1 (0) (p6)), (Qel p7), I p8]]) (afa rfl Try.underlying93 rfl rfl ti42 (by decide) rfl) (SImp.box ⟨lrf, lrf, lrf, lrf, lrf, lrf, lrf, trivial⟩) ⟨trivial, trivial, trivial, trivial, trivial, trivial, trivial, trivial, trivial, trivial, trivial, trivial, trivial, trivial, trivial, trivial, trivial, trivial, trivial, trivial, ⟨(SImp.box ⟨lrf, lrf, lrf, lrf, lrf, lrf, lrf, trivial⟩), trivial, trivial, trivial, trivial⟩, trivial, ⟨trivial, trivial⟩, trivial⟩, fun _ => .soft 0 (.own 7 [[(Qem p2), (Qdm p3), (.own 1 1 (0) (p4)), (.own 2 4 (0) (p5)), (.own 3 1 (0) (p6)), (Qel p7), I p8]]) (afa rfl Try.underlying42 rfl rfl ti40 (by decide) rfl) (SImp.box ⟨lrf, lrf, lrf, lrf, lrf, lrf, lrf, trivial⟩) ⟨trivial, trivial, trivial, trivial, trivial, trivial, trivial, trivial, trivial, trivial, trivial, trivial, trivial, trivial, trivial, trivial, trivial, trivial, trivial, trivial, ⟨(SImp.box ⟨lrf, lrf, lrf, lrf, lrf, lrf, lrf, trivial⟩), trivial, trivial, trivial, trivial⟩, trivial, ⟨trivial, trivial⟩, trivial⟩, fun _ => .soft 0 (.own 7 [[(Qem p2), (Qdm p3), (.own 1 1 (0) (p4)), (.own 2 4 (0) (p5)), (.own 3 1 (0) (p6)), (Qel p7), I p8]]) (ald rfl ti40 (by decide) rfl (nle rfl) rfl) (SImp.box ⟨lrf, lrf, lrf, lrf, lrf, lrf, lrf, trivial⟩) ⟨trivial, trivial, trivial, trivial, trivial, trivial, trivial, trivial, trivial, trivial, trivial, trivial, trivial, trivial, trivial, trivial, trivial, trivial, trivial, trivial, ⟨(SImp.box ⟨lrf, lrf, lrf, lrf, lrf, lrf, lrf, trivial⟩), trivial, trivial, trivial, trivial⟩, trivial, ⟨trivial, trivial⟩, trivial⟩, fun _ => .hard (amv rfl), fun _ => .hard (aid rfl Try.underlying40 ti76 rfl rfl hi18 (mgt Qah hj19) rfl), fun _ => .hard (afd rfl Try.underlying76 rfl rfl ti5 (by decide) rfl), fun _ => .hard (ald_ rfl ti5 (by decide) (nle rfl) rfl), fun _ => .hard (Qjf hb21 (Qjg rfl Try.underlying144 Qnk (by decide) (by decide) rfl)), fun _ => .hard (ald rfl Qnk (by decide) rfl (nle rfl) rfl), fun _ => .hard (amv rfl), fun _ => .hard (amv rfl), fun _ => .hard (ald rfl ti48 (by decide) rfl (nle rfl) rfl), fun _ => .hard (Qao (first := []) (cap := []) (vs := [.ref 0 7 0 0, I p0, (Qhk x14)]) (σr := [(Qf0 p2 p3 p4 p5 p6 p7 p8), (Qfh p9), (Qgy p10), (Qfz p11)]) (σr' := [(Qf0 p2 p3 p4 p5 p6 p7 p8), (Qfh p9), (Qgy p10), (Qfz p11)]) (res' := (Q3r x23)) [0, 1, 2, 3] rfl Qx0 (Qg3 N p0 x14 p2 p3 p4 p5 p6 p7 p8 p9 p10 p11 _ hf22) rfl (Qbr (rnc (Qbb rfl) (rnc (.plain _ nll) (rnc (.plain _ (NLt.agg _ (nlc nll (nlc nll (nlc nll (nlc nll nl0)))))) rn0)))) (slc (Qal (rnc (.plain _ (nld Qai _)) (rnc (.plain _ (nld Qac _)) (rnc (Qc7 rfl) (rnc (Qc7 rfl) (rnc (Qc7 rfl) (rnc (.plain _ (nld Qae _)) (rnc (.plain _ nll) rn0)))))))) (slc (Qa9 Qap) (slc (Qa9 Qa1) (slc (Qa9 Qaf) Qan)))) (slc (Qal (rnc (.plain _ (nld Qai _)) (rnc (.plain _ (nld Qac _)) (rnc (Qdd rfl) (rnc (Qdd rfl) (rnc (Qdd rfl) (rnc (.plain _ (nld Qae _)) (rnc (.plain _ nll) rn0)))))))) (slc (Qa9 Qap) (slc (Qa9 Qa1) (slc (Qa9 Qaf) Qan)))) (.plain _ (nld Qae _)) rfl rfl rfl), fun _ => .hard (aio rfl Try.underlying31 ti45 (odt hi24a) (odt hi24b) (Nat.zero_add _)), fun _ => .hard (ast rfl ti45 (by rfl) (mgt Qab hg26) (nle rfl) (Qg2 Qab rfl)), trivial⟩
     obtain rfl := osi h
     exact ⟨_, (mto (n := 43) (l' := []) (own' := [(Qf0 p2 p3 p4 p5 p6 p7 p8), (.own 1 (((p9.set p0.toNat x23) : List (List GStream)).map Qab)), (Qgy p10), (Qfz p11)]) [] [0, 1, 2, 3] [(Qf0 p2 p3 p4 p5 p6 p7 p8), (.own 1 ((p9.set p0.toNat x23 : List (List GStream)).map Qab)), (Qgy p10), (Qfz p11)] hφ0 pn (qc (spb (lc (.rn (.plain _ (nld Qai _))) (lc (.rn (.plain _ (nld Qac _))) (lc (.rn (Qba rfl)) (lc (.rn (Qba rfl)) (lc (.rn (Qba rfl)) (lc (.rn (.plain _ (nld Qae _))) (lc rwl ln)))))))) (qc (spr Qap) (qc (spr Qa1) (qc (spr Qaf) qn))))), Qj4 (vs := []) trivial rfl (NLt.tup _ nl0) (by kernel_rfl) (Qak (Qa6 (nlc (NLt.of0 (nld Qai _)) (nlc (NLt.of0 (nld Qac _)) (nlc (NLt.own _ _ _ _ (by decide)) (nlc (NLt.own _ _ _ _ (by decide)) (nlc (NLt.own _ _ _ _ (by decide)) (nlc (NLt.of0 (nld Qae _)) (nlc (NLt.of0 nll) nl0)))))))) (Qak (Qcl Qap _) (Qak (Qcl Qa1 _) (Qak (Qcl Qaf _) Qbo))))⟩
    ·replace h := Qa3 hb21 h
     rcases bft ((x16.Kind == 2)) with hb27 | hb27
     ·replace h := Qa2 hb27 h
      obtain ⟨x29, hf28, h⟩ := bno h
      obtain ⟨hi30, h⟩ := cko h
      obtain ⟨hi30a, hi30b⟩ := Qfe hi30
      obtain ⟨x31, hg32, h⟩ := bno h
      refine Qku [mv 0 (.ref 0 7 0 0), ⟨[(.tmp 21, .ref 0 7 0 0)], [], .ref 0 7 0 0, [], false⟩, ⟨[(.tmp 22, .ref 0 7 0 0)], [], .ref 0 7 0 2, [], false⟩, ⟨[(.tmp 23, .ref 0 7 0 2)], [], .ref 0 7 0 2, [], false⟩, ⟨[(.tmp 24, .ref 0 7 0 2)], [], (.own 1 1 (0) (p4)), [], false⟩, mv 1 (I p0), mv 0 (.ref 0 7 0 0), ⟨[(.tmp 27, .ref 0 7 0 0)], [], .ref 0 7 0 0, [], false⟩, ⟨[(.tmp 28, .ref 0 7 0 0)], [], .ref 0 7 0 0, [], false⟩, ⟨[(.tmp 29, .ref 0 7 0 0)], [], .ref 0 7 0 1, [], false⟩, ⟨[(.tmp 30, .ref 0 7 0 1)], [], (Qdm p3), [], false⟩, mv 1 (I p0), rp [(.tmp 31, (Qdm p3)), (.tmp 32, I p0)] (.dptr (Qah (x16)) 0), mv 33 (.dptr (Qah (x16)) 0), rp [(.tmp 34, (.dptr (Qah (x16)) 0))] (K .u8 (x16.Kind)), rb [(.tmp 7, .ref 5 7 0 0), (.tmp 35, (K .u8 (x16.Kind)))] [(5, Qlc)] (.ref 5 7 0 2), rb [(.tmp 36, .ref 5 7 0 2)] [(5, Qlc)] (.fn (.func 75) [] []), mv 0 (.ref 0 7 0 0), mv 1 (I p0), rb [(.tmp 6, .ref 4 4 0 0)] [(4, (Qo9 x14))] (Qhk x14), ⟨[(.tmp 37, (.fn (.func 75) [] [])), (.tmp 38, .ref 0 7 0 0), (.tmp 39, I p0), (.tmp 40, (Qhk x14))], [(0, (Qf0 p2 p3 p4 p5 p6 p7 p8)), (1, (Qfh p9)), (2, (Qgy p10)), (3, (Qfz p11))], (Q3q x29), [(0, (Qf0 p2 p3 p4 p5 p6 p7 p8)), (1, (Qfh p9)), (2, (Qgy p10)), (3, (Qfz p11))], false⟩, rb [(.tmp 25, (.own 1 1 (0) (p4))), (.tmp 26, I p0)] [(1, (Qfh p9))] (.ref 1 1 (p0.toNat) 0), ⟨[(.tmp 42, (.ref 1 1 (p0.toNat) 0)), (.tmp 41, (Q3q x29))], [(1, (Qfh p9))], .any, [(1, (.own 1 ((p9.set p0.toNat x29 : List (List GStream)).map Qab)))], false⟩] ?_ ?_
      ·exact ⟨fun _ => .hard (amv rfl), fun _ => .soft 0 (.own 7 [[(Qem p2), (Qdm p3), (.own 1 1 (0) (p4)), (.own 2 4 (0) (p5)), (.own 3 1 (0) (p6)), (Qel p7), I p8]]) (Qbd rfl) (SImp.box ⟨lrf, lrf, lrf, lrf, lrf, lrf, lrf, trivial⟩) ⟨trivial, trivial, trivial, trivial, trivial, trivial, trivial, trivial, trivial, trivial, trivial, trivial, trivial, trivial, trivial, trivial, trivial, trivial, trivial, trivial, ⟨(SImp.box ⟨lrf, lrf, lrf, lrf, lrf, lrf, lrf, trivial⟩), trivial, trivial, trivial, trivial⟩, trivial, ⟨trivial, trivial⟩, trivial⟩, fun _ => .soft 0 (.own 7 [[(Qem p2), (Qdm p3), (.own 1 1 (0) (p4)), (.own 2 4 (0) (p5)), (.own 3 1 (0) (p6)), (Qel p7), I p8]]) (afa rfl Try.underlying93 rfl rfl ti34 (by decide) rfl) (SImp.box ⟨lrf, lrf, lrf, lrf, lrf, lrf, lrf, trivial⟩) ⟨trivial, trivial, trivial, trivial, trivial, trivial, trivial, trivial, trivial, trivial, trivial, trivial, trivial, trivial, trivial, trivial, trivial, trivial, trivial, trivial, ⟨(SImp.box ⟨lrf, lrf, lrf, lrf, lrf, lrf, lrf, trivial⟩), trivial, trivial, trivial, trivial⟩, trivial, ⟨trivial, trivial⟩, trivial⟩, fun _ => .soft 0 (.own 7 [[(Qem p2), (Qdm p3), (.own 1 1 (0) (p4)), (.own 2 4 (0) (p5)), (.own 3 1 (0) (p6)), (Qel p7), I p8]]) (afa rfl Try.underlying34 rfl rfl ti31 (by decide) rfl) (SImp.box ⟨lrf, lrf, lrf, lrf, lrf, lrf, lrf, trivial⟩) ⟨trivial, trivial, trivial, trivial, trivial, trivial, trivial, trivial, trivial, trivial, trivial, trivial, trivial, trivial, trivial, trivial, trivial, trivial, trivial, trivial, ⟨(SImp.box ⟨lrf, lrf, lrf, lrf, lrf, lrf, lrf, trivial⟩), trivial, trivial, trivial, trivial⟩, trivial, ⟨trivial, trivial⟩, trivial⟩, fun _ => .soft 0 (.own 7 [[(Qem p2), (Qdm p3), (.own 1 1 (0) (p4)), (.own 2 4 (0) (p5)), (.own 3 1 (0) (p6)), (Qel p7), I p8]]) (ald rfl ti31 (by decide) rfl (nle rfl) rfl) (SImp.box ⟨lrf, lrf, lrf, lrf, lrf, lrf, lrf, trivial⟩) ⟨trivial, trivial, trivial, trivial, trivial, trivial, trivial, trivial, trivial, trivial, trivial, trivial, trivial, trivial, trivial, trivial, trivial, trivial, trivial, trivial, ⟨(SImp.box ⟨lrf, lrf, lrf, lrf, lrf, lrf, lrf, trivial⟩), trivial, trivial, trivial, trivial⟩, trivial, ⟨trivial, trivial⟩, trivial⟩, fun _ => .hard (amv rfl), fun _ => .hard (amv rfl), fun _ => .soft 0 (.own 7 [[(Qem p2), (Qdm p3), (.own 1 1 (0) (p4)), (.own 2 4 (0) (p5)), (.own 3 1 (0) (p6)), (Qel p7), I p8]]) (Qbd rfl) (SImp.box ⟨lrf, lrf, lrf, lrf, lrf, lrf, lrf, trivial⟩) ⟨trivial, trivial, trivial, trivial, trivial, trivial, trivial, trivial, trivial, trivial, trivial, trivial, trivial, trivial, trivial, trivial, trivial, trivial, trivial, trivial, ⟨(SImp.box ⟨lrf, lrf, lrf, lrf, lrf, lrf, lrf, trivial⟩), trivial, trivial, trivial, trivial⟩, trivial, ⟨trivial, trivial⟩, trivial⟩, fun _ => .soft 0 (.own 7 [[(Qem p2), (Qdm p3), (.own 1 1 (0) (p4)), (.own 2 4 (0) (p5)), (.own 3 1 (0) (p6)), (Qel p7), I p8]]) (afa rfl Try.underlying93 rfl rfl ti42 (by decide) rfl) (SImp.box ⟨lrf, lrf, lrf, lrf, lrf, lrf, lrf, trivial⟩) ⟨trivial, trivial, trivial, trivial, trivial, trivial, trivial, trivial, trivial, trivial, trivial, trivial, trivial, trivial, trivial, trivial, trivial, trivial, trivial, trivial, ⟨(SImp.box ⟨lrf, lrf, lrf, lrf, lrf, lrf, lrf, trivial⟩), trivial, trivial, trivial, trivial⟩, trivial, ⟨trivial, trivial⟩, trivial⟩, fun _ => .soft 0 (.own 7 [[(Qem p2), (Qdm p3), (.own 1 1 (0) (p4)), (.own 2 4 (0) (p5)), (.own 3 1 (0) (p6)), (Qel p7), I p8]]) (afa rfl Try.underlying42 rfl rfl ti40 (by decide) rfl) (SImp.box ⟨lrf, lrf, lrf, lrf, lrf, lrf, lrf, trivial⟩) ⟨trivial, trivial, trivial, trivial, trivial, trivial, trivial, trivial, trivial, trivial, trivial, trivial, trivial, trivial, trivial, trivial, trivial, trivial, trivial, trivial, ⟨(SImp.box ⟨lrf, lrf, lrf, lrf, lrf, lrf, lrf, trivial⟩), trivial, trivial, trivial, trivial⟩, trivial, ⟨trivial, trivial⟩, trivial⟩, fun _ => .soft 0 (.own 7 [[(Qem p2), (Qdm p3), (.own 1 1 (0) (p4)), (.own 2 4 (0) (p5)), (.own 3 1 (0) (p6)), (Qel p7), I p8]]) (ald rfl ti40 (by decide) rfl (nle rfl) rfl) (SImp.box ⟨lrf, lrf, lrf, lrf, lrf, lrf, lrf, trivial⟩) ⟨trivial, trivial, trivial, trivial, trivial, trivial, trivial, trivial, trivial, trivial, trivial, trivial, trivial, trivial, trivial, trivial, trivial, trivial, trivial, trivial, ⟨(SImp.box ⟨lrf, lrf, lrf, lrf, lrf, lrf, lrf, trivial⟩), trivial, trivial, trivial, trivial⟩, trivial, ⟨trivial, trivial⟩, trivial⟩, fun _ => .hard (amv rfl), fun _ => .hard (aid rfl Try.underlying40 ti76 rfl rfl hi18 (mgt Qah hj19) rfl), fun _ => .hard (afd rfl Try.underlying76 rfl rfl ti5 (by decide) rfl), fun _ => .hard (ald_ rfl ti5 (by decide) (nle rfl) rfl), fun _ => .hard (Qjf hb27 (Qjg rfl Try.underlying144 Qnk (by decide) (by decide) rfl)), fun _ => .hard (ald rfl Qnk (by decide) rfl (nle rfl) rfl), fun _ => .hard (amv rfl), fun _ => .hard (amv rfl), fun _ => .hard (ald rfl ti48 (by decide) rfl (nle rfl) rfl), fun _ => .hard (Qao (first := []) (cap := []) (vs := [.ref 0 7 0 0, I p0, (Qhk x14)]) (σr := [(Qf0 p2 p3 p4 p5 p6 p7 p8), (Qfh p9), (Qgy p10), (Qfz p11)]) (σr' := [(Qf0 p2 p3 p4 p5 p6 p7 p8), (Qfh p9), (Qgy p10), (Qfz p11)]) (res' := (Q3q x29)) [0, 1, 2, 3] rfl Qx0 (Qg3 N p0 x14 p2 p3 p4 p5 p6 p7 p8 p9 p10 p11 _ hf28) rfl (Qbr (rnc (Qbb rfl) (rnc (.plain _ nll) (rnc (.plain _ (NLt.agg _ (nlc nll (nlc nll (nlc nll (nlc nll nl0)))))) rn0)))) (slc (Qal (rnc (.plain _ (nld Qai _)) (rnc (.plain _ (nld Qac _)) (rnc (Qc7 rfl) (rnc (Qc7 rfl) (rnc (Qc7 rfl) (rnc (.plain _ (nld Qae _)) (rnc (.plain _ nll) rn0)))))))) (slc (Qa9 Qap) (slc (Qa9 Qa1) (slc (Qa9 Qaf) Qan)))) (slc (Qal (rnc (.plain _ (nld Qai _)) (rnc (.plain _ (nld Qac _)) (rnc (Qdd rfl) (rnc (Qdd rfl) (rnc (Qdd rfl) (rnc (.plain _ (nld Qae _)) (rnc (.plain _ nll) rn0)))))))) (slc (Qa9 Qap) (slc (Qa9 Qa1) (slc (Qa9 Qaf) Qan)))) (.plain _ (nld Qae _)) rfl rfl rfl), fun _ => .hard (aio rfl Try.underlying31 ti45 (odt hi30a) (odt hi30b) (Nat.zero_add _)), fun _ => .hard (ast rfl ti45 (by rfl) (mgt Qab hg32) (nle rfl) (Qg2 Qab rfl)), trivial⟩
      obtain rfl := osi h
      exact ⟨_, (mto (n := 43) (l' := []) (own' := [(Qf0 p2 p3 p4 p5 p6 p7 p8), (.own 1 (((p9.set p0.toNat x29) : List (List GStream)).map Qab)), (Qgy p10), (Qfz p11)]) [] [0, 1, 2, 3] [(Qf0 p2 p3 p4 p5 p6 p7 p8), (.own 1 ((p9.set p0.toNat x29 : List (List GStream)).map Qab)), (Qgy p10), (Qfz p11)] hφ0 pn (qc (spb (lc (.rn (.plain _ (nld Qai _))) (lc (.rn (.plain _ (nld Qac _))) (lc (.rn (Qba rfl)) (lc (.rn (Qba rfl)) (lc (.rn (Qba rfl)) (lc (.rn (.plain _ (nld Qae _))) (lc rwl ln)))))))) (qc (spr Qap) (qc (spr Qa1) (qc (spr Qaf) qn))))), Qj4 (vs := []) trivial rfl (NLt.tup _ nl0) (by kernel_rfl) (Qak (Qa6 (nlc (NLt.of0 (nld Qai _)) (nlc (NLt.of0 (nld Qac _)) (nlc (NLt.own _ _ _ _ (by decide)) (nlc (NLt.own _ _ _ _ (by decide)) (nlc (NLt.own _ _ _ _ (by decide)) (nlc (NLt.of0 (nld Qae _)) (nlc (NLt.of0 nll) nl0)))))))) (Qak (Qcl Qap _) (Qak (Qcl Qa1 _) (Qak (Qcl Qaf _) Qbo))))⟩
     ·replace h := Qa3 hb27 h
      rcases bft ((x16.Kind == 3)) with hb33 | hb33
      ·replace h := Qa2 hb33 h
       obtain ⟨x35, hf34, h⟩ := bno h
       obtain ⟨hi36, h⟩ := cko h
       obtain ⟨hi36a, hi36b⟩ := Qfe hi36
       obtain ⟨x37, hg38, h⟩ := bno h
       refine Qku [mv 0 (.ref 0 7 0 0), ⟨[(.tmp 21, .ref 0 7 0 0)], [], .ref 0 7 0 0, [], false⟩, ⟨[(.tmp 22, .ref 0 7 0 0)], [], .ref 0 7 0 2, [], false⟩, ⟨[(.tmp 23, .ref 0 7 0 2)], [], .ref 0 7 0 2, [], false⟩, ⟨[(.tmp 24, .ref 0 7 0 2)], [], (.own 1 1 (0) (p4)), [], false⟩, mv 1 (I p0), mv 0 (.ref 0 7 0 0), ⟨[(.tmp 27, .ref 0 7 0 0)], [], .ref 0 7 0 0, [], false⟩, ⟨[(.tmp 28, .ref 0 7 0 0)], [], .ref 0 7 0 0, [], false⟩, ⟨[(.tmp 29, .ref 0 7 0 0)], [], .ref 0 7 0 1, [], false⟩, ⟨[(.tmp 30, .ref 0 7 0 1)], [], (Qdm p3), [], false⟩, mv 1 (I p0), rp [(.tmp 31, (Qdm p3)), (.tmp 32, I p0)] (.dptr (Qah (x16)) 0), mv 33 (.dptr (Qah (x16)) 0), rp [(.tmp 34, (.dptr (Qah (x16)) 0))] (K .u8 (x16.Kind)), rb [(.tmp 7, .ref 5 7 0 0), (.tmp 35, (K .u8 (x16.Kind)))] [(5, Qlc)] (.ref 5 7 0 3), rb [(.tmp 36, .ref 5 7 0 3)] [(5, Qlc)] (.fn (.func 76) [] []), mv 0 (.ref 0 7 0 0), mv 1 (I p0), rb [(.tmp 6, .ref 4 4 0 0)] [(4, (Qo9 x14))] (Qhk x14), ⟨[(.tmp 37, (.fn (.func 76) [] [])), (.tmp 38, .ref 0 7 0 0), (.tmp 39, I p0), (.tmp 40, (Qhk x14))], [(0, (Qf0 p2 p3 p4 p5 p6 p7 p8)), (1, (Qfh p9)), (2, (Qgy p10)), (3, (Qfz p11))], (.dat 4 ((x35.1 : List GStream).map Qaa)), [(0, (Qf0 p2 p3 p4 p5 p6 p7 p8)), (1, (Qfh p9)), (2, (Qzj x35)), (3, (Qfz p11))], false⟩, rb [(.tmp 25, (.own 1 1 (0) (p4))), (.tmp 26, I p0)] [(1, (Qfh p9))] (.ref 1 1 (p0.toNat) 0), ⟨[(.tmp 42, (.ref 1 1 (p0.toNat) 0)), (.tmp 41, (.dat 4 ((x35.1 : List GStream).map Qaa)))], [(1, (Qfh p9))], .any, [(1, (.own 1 ((p9.set p0.toNat x35.1 : List (List GStream)).map Qab)))], false⟩] ?_ ?_
       ·exact ⟨fun _ => .hard (amv rfl), fun _ => .soft 0 (.own 7 [[(Qem p2), (Qdm p3), (.own 1 1 (0) (p4)), (.own 2 4 (0) (p5)), (.own 3 1 (0) (p6)), (Qel p7), I p8]]) (Qbd rfl) (SImp.box ⟨lrf, lrf, lrf, lrf, lrf, lrf, lrf, trivial⟩) ⟨trivial, trivial, trivial, trivial, trivial, trivial, trivial, trivial, trivial, trivial, trivial, trivial, trivial, trivial, trivial, trivial, trivial, trivial, trivial, trivial, ⟨(SImp.box ⟨lrf, lrf, lrf, lrf, lrf, lrf, lrf, trivial⟩), trivial, trivial, trivial, trivial⟩, trivial, ⟨trivial, trivial⟩, trivial⟩, fun _ => .soft 0 (.own 7 [[(Qem p2), (Qdm p3), (.own 1 1 (0) (p4)), (.own 2 4 (0) (p5)), (.own 3 1 (0) (p6)), (Qel p7), I p8]]) (afa rfl Try.underlying93 rfl rfl ti34 (by decide) rfl) (SImp.box ⟨lrf, lrf, lrf, lrf, lrf, lrf, lrf, trivial⟩) ⟨trivial, trivial, trivial, trivial, trivial, trivial, trivial, trivial, trivial, trivial, trivial, trivial, trivial, trivial, trivial, trivial, trivial, trivial, trivial, trivial, ⟨(SImp.box ⟨lrf, lrf, lrf, lrf, lrf, lrf, lrf, trivial⟩), trivial, trivial, trivial, trivial⟩, trivial, ⟨trivial, trivial⟩, trivial⟩, fun _ => .soft 0 (.own 7 [[(Qem p2), (Qdm p3), (.own 1 1 (0) (p4)), (.own 2 4 (0) (p5)), (.own 3 1 (0) (p6)), (Qel p7), I p8]]) (afa rfl Try.underlying34 rfl rfl ti31 (by decide) rfl) (SImp.box ⟨lrf, lrf, lrf, lrf, lrf, lrf, lrf, trivial⟩) ⟨trivial, trivial, trivial, trivial, trivial, trivial, trivial, trivial, trivial, trivial, trivial, trivial, trivial, trivial, trivial, trivial, trivial, trivial, trivial, trivial, ⟨(SImp.box ⟨lrf, lrf, lrf, lrf, lrf, lrf, lrf, trivial⟩), trivial, trivial, trivial, trivial⟩, trivial, ⟨trivial, trivial⟩, trivial⟩, fun _ => .soft 0 (.own 7 [[(Qem p2), (Qdm p3), (.own 1 1 (0) (p4)), (.own 2 4 (0) (p5)), (.own 3 1 (0) (p6)), (Qel p7), I p8]]) (ald rfl ti31 (by decide) rfl (nle rfl) rfl) (SImp.box ⟨lrf, lrf, lrf, lrf, lrf, lrf, lrf, trivial⟩) ⟨trivial, trivial, trivial, trivial, trivial, trivial, trivial, trivial, trivial, trivial, trivial, trivial, trivial, trivial, trivial, trivial, trivial, trivial, trivial, trivial, ⟨(SImp.box ⟨lrf, lrf, lrf, lrf, lrf, lrf, lrf, trivial⟩), trivial, trivial, trivial, trivial⟩, trivial, ⟨trivial, trivial⟩, trivial⟩, fun _ => .hard (amv rfl), fun _ => .hard (amv rfl), fun _ => .soft 0 (.own 7 [[(Qem p2), (Qdm p3), (.own 1 1 (0) (p4)), (.own 2 4 (0) (p5)), (.own 3 1 (0) (p6)), (Qel p7), I p8]]) (Qbd rfl) (SImp.box ⟨lrf, lrf, lrf, lrf, lrf, lrf, lrf, trivial⟩) ⟨trivial, trivial, trivial, trivial, trivial, trivial, trivial, trivial, trivial, trivial, trivial, trivial, trivial, trivial, trivial, trivial, trivial, trivial, trivial, trivial, ⟨(SImp.box ⟨lrf, lrf, lrf, lrf, lrf, lrf, lrf, trivial⟩), trivial, trivial, trivial, trivial⟩, trivial, ⟨trivial, trivial⟩, trivial⟩, fun _ => .soft 0 (.own 7 [[(Qem p2), (Qdm p3), (.own 1 1 (0) (p4)), (.own 2 4 (0) (p5)), (.own 3 1 (0) (p6)), (Qel p7), I p8]]) (afa rfl Try.underlying93 rfl rfl ti42 (by decide) rfl) (SImp.box ⟨lrf, lrf, lrf, lrf, lrf, lrf, lrf, trivial⟩) ⟨trivial, trivial, trivial, trivial, trivial, trivial, trivial, trivial, trivial, trivial, trivial, trivial, trivial, trivial, trivial, trivial, trivial, trivial, trivial, trivial, ⟨(SImp.box ⟨lrf, lrf, lrf, lrf, lrf, lrf, lrf, trivial⟩), trivial, trivial, trivial, trivial⟩, trivial, ⟨trivial, trivial⟩, trivial⟩, fun _ => .soft 0 (.own 7 [[(Qem p2), (Qdm p3), (.own 1 1 (0) (p4)), (.own 2 4 (0) (p5)), (.own 3 1 (0) (p6)), (Qel p7), I p8]]) (afa rfl Try.underlying42 rfl rfl ti40 (by decide) rfl) (SImp.box ⟨lrf, lrf, lrf, lrf, lrf, lrf, lrf, trivial⟩) ⟨trivial, trivial, trivial, trivial, trivial, trivial, trivial, trivial, trivial, trivial, trivial, trivial, trivial, trivial, trivial, trivial, trivial, trivial, trivial, trivial, ⟨(SImp.box ⟨lrf, lrf, lrf, lrf, lrf, lrf, lrf, trivial⟩), trivial, trivial, trivial, trivial⟩, trivial, ⟨trivial, trivial⟩, trivial⟩, fun _ => .soft 0 (.own 7 [[(Qem p2), (Qdm p3), (.own 1 1 (0) (p4)), (.own 2 4 (0) (p5)), (.own 3 1 (0) (p6)), (Qel p7), I p8]]) (ald rfl ti40 (by decide) rfl (nle rfl) rfl) (SImp.box ⟨lrf, lrf, lrf, lrf, lrf, lrf, lrf, trivial⟩) ⟨trivial, trivial, trivial, trivial, trivial, trivial, trivial, trivial, trivial, trivial, trivial, trivial, trivial, trivial, trivial, trivial, trivial, trivial, trivial, trivial, ⟨(SImp.box ⟨lrf, lrf, lrf, lrf, lrf, lrf, lrf, trivial⟩), trivial, trivial, trivial, trivial⟩, trivial, ⟨trivial, trivial⟩, trivial⟩, fun _ => .hard (amv rfl), fun _ => .hard (aid rfl Try.underlying40 ti76 rfl rfl hi18 (mgt Qah hj19) rfl), fun _ => .hard (afd rfl Try.underlying76 rfl rfl ti5 (by decide) rfl), fun _ => .hard (ald_ rfl ti5 (by decide) (nle rfl) rfl), fun _ => .hard (Qjf hb33 (Qjg rfl Try.underlying144 Qnk (by decide) (by decide) rfl)), fun _ => .hard (ald rfl Qnk (by decide) rfl (nle rfl) rfl), fun _ => .hard (amv rfl), fun _ => .hard (amv rfl), fun _ => .hard (ald rfl ti48 (by decide) rfl (nle rfl) rfl), fun _ => .hard (Qao (first := []) (cap := []) (vs := [.ref 0 7 0 0, I p0, (Qhk x14)]) (σr := [(Qf0 p2 p3 p4 p5 p6 p7 p8), (Qfh p9), (Qgy p10), (Qfz p11)]) (σr' := [(Qf0 p2 p3 p4 p5 p6 p7 p8), (Qfh p9), (Qzj x35), (Qfz p11)]) (res' := (.dat 4 ((x35.1 : List GStream).map Qaa))) [0, 1, 2, 3] rfl Zef (Qmg N p0 x14 p2 p3 p4 p5 p6 p7 p8 p9 p10 p11 _ hf34) rfl (Qbr (rnc (Qbb rfl) (rnc (.plain _ nll) (rnc (.plain _ (NLt.agg _ (nlc nll (nlc nll (nlc nll (nlc nll nl0)))))) rn0)))) (slc (Qal (rnc (.plain _ (nld Qai _)) (rnc (.plain _ (nld Qac _)) (rnc (Qc7 rfl) (rnc (Qc7 rfl) (rnc (Qc7 rfl) (rnc (.plain _ (nld Qae _)) (rnc (.plain _ nll) rn0)))))))) (slc (Qa9 Qap) (slc (Qa9 Qa1) (slc (Qa9 Qaf) Qan)))) (slc (Qal (rnc (.plain _ (nld Qai _)) (rnc (.plain _ (nld Qac _)) (rnc (Qdd rfl) (rnc (Qdd rfl) (rnc (Qdd rfl) (rnc (.plain _ (nld Qae _)) (rnc (.plain _ nll) rn0)))))))) (slc (Qa9 Qap) (slc (Qa9 Qa1) (slc (Qa9 Qaf) Qan)))) (.plain _ (nld Qae _)) rfl rfl rfl), fun _ => .hard (aio rfl Try.underlying31 ti45 (odt hi36a) (odt hi36b) (Nat.zero_add _)), fun _ => .hard (ast rfl ti45 (by rfl) (mgt Qab hg38) (nle rfl) (Qg2 Qab rfl)), trivial⟩
       obtain rfl := osi h
       exact ⟨_, (mto (n := 43) (l' := []) (own' := [(Qf0 p2 p3 p4 p5 p6 p7 p8), (.own 1 (((p9.set p0.toNat x35.1) : List (List GStream)).map Qab)), (Qzj x35), (Qfz p11)]) [] [0, 1, 2, 3] [(Qf0 p2 p3 p4 p5 p6 p7 p8), (.own 1 ((p9.set p0.toNat x35.1 : List (List GStream)).map Qab)), (Qzj x35), (Qfz p11)] hφ0 pn (qc (spb (lc (.rn (.plain _ (nld Qai _))) (lc (.rn (.plain _ (nld Qac _))) (lc (.rn (Qba rfl)) (lc (.rn (Qba rfl)) (lc (.rn (Qba rfl)) (lc (.rn (.plain _ (nld Qae _))) (lc rwl ln)))))))) (qc (spr Qap) (qc (spr Qa1) (qc (spr Qaf) qn))))), Qj4 (vs := []) trivial rfl (NLt.tup _ nl0) (by kernel_rfl) (Qak (Qa6 (nlc (NLt.of0 (nld Qai _)) (nlc (NLt.of0 (nld Qac _)) (nlc (NLt.own _ _ _ _ (by decide)) (nlc (NLt.own _ _ _ _ (by decide)) (nlc (NLt.own _ _ _ _ (by decide)) (nlc (NLt.of0 (nld Qae _)) (nlc (NLt.of0 nll) nl0)))))))) (Qak (Qcl Qap _) (Qak (Qcl Qa1 _) (Qak (Qcl Qaf _) Qbo))))⟩
      ·replace h := Qa3 hb33 h
       rcases bft ((x16.Kind == 4)) with hb39 | hb39
       ·replace h := Qa2 hb39 h
        obtain ⟨x41, hf40, h⟩ := bno h
        obtain ⟨hi42, h⟩ := cko h
        obtain ⟨hi42a, hi42b⟩ := Qfe hi42
        obtain ⟨x43, hg44, h⟩ := bno h
        refine Qku [mv 0 (.ref 0 7 0 0), ⟨[(.tmp 21, .ref 0 7 0 0)], [], .ref 0 7 0 0, [], false⟩, ⟨[(.tmp 22, .ref 0 7 0 0)], [], .ref 0 7 0 2, [], false⟩, ⟨[(.tmp 23, .ref 0 7 0 2)], [], .ref 0 7 0 2, [], false⟩, ⟨[(.tmp 24, .ref 0 7 0 2)], [], (.own 1 1 (0) (p4)), [], false⟩, mv 1 (I p0), mv 0 (.ref 0 7 0 0), ⟨[(.tmp 27, .ref 0 7 0 0)], [], .ref 0 7 0 0, [], false⟩, ⟨[(.tmp 28, .ref 0 7 0 0)], [], .ref 0 7 0 0, [], false⟩, ⟨[(.tmp 29, .ref 0 7 0 0)], [], .ref 0 7 0 1, [], false⟩, ⟨[(.tmp 30, .ref 0 7 0 1)], [], (Qdm p3), [], false⟩, mv 1 (I p0), rp [(.tmp 31, (Qdm p3)), (.tmp 32, I p0)] (.dptr (Qah (x16)) 0), mv 33 (.dptr (Qah (x16)) 0), rp [(.tmp 34, (.dptr (Qah (x16)) 0))] (K .u8 (x16.Kind)), rb [(.tmp 7, .ref 5 7 0 0), (.tmp 35, (K .u8 (x16.Kind)))] [(5, Qlc)] (.ref 5 7 0 4), rb [(.tmp 36, .ref 5 7 0 4)] [(5, Qlc)] (.fn (.func 77) [] []), mv 0 (.ref 0 7 0 0), mv 1 (I p0), rb [(.tmp 6, .ref 4 4 0 0)] [(4, (Qo9 x14))] (Qhk x14), ⟨[(.tmp 37, (.fn (.func 77) [] [])), (.tmp 38, .ref 0 7 0 0), (.tmp 39, I p0), (.tmp 40, (Qhk x14))], [(0, (Qf0 p2 p3 p4 p5 p6 p7 p8)), (1, (Qfh p9)), (2, (Qgy p10)), (3, (Qfz p11))], (.dat 4 ((x41.1 : List GStream).map Qaa)), [(0, (Qzi p2 p3 p4 p5 p6 p7 x41)), (1, (Qfh p9)), (2, (Qzh x41)), (3, (Qzg x41))], false⟩, rb [(.tmp 25, (.own 1 1 (0) (p4))), (.tmp 26, I p0)] [(1, (Qfh p9))] (.ref 1 1 (p0.toNat) 0), ⟨[(.tmp 42, (.ref 1 1 (p0.toNat) 0)), (.tmp 41, (.dat 4 ((x41.1 : List GStream).map Qaa)))], [(1, (Qfh p9))], .any, [(1, (.own 1 ((p9.set p0.toNat x41.1 : List (List GStream)).map Qab)))], false⟩] ?_ ?_
        ·exact ⟨fun _ => .hard (amv rfl), fun _ => .soft 0 (.own 7 [[(Qem p2), (Qdm p3), (.own 1 1 (0) (p4)), (.own 2 4 (0) (p5)), (.own 3 1 (0) (p6)), (Qel p7), .any]]) (Qbd rfl) (SImp.box ⟨lrf, lrf, lrf, lrf, lrf, lrf, Less.any, trivial⟩) ⟨trivial, trivial, trivial, trivial, trivial, trivial, trivial, trivial, trivial, trivial, trivial, trivial, trivial, trivial, trivial, trivial, trivial, trivial, trivial, trivial, ⟨(SImp.box ⟨lrf, lrf, lrf, lrf, lrf, lrf, Less.any, trivial⟩), trivial, trivial, trivial, trivial⟩, trivial, ⟨trivial, trivial⟩, trivial⟩, fun _ => .soft 0 (.own 7 [[(Qem p2), (Qdm p3), (.own 1 1 (0) (p4)), (.own 2 4 (0) (p5)), (.own 3 1 (0) (p6)), (Qel p7), .any]]) (afa rfl Try.underlying93 rfl rfl ti34 (by decide) rfl) (SImp.box ⟨lrf, lrf, lrf, lrf, lrf, lrf, Less.any, trivial⟩) ⟨trivial, trivial, trivial, trivial, trivial, trivial, trivial, trivial, trivial, trivial, trivial, trivial, trivial, trivial, trivial, trivial, trivial, trivial, trivial, trivial, ⟨(SImp.box ⟨lrf, lrf, lrf, lrf, lrf, lrf, Less.any, trivial⟩), trivial, trivial, trivial, trivial⟩, trivial, ⟨trivial, trivial⟩, trivial⟩, fun _ => .soft 0 (.own 7 [[(Qem p2), (Qdm p3), (.own 1 1 (0) (p4)), (.own 2 4 (0) (p5)), (.own 3 1 (0) (p6)), (Qel p7), .any]]) (afa rfl Try.underlying34 rfl rfl ti31 (by decide) rfl) (SImp.box ⟨lrf, lrf, lrf, lrf, lrf, lrf, Less.any, trivial⟩) ⟨trivial, trivial, trivial, trivial, trivial, trivial, trivial, trivial, trivial, trivial, trivial, trivial, trivial, trivial, trivial, trivial, trivial, trivial, trivial, trivial, ⟨(SImp.box ⟨lrf, lrf, lrf, lrf, lrf, lrf, Less.any, trivial⟩), trivial, trivial, trivial, trivial⟩, trivial, ⟨trivial, trivial⟩, trivial⟩, fun _ => .soft 0 (.own 7 [[(Qem p2), (Qdm p3), (.own 1 1 (0) (p4)), (.own 2 4 (0) (p5)), (.own 3 1 (0) (p6)), (Qel p7), .any]]) (ald rfl ti31 (by decide) rfl (nle rfl) rfl) (SImp.box ⟨lrf, lrf, lrf, lrf, lrf, lrf, Less.any, trivial⟩) ⟨trivial, trivial, trivial, trivial, trivial, trivial, trivial, trivial, trivial, trivial, trivial, trivial, trivial, trivial, trivial, trivial, trivial, trivial, trivial, trivial, ⟨(SImp.box ⟨lrf, lrf, lrf, lrf, lrf, lrf, Less.any, trivial⟩), trivial, trivial, trivial, trivial⟩, trivial, ⟨trivial, trivial⟩, trivial⟩, fun _ => .hard (amv rfl), fun _ => .hard (amv rfl), fun _ => .soft 0 (.own 7 [[(Qem p2), (Qdm p3), (.own 1 1 (0) (p4)), (.own 2 4 (0) (p5)), (.own 3 1 (0) (p6)), (Qel p7), .any]]) (Qbd rfl) (SImp.box ⟨lrf, lrf, lrf, lrf, lrf, lrf, Less.any, trivial⟩) ⟨trivial, trivial, trivial, trivial, trivial, trivial, trivial, trivial, trivial, trivial, trivial, trivial, trivial, trivial, trivial, trivial, trivial, trivial, trivial, trivial, ⟨(SImp.box ⟨lrf, lrf, lrf, lrf, lrf, lrf, Less.any, trivial⟩), trivial, trivial, trivial, trivial⟩, trivial, ⟨trivial, trivial⟩, trivial⟩, fun _ => .soft 0 (.own 7 [[(Qem p2), (Qdm p3), (.own 1 1 (0) (p4)), (.own 2 4 (0) (p5)), (.own 3 1 (0) (p6)), (Qel p7), .any]]) (afa rfl Try.underlying93 rfl rfl ti42 (by decide) rfl) (SImp.box ⟨lrf, lrf, lrf, lrf, lrf, lrf, Less.any, trivial⟩) ⟨trivial, trivial, trivial, trivial, trivial, trivial, trivial, trivial, trivial, trivial, trivial, trivial, trivial, trivial, trivial, trivial, trivial, trivial, trivial, trivial, ⟨(SImp.box ⟨lrf, lrf, lrf, lrf, lrf, lrf, Less.any, trivial⟩), trivial, trivial, trivial, trivial⟩, trivial, ⟨trivial, trivial⟩, trivial⟩, fun _ => .soft 0 (.own 7 [[(Qem p2), (Qdm p3), (.own 1 1 (0) (p4)), (.own 2 4 (0) (p5)), (.own 3 1 (0) (p6)), (Qel p7), .any]]) (afa rfl Try.underlying42 rfl rfl ti40 (by decide) rfl) (SImp.box ⟨lrf, lrf, lrf, lrf, lrf, lrf, Less.any, trivial⟩) ⟨trivial, trivial, trivial, trivial, trivial, trivial, trivial, trivial, trivial, trivial, trivial, trivial, trivial, trivial, trivial, trivial, trivial, trivial, trivial, trivial, ⟨(SImp.box ⟨lrf, lrf, lrf, lrf, lrf, lrf, Less.any, trivial⟩), trivial, trivial, trivial, trivial⟩, trivial, ⟨trivial, trivial⟩, trivial⟩, fun _ => .soft 0 (.own 7 [[(Qem p2), (Qdm p3), (.own 1 1 (0) (p4)), (.own 2 4 (0) (p5)), (.own 3 1 (0) (p6)), (Qel p7), .any]]) (ald rfl ti40 (by decide) rfl (nle rfl) rfl) (SImp.box ⟨lrf, lrf, lrf, lrf, lrf, lrf, Less.any, trivial⟩) ⟨trivial, trivial, trivial, trivial, trivial, trivial, trivial, trivial, trivial, trivial, trivial, trivial, trivial, trivial, trivial, trivial, trivial, trivial, trivial, trivial, ⟨(SImp.box ⟨lrf, lrf, lrf, lrf, lrf, lrf, Less.any, trivial⟩), trivial, trivial, trivial, trivial⟩, trivial, ⟨trivial, trivial⟩, trivial⟩, fun _ => .hard (amv rfl), fun _ => .hard (aid rfl Try.underlying40 ti76 rfl rfl hi18 (mgt Qah hj19) rfl), fun _ => .hard (afd rfl Try.underlying76 rfl rfl ti5 (by decide) rfl), fun _ => .hard (ald_ rfl ti5 (by decide) (nle rfl) rfl), fun _ => .hard (Qjf hb39 (Qjg rfl Try.underlying144 Qnk (by decide) (by decide) rfl)), fun _ => .hard (ald rfl Qnk (by decide) rfl (nle rfl) rfl), fun _ => .hard (amv rfl), fun _ => .hard (amv rfl), fun _ => .hard (ald rfl ti48 (by decide) rfl (nle rfl) rfl), fun _ => .hard (Qao (first := []) (cap := []) (vs := [.ref 0 7 0 0, I p0, (Qhk x14)]) (σr := [(Qf0 p2 p3 p4 p5 p6 p7 p8), (Qfh p9), (Qgy p10), (Qfz p11)]) (σr' := [(Qzi p2 p3 p4 p5 p6 p7 x41), (Qfh p9), (Qzh x41), (Qzg x41)]) (res' := (.dat 4 ((x41.1 : List GStream).map Qaa))) [0, 1, 2, 3] rfl Zee (Qkk N p0 x14 p2 p3 p4 p5 p6 p7 p8 p9 p10 p11 _ hf40) rfl (Qbr (rnc (Qbb rfl) (rnc (.plain _ nll) (rnc (.plain _ (NLt.agg _ (nlc nll (nlc nll (nlc nll (nlc nll nl0)))))) rn0)))) (slc (Qal (rnc (.plain _ (nld Qai _)) (rnc (.plain _ (nld Qac _)) (rnc (Qc7 rfl) (rnc (Qc7 rfl) (rnc (Qc7 rfl) (rnc (.plain _ (nld Qae _)) (rnc (.plain _ nll) rn0)))))))) (slc (Qa9 Qap) (slc (Qa9 Qa1) (slc (Qa9 Qaf) Qan)))) (slc (Qal (rnc (.plain _ (nld Qai _)) (rnc (.plain _ (nld Qac _)) (rnc (Qdd rfl) (rnc (Qdd rfl) (rnc (Qdd rfl) (rnc (.plain _ (nld Qae _)) (rnc (.plain _ nll) rn0)))))))) (slc (Qa9 Qap) (slc (Qa9 Qa1) (slc (Qa9 Qaf) Qan)))) (.plain _ (nld Qae _)) rfl rfl rfl), fun _ => .hard (aio rfl Try.underlying31 ti45 (odt hi42a) (odt hi42b) (Nat.zero_add _)), fun _ => .hard (ast rfl ti45 (by rfl) (mgt Qab hg44) (nle rfl) (Qg2 Qab rfl)), trivial⟩
        obtain rfl := osi h
        exact ⟨_, (mto (n := 43) (l' := []) (own' := [(Qzi p2 p3 p4 p5 p6 p7 x41), (.own 1 (((p9.set p0.toNat x41.1) : List (List GStream)).map Qab)), (Qzh x41), (Qzg x41)]) [] [0, 1, 2, 3] [(Qzi p2 p3 p4 p5 p6 p7 x41), (.own 1 ((p9.set p0.toNat x41.1 : List (List GStream)).map Qab)), (Qzh x41), (Qzg x41)] hφ0 pn (qc (spb (lc (.rn (.plain _ (nld Qai _))) (lc (.rn (.plain _ (nld Qac _))) (lc (.rn (Qba rfl)) (lc (.rn (Qba rfl)) (lc (.rn (Qba rfl)) (lc (.rn (.plain _ (nld Qae _))) (lc rwl ln)))))))) (qc (spr Qap) (qc (spr Qa1) (qc (spr Qaf) qn))))), Qj4 (vs := []) trivial rfl (NLt.tup _ nl0) (by kernel_rfl) (Qak (Qa6 (nlc (NLt.of0 (nld Qai _)) (nlc (NLt.of0 (nld Qac _)) (nlc (NLt.own _ _ _ _ (by decide)) (nlc (NLt.own _ _ _ _ (by decide)) (nlc (NLt.own _ _ _ _ (by decide)) (nlc (NLt.of0 (nld Qae _)) (nlc (NLt.of0 nll) nl0)))))))) (Qak (Qcl Qap _) (Qak (Qcl Qa1 _) (Qak (Qcl Qaf _) Qbo))))⟩
       ·replace h := Qa3 hb39 h
        rcases bft ((x16.Kind == 5)) with hb45 | hb45
        ·replace h := Qa2 hb45 h
         obtain ⟨x47, hf46, h⟩ := bno h
         obtain ⟨hi48, h⟩ := cko h
         obtain ⟨hi48a, hi48b⟩ := Qfe hi48
         obtain ⟨x49, hg50, h⟩ := bno h
         refine Qku [mv 0 (.ref 0 7 0 0), ⟨[(.tmp 21, .ref 0 7 0 0)], [], .ref 0 7 0 0, [], false⟩, ⟨[(.tmp 22, .ref 0 7 0 0)], [], .ref 0 7 0 2, [], false⟩, ⟨[(.tmp 23, .ref 0 7 0 2)], [], .ref 0 7 0 2, [], false⟩, ⟨[(.tmp 24, .ref 0 7 0 2)], [], (.own 1 1 (0) (p4)), [], false⟩, mv 1 (I p0), mv 0 (.ref 0 7 0 0), ⟨[(.tmp 27, .ref 0 7 0 0)], [], .ref 0 7 0 0, [], false⟩, ⟨[(.tmp 28, .ref 0 7 0 0)], [], .ref 0 7 0 0, [], false⟩, ⟨[(.tmp 29, .ref 0 7 0 0)], [], .ref 0 7 0 1, [], false⟩, ⟨[(.tmp 30, .ref 0 7 0 1)], [], (Qdm p3), [], false⟩, mv 1 (I p0), rp [(.tmp 31, (Qdm p3)), (.tmp 32, I p0)] (.dptr (Qah (x16)) 0), mv 33 (.dptr (Qah (x16)) 0), rp [(.tmp 34, (.dptr (Qah (x16)) 0))] (K .u8 (x16.Kind)), rb [(.tmp 7, .ref 5 7 0 0), (.tmp 35, (K .u8 (x16.Kind)))] [(5, Qlc)] (.ref 5 7 0 5), rb [(.tmp 36, .ref 5 7 0 5)] [(5, Qlc)] (.fn (.func 78) [] []), mv 0 (.ref 0 7 0 0), mv 1 (I p0), rb [(.tmp 6, .ref 4 4 0 0)] [(4, (Qo9 x14))] (Qhk x14), ⟨[(.tmp 37, (.fn (.func 78) [] [])), (.tmp 38, .ref 0 7 0 0), (.tmp 39, I p0), (.tmp 40, (Qhk x14))], [(0, (Qf0 p2 p3 p4 p5 p6 p7 p8)), (1, (Qfh p9)), (2, (Qgy p10)), (3, (Qfz p11))], (.dat 4 ((x47.1 : List GStream).map Qaa)), [(0, (Qf0 p2 p3 p4 p5 p6 p7 p8)), (1, (Qfh p9)), (2, (Qzf x47)), (3, (Qfz p11))], false⟩, rb [(.tmp 25, (.own 1 1 (0) (p4))), (.tmp 26, I p0)] [(1, (Qfh p9))] (.ref 1 1 (p0.toNat) 0), ⟨[(.tmp 42, (.ref 1 1 (p0.toNat) 0)), (.tmp 41, (.dat 4 ((x47.1 : List GStream).map Qaa)))], [(1, (Qfh p9))], .any, [(1, (.own 1 ((p9.set p0.toNat x47.1 : List (List GStream)).map Qab)))], false⟩] ?_ ?_
         ·exact ⟨fun _ => .hard (amv rfl), fun _ => .soft 0 (.own 7 [[(Qem p2), (Qdm p3), (.own 1 1 (0) (p4)), (.own 2 4 (0) (p5)), (.own 3 1 (0) (p6)), (Qel p7), I p8]]) (Qbd rfl) (SImp.box ⟨lrf, lrf, lrf, lrf, lrf, lrf, lrf, trivial⟩) ⟨trivial, trivial, trivial, trivial, trivial, trivial, trivial, trivial, trivial, trivial, trivial, trivial, trivial, trivial, trivial, trivial, trivial, trivial, trivial, trivial, ⟨(SImp.box ⟨lrf, lrf, lrf, lrf, lrf, lrf, lrf, trivial⟩), trivial, trivial, trivial, trivial⟩, trivial, ⟨trivial, trivial⟩, trivial⟩, fun _ => .soft 0 (.own 7 [[(Qem p2), (Qdm p3), (.own 1 1 (0) (p4)), (.own 2 4 (0) (p5)), (.own 3 1 (0) (p6)), (Qel p7), I p8]]) (afa rfl Try.underlying93 rfl rfl ti34 (by decide) rfl) (SImp.box ⟨lrf, lrf, lrf, lrf, lrf, lrf, lrf, trivial⟩) ⟨trivial, trivial, trivial, trivial, trivial, trivial, trivial, trivial, trivial, trivial, trivial, trivial, trivial, trivial, trivial, trivial, trivial, trivial, trivial, trivial, ⟨(SImp.box ⟨lrf, lrf, lrf, lrf, lrf, lrf, lrf, trivial⟩), trivial, trivial, trivial, trivial⟩, trivial, ⟨trivial, trivial⟩, trivial⟩, fun _ => .soft 0 (.own 7 [[(Qem p2), (Qdm p3), (.own 1 1 (0) (p4)), (.own 2 4 (0) (p5)), (.own 3 1 (0) (p6)), (Qel p7), I p8]]) (afa rfl Try.underlying34 rfl rfl ti31 (by decide) rfl) (SImp.box ⟨lrf, lrf, lrf, lrf, lrf, lrf, lrf, trivial⟩) ⟨trivial, trivial, trivial, trivial, trivial, trivial, trivial, trivial, trivial, trivial, trivial, trivial, trivial, trivial, trivial, trivial, trivial, trivial, trivial, trivial, ⟨(SImp.box ⟨lrf, lrf, lrf, lrf, lrf, lrf, lrf, trivial⟩), trivial, trivial, trivial, trivial⟩, trivial, ⟨trivial, trivial⟩, trivial⟩, fun _ => .soft 0 (.own 7 [[(Qem p2), (Qdm p3), (.own 1 1 (0) (p4)), (.own 2 4 (0) (p5)), (.own 3 1 (0) (p6)), (Qel p7), I p8]]) (ald rfl ti31 (by decide) rfl (nle rfl) rfl) (SImp.box ⟨lrf, lrf, lrf, lrf, lrf, lrf, lrf, trivial⟩) ⟨trivial, trivial, trivial, trivial, trivial, trivial, trivial, trivial, trivial, trivial, trivial, trivial, trivial, trivial, trivial, trivial, trivial, trivial, trivial, trivial, ⟨(SImp.box ⟨lrf, lrf, lrf, lrf, lrf, lrf, lrf, trivial⟩), trivial, trivial, trivial, trivial⟩, trivial, ⟨trivial, trivial⟩, trivial⟩, fun _ => .hard (amv rfl), fun _ => .hard (amv rfl), fun _ => .soft 0 (.own 7 [[(Qem p2), (Qdm p3), (.own 1 1 (0) (p4)), (.own 2 4 (0) (p5)), (.own 3 1 (0) (p6)), (Qel p7), I p8]]) (Qbd rfl) (SImp.box ⟨lrf, lrf, lrf, lrf, lrf, lrf, lrf, trivial⟩) ⟨trivial, trivial, trivial, trivial, trivial, trivial, trivial, trivial, trivial, trivial, trivial, trivial, trivial, trivial, trivial, trivial, trivial, trivial, trivial, trivial, ⟨(SImp.box ⟨lrf, lrf, lrf, lrf, lrf, lrf, lrf, trivial⟩), trivial, trivial, trivial, trivial⟩, trivial, ⟨trivial, trivial⟩, trivial⟩, fun _ => .soft 0 (.own 7 [[(Qem p2), (Qdm p3), (.own 1 1 (0) (p4)), (.own 2 4 (0) (p5)), (.own 3 1 (0) (p6)), (Qel p7), I p8]]) (afa rfl Try.underlying93 rfl rfl ti42 (by decide) rfl) (SImp.box ⟨lrf, lrf, lrf, lrf, lrf, lrf, lrf, trivial⟩) ⟨trivial, trivial, trivial, trivial, trivial, trivial, trivial, trivial, trivial, trivial, trivial, trivial, trivial, trivial, trivial, trivial, trivial, trivial, trivial, trivial, ⟨(SImp.box ⟨lrf, lrf, lrf, lrf, lrf, lrf, lrf, trivial⟩), trivial, trivial, trivial, trivial⟩, trivial, ⟨trivial, trivial⟩, trivial⟩, fun _ => .soft 0 (.own 7 [[(Qem p2), (Qdm p3), (.own 1 1 (0) (p4)), (.own 2 4 (0) (p5)), (.own 3 1 (0) (p6)), (Qel p7), I p8]]) (afa rfl Try.underlying42 rfl rfl ti40 (by decide) rfl) (SImp.box ⟨lrf, lrf, lrf, lrf, lrf, lrf, lrf, trivial⟩) ⟨trivial, trivial, trivial, trivial, trivial, trivial, trivial, trivial, trivial, trivial, trivial, trivial, trivial, trivial, trivial, trivial, trivial, trivial, trivial, trivial, ⟨(SImp.box ⟨lrf, lrf, lrf, lrf, lrf, lrf, lrf, trivial⟩), trivial, trivial, trivial, trivial⟩, trivial, ⟨trivial, trivial⟩, trivial⟩, fun _ => .soft 0 (.own 7 [[(Qem p2), (Qdm p3), (.own 1 1 (0) (p4)), (.own 2 4 (0) (p5)), (.own 3 1 (0) (p6)), (Qel p7), I p8]]) (ald rfl ti40 (by decide) rfl (nle rfl) rfl) (SImp.box ⟨lrf, lrf, lrf, lrf, lrf, lrf, lrf, trivial⟩) ⟨trivial, trivial, trivial, trivial, trivial, trivial, trivial, trivial, trivial, trivial, trivial, trivial, trivial, trivial, trivial, trivial, trivial, trivial, trivial, trivial, ⟨(SImp.box ⟨lrf, lrf, lrf, lrf, lrf, lrf, lrf, trivial⟩), trivial, trivial, trivial, trivial⟩, trivial, ⟨trivial, trivial⟩, trivial⟩, fun _ => .hard (amv rfl), fun _ => .hard (aid rfl Try.underlying40 ti76 rfl rfl hi18 (mgt Qah hj19) rfl), fun _ => .hard (afd rfl Try.underlying76 rfl rfl ti5 (by decide) rfl), fun _ => .hard (ald_ rfl ti5 (by decide) (nle rfl) rfl), fun _ => .hard (Qjf hb45 (Qjg rfl Try.underlying144 Qnk (by decide) (by decide) rfl)), fun _ => .hard (ald rfl Qnk (by decide) rfl (nle rfl) rfl), fun _ => .hard (amv rfl), fun _ => .hard (amv rfl), fun _ => .hard (ald rfl ti48 (by decide) rfl (nle rfl) rfl), fun _ => .hard (Qao (first := []) (cap := []) (vs := [.ref 0 7 0 0, I p0, (Qhk x14)]) (σr := [(Qf0 p2 p3 p4 p5 p6 p7 p8), (Qfh p9), (Qgy p10), (Qfz p11)]) (σr' := [(Qf0 p2 p3 p4 p5 p6 p7 p8), (Qfh p9), (Qzf x47), (Qfz p11)]) (res' := (.dat 4 ((x47.1 : List GStream).map Qaa))) [0, 1, 2, 3] rfl Zed (Qlx N p0 x14 p2 p3 p4 p5 p6 p7 p8 p9 p10 p11 _ hf46) rfl (Qbr (rnc (Qbb rfl) (rnc (.plain _ nll) (rnc (.plain _ (NLt.agg _ (nlc nll (nlc nll (nlc nll (nlc nll nl0)))))) rn0)))) (slc (Qal (rnc (.plain _ (nld Qai _)) (rnc (.plain _ (nld Qac _)) (rnc (Qc7 rfl) (rnc (Qc7 rfl) (rnc (Qc7 rfl) (rnc (.plain _ (nld Qae _)) (rnc (.plain _ nll) rn0)))))))) (slc (Qa9 Qap) (slc (Qa9 Qa1) (slc (Qa9 Qaf) Qan)))) (slc (Qal (rnc (.plain _ (nld Qai _)) (rnc (.plain _ (nld Qac _)) (rnc (Qdd rfl) (rnc (Qdd rfl) (rnc (Qdd rfl) (rnc (.plain _ (nld Qae _)) (rnc (.plain _ nll) rn0)))))))) (slc (Qa9 Qap) (slc (Qa9 Qa1) (slc (Qa9 Qaf) Qan)))) (.plain _ (nld Qae _)) rfl rfl rfl), fun _ => .hard (aio rfl Try.underlying31 ti45 (odt hi48a) (odt hi48b) (Nat.zero_add _)), fun _ => .hard (ast rfl ti45 (by rfl) (mgt Qab hg50) (nle rfl) (Qg2 Qab rfl)), trivial⟩
         obtain rfl := osi h
         exact ⟨_, (mto (n := 43) (l' := []) (own' := [(Qf0 p2 p3 p4 p5 p6 p7 p8), (.own 1 (((p9.set p0.toNat x47.1) : List (List GStream)).map Qab)), (Qzf x47), (Qfz p11)]) [] [0, 1, 2, 3] [(Qf0 p2 p3 p4 p5 p6 p7 p8), (.own 1 ((p9.set p0.toNat x47.1 : List (List GStream)).map Qab)), (Qzf x47), (Qfz p11)] hφ0 pn (qc (spb (lc (.rn (.plain _ (nld Qai _))) (lc (.rn (.plain _ (nld Qac _))) (lc (.rn (Qba rfl)) (lc (.rn (Qba rfl)) (lc (.rn (Qba rfl)) (lc (.rn (.plain _ (nld Qae _))) (lc rwl ln)))))))) (qc (spr Qap) (qc (spr Qa1) (qc (spr Qaf) qn))))), Qj4 (vs := []) trivial rfl (NLt.tup _ nl0) (by kernel_rfl) (Qak (Qa6 (nlc (NLt.of0 (nld Qai _)) (nlc (NLt.of0 (nld Qac _)) (nlc (NLt.own _ _ _ _ (by decide)) (nlc (NLt.own _ _ _ _ (by decide)) (nlc (NLt.own _ _ _ _ (by decide)) (nlc (NLt.of0 (nld Qae _)) (nlc (NLt.of0 nll) nl0)))))))) (Qak (Qcl Qap _) (Qak (Qcl Qa1 _) (Qak (Qcl Qaf _) Qbo))))⟩
        ·replace h := Qa3 hb45 h
         rcases bft ((x16.Kind == 6)) with hb51 | hb51
         ·replace h := Qa2 hb51 h
          obtain ⟨x53, hf52, h⟩ := bno h
          obtain ⟨hi54, h⟩ := cko h
          obtain ⟨hi54a, hi54b⟩ := Qfe hi54
          obtain ⟨x55, hg56, h⟩ := bno h
          refine Qku [mv 0 (.ref 0 7 0 0), ⟨[(.tmp 21, .ref 0 7 0 0)], [], .ref 0 7 0 0, [], false⟩, ⟨[(.tmp 22, .ref 0 7 0 0)], [], .ref 0 7 0 2, [], false⟩, ⟨[(.tmp 23, .ref 0 7 0 2)], [], .ref 0 7 0 2, [], false⟩, ⟨[(.tmp 24, .ref 0 7 0 2)], [], (.own 1 1 (0) (p4)), [], false⟩, mv 1 (I p0), mv 0 (.ref 0 7 0 0), ⟨[(.tmp 27, .ref 0 7 0 0)], [], .ref 0 7 0 0, [], false⟩, ⟨[(.tmp 28, .ref 0 7 0 0)], [], .ref 0 7 0 0, [], false⟩, ⟨[(.tmp 29, .ref 0 7 0 0)], [], .ref 0 7 0 1, [], false⟩, ⟨[(.tmp 30, .ref 0 7 0 1)], [], (Qdm p3), [], false⟩, mv 1 (I p0), rp [(.tmp 31, (Qdm p3)), (.tmp 32, I p0)] (.dptr (Qah (x16)) 0), mv 33 (.dptr (Qah (x16)) 0), rp [(.tmp 34, (.dptr (Qah (x16)) 0))] (K .u8 (x16.Kind)), rb [(.tmp 7, .ref 5 7 0 0), (.tmp 35, (K .u8 (x16.Kind)))] [(5, Qlc)] (.ref 5 7 0 6), rb [(.tmp 36, .ref 5 7 0 6)] [(5, Qlc)] (.fn (.func 75) [] []), mv 0 (.ref 0 7 0 0), mv 1 (I p0), rb [(.tmp 6, .ref 4 4 0 0)] [(4, (Qo9 x14))] (Qhk x14), ⟨[(.tmp 37, (.fn (.func 75) [] [])), (.tmp 38, .ref 0 7 0 0), (.tmp 39, I p0), (.tmp 40, (Qhk x14))], [(0, (Qf0 p2 p3 p4 p5 p6 p7 p8)), (1, (Qfh p9)), (2, (Qgy p10)), (3, (Qfz p11))], (Q3p x53), [(0, (Qf0 p2 p3 p4 p5 p6 p7 p8)), (1, (Qfh p9)), (2, (Qgy p10)), (3, (Qfz p11))], false⟩, rb [(.tmp 25, (.own 1 1 (0) (p4))), (.tmp 26, I p0)] [(1, (Qfh p9))] (.ref 1 1 (p0.toNat) 0), ⟨[(.tmp 42, (.ref 1 1 (p0.toNat) 0)), (.tmp 41, (Q3p x53))], [(1, (Qfh p9))], .any, [(1, (.own 1 ((p9.set p0.toNat x53 : List (List GStream)).map Qab)))], false⟩] ?_ ?_
          ·exact ⟨fun _ => .hard (amv rfl), fun _ => .soft 0 (.own 7 [[(Qem p2), (Qdm p3), (.own 1 1 (0) (p4)), (.own 2 4 (0) (p5)), (.own 3 1 (0) (p6)), (Qel p7), I p8]]) (Qbd rfl) (SImp.box ⟨lrf, lrf, lrf, lrf, lrf, lrf, lrf, trivial⟩) ⟨trivial, trivial, trivial, trivial, trivial, trivial, trivial, trivial, trivial, trivial, trivial, trivial, trivial, trivial, trivial, trivial, trivial, trivial, trivial, trivial, ⟨(SImp.box ⟨lrf, lrf, lrf, lrf, lrf, lrf, lrf, trivial⟩), trivial, trivial, trivial, trivial⟩, trivial, ⟨trivial, trivial⟩, trivial⟩, fun _ => .soft 0 (.own 7 [[(Qem p2), (Qdm p3), (.own 1 1 (0) (p4)), (.own 2 4 (0) (p5)), (.own 3 1 (0) (p6)), (Qel p7), I p8]]) (afa rfl Try.underlying93 rfl rfl ti34 (by decide) rfl) (SImp.box ⟨lrf, lrf, lrf, lrf, lrf, lrf, lrf, trivial⟩) ⟨trivial, trivial, trivial, trivial, trivial, trivial, trivial, trivial, trivial, trivial, trivial, trivial, trivial, trivial, trivial, trivial, trivial, trivial, trivial, trivial, ⟨(SImp.box ⟨lrf, lrf, lrf, lrf, lrf, lrf, lrf, trivial⟩), trivial, trivial, trivial, trivial⟩, trivial, ⟨trivial, trivial⟩, trivial⟩, fun _ => .soft 0 (.own 7 [[(Qem p2), (Qdm p3), (.own 1 1 (0) (p4)), (.own 2 4 (0) (p5)), (.own 3 1 (0) (p6)), (Qel p7), I p8]]) (afa rfl Try.underlying34 rfl rfl ti31 (by decide) rfl) (SImp.box ⟨lrf, lrf, lrf, lrf, lrf, lrf, lrf, trivial⟩) ⟨trivial, trivial, trivial, trivial, trivial, trivial, trivial, trivial, trivial, trivial, trivial, trivial, trivial, trivial, trivial, trivial, trivial, trivial, trivial, trivial, ⟨(SImp.box ⟨lrf, lrf, lrf, lrf, lrf, lrf, lrf, trivial⟩), trivial, trivial, trivial, trivial⟩, trivial, ⟨trivial, trivial⟩, trivial⟩, fun _ => .soft 0 (.own 7 [[(Qem p2), (Qdm p3), (.own 1 1 (0) (p4)), (.own 2 4 (0) (p5)), (.own 3 1 (0) (p6)), (Qel p7), I p8]]) (ald rfl ti31 (by decide) rfl (nle rfl) rfl) (SImp.box ⟨lrf, lrf, lrf, lrf, lrf, lrf, lrf, trivial⟩) ⟨trivial, trivial, trivial, trivial, trivial, trivial, trivial, trivial, trivial, trivial, trivial, trivial, trivial, trivial, trivial, trivial, trivial, trivial, trivial, trivial, ⟨(SImp.box ⟨lrf, lrf, lrf, lrf, lrf, lrf, lrf, trivial⟩), trivial, trivial, trivial, trivial⟩, trivial, ⟨trivial, trivial⟩, trivial⟩, fun _ => .hard (amv rfl), fun _ => .hard (amv rfl), fun _ => .soft 0 (.own 7 [[(Qem p2), (Qdm p3), (.own 1 1 (0) (p4)), (.own 2 4 (0) (p5)), (.own 3 1 (0) (p6)), (Qel p7), I p8]]) (Qbd rfl) (SImp.box ⟨lrf, lrf, lrf, lrf, lrf, lrf, lrf, trivial⟩) ⟨trivial, trivial, trivial, trivial, trivial, trivial, trivial, trivial, trivial, trivial, trivial, trivial, trivial, trivial, trivial, trivial, trivial, trivial, trivial, trivial, ⟨(SImp.box ⟨lrf, lrf, lrf, lrf, lrf, lrf, lrf, trivial⟩), trivial, trivial, trivial, trivial⟩, trivial, ⟨trivial, trivial⟩, trivial⟩, fun _ => .soft 0 (.own 7 [[(Qem p2), (Qdm p3), (.own 1 1 (0) (p4)), (.own 2 4 (0) (p5)), (.own 3 1 (0) (p6)), (Qel p7), I p8]]) (afa rfl Try.underlying93 rfl rfl ti42 (by decide) rfl) (SImp.box ⟨lrf, lrf, lrf, lrf, lrf, lrf, lrf, trivial⟩) ⟨trivial, trivial, trivial, trivial, trivial, trivial, trivial, trivial, trivial, trivial, trivial, trivial, trivial, trivial, trivial, trivial, trivial, trivial, trivial, trivial, ⟨(SImp.box ⟨lrf, lrf, lrf, lrf, lrf, lrf, lrf, trivial⟩), trivial, trivial, trivial, trivial⟩, trivial, ⟨trivial, trivial⟩, trivial⟩, fun _ => .soft 0 (.own 7 [[(Qem p2), (Qdm p3), (.own 1 1 (0) (p4)), (.own 2 4 (0) (p5)), (.own 3 1 (0) (p6)), (Qel p7), I p8]]) (afa rfl Try.underlying42 rfl rfl ti40 (by decide) rfl) (SImp.box ⟨lrf, lrf, lrf, lrf, lrf, lrf, lrf, trivial⟩) ⟨trivial, trivial, trivial, trivial, trivial, trivial, trivial, trivial, trivial, trivial, trivial, trivial, trivial, trivial, trivial, trivial, trivial, trivial, trivial, trivial, ⟨(SImp.box ⟨lrf, lrf, lrf, lrf, lrf, lrf, lrf, trivial⟩), trivial, trivial, trivial, trivial⟩, trivial, ⟨trivial, trivial⟩, trivial⟩, fun _ => .soft 0 (.own 7 [[(Qem p2), (Qdm p3), (.own 1 1 (0) (p4)), (.own 2 4 (0) (p5)), (.own 3 1 (0) (p6)), (Qel p7), I p8]]) (ald rfl ti40 (by decide) rfl (nle rfl) rfl) (SImp.box ⟨lrf, lrf, lrf, lrf, lrf, lrf, lrf, trivial⟩) ⟨trivial, trivial, trivial, trivial, trivial, trivial, trivial, trivial, trivial, trivial, trivial, trivial, trivial, trivial, trivial, trivial, trivial, trivial, trivial, trivial, ⟨(SImp.box ⟨lrf, lrf, lrf, lrf, lrf, lrf, lrf, trivial⟩), trivial, trivial, trivial, trivial⟩, trivial, ⟨trivial, trivial⟩, trivial⟩, fun _ => .hard (amv rfl), fun _ => .hard (aid rfl Try.underlying40 ti76 rfl rfl hi18 (mgt Qah hj19) rfl), fun _ => .hard (afd rfl Try.underlying76 rfl rfl ti5 (by decide) rfl), fun _ => .hard (ald_ rfl ti5 (by decide) (nle rfl) rfl), fun _ => .hard (Qjf hb51 (Qjg rfl Try.underlying144 Qnk (by decide) (by decide) rfl)), fun _ => .hard (ald rfl Qnk (by decide) rfl (nle rfl) rfl), fun _ => .hard (amv rfl), fun _ => .hard (amv rfl), fun _ => .hard (ald rfl ti48 (by decide) rfl (nle rfl) rfl), fun _ => .hard (Qao (first := []) (cap := []) (vs := [.ref 0 7 0 0, I p0, (Qhk x14)]) (σr := [(Qf0 p2 p3 p4 p5 p6 p7 p8), (Qfh p9), (Qgy p10), (Qfz p11)]) (σr' := [(Qf0 p2 p3 p4 p5 p6 p7 p8), (Qfh p9), (Qgy p10), (Qfz p11)]) (res' := (Q3p x53)) [0, 1, 2, 3] rfl Qx0 (Qg3 N p0 x14 p2 p3 p4 p5 p6 p7 p8 p9 p10 p11 _ hf52) rfl (Qbr (rnc (Qbb rfl) (rnc (.plain _ nll) (rnc (.plain _ (NLt.agg _ (nlc nll (nlc nll (nlc nll (nlc nll nl0)))))) rn0)))) (slc (Qal (rnc (.plain _ (nld Qai _)) (rnc (.plain _ (nld Qac _)) (rnc (Qc7 rfl) (rnc (Qc7 rfl) (rnc (Qc7 rfl) (rnc (.plain _ (nld Qae _)) (rnc (.plain _ nll) rn0)))))))) (slc (Qa9 Qap) (slc (Qa9 Qa1) (slc (Qa9 Qaf) Qan)))) (slc (Qal (rnc (.plain _ (nld Qai _)) (rnc (.plain _ (nld Qac _)) (rnc (Qdd rfl) (rnc (Qdd rfl) (rnc (Qdd rfl) (rnc (.plain _ (nld Qae _)) (rnc (.plain _ nll) rn0)))))))) (slc (Qa9 Qap) (slc (Qa9 Qa1) (slc (Qa9 Qaf) Qan)))) (.plain _ (nld Qae _)) rfl rfl rfl), fun _ => .hard (aio rfl Try.underlying31 ti45 (odt hi54a) (odt hi54b) (Nat.zero_add _)), fun _ => .hard (ast rfl ti45 (by rfl) (mgt Qab hg56) (nle rfl) (Qg2 Qab rfl)), trivial⟩
          obtain rfl := osi h
          exact ⟨_, (mto (n := 43) (l' := []) (own' := [(Qf0 p2 p3 p4 p5 p6 p7 p8), (.own 1 (((p9.set p0.toNat x53) : List (List GStream)).map Qab)), (Qgy p10), (Qfz p11)]) [] [0, 1, 2, 3] [(Qf0 p2 p3 p4 p5 p6 p7 p8), (.own 1 ((p9.set p0.toNat x53 : List (List GStream)).map Qab)), (Qgy p10), (Qfz p11)] hφ0 pn (qc (spb (lc (.rn (.plain _ (nld Qai _))) (lc (.rn (.plain _ (nld Qac _))) (lc (.rn (Qba rfl)) (lc (.rn (Qba rfl)) (lc (.rn (Qba rfl)) (lc (.rn (.plain _ (nld Qae _))) (lc rwl ln)))))))) (qc (spr Qap) (qc (spr Qa1) (qc (spr Qaf) qn))))), Qj4 (vs := []) trivial rfl (NLt.tup _ nl0) (by kernel_rfl) (Qak (Qa6 (nlc (NLt.of0 (nld Qai _)) (nlc (NLt.of0 (nld Qac _)) (nlc (NLt.own _ _ _ _ (by decide)) (nlc (NLt.own _ _ _ _ (by decide)) (nlc (NLt.own _ _ _ _ (by decide)) (nlc (NLt.of0 (nld Qae _)) (nlc (NLt.of0 nll) nl0)))))))) (Qak (Qcl Qap _) (Qak (Qcl Qa1 _) (Qak (Qcl Qaf _) Qbo))))⟩
         ·replace h := Qa3 hb51 h
          cases h
  ·skip
   refine wx tbk [] trivial ?_
   rcases bft ((decide (x14.Mass > p1))) with hc57 | hc57
   ·replace h := Qa2 hc57 h
    refine wft hc57 (by kernel_rfl) ?_
    refine Q9m 3 [mv 1 (I p0), rp [(.tmp 17, I p0)] (.agg [I p0]), rp [(.tmp 18, (.agg [I p0]))] (.lit (.iface 120 (.agg #[(.int .i64 (p0))]))), ⟨[(.tmp 19, (.lit (.iface 120 (.agg #[(.int .i64 (p0))]))))], [], .any, [], false⟩] (by exact ⟨by kernel_rfl, by kernel_rfl⟩) rfl (by kernel_rfl) rfl (Qxl rfl) (⟨fun _ _ => amv rfl, fun _ _ => Qat (vs := [I p0]) rfl Zg8 Zf9 rfl (by rfl) rfl, fun _ _ => awk (rd' := [(.tmp 18, .lit (.agg #[(.int .i64 (p0))]))]) ⟨rfl, (Less.lits [(.int .i64 (p0))]), trivial⟩ (Qym rfl Try.underlying120), fun _ h => absurd rfl h, trivial⟩) ?_
    obtain rfl := osi h
    exact rfl
   ·replace h := Qa3 hc57 h
    refine wfn hc57 (by kernel_rfl) ?_
    refine Qar ?_
    refine thn ?_
    exact ⟨(), h, (mto (n := 43) [(0, .ref 0 7 0 0), (1, I p0), (6, .ref 7 4 0 0)] [0, 1, 2, 3, 7] [(Qf0 p2 p3 p4 p5 p6 p7 p8), (Qfh p9), (Qgy p10), (Qfz p11), (Qo9 x14)] hφ0 (pc (.rn (rqr rfl)) (pc rwl (pc (.rn (rqr rfl)) pn))) (qc (spb (lc (.rn (.plain _ (nld Qai _))) (lc (.rn (.plain _ (nld Qac _))) (lc (.rn (Qba rfl)) (lc (.rn (Qba rfl)) (lc (.rn (Qba rfl)) (lc (.rn (.plain _ (nld Qae _))) (lc rwl ln)))))))) (qc (spr Qap) (qc (spr Qa1) (qc (spr Qaf) (qc (spb (lc rwl (lc rwl (lc rwl (lc rwl ln))))) qn))))))⟩
theorem Qkm (N : Nat) (p0 : Int) (p1 : Int) (p2 : (List GRow)) (p3 : (List GElement)) (p4 : Nat) (p5 : Nat) (p6 : Nat) (p7 : (List GStream)) (p8 : Int) (p9 : (List (List GStream))) (p10 : (List GLost)) (p11 : (List Int)) (r : (Int × (List (List GStream)) × (List GLost) × (List Int))) (h : Qcu N p0 p1 p2 p3 p4 p5 p6 p7 p8 p9 p10 p11 = some (.inl r)) : Spec Try.prog 52 [.ref 0 7 0 0, I p0, I p1] [(Qf0 p2 p3 p4 p5 p6 p7 p8), (Qfh p9), (Qgy p10), (Qfz p11)] (.tup []) [(.own 7 [[(.dat 5 ((p2 : List GRow).map Qav)), (.dat 7 ((p3 : List GElement).map Qah)), (.own 1 1 (0) (p4)), (.own 2 4 (0) (p5)), (.own 3 1 (0) (p6)), (.dat 4 ((p7 : List GStream).map Qaa)), I r.1]]), (.own 1 ((r.2.1 : List (List GStream)).map Qab)), (.own 4 ((r.2.2.1 : List GLost).map Qax)), (.own 1 ((r.2.2.2 : List Int).map Qam))] := Qhu N p0 p1 p2 p3 p4 p5 p6 p7 p8 p9 p10 p11 _ h
theorem Qkl (N : Nat) (p0 : Int) (p1 : Int) (p2 : (List GRow)) (p3 : (List GElement)) (p4 : Nat) (p5 : Nat) (p6 : Nat) (p7 : (List GStream)) (p8 : Int) (p9 : (List (List GStream))) (p10 : (List GLost)) (p11 : (List Int)) (r : Int) (h : Qcu N p0 p1 p2 p3 p4 p5 p6 p7 p8 p9 p10 p11 = some (.inr r)) : Q9y Try.prog 52 [.ref 0 7 0 0, I p0, I p1] [(Qf0 p2 p3 p4 p5 p6 p7 p8), (Qfh p9), (Qgy p10), (Qfz p11)] (.iface 120 (.agg #[(.int .i64 (r))])) := Qhu N p0 p1 p2 p3 p4 p5 p6 p7 p8 p9 p10 p11 _ h
def Zfs : Slot := .own 1 [[(.lit (.pointer none))]]
theorem Qnq (v0 : Int) : DPan Try.prog 51 [1, 1] (.iface 120 (.agg #[(.int .i64 (v0))])) [[(.lit (.pointer none))], [(I (v0))]] := by
  refine Qpf (t := 5) (args := [.ref 0 1 0 0, .ref 1 1 0 0]) Try.func51 rfl (fun _ _ => rfl) (by kernel_rfl) Zc7 2 (nle rfl) (fun X φ0 w0 hφ0 => ?_)
  refine Qbs ?_
  refine Qaq ?_
  refine wx tbk [(0, rp [(.tmp 5, (.lit (.iface 120 (.agg #[(.int .i64 (v0))])))), (.const .nilIface, (.lit .nilIface))] (B false))] ⟨Qyl rfl Try.underlying20, trivial⟩ ?_
  refine Qg6 (by kernel_rfl) ?_
  refine wx tbk [(0, rp [(.tmp 5, (.lit (.iface 120 (.agg #[(.int .i64 (v0))]))))] (.tup [(.agg [I v0]), B true]))] ⟨Qyh (r := .lit (.tuple #[(.agg #[(.int .i64 (v0))]), (.bool true)])) (Less.trans Q51 (Less.tup ⟨Q52 (l := [(.int .i64 (v0))]), lrf, trivial⟩)) (Qt5 rfl Try.underlying120), trivial⟩ ?_
  refine Qbq (by kernel_rfl) ?_
  refine wx tbk [] trivial ?_
  refine wy1 tbk [] trivial ?_
  refine bln ?_
  exact ⟨_, (mto (n := 13) (l' := []) (own' := [Zfs, (.own 1 [[I v0]])]) [] [0, 1] [Zfs, (.own 1 [[I v0]])] hφ0 pn (qc (spb (lc rwl ln)) (qc (spb (lc rwl ln)) qn))), Qcx (vs := []) trivial rfl (NLt.tup _ nl0) (by kernel_rfl) (Qak (Qa6 (nlt0 (nlc nll nl0))) (Qak (Qa6 (nlt0 (nlc nll nl0))) Qbo))⟩
end Go.Proofs.Ytmbhnllcfmiajaa
