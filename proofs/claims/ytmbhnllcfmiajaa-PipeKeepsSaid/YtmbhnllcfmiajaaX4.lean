/-
  Functions of the program: what they compute, as plain functions, and that they do. No conditions.
-/
import Derived.Test.YtmbhnllcfmiajaaX3
namespace Go.Proofs.Ytmbhnllcfmiajaa
set_option maxRecDepth 100000
set_option maxHeartbeats 4000000
open Go.RowKit
def Qey (_N : Nat) (p0 : (List Int)) : Option Unit :=
  chk (!p0.isEmpty) <|
  chk (!p0.isEmpty) <|
  chk (decide ((0 + p0.length) * 8 ≤ 140737488355328)) <|
  some ()
def Zbn (p0 : (List Int)) : AV := .dat 1 ((p0 : List Int).map Qam)
def Q7q (p0 : (List Int)) : Slot := .own 1 ((p0 : List Int).map Qam)
def Zfn : AV := .acc 0 3 1 ((([] : List Int) : List Int).map Qam)
theorem Qjt (N : Nat) (p0 : (List Int)) (r : Unit) (h : Qey N p0 = some r) : Spec Try.prog 50 [(Zbn p0)] [] (.own 0 1 (0) (p0.length)) [(Q7q p0)] := by
  refine Qah Try.func50 rfl 1 (nle rfl) (fun X φ0 w0 hφ0 hd0 => ?_)
  unfold Qey at h
  refine Qbt ?_
  refine wx tbk [] trivial ?_
  refine wsq ?_
  obtain ⟨hz1, h⟩ := cko h
  refine wx tbk [(1, rp [(.tmp 3, (Zbn p0)), ((.const (.slice none 0 0)), nilS)] (B false))] ⟨Qyf rfl Try.underlying27 rfl (Qky hz1), trivial⟩ ?_
  refine Qir (by kernel_rfl) ?_
  refine Qas ?_
  refine thn ?_
  obtain ⟨ha3, h⟩ := cko h
  obtain ⟨ha2, h⟩ := cko h
  refine wx tbk [(0, ⟨[], [(0, .unused)], Zfn, [(0, .tok)], false⟩), (2, ⟨[(.tmp 5, Zfn), (.tmp 6, (Zbn p0))], [(0, .tok), (1, .unused)], (.own 1 1 (0) (p0.length)), [(0, .dead), (1, (Q7q p0))], false⟩)] ⟨Qk3 rfl Try.underlying27 ti3 tz3, Q2n rfl Try.underlying27 te3 (Base.acc _ _) rfl rfl (Qky ha3) (Qtb Qam Qxk _) (Q9o Qam ha2) (Q9n Qam ha2 (by decide)) (List.length_map _), trivial⟩ ?_
  refine wmr (mto (n := 8) (l' := [(2, (.own 0 1 (0) (p0.length)))]) (own' := [(Q7q p0)]) [(2, (.own 1 1 (0) (p0.length)))] [1] [(Q7q p0)] hφ0 (pc (.rn (Qba rfl)) pn) (qc (spr Qaf) qn)) ?_
  refine Qag ?_
  obtain rfl := osi h
  exact ⟨_, Mor.rfl, Qdc (vs := [(.own 0 1 (0) (p0.length))]) ⟨rot (by kernel_rfl), trivial⟩ rfl (NLt.own _ _ _ _ (by decide)) (by kernel_rfl) (Qal (Qcf Qaf _) Qbr)⟩
theorem Qod : DRet Try.prog 51 [1, 1] := by
  refine Qoy (t := 5) (args := [.any, .any]) Try.func51 rfl (fun _ _ => rfl) (by kernel_rfl) Zc2 0 (nle rfl) (fun X φ0 w0 hφ0 => ?_)
  refine Qao ?_
  refine wx tbk [(0, rp [(.tmp 5, (.lit .nilIface)), (.const .nilIface, (.lit .nilIface))] (B true))] ⟨Qv3 rfl Try.underlying20, trivial⟩ ?_
  refine Qch (by kernel_rfl) ?_
  refine wx1 tbk [] trivial ?_
  refine bln ?_
  exact fend ⟨[], trivial, rfl⟩ (.tup _ nl0)
def Qe6 (_N : Nat) (p0 : GElement) (p1 : Int) : Option Int :=
  chk (p0.Narrow != 0) <|
  (some (if (w64 (p0.Wide - (w64 (p1.tdiv p0.Narrow)))) > 0 then w64 (p0.Wide - (w64 (p1.tdiv p0.Narrow))) else 0)).bind fun x2 =>
  some x2
theorem Qhx (N : Nat) (p0 : GElement) (p1 : Int) (r : Int) (h : Qe6 N p0 p1 = some r) : Spec Try.prog 36 [(.agg (Qad p0)), (I p1)] [] (I r) [] := by
  refine Qah Try.func36 rfl 0 (nle rfl) (fun X φ0 w0 hφ0 hd0 => ?_)
  unfold Qe6 at h
  refine wx tbk [] trivial ?_
  obtain ⟨hz1, h⟩ := cko h
  obtain ⟨x2, hl3, h⟩ := bno h
  refine wxd tbk [(5, rp [(.tmp 7, I p1), (.tmp 9, I p0.Narrow)] (I (w64 (p1.tdiv p0.Narrow)))), (7, rp [ci 0, (.tmp 11, (I (w64 (p0.Wide - (w64 (p1.tdiv p0.Narrow))))))] (I x2))] ⟨Qnt rfl (Qq0 hz1), Qhw hl3 (Qnu rfl), trivial⟩ ?_
  refine Qag ?_
  obtain rfl := osi h
  exact fend ⟨[I x2], ⟨rot (by kernel_rfl), trivial⟩, rfl⟩ nll
def Qfy (_N : Nat) (_p0 : Int) (_p1 : (List GRow)) (_p2 : (List GElement)) (_p3 : Nat) (_p4 : Nat) (_p5 : Nat) (_p6 : (List GStream)) (_p7 : Int) (_p8 : (List (List GStream))) (_p9 : (List GLost)) (_p10 : (List Int)) : Option Unit :=
  some ()
def Q7p (p1 : (List GRow)) (p2 : (List GElement)) (p3 : Nat) (p4 : Nat) (p5 : Nat) (p6 : (List GStream)) (p7 : Int) : Slot := .own 7 [[(.dat 5 ((p1 : List GRow).map Qa8)), (.dat 7 ((p2 : List GElement).map Qad)), (.own 1 1 (0) (p3)), (.own 2 4 (0) (p4)), (.own 3 1 (0) (p5)), (.dat 4 ((p6 : List GStream).map Qab)), (I (p7))]]
def Q7o (p8 : (List (List GStream))) : Slot := .own 1 ((p8 : List (List GStream)).map Qae)
def Q7n (p9 : (List GLost)) : Slot := .own 4 ((p9 : List GLost).map Qa2)
def Q7m (p10 : (List Int)) : Slot := .own 1 ((p10 : List Int).map Qam)
def Q3o : AV := .fn (.func 90) [] [(.ref 4 1 (0) 0), (.ref 5 1 (0) 0)]
def Zbk : Slot := .own 1 [[(.ref 0 7 (0) 0)]]
theorem Ql1 (N : Nat) (p0 : Int) (p1 : (List GRow)) (p2 : (List GElement)) (p3 : Nat) (p4 : Nat) (p5 : Nat) (p6 : (List GStream)) (p7 : Int) (p8 : (List (List GStream))) (p9 : (List GLost)) (p10 : (List Int)) (r : Unit) (h : Qfy N p0 p1 p2 p3 p4 p5 p6 p7 p8 p9 p10 = some r) : Spec Try.prog 74 [(.ref 0 7 (0) 0), (I (p0))] [(Q7p p1 p2 p3 p4 p5 p6 p7), (Q7o p8), (Q7n p9), (Q7m p10)] Q3o [(Q7p p1 p2 p3 p4 p5 p6 p7), (Q7o p8), (Q7n p9), (Q7m p10), Zbk, (.own 1 [[(I (p0))]])] := by
  refine Qah Try.func74 rfl 6 (nle rfl) (fun X φ0 w0 hφ0 hd0 => ?_)
  unfold Qfy at h
  refine Qbt ?_
  refine wx tbk [] trivial ?_
  refine wx tbk [(0, rp [(.tmp 2, .ref 4 1 0 0), (.tmp 3, .ref 5 1 0 0)] Q3o)] ⟨Qfe (fs := []) (cs := [.ref 4 1 0 0, .ref 5 1 0 0]) rfl rfl rfl rfl, trivial⟩ ?_
  refine wmr (mto (n := 6) (l' := [(4, Q3o)]) (own' := [(Q7p p1 p2 p3 p4 p5 p6 p7), (Q7o p8), (Q7n p9), (Q7m p10), Zbk, (.own 1 [[I p0]])]) [(4, Q3o)] [0, 1, 2, 3, 4, 5] [(Q7p p1 p2 p3 p4 p5 p6 p7), (Q7o p8), (Q7n p9), (Q7m p10), Zbk, (.own 1 [[I p0]])] hφ0 (pc (.rn (Qbk rn0 (rnc (rqr rfl) (rnc (rqr rfl) rn0)))) pn) (qc (spb (lc (.rn (.plain _ (nld Qai _))) (lc (.rn (.plain _ (nld Qaa _))) (lc (.rn (Qba rfl)) (lc (.rn (Qba rfl)) (lc (.rn (Qba rfl)) (lc (.rn (.plain _ (nld Qac _))) (lc rwl ln)))))))) (qc (spr Qak) (qc (spr Qaw) (qc (spr Qaf) (qc (spb (lc (.rn (rqr rfl)) ln)) (qc (spb (lc rwl ln)) qn))))))) ?_
  refine Qag ?_
  obtain rfl := osi h
  exact ⟨_, Mor.rfl, Qdc (vs := [Q3o]) ⟨rot (by kernel_rfl), trivial⟩ rfl (NLt.fn _ _ _ nl0 (nlc (NLt.ref _ _ _ _ (by decide)) (nlc (NLt.ref _ _ _ _ (by decide)) nl0))) (by kernel_rfl) (Qal (Qbd (nlc (NLt.of0 (nld Qai _)) (nlc (NLt.of0 (nld Qaa _)) (nlc (NLt.own _ _ _ _ (by decide)) (nlc (NLt.own _ _ _ _ (by decide)) (nlc (NLt.own _ _ _ _ (by decide)) (nlc (NLt.of0 (nld Qac _)) (nlc (NLt.of0 nll) nl0)))))))) (Qal (Qcf Qak _) (Qal (Qcf Qaw _) (Qal (Qcf Qaf _) (Qal (Qbd (nlc (NLt.ref _ _ _ _ (by decide)) nl0)) (Qal (Qbd (nlc (NLt.of0 nll) nl0)) Qbr))))))⟩
def Qca (N : Nat) (p0 : (List Int)) (k1 : Unit → Option Int) (p1 : Int) : Nat → Int → Option Int
  | 0, _ => none
  | n4 + 1, y2 =>
    bif (decide (y2 < (p0.length : Int))) then
     (getI p0 y2).bind fun x6 =>
     bif (p1 == x6) then
      some y2
     else
      Qca N p0 k1 p1 n4 (w64 (y2 + 1))
    else
     k1 ()
def Qei (N : Nat) (p0 : (List Int)) (p1 : Int) : Option Int :=
  Qcc (fun _ =>
    some (-1)) fun k1 : Unit → Option Int =>
  Qca N p0 k1 p1 N 0
def Q0z (p0 : (List Int)) : AV := .dat 1 ((p0 : List Int).map Qam)
theorem Qg7 (N : Nat) (p0 : (List Int)) (p1 : Int) (r : Int) (h : Qei N p0 p1 = some r) : Spec Try.prog 91 [(.dat 1 (p0.map Qam)), (I p1)] [] (I r) [] := by
  refine Qah Try.func91 rfl 0 (nle rfl) (fun X φ0 w0 hφ0 hd0 => ?_)
  unfold Qei at h
  refine wx tbk [] trivial ?_
  obtain ⟨k1, hk_k1, h⟩ := jko h
  refine wjn (τ := Unit) (fun t => k1 t = some r) (fun _ => ⟨mk 19 [], []⟩) (fun t h => ?_) ?_
  ·subst hk_k1
   refine wx tbk [] trivial ?_
   refine Qag ?_
   obtain rfl := osi h
   exact fend ⟨[(I ((-1)))], ⟨rot (by kernel_rfl), trivial⟩, rfl⟩ nll
  ·skip
   refine wx tbk [(1, rp [(.tmp 6, (Q0z p0))] (I ((p0.length : Int))))] ⟨alm (c := Qam) (l := p0) (aln rfl Try.underlying27 rfl), trivial⟩ ?_
   refine Qao ?_
   refine wmr (mto (n := 19) (l' := [(0, (Q0z p0)), (1, I p1), (7, (I ((p0.length : Int)))), (8, I 0)]) (own' := []) [(0, (Q0z p0)), (1, I p1), (7, (I ((p0.length : Int)))), (8, I 0)] [] [] hφ0 (pc (.rn (.plain _ (nld Qaf _))) (pc rwl (pc rwl (pc rwl pn)))) qn) ?_
   refine Qc0 (τ := Int) (fun n t => Qca N p0 k1 p1 n t = some r) (fun y2 => ⟨mk 19 [(0, (Q0z p0)), (1, I p1), (7, (I ((p0.length : Int)))), (8, I y2)], []⟩) (fun t h => by rw [Qca] at h; cases h) (fun n4 ih y2 h => ?_) N (0) h
   rw [Qca] at h
   skip
   refine wx tbk [] trivial ?_
   refine wsq ?_
   rcases bft ((decide (y2 < (p0.length : Int)))) with hc5 | hc5
   ·replace h := Qa6 hc5 h
    refine wft hc5 (by kernel_rfl) ?_
    refine Qas ?_
    refine thn ?_
    refine wsq ?_
    refine Qao ?_
    refine wx tbk [] trivial ?_
    obtain ⟨x6, hg7, h⟩ := bno h
    obtain ⟨hi8, hj9⟩ := gsm hg7
    refine wx tbk [(3, rp [(.tmp 12, (Q0z p0)), (.tmp 13, I y2)] (.dptr (Qam (x6)) 0))] ⟨aid rfl Try.underlying27 ti3 rfl rfl hi8 (mgt Qam hj9) rfl, trivial⟩ ?_
    rcases bft ((p1 == x6)) with hc10 | hc10
    ·replace h := Qa6 hc10 h
     refine wft hc10 (by kernel_rfl) ?_
     refine wx tbk [] trivial ?_
     refine Qag ?_
     refine Qax ?_
     refine Qaj ?_
     refine Qaj ?_
     refine Qax ?_
     refine Qaj ?_
     obtain rfl := osi h
     exact fend ⟨[I y2], ⟨rot (by kernel_rfl), trivial⟩, rfl⟩ nll
    ·replace h := Qa7 hc10 h
     refine wfn hc10 (by kernel_rfl) ?_
     refine Qas ?_
     refine bln ?_
     refine thn ?_
     refine wx1 tbk [] trivial ?_
     refine thn ?_
     exact arm (mto (n := 19) [(0, (Q0z p0)), (1, I p1), (7, (I ((p0.length : Int)))), (8, (I (w64 (y2 + 1))))] [] [] hφ0 (pc (.rn (.plain _ (nld Qaf _))) (pc rwl (pc rwl (pc rwl pn)))) qn) (ih (w64 (y2 + 1)) h)
   ·replace h := Qa7 hc5 h
    refine wfn hc5 (by kernel_rfl) ?_
    refine Qb4 ?_
    refine Qa5 ?_
    refine Qa5 ?_
    refine Qb3 rfl ?_
    refine thn ?_
    exact ⟨(), h, (mto (n := 19) [] [] [] hφ0 pn qn)⟩
def Qcy (N : Nat) (x1 : GElement) (p2 : (List (List GStream))) : Nat → Int → Option (List GStream)
  | 0, _ => none
  | n19 + 1, y15 =>
    bif (decide (y15 < (x1.From.length : Int))) then
     (getI x1.From y15).bind fun x21 =>
     (getI p2 x21.Element).bind fun x25 =>
     (getI x25 x21.Outlet).bind fun x29 =>
     yld x29 <|
     Qcy N x1 p2 n19 (w64 (y15 + 1))
    else
     some ([])
def Qfx (N : Nat) (p0 : (List GRow)) (p1 : (List GElement)) (p2 : (List (List GStream))) (_p3 : (List GLost)) (_p4 : (List Int)) (p5 : (List GStream)) (_p6 : Int) (p7 : Int) : Option (List GStream) :=
  (getI p1 p7).bind fun x1 =>
  bif (x1.Kind == 1) then
   (Qg9 N (⟨p0, p1⟩ : GNet) 1).bind fun x7 =>
   (Qei N x7 p7).bind fun x9 =>
   (getI p5 x9).bind fun x10 =>
   yld x10 <|
   some ([])
  else
   Qcy N x1 p2 N 0
def Qfp (p0 : (List GRow)) : AV := .dat 5 ((p0 : List GRow).map Qa8)
def Qff (p1 : (List GElement)) : AV := .dat 7 ((p1 : List GElement).map Qad)
def Qfc (p2 : (List (List GStream))) : AV := .dat 1 ((p2 : List (List GStream)).map Qae)
def Qft (p3 : (List GLost)) : AV := .dat 4 ((p3 : List GLost).map Qa2)
def Qfs (p4 : (List Int)) : AV := .dat 1 ((p4 : List Int).map Qam)
def Qfb (p5 : (List GStream)) : AV := .dat 4 ((p5 : List GStream).map Qab)
def Q02 (p0 : (List GRow)) (p1 : (List GElement)) : AV := .agg [(Qfp p0), (Qff p1)]
def Q01 (x7 : (List Int)) : AV := .dat 1 ((x7 : List Int).map Qam)
def Q7l (x10 : GStream) : AV := .agg [(I (x10.Mass)), (I (x10.Heat)), (I (x10.Silica)), (I (x10.Gas))]
def Q00 (x1 : GElement) : AV := .dat 2 ((x1.From : List GPort).map Qav)
def Qor (x21 : GPort) : Slot := .own 2 [[(I (x21.Element)), (I (x21.Outlet))]]
def Qy2 (x25 : (List GStream)) : AV := .dat 4 ((x25 : List GStream).map Qab)
def Qy1 (x29 : GStream) : AV := .agg [(I (x29.Mass)), (I (x29.Heat)), (I (x29.Silica)), (I (x29.Gas))]
theorem Ql0 (N : Nat) (p0 : (List GRow)) (p1 : (List GElement)) (p2 : (List (List GStream))) (p3 : (List GLost)) (p4 : (List Int)) (p5 : (List GStream)) (p6 : Int) (p7 : Int) (r : (List GStream)) (h : Qfx N p0 p1 p2 p3 p4 p5 p6 p7 = some r) : Qrf Try.prog 90 [(.dptr [(.dptr [(Qfp p0), (Qff p1), (Qfc p2), (Qft p3), (Qfs p4), (Qfb p5), (I (p6))] 0)] 0), (.dptr [(I (p7))] 0)] [] (fun x => [(.agg #[(.int .i64 (x.Mass)), (.int .i64 (x.Heat)), (.int .i64 (x.Silica)), (.int .i64 (x.Gas))])]) r := by
  refine Qr0 Try.func90 rfl rfl (fun X φ0 w0 l J hφ0 hy => ?_)
  unfold Qfx at h
  refine wsq ?_
  obtain ⟨x1, hg2, h⟩ := bno h
  obtain ⟨hi3, hj4⟩ := gsm hg2
  refine wxd tbk [(6, rp [(.tmp 10, (Qff p1)), (.tmp 11, I p7)] (.dptr (Qad (x1)) 0))] ⟨aid rfl Try.underlying40 ti76 rfl rfl hi3 (mgt Qad hj4) rfl, trivial⟩ ?_
  rcases bft ((x1.Kind == 1)) with hc5 | hc5
  ·replace h := Qa6 hc5 h
   refine wft hc5 (by kernel_rfl) ?_
   obtain ⟨x7, hf6, h⟩ := bno h
   obtain ⟨x9, hf8, h⟩ := bno h
   obtain ⟨x10, hg11, h⟩ := bno h
   obtain ⟨hi12, hj13⟩ := gsm hg11
   obtain ⟨q14, hy_, hq_⟩ := Qw5 h
   clear h
   subst hq_
   have h := hy_
   clear hy_
   refine Qv1 14 [mv 0 (.lit (.func (.yield l) #[] #[])), rp [(.tmp 1, (.dptr [(.dptr [(Qfp p0), (Qff p1), (Qfc p2), (Qft p3), (Qfs p4), (Qfb p5), I p6] 0)] 0))] (.dptr [(Qfp p0), (Qff p1), (Qfc p2), (Qft p3), (Qfs p4), (Qfb p5), I p6] 0), mv 17 (.dptr [(Qfp p0), (Qff p1), (Qfc p2), (Qft p3), (Qfs p4), (Qfb p5), I p6] 0), rp [(.tmp 18, (.dptr [(Qfp p0), (Qff p1), (Qfc p2), (Qft p3), (Qfs p4), (Qfb p5), I p6] 0))] (.dptr [(Qfp p0), (Qff p1), (Qfc p2), (Qft p3), (Qfs p4), (Qfb p5), I p6] 5), rp [(.tmp 19, (.dptr [(Qfp p0), (Qff p1), (Qfc p2), (Qft p3), (Qfs p4), (Qfb p5), I p6] 5))] (Qfb p5), rp [(.tmp 1, (.dptr [(.dptr [(Qfp p0), (Qff p1), (Qfc p2), (Qft p3), (Qfs p4), (Qfb p5), I p6] 0)] 0))] (.dptr [(Qfp p0), (Qff p1), (Qfc p2), (Qft p3), (Qfs p4), (Qfb p5), I p6] 0), mv 21 (.dptr [(Qfp p0), (Qff p1), (Qfc p2), (Qft p3), (Qfs p4), (Qfb p5), I p6] 0), mv 22 (.dptr [(Qfp p0), (Qff p1), (Qfc p2), (Qft p3), (Qfs p4), (Qfb p5), I p6] 0), rp [(.tmp 23, (.dptr [(Qfp p0), (Qff p1), (Qfc p2), (Qft p3), (Qfs p4), (Qfb p5), I p6] 0))] (Q02 p0 p1), rp [fu 70, (.tmp 24, (Q02 p0 p1)), (.const (.int .u8 1), (K .u8 (1)))] (Q01 x7), rp [(.tmp 2, (.dptr [I p7] 0))] (I p7), rp [fu 91, (.tmp 25, (Q01 x7)), (.tmp 26, I p7)] (I x9), rp [(.tmp 20, (Qfb p5)), (.tmp 27, I x9)] (.dptr (Qab (x10)) 0), rp [(.tmp 28, (.dptr (Qab (x10)) 0))] (Q7l x10), ⟨[(.tmp 16, (.lit (.func (.yield l) #[] #[]))), (.tmp 29, (Q7l x10))], [(0, (.far (J (some (x10 :: q14)))))], B true, [(0, (.far (J (some (q14)))))], false⟩] [mv 0 (.lit (.func (.yield l) #[] #[])), rp [(.tmp 1, (.dptr [(.dptr [(Qfp p0), (Qff p1), (Qfc p2), (Qft p3), (Qfs p4), (Qfb p5), I p6] 0)] 0))] (.dptr [(Qfp p0), (Qff p1), (Qfc p2), (Qft p3), (Qfs p4), (Qfb p5), I p6] 0), mv 17 (.dptr [(Qfp p0), (Qff p1), (Qfc p2), (Qft p3), (Qfs p4), (Qfb p5), I p6] 0), rp [(.tmp 18, (.dptr [(Qfp p0), (Qff p1), (Qfc p2), (Qft p3), (Qfs p4), (Qfb p5), I p6] 0))] (.dptr [(Qfp p0), (Qff p1), (Qfc p2), (Qft p3), (Qfs p4), (Qfb p5), I p6] 5), rp [(.tmp 19, (.dptr [(Qfp p0), (Qff p1), (Qfc p2), (Qft p3), (Qfs p4), (Qfb p5), I p6] 5))] (Qfb p5), rp [(.tmp 1, (.dptr [(.dptr [(Qfp p0), (Qff p1), (Qfc p2), (Qft p3), (Qfs p4), (Qfb p5), I p6] 0)] 0))] (.dptr [(Qfp p0), (Qff p1), (Qfc p2), (Qft p3), (Qfs p4), (Qfb p5), I p6] 0), mv 21 (.dptr [(Qfp p0), (Qff p1), (Qfc p2), (Qft p3), (Qfs p4), (Qfb p5), I p6] 0), mv 22 (.dptr [(Qfp p0), (Qff p1), (Qfc p2), (Qft p3), (Qfs p4), (Qfb p5), I p6] 0), rp [(.tmp 23, (.dptr [(Qfp p0), (Qff p1), (Qfc p2), (Qft p3), (Qfs p4), (Qfb p5), I p6] 0))] (Q02 p0 p1), rp [fu 70, (.tmp 24, (Q02 p0 p1)), (.const (.int .u8 1), (K .u8 (1)))] (Q01 x7), rp [(.tmp 2, (.dptr [I p7] 0))] (I p7), rp [fu 91, (.tmp 25, (Q01 x7)), (.tmp 26, I p7)] (I x9), rp [(.tmp 20, (Qfb p5)), (.tmp 27, I x9)] (.dptr (Qab (x10)) 0), rp [(.tmp 28, (.dptr (Qab (x10)) 0))] (Q7l x10), ⟨[(.tmp 16, (.lit (.func (.yield l) #[] #[]))), (.tmp 29, (Q7l x10))], [(0, (.far (J (some (x10 :: q14)))))], B false, [(0, (.far (J none)))], false⟩] (by exact ⟨by kernel_rfl, by kernel_rfl⟩) (by exact ⟨by kernel_rfl, by kernel_rfl⟩) rfl rfl rfl rfl (Qmx (rd' := (.tmp 16, .lit (.func (.yield l) #[] #[])) :: [(.tmp 29, .lit (.agg #[(.int .i64 (x10.Mass)), (.int .i64 (x10.Heat)), (.int .i64 (x10.Silica)), (.int .i64 (x10.Gas))]))]) ⟨rfl, lrf, rfl, (Less.lits [(.int .i64 (x10.Mass)), (.int .i64 (x10.Heat)), (.int .i64 (x10.Silica)), (.int .i64 (x10.Gas))]), trivial⟩ (Qll (x := x10) (rest := q14) rfl rfl hy rfl)) (⟨fun _ _ => amv rfl, fun _ _ => ald_ rfl ti89 (by decide) (nle rfl) rfl, fun _ _ => anc rfl rfl, fun _ _ => afd rfl Try.underlying93 rfl rfl ti45 (by decide) rfl, fun _ _ => ald_ rfl ti45 (by decide) (nle rfl) rfl, fun _ _ => ald_ rfl ti89 (by decide) (nle rfl) rfl, fun _ _ => anc rfl rfl, fun _ _ => afd rfl Try.underlying93 rfl rfl ti42 (by decide) rfl, fun _ _ => ald_ rfl ti42 (by decide) (nle rfl) rfl, fun _ _ => apc (first := []) (cap := []) (vs := [(Q02 p0 p1), (K .u8 (1))]) rfl Qtj (Qhn N (⟨p0, p1⟩ : GNet) 1 _ hf6) rfl rfl (nlc (NLt.agg _ (nlc (nld Qai _) (nlc (nld Qaa _) nl0))) (nlc nll nl0)) (nld Qaf _) rfl, fun _ _ => ald_ rfl ti3 (by decide) (nle rfl) rfl, fun _ _ => apc (first := []) (cap := []) (vs := [(Q01 x7), I p7]) rfl Q53 (Qg7 N x7 p7 _ hf8) rfl rfl (nlc (nld Qaf _) (nlc nll nl0)) nll rfl, fun _ _ => aid rfl Try.underlying45 ti48 rfl rfl hi12 (mgt Qab hj13) rfl, fun _ _ => ald_ rfl ti48 (by decide) (nle rfl) rfl, fun _ h => absurd rfl h, trivial⟩) (⟨fun _ _ => amv rfl, fun _ _ => ald_ rfl ti89 (by decide) (nle rfl) rfl, fun _ _ => anc rfl rfl, fun _ _ => afd rfl Try.underlying93 rfl rfl ti45 (by decide) rfl, fun _ _ => ald_ rfl ti45 (by decide) (nle rfl) rfl, fun _ _ => ald_ rfl ti89 (by decide) (nle rfl) rfl, fun _ _ => anc rfl rfl, fun _ _ => afd rfl Try.underlying93 rfl rfl ti42 (by decide) rfl, fun _ _ => ald_ rfl ti42 (by decide) (nle rfl) rfl, fun _ _ => apc (first := []) (cap := []) (vs := [(Q02 p0 p1), (K .u8 (1))]) rfl Qtj (Qhn N (⟨p0, p1⟩ : GNet) 1 _ hf6) rfl rfl (nlc (NLt.agg _ (nlc (nld Qai _) (nlc (nld Qaa _) nl0))) (nlc nll nl0)) (nld Qaf _) rfl, fun _ _ => ald_ rfl ti3 (by decide) (nle rfl) rfl, fun _ _ => apc (first := []) (cap := []) (vs := [(Q01 x7), I p7]) rfl Q53 (Qg7 N x7 p7 _ hf8) rfl rfl (nlc (nld Qaf _) (nlc nll nl0)) nll rfl, fun _ _ => aid rfl Try.underlying45 ti48 rfl rfl hi12 (mgt Qab hj13) rfl, fun _ _ => ald_ rfl ti48 (by decide) (nle rfl) rfl, fun _ h => absurd rfl h, trivial⟩) ?_ ?_
   ·skip
    refine Qag ?_
    refine Qaj ?_
    obtain rfl := osi h
    exact Or.inl rfl
   ·clear h
    refine Qag ?_
    refine Qaj ?_
    exact Or.inr (by kernel_rfl)
  ·replace h := Qa7 hc5 h
   refine wfn hc5 (by kernel_rfl) ?_
   refine Qas ?_
   refine thn ?_
   refine wxd tbk [(6, rp [(.tmp 35, (Qff p1)), (.tmp 36, I p7)] (.dptr (Qad (x1)) 0)), (9, rp [(.tmp 39, (Q00 x1))] (I ((x1.From.length : Int))))] ⟨aid rfl Try.underlying40 ti76 rfl rfl hi3 (mgt Qad hj4) rfl, alm (c := Qav) (l := x1.From) (aln rfl Try.underlying53 rfl), trivial⟩ ?_
   refine Qao ?_
   refine wmr (mto (n := 62) (l' := [(0, (.lit (.func (.yield l) #[] #[]))), (1, (.dptr [(.dptr [(Qfp p0), (Qff p1), (Qfc p2), (Qft p3), (Qfs p4), (Qfb p5), I p6] 0)] 0)), (39, (Q00 x1)), (40, (I ((x1.From.length : Int)))), (41, I 0)]) (own' := [(.far (J (some (r))))]) [(0, (.lit (.func (.yield l) #[] #[]))), (1, (.dptr [(.dptr [(Qfp p0), (Qff p1), (Qfc p2), (Qft p3), (Qfs p4), (Qfb p5), I p6] 0)] 0)), (39, (Q00 x1)), (40, (I ((x1.From.length : Int)))), (41, I 0)] [0] [(.far (J (some (r))))] hφ0 (pc rwl (pc (.rn (.plain _ (NLt.dptr _ _ (nlc (NLt.dptr _ _ (nlc (nld Qai _) (nlc (nld Qaa _) (nlc (nld Qak _) (nlc (nld Qaw _) (nlc (nld Qaf _) (nlc (nld Qac _) (nlc nll nl0)))))))) nl0)))) (pc (.rn (.plain _ (nld Qbq _))) (pc rwl (pc rwl pn))))) (qc (.far _) qn)) ?_
   refine Qc0 (τ := (Int) × List GStream) (fun n t => Qcy N x1 p2 n t.1 = some t.2) (fun ⟨y15, q16⟩ => ⟨mk 62 [(0, (.lit (.func (.yield l) #[] #[]))), (1, (.dptr [(.dptr [(Qfp p0), (Qff p1), (Qfc p2), (Qft p3), (Qfs p4), (Qfb p5), I p6] 0)] 0)), (39, (Q00 x1)), (40, (I ((x1.From.length : Int)))), (41, I y15)], [(.far (J (some (q16))))]⟩) (fun t h => by rw [Qcy] at h; cases h) (fun n19 ih t h => ?_) N ((0), r) h
   obtain ⟨y15, q16⟩ := t
   rw [Qcy] at h
   try dsimp only at h
   refine wx tbk [] trivial ?_
   refine wsq ?_
   rcases bft ((decide (y15 < (x1.From.length : Int)))) with hc20 | hc20
   ·replace h := Qa6 hc20 h
    refine wft hc20 (by kernel_rfl) ?_
    refine Qas ?_
    refine thn ?_
    refine wsq ?_
    refine Qao ?_
    obtain ⟨x21, hg22, h⟩ := bno h
    obtain ⟨hi23, hj24⟩ := gsm hg22
    refine wx tbk [(0, rp [(.tmp 39, (Q00 x1)), (.tmp 41, I y15)] (.dptr (Qav (x21)) 0))] ⟨aid rfl Try.underlying53 ti57 rfl rfl hi23 (mgt Qav hj24) rfl, trivial⟩ ?_
    obtain ⟨x25, hg26, h⟩ := bno h
    obtain ⟨hi27, hj28⟩ := gsm hg26
    obtain ⟨x29, hg30, h⟩ := bno h
    obtain ⟨hi31, hj32⟩ := gsm hg30
    obtain ⟨q33, hy_, hq_⟩ := Qw5 h
    clear h
    subst hq_
    have h := hy_
    clear hy_
    refine Qv1 14 [mv 0 (.lit (.func (.yield l) #[] #[])), rp [(.tmp 1, (.dptr [(.dptr [(Qfp p0), (Qff p1), (Qfc p2), (Qft p3), (Qfs p4), (Qfb p5), I p6] 0)] 0))] (.dptr [(Qfp p0), (Qff p1), (Qfc p2), (Qft p3), (Qfs p4), (Qfb p5), I p6] 0), mv 46 (.dptr [(Qfp p0), (Qff p1), (Qfc p2), (Qft p3), (Qfs p4), (Qfb p5), I p6] 0), rp [(.tmp 47, (.dptr [(Qfp p0), (Qff p1), (Qfc p2), (Qft p3), (Qfs p4), (Qfb p5), I p6] 0))] (.dptr [(Qfp p0), (Qff p1), (Qfc p2), (Qft p3), (Qfs p4), (Qfb p5), I p6] 2), mv 48 (.dptr [(Qfp p0), (Qff p1), (Qfc p2), (Qft p3), (Qfs p4), (Qfb p5), I p6] 2), rp [(.tmp 49, (.dptr [(Qfp p0), (Qff p1), (Qfc p2), (Qft p3), (Qfs p4), (Qfb p5), I p6] 2))] (Qfc p2), rb [(.tmp 5, .ref 1 2 0 0)] [(1, (Qor x21))] (.ref 1 2 0 0), rb [(.tmp 51, .ref 1 2 0 0)] [(1, (Qor x21))] (I x21.Element), rp [(.tmp 50, (Qfc p2)), (.tmp 52, I x21.Element)] (.dptr (Qae (x25)) 0), rp [(.tmp 53, (.dptr (Qae (x25)) 0))] (Qy2 x25), rb [(.tmp 5, .ref 1 2 0 0)] [(1, (Qor x21))] (.ref 1 2 0 1), rb [(.tmp 55, .ref 1 2 0 1)] [(1, (Qor x21))] (I x21.Outlet), rp [(.tmp 54, (Qy2 x25)), (.tmp 56, I x21.Outlet)] (.dptr (Qab (x29)) 0), rp [(.tmp 57, (.dptr (Qab (x29)) 0))] (Qy1 x29), ⟨[(.tmp 45, (.lit (.func (.yield l) #[] #[]))), (.tmp 58, (Qy1 x29))], [(0, (.far (J (some (x29 :: q33)))))], B true, [(0, (.far (J (some (q33)))))], false⟩, rp [(.tmp 59, B true)] (B false)] [mv 0 (.lit (.func (.yield l) #[] #[])), rp [(.tmp 1, (.dptr [(.dptr [(Qfp p0), (Qff p1), (Qfc p2), (Qft p3), (Qfs p4), (Qfb p5), I p6] 0)] 0))] (.dptr [(Qfp p0), (Qff p1), (Qfc p2), (Qft p3), (Qfs p4), (Qfb p5), I p6] 0), mv 46 (.dptr [(Qfp p0), (Qff p1), (Qfc p2), (Qft p3), (Qfs p4), (Qfb p5), I p6] 0), rp [(.tmp 47, (.dptr [(Qfp p0), (Qff p1), (Qfc p2), (Qft p3), (Qfs p4), (Qfb p5), I p6] 0))] (.dptr [(Qfp p0), (Qff p1), (Qfc p2), (Qft p3), (Qfs p4), (Qfb p5), I p6] 2), mv 48 (.dptr [(Qfp p0), (Qff p1), (Qfc p2), (Qft p3), (Qfs p4), (Qfb p5), I p6] 2), rp [(.tmp 49, (.dptr [(Qfp p0), (Qff p1), (Qfc p2), (Qft p3), (Qfs p4), (Qfb p5), I p6] 2))] (Qfc p2), rb [(.tmp 5, .ref 1 2 0 0)] [(1, (Qor x21))] (.ref 1 2 0 0), rb [(.tmp 51, .ref 1 2 0 0)] [(1, (Qor x21))] (I x21.Element), rp [(.tmp 50, (Qfc p2)), (.tmp 52, I x21.Element)] (.dptr (Qae (x25)) 0), rp [(.tmp 53, (.dptr (Qae (x25)) 0))] (Qy2 x25), rb [(.tmp 5, .ref 1 2 0 0)] [(1, (Qor x21))] (.ref 1 2 0 1), rb [(.tmp 55, .ref 1 2 0 1)] [(1, (Qor x21))] (I x21.Outlet), rp [(.tmp 54, (Qy2 x25)), (.tmp 56, I x21.Outlet)] (.dptr (Qab (x29)) 0), rp [(.tmp 57, (.dptr (Qab (x29)) 0))] (Qy1 x29), ⟨[(.tmp 45, (.lit (.func (.yield l) #[] #[]))), (.tmp 58, (Qy1 x29))], [(0, (.far (J (some (x29 :: q33)))))], B false, [(0, (.far (J none)))], false⟩, rp [(.tmp 59, B false)] (B true)] (by exact ⟨by kernel_rfl, by kernel_rfl⟩) (by exact ⟨by kernel_rfl, by kernel_rfl⟩) rfl rfl rfl rfl (Qmx (rd' := (.tmp 45, .lit (.func (.yield l) #[] #[])) :: [(.tmp 58, .lit (.agg #[(.int .i64 (x29.Mass)), (.int .i64 (x29.Heat)), (.int .i64 (x29.Silica)), (.int .i64 (x29.Gas))]))]) ⟨rfl, lrf, rfl, (Less.lits [(.int .i64 (x29.Mass)), (.int .i64 (x29.Heat)), (.int .i64 (x29.Silica)), (.int .i64 (x29.Gas))]), trivial⟩ (Qll (x := x29) (rest := q33) rfl rfl hy rfl)) (⟨fun _ _ => amv rfl, fun _ _ => ald_ rfl ti89 (by decide) (nle rfl) rfl, fun _ _ => anc rfl rfl, fun _ _ => afd rfl Try.underlying93 rfl rfl ti34 (by decide) rfl, fun _ _ => afd rfl Try.underlying34 rfl rfl ti31 (by decide) rfl, fun _ _ => ald_ rfl ti31 (by decide) (nle rfl) rfl, fun _ _ => afa rfl Try.underlying57 rfl rfl ti3 (by decide) rfl, fun _ _ => ald rfl ti3 (by decide) rfl (nle rfl) rfl, fun _ _ => aid rfl Try.underlying31 ti45 rfl rfl hi27 (mgt Qae hj28) rfl, fun _ _ => ald_ rfl ti45 (by decide) (nle rfl) rfl, fun _ _ => afa rfl Try.underlying57 rfl rfl ti3 (by decide) rfl, fun _ _ => ald rfl ti3 (by decide) rfl (nle rfl) rfl, fun _ _ => aid rfl Try.underlying45 ti48 rfl rfl hi31 (mgt Qab hj32) rfl, fun _ _ => ald_ rfl ti48 (by decide) (nle rfl) rfl, fun _ h => absurd rfl h, fun _ _ => Qjm rfl, trivial⟩) (⟨fun _ _ => amv rfl, fun _ _ => ald_ rfl ti89 (by decide) (nle rfl) rfl, fun _ _ => anc rfl rfl, fun _ _ => afd rfl Try.underlying93 rfl rfl ti34 (by decide) rfl, fun _ _ => afd rfl Try.underlying34 rfl rfl ti31 (by decide) rfl, fun _ _ => ald_ rfl ti31 (by decide) (nle rfl) rfl, fun _ _ => afa rfl Try.underlying57 rfl rfl ti3 (by decide) rfl, fun _ _ => ald rfl ti3 (by decide) rfl (nle rfl) rfl, fun _ _ => aid rfl Try.underlying31 ti45 rfl rfl hi27 (mgt Qae hj28) rfl, fun _ _ => ald_ rfl ti45 (by decide) (nle rfl) rfl, fun _ _ => afa rfl Try.underlying57 rfl rfl ti3 (by decide) rfl, fun _ _ => ald rfl ti3 (by decide) rfl (nle rfl) rfl, fun _ _ => aid rfl Try.underlying45 ti48 rfl rfl hi31 (mgt Qab hj32) rfl, fun _ _ => ald_ rfl ti48 (by decide) (nle rfl) rfl, fun _ h => absurd rfl h, fun _ _ => Qjm rfl, trivial⟩) ?_ ?_
    ·skip
     refine Qir (by kernel_rfl) ?_
     refine Qas ?_
     refine bln ?_
     refine thn ?_
     refine wx1 tbk [] trivial ?_
     refine thn ?_
     exact arm (mto (n := 62) [(0, (.lit (.func (.yield l) #[] #[]))), (1, (.dptr [(.dptr [(Qfp p0), (Qff p1), (Qfc p2), (Qft p3), (Qfs p4), (Qfb p5), I p6] 0)] 0)), (39, (Q00 x1)), (40, (I ((x1.From.length : Int)))), (41, (I (w64 (y15 + 1))))] [0] [(.far (J (some (q33))))] hφ0 (pc rwl (pc (.rn (.plain _ (NLt.dptr _ _ (nlc (NLt.dptr _ _ (nlc (nld Qai _) (nlc (nld Qaa _) (nlc (nld Qak _) (nlc (nld Qaw _) (nlc (nld Qaf _) (nlc (nld Qac _) (nlc nll nl0)))))))) nl0)))) (pc (.rn (.plain _ (nld Qbq _))) (pc rwl (pc rwl pn))))) (qc (.far _) qn)) (ih ((w64 (y15 + 1)), q33) h)
    ·clear h
     refine Qch (by kernel_rfl) ?_
     refine Qag ?_
     refine Qax ?_
     refine Qaj ?_
     refine Qaj ?_
     refine Qax ?_
     exact Or.inr (by kernel_rfl)
   ·replace h := Qa7 hc20 h
    refine wfn hc20 (by kernel_rfl) ?_
    refine Qb4 ?_
    refine Qa5 ?_
    refine Qa5 ?_
    refine Qb3 rfl ?_
    obtain rfl := osi h
    exact Or.inl rfl
def Qat (N : Nat) (k3 : (List GStream) → Option (List GStream)) : (List GStream) → (List GStream) → Option (List GStream)
  | [], y6 =>
    k3 (y6)
  | x9 :: q10, y6 =>
    chk (decide ((y6.length + ([x9]).length) * 32 ≤ 140737488355328)) <|
    Qat N k3 q10 (y6 ++ ([x9]))
def Qb2 (N : Nat) (p0 : (List GRow)) (p1 : (List GElement)) (p2 : (List (List GStream))) (p3 : (List GLost)) (p4 : (List Int)) (p5 : (List GStream)) (p6 : Int) (p7 : Int) : Option (List GStream) :=
  Qcc (fun y2 =>
    some y2) fun k3 : (List GStream) → Option (List GStream) =>
  (Qfx N p0 p1 p2 p3 p4 p5 p6 p7).bind fun q4 =>
  Qat N k3 q4 ([])
def Zbi (p0 : (List GRow)) (p1 : (List GElement)) (p2 : (List (List GStream))) (p3 : (List GLost)) (p4 : (List Int)) (p5 : (List GStream)) (p6 : Int) (p7 : Int) : AV := .fn (.func 90) [] [(.dptr [(.dptr [(.dat 5 ((p0 : List GRow).map Qa8)), (.dat 7 ((p1 : List GElement).map Qad)), (.dat 1 ((p2 : List (List GStream)).map Qae)), (.dat 4 ((p3 : List GLost).map Qa2)), (.dat 1 ((p4 : List Int).map Qam)), (.dat 4 ((p5 : List GStream).map Qab)), (I (p6))] 0)] 0), (.dptr [(I (p7))] 0)]
def Q3m (y6 : (List GStream)) : AV := .acc 1 48 4 ((y6 : List GStream).map Qab)
def Q97 (x9 : GStream) : AV := .agg [(I (x9.Mass)), (I (x9.Heat)), (I (x9.Silica)), (I (x9.Gas))]
theorem Qfk (N : Nat) (p0 : (List GRow)) (p1 : (List GElement)) (p2 : (List (List GStream))) (p3 : (List GLost)) (p4 : (List Int)) (p5 : (List GStream)) (p6 : Int) (p7 : Int) (r : (List GStream)) (h : Qb2 N p0 p1 p2 p3 p4 p5 p6 p7 = some r) : Spec Try.prog 89 [nilS, (Zbi p0 p1 p2 p3 p4 p5 p6 p7)] [] (.acc 0 48 4 ((r : List GStream).map Qab)) [.tok] := by
  refine Qah Try.func89 rfl 1 (nle rfl) (fun X φ0 w0 hφ0 hd0 => ?_)
  unfold Qb2 at h
  refine Qbt ?_
  refine wx tbk [] trivial ?_
  obtain ⟨k3, hk_k3, h⟩ := jko h
  refine wjn (τ := (List GStream)) (fun t => k3 t = some r) (fun y2 => ⟨mk 13 [(2, .ref 0 1 0 0)], [(.own 1 [[(.acc 1 48 4 ((y2 : List GStream).map Qab))]]), .tok]⟩) (fun y2 h => ?_) ?_
  ·subst hk_k3
   refine wx tbk [] trivial ?_
   refine wmr (mto (n := 13) (l' := [(4, (.acc 0 48 4 ((y2 : List GStream).map Qab)))]) (own' := [.tok]) [(4, (.acc 1 48 4 ((y2 : List GStream).map Qab)))] [1] [.tok] hφ0 (pc (.rn (Qc2 rfl (Qci Qac _))) pn) (qc .tok qn)) ?_
   refine Qag ?_
   obtain rfl := osi h
   exact ⟨_, Mor.rfl, Qdc (vs := [(.acc 0 48 4 ((y2 : List GStream).map Qab))]) ⟨rot (by kernel_rfl), trivial⟩ rfl (NLt.acc _ _ _ _ (by decide) (Qtc Qac _)) (by kernel_rfl) (Qal .tok Qbr)⟩
  ·skip
   refine wx tbk [] trivial ?_
   refine Qao ?_
   obtain ⟨q4, hL5, h⟩ := bno h
   refine wmr (mto (n := 13) (l' := [(2, .ref 0 1 0 0), (6, (Zbi p0 p1 p2 p3 p4 p5 p6 p7))]) (own' := [(.own 1 [[nilS]])]) [(2, .ref 0 1 0 0), (6, (Zbi p0 p1 p2 p3 p4 p5 p6 p7))] [0] [(.own 1 [[nilS]])] hφ0 (pc (.rn (rqr rfl)) (pc (.rn (Qbk rn0 (rnc (.plain _ (NLt.dptr _ _ (nlc (NLt.dptr _ _ (nlc (nld Qai _) (nlc (nld Qaa _) (nlc (nld Qak _) (nlc (nld Qaw _) (nlc (nld Qaf _) (nlc (nld Qac _) (nlc nll nl0)))))))) nl0))) (rnc (.plain _ (NLt.dptr _ _ (nlc nll nl0))) rn0)))) pn)) (qc (spb (lc rwl ln)) qn)) ?_
   refine wmr (Qnh (n := 1) (ty := 48) (m := 4) (q := 0) (mq := 1) (c := [nilS]) 0 (by kernel_rfl) (by kernel_rfl) (by kernel_rfl) (by decide)) ?_
   refine Qol (τ := ((List GStream))) (kb := 1) (caps := [(.dptr [(.dptr [(.dat 5 ((p0 : List GRow).map Qa8)), (.dat 7 ((p1 : List GElement).map Qad)), (.dat 1 ((p2 : List (List GStream)).map Qae)), (.dat 4 ((p3 : List GLost).map Qa2)), (.dat 1 ((p4 : List Int).map Qam)), (.dat 4 ((p5 : List GStream).map Qab)), I p6] 0)] 0), (.dptr [I p7] 0)]) (σr := []) (encs := fun x => [(.agg #[(.int .i64 (x.Mass)), (.int .i64 (x.Heat)), (.int .i64 (x.Silica)), (.int .i64 (x.Gas))])]) (fun x => [(.agg [I x.Mass, I x.Heat, I x.Silica, I x.Gas])]) [] (fun n hn => hφ0 n (Nat.le_trans (nle rfl) hn)) hd0 (Ql0 N p0 p1 p2 p3 p4 p5 p6 p7 _ hL5) Zdt (by kernel_rfl) (by kernel_rfl) (Qbn (rnc (.plain _ (NLt.dptr _ _ (nlc (NLt.dptr _ _ (nlc (nld Qai _) (nlc (nld Qaa _) (nlc (nld Qak _) (nlc (nld Qaw _) (nlc (nld Qaf _) (nlc (nld Qac _) (nlc nll nl0)))))))) nl0))) (rnc (.plain _ (NLt.dptr _ _ (nlc nll nl0))) rn0))) Qap (by kernel_rfl) (fun _ => rfl) (fun x => ⟨(Less.unlits [(.int .i64 (x.Mass)), (.int .i64 (x.Heat)), (.int .i64 (x.Silica)), (.int .i64 (x.Gas))]), trivial⟩) (Q5c (Qhr (NLt.ref _ _ _ _ (by decide)) (Qhr (NLt.of0 (NLt.fn _ _ _ nl0 (nlc (NLt.dptr _ _ (nlc (NLt.dptr _ _ (nlc (nld Qai _) (nlc (nld Qaa _) (nlc (nld Qak _) (nlc (nld Qaw _) (nlc (nld Qaf _) (nlc (nld Qac _) (nlc nll nl0)))))))) nl0)) (nlc (NLt.dptr _ _ (nlc nll nl0)) nl0)))) Qxm))) (fun y6 => [(.own 1 [[(Q3m y6)]]), .tok]) (fun _ => rfl) (fun _ => rfl) (fun l t => Qat N k3 l t = some r) ([]) h (by kernel_rfl) ?_ ?_
   ·intro l11 o12 X15 φ16 w17 hφ14 x9 q10 y6 h
    rw [Qat] at h
    refine wx1 tbk [] trivial ?_
    refine ⟨by kernel_rfl, fun o13 => ?_⟩
    refine Qao ?_
    obtain ⟨ha18, h⟩ := cko h
    refine wx1 tbk [(2, rp [(.tmp 9, (Q97 x9))] (.dat 4 (([x9] : List GStream).map Qab))), (3, ⟨[(.tmp 8, (Q3m y6)), (.tmp 10, (.dat 4 (([x9] : List GStream).map Qab)))], [(1, .tok), (4, .unused)], (.acc 4 48 4 ((y6 ++ ([x9]) : List GStream).map Qab)), [(1, .dead), (4, .tok)], false⟩)] ⟨Qb6 (vs := [(Q97 x9)]) rfl Try.underlying45 ti48 tz48 rfl (by decide) rfl (by decide) (by rfl) (by rfl) (by rfl) rfl, Qgn rfl Try.underlying45 te48 (Base.acc _ _) rfl rfl (by rfl) (Qjq Qab ha18) (Qjp Qab ha18 (by decide)) (Qjo Qab) rfl rfl, trivial⟩ ?_
    refine bln ?_
    exact ⟨(y6 ++ ([x9])), h, Q40 (own' := [(.own 1 [[(.acc 1 48 4 (((y6 ++ ([x9])) : List GStream).map Qab))]]), .tok, (.far (farL l11 o13))]) [0, 4, 2] [(.own 1 [[(.acc 4 48 4 ((y6 ++ ([x9]) : List GStream).map Qab))]]), .tok, (.far (farL l11 o13))] (by kernel_rfl) (by kernel_rfl) ⟨(spb (lc (.rn (Qc2 rfl (Qci Qac _))) ln)), .tok, .far _, trivial⟩⟩
   ·intro y6 h
    rw [Qat] at h
    refine bln ?_
    refine thn ?_
    exact ⟨(y6), h, (mto (n := 13) [(2, .ref 0 1 0 0)] [0, 1] [(.own 1 [[(Q3m y6)]]), .tok] hφ0 (pc (.rn (rqr rfl)) pn) (qc (spb (lc (.rn (Qc2 rfl (Qci Qac _))) ln)) (qc .tok qn)))⟩
def Qbs (N : Nat) (p0 : (List GRow)) (p1 : (List GElement)) (p2 : (List (List GStream))) (p3 : (List GLost)) (p4 : (List Int)) (p5 : (List GStream)) (p6 : Int) (p7 : Int) : Option (List GStream) :=
  (Qb2 N p0 p1 p2 p3 p4 p5 p6 p7).bind fun x3 =>
  some x3
def Zbj (p0 : (List GRow)) (p1 : (List GElement)) (p2 : (List (List GStream))) (p3 : (List GLost)) (p4 : (List Int)) (p5 : (List GStream)) (p6 : Int) (p7 : Int) : AV := .fn (.func 90) [] [(.dptr [(.dptr [(.dat 5 ((p0 : List GRow).map Qa8)), (.dat 7 ((p1 : List GElement).map Qad)), (.dat 1 ((p2 : List (List GStream)).map Qae)), (.dat 4 ((p3 : List GLost).map Qa2)), (.dat 1 ((p4 : List Int).map Qam)), (.dat 4 ((p5 : List GStream).map Qab)), (I (p6))] 0)] 0), (.dptr [(I (p7))] 0)]
def Q3n (x3 : (List GStream)) : AV := .acc 0 48 4 ((x3 : List GStream).map Qab)
theorem Qhk (N : Nat) (p0 : (List GRow)) (p1 : (List GElement)) (p2 : (List (List GStream))) (p3 : (List GLost)) (p4 : (List Int)) (p5 : (List GStream)) (p6 : Int) (p7 : Int) (r : (List GStream)) (h : Qbs N p0 p1 p2 p3 p4 p5 p6 p7 = some r) : Spec Try.prog 73 [(Zbj p0 p1 p2 p3 p4 p5 p6 p7)] [] (.acc 0 48 4 ((r : List GStream).map Qab)) [.tok] := by
  refine Qah Try.func73 rfl 1 (nle rfl) (fun X φ0 w0 hφ0 hd0 => ?_)
  unfold Qbs at h
  refine Qbt ?_
  refine wx tbk [] trivial ?_
  obtain ⟨x3, hf2, h⟩ := bno h
  refine wx tbk [(1, ⟨[fu 89, ((.const (.slice none 0 0)), nilS), (.tmp 3, (Zbj p0 p1 p2 p3 p4 p5 p6 p7))], [(0, .unused)], (Q3n x3), [(0, .tok)], false⟩)] ⟨Qaq (first := []) (cap := []) (vs := [nilS, (Zbj p0 p1 p2 p3 p4 p5 p6 p7)]) (σr := []) (σr' := [.tok]) (res' := (Q3n x3)) [0] rfl Zdu (Qfk N p0 p1 p2 p3 p4 p5 p6 p7 _ hf2) rfl (Qbn (rnc (.plain _ nll) (rnc (.plain _ (NLt.fn _ _ _ nl0 (nlc (NLt.dptr _ _ (nlc (NLt.dptr _ _ (nlc (nld Qai _) (nlc (nld Qaa _) (nlc (nld Qak _) (nlc (nld Qaw _) (nlc (nld Qaf _) (nlc (nld Qac _) (nlc nll nl0)))))))) nl0)) (nlc (NLt.dptr _ _ (nlc nll nl0)) nl0)))) rn0))) Qap (slc .tok Qap) (Q4v rfl (Qci Qac _)) rfl rfl rfl, trivial⟩ ?_
  refine wmr (mto (n := 5) (l' := [(2, (Q3n x3))]) (own' := [.tok]) [(2, (Q3n x3))] [0] [.tok] hφ0 (pc (.rn (Qc2 rfl (Qci Qac _))) pn) (qc .tok qn)) ?_
  refine Qag ?_
  obtain rfl := osi h
  exact ⟨_, Mor.rfl, Qdc (vs := [(Q3n x3)]) ⟨rot (by kernel_rfl), trivial⟩ rfl (NLt.acc _ _ _ _ (by decide) (Qtc Qac _)) (by kernel_rfl) (Qal .tok Qbr)⟩
def Qe1 (_N : Nat) (_p0 : Int) (p1 : GStream) (_p2 : (List GRow)) (_p3 : (List GElement)) (_p4 : Nat) (_p5 : Nat) (_p6 : Nat) (_p7 : (List GStream)) (_p8 : Int) (_p9 : (List (List GStream))) (_p10 : (List GLost)) (_p11 : (List Int)) : Option (List GStream) :=
  some ([p1])
def Zbh (p1 : GStream) : AV := .agg [(I (p1.Mass)), (I (p1.Heat)), (I (p1.Silica)), (I (p1.Gas))]
def Q7j (p2 : (List GRow)) (p3 : (List GElement)) (p4 : Nat) (p5 : Nat) (p6 : Nat) (p7 : (List GStream)) (p8 : Int) : Slot := .own 7 [[(.dat 5 ((p2 : List GRow).map Qa8)), (.dat 7 ((p3 : List GElement).map Qad)), (.own 1 1 (0) (p4)), (.own 2 4 (0) (p5)), (.own 3 1 (0) (p6)), (.dat 4 ((p7 : List GStream).map Qab)), (I (p8))]]
def Q7i (p9 : (List (List GStream))) : Slot := .own 1 ((p9 : List (List GStream)).map Qae)
def Q7h (p10 : (List GLost)) : Slot := .own 4 ((p10 : List GLost).map Qa2)
def Q7g (p11 : (List Int)) : Slot := .own 1 ((p11 : List Int).map Qam)
def Q7k (p1 : GStream) : AV := .dat 4 (([p1] : List GStream).map Qab)
theorem Qgx (N : Nat) (p0 : Int) (p1 : GStream) (p2 : (List GRow)) (p3 : (List GElement)) (p4 : Nat) (p5 : Nat) (p6 : Nat) (p7 : (List GStream)) (p8 : Int) (p9 : (List (List GStream))) (p10 : (List GLost)) (p11 : (List Int)) (r : (List GStream)) (h : Qe1 N p0 p1 p2 p3 p4 p5 p6 p7 p8 p9 p10 p11 = some r) : Spec Try.prog 75 [(.ref 0 7 (0) 0), (I (p0)), (Zbh p1)] [(Q7j p2 p3 p4 p5 p6 p7 p8), (Q7i p9), (Q7h p10), (Q7g p11)] (.dat 4 ((r : List GStream).map Qab)) [(Q7j p2 p3 p4 p5 p6 p7 p8), (Q7i p9), (Q7h p10), (Q7g p11)] := by
  refine Qah Try.func75 rfl 4 (nle rfl) (fun X φ0 w0 hφ0 hd0 => ?_)
  unfold Qe1 at h
  refine Qbt ?_
  refine wx tbk [] trivial ?_
  refine wx tbk [(1, rp [(.tmp 7, (Zbh p1))] (Q7k p1))] ⟨Qb6 (vs := [(Zbh p1)]) rfl Try.underlying45 ti48 tz48 rfl (by decide) rfl (by decide) (by rfl) (by rfl) (by rfl) rfl, trivial⟩ ?_
  refine wmr (mto (n := 9) (l' := [(6, (Q7k p1))]) (own' := [(Q7j p2 p3 p4 p5 p6 p7 p8), (Q7i p9), (Q7h p10), (Q7g p11)]) [(6, (Q7k p1))] [0, 1, 2, 3] [(Q7j p2 p3 p4 p5 p6 p7 p8), (Q7i p9), (Q7h p10), (Q7g p11)] hφ0 (pc (.rn (.plain _ (nld Qac _))) pn) (qc (spb (lc (.rn (.plain _ (nld Qai _))) (lc (.rn (.plain _ (nld Qaa _))) (lc (.rn (Qba rfl)) (lc (.rn (Qba rfl)) (lc (.rn (Qba rfl)) (lc (.rn (.plain _ (nld Qac _))) (lc rwl ln)))))))) (qc (spr Qak) (qc (spr Qaw) (qc (spr Qaf) qn))))) ?_
  refine Qag ?_
  obtain rfl := osi h
  exact ⟨_, Mor.rfl, Qdc (vs := [(Q7k p1)]) ⟨rot (by kernel_rfl), trivial⟩ rfl (NLt.of0 (nld Qac _)) (by kernel_rfl) (Qal (Qbd (nlc (NLt.of0 (nld Qai _)) (nlc (NLt.of0 (nld Qaa _)) (nlc (NLt.own _ _ _ _ (by decide)) (nlc (NLt.own _ _ _ _ (by decide)) (nlc (NLt.own _ _ _ _ (by decide)) (nlc (NLt.of0 (nld Qac _)) (nlc (NLt.of0 nll) nl0)))))))) (Qal (Qcf Qak _) (Qal (Qcf Qaw _) (Qal (Qcf Qaf _) Qbr))))⟩
def Qgq (_N : Nat) (p0 : Int) (p1 : GStream) (_p2 : (List GRow)) (p3 : (List GElement)) (_p4 : Nat) (p5 : Nat) (_p6 : Nat) (_p7 : (List GStream)) (_p8 : Int) (_p9 : (List (List GStream))) (p10 : (List GLost)) (_p11 : (List Int)) : Option ((List GStream) × (List GLost)) :=
  (getI p3 p0).bind fun x3 =>
  (some (if p1.Heat < x3.Amount then p1.Heat else x3.Amount)).bind fun x7 =>
  chk (decide (0 ≤ p0) && decide (p0.toNat < p5)) <|
  (p10[p0.toNat]?).bind fun x10 =>
  some ([(⟨p1.Mass, w64 (p1.Heat - x7), p1.Silica, p1.Gas⟩ : GStream)], p10.set p0.toNat (⟨x7, x10.Silica, x10.Gas, x10.Scale⟩ : GLost))
def Q0y (p2 : (List GRow)) (p3 : (List GElement)) (p4 : Nat) (p5 : Nat) (p6 : Nat) (p7 : (List GStream)) (p8 : Int) : Slot := .own 7 [[(.dat 5 ((p2 : List GRow).map Qa8)), (.dat 7 ((p3 : List GElement).map Qad)), (.own 1 1 (0) (p4)), (.own 2 4 (0) (p5)), (.own 3 1 (0) (p6)), (.dat 4 ((p7 : List GStream).map Qab)), (I (p8))]]
def Qyz (p9 : (List (List GStream))) : Slot := .own 1 ((p9 : List (List GStream)).map Qae)
def Zbg (p10 : (List GLost)) : Slot := .own 4 ((p10 : List GLost).map Qa2)
def Qyy (p11 : (List Int)) : Slot := .own 1 ((p11 : List Int).map Qam)
def Q96 (p1 : GStream) (x7 : Int) : AV := .agg [(I (p1.Mass)), (I (w64 (p1.Heat - x7))), (I (p1.Silica)), (I (p1.Gas))]
def Qy0 (p1 : GStream) (x7 : Int) : AV := .dat 4 (([(⟨p1.Mass, w64 (p1.Heat - x7), p1.Silica, p1.Gas⟩ : GStream)] : List GStream).map Qab)
theorem Ql2 (N : Nat) (p0 : Int) (p1 : GStream) (p2 : (List GRow)) (p3 : (List GElement)) (p4 : Nat) (p5 : Nat) (p6 : Nat) (p7 : (List GStream)) (p8 : Int) (p9 : (List (List GStream))) (p10 : (List GLost)) (p11 : (List Int)) (r : ((List GStream) × (List GLost))) (h : Qgq N p0 p1 p2 p3 p4 p5 p6 p7 p8 p9 p10 p11 = some r) : Spec Try.prog 76 [(.ref 0 7 (0) 0), (I (p0)), (.agg [(I (p1.Mass)), (I (p1.Heat)), (I (p1.Silica)), (I (p1.Gas))])] [(Q0y p2 p3 p4 p5 p6 p7 p8), (Qyz p9), (Zbg p10), (Qyy p11)] (.dat 4 ((r.1 : List GStream).map Qab)) [(Q0y p2 p3 p4 p5 p6 p7 p8), (Qyz p9), (.own 4 ((r.2 : List GLost).map Qa2)), (Qyy p11)] := by
  refine Qah Try.func76 rfl 4 (nle rfl) (fun X φ0 w0 hφ0 hd0 => ?_)
  unfold Qgq at h
  refine Qbt ?_
  refine wx tbk [] trivial ?_
  obtain ⟨x3, hg4, h⟩ := bno h
  obtain ⟨hi5, hj6⟩ := gsm hg4
  obtain ⟨x7, hl8, h⟩ := bno h
  refine wxd tbk [(1, rb [(.tmp 8, .ref 0 7 0 0)] [(0, (Q0y p2 p3 p4 p5 p6 p7 p8))] (.ref 0 7 0 0)), (6, rp [(.tmp 12, (.dat 7 ((p3 : List GElement).map Qad))), (.tmp 13, I p0)] (.dptr (Qad (x3)) 0)), (11, rp [(.tmp 16, I x3.Amount), (.tmp 18, I p1.Heat)] (I ((if p1.Heat < x3.Amount then p1.Heat else x3.Amount)))), (12, rp [(.tmp 19, (I ((if p1.Heat < x3.Amount then p1.Heat else x3.Amount))))] (I x7))] ⟨Qbc rfl, aid rfl Try.underlying40 ti76 rfl rfl hi5 (mgt Qad hj6) rfl, Qq7 rfl, Qhw hl8 (aas rfl), trivial⟩ ?_
  obtain ⟨hi9, h⟩ := cko h
  obtain ⟨hi9a, hi9b⟩ := Qe8 hi9
  obtain ⟨x10, hg11, h⟩ := bno h
  refine wx tbk [(1, rb [(.tmp 20, .ref 0 7 0 0)] [(0, (Q0y p2 p3 p4 p5 p6 p7 p8))] (.ref 0 7 0 0)), (7, rb [(.tmp 24, (.own 2 4 (0) (p5))), (.tmp 25, I p0)] [(2, (Zbg p10))] (.ref 2 4 (p0.toNat) 0)), (9, ⟨[(.tmp 28, (.ref 2 4 (p0.toNat) 0)), (.tmp 26, I x7)], [(2, (Zbg p10))], .any, [(2, (.own 4 ((p10.set p0.toNat (⟨x7, x10.Silica, x10.Gas, x10.Scale⟩ : GLost) : List GLost).map Qa2)))], false⟩)] ⟨Qbc rfl, aio rfl Try.underlying32 ti50 (odt hi9a) (odt hi9b) (Nat.zero_add _), ast rfl ti3 (by rfl) (mgt Qa2 hg11) (nle rfl) (Qgw Qa2 rfl), trivial⟩ ?_
  refine wx tbk [] trivial ?_
  refine wx tbk [(1, rp [(.tmp 34, (Q96 p1 x7))] (Qy0 p1 x7))] ⟨Qb6 (vs := [(Q96 p1 x7)]) rfl Try.underlying45 ti48 tz48 rfl (by decide) rfl (by decide) (by rfl) (by rfl) (by rfl) rfl, trivial⟩ ?_
  refine wmr (mto (n := 36) (l' := [(6, (Qy0 p1 x7))]) (own' := [(Q0y p2 p3 p4 p5 p6 p7 p8), (Qyz p9), (.own 4 (((p10.set p0.toNat (⟨x7, x10.Silica, x10.Gas, x10.Scale⟩ : GLost)) : List GLost).map Qa2)), (Qyy p11)]) [(6, (Qy0 p1 x7))] [0, 1, 2, 3] [(Q0y p2 p3 p4 p5 p6 p7 p8), (Qyz p9), (.own 4 ((p10.set p0.toNat (⟨x7, x10.Silica, x10.Gas, x10.Scale⟩ : GLost) : List GLost).map Qa2)), (Qyy p11)] hφ0 (pc (.rn (.plain _ (nld Qac _))) pn) (qc (spb (lc (.rn (.plain _ (nld Qai _))) (lc (.rn (.plain _ (nld Qaa _))) (lc (.rn (Qba rfl)) (lc (.rn (Qba rfl)) (lc (.rn (Qba rfl)) (lc (.rn (.plain _ (nld Qac _))) (lc rwl ln)))))))) (qc (spr Qak) (qc (spr Qaw) (qc (spr Qaf) qn))))) ?_
  refine Qag ?_
  obtain rfl := osi h
  exact ⟨_, Mor.rfl, Qdc (vs := [(Qy0 p1 x7)]) ⟨rot (by kernel_rfl), trivial⟩ rfl (NLt.of0 (nld Qac _)) (by kernel_rfl) (Qal (Qbd (nlc (NLt.of0 (nld Qai _)) (nlc (NLt.of0 (nld Qaa _)) (nlc (NLt.own _ _ _ _ (by decide)) (nlc (NLt.own _ _ _ _ (by decide)) (nlc (NLt.own _ _ _ _ (by decide)) (nlc (NLt.of0 (nld Qac _)) (nlc (NLt.of0 nll) nl0)))))))) (Qal (Qcf Qak _) (Qal (Qcf Qaw _) (Qal (Qcf Qaf _) Qbr))))⟩
def Qg0 (N : Nat) (p0 : (List GRow)) (p1 : Int) : Option Bool :=
  (Qcx N p1 0 (w64 ((p0.length : Int) - 1))).bind fun x2 =>
  some x2
theorem Qml (N : Nat) (p0 : (List GRow)) (p1 : Int) (r : Bool) (h : Qg0 N p0 p1 = some r) : Spec Try.prog 42 [(.dat 5 (p0.map Qa8)), (I p1)] [] (B r) [] := by
  refine Qah Try.func42 rfl 0 (nle rfl) (fun X φ0 w0 hφ0 hd0 => ?_)
  unfold Qg0 at h
  refine wx tbk [] trivial ?_
  obtain ⟨x2, hf1, h⟩ := bno h
  refine wx tbk [(2, rp [(.tmp 6, (.dat 5 ((p0 : List GRow).map Qa8)))] (I ((p0.length : Int)))), (4, rp [fu 45, (.tmp 5, I p1), ci 0, (.tmp 8, (I (w64 ((p0.length : Int) - 1))))] (B x2))] ⟨alm (c := Qa8) (l := p0) (aln rfl Try.underlying39 rfl), apc (first := []) (cap := []) (vs := [I p1, I 0, (I (w64 ((p0.length : Int) - 1)))]) rfl Qdn (Qau N p1 0 (w64 ((p0.length : Int) - 1)) _ hf1) rfl rfl (nlc nll (nlc nll (nlc nll nl0))) nll rfl, trivial⟩ ?_
  refine Qag ?_
  obtain rfl := osi h
  exact fend ⟨[B x2], ⟨rot (by kernel_rfl), trivial⟩, rfl⟩ nll
def Qhe (_N : Nat) (p0 : (List GRow)) (p1 : Int) : Option GFlash :=
  (getI p0 p1).bind fun x1 =>
  some (⟨x1⟩ : GFlash)
def Zbd (x1 : GRow) : AV := .agg [(I (x1.T)), (I (x1.P)), (I (x1.Liquid)), (I (x1.Vapour)), (I (x1.Silica))]
theorem Qm8 (N : Nat) (p0 : (List GRow)) (p1 : Int) (r : GFlash) (h : Qhe N p0 p1 = some r) : Spec Try.prog 43 [(.dat 5 (p0.map Qa8)), (I p1)] [] (.agg (Qtq r)) [] := by
  refine Qah Try.func43 rfl 0 (nle rfl) (fun X φ0 w0 hφ0 hd0 => ?_)
  unfold Qhe at h
  refine wx tbk [] trivial ?_
  obtain ⟨x1, hg2, h⟩ := bno h
  obtain ⟨hi3, hj4⟩ := gsm hg2
  refine wx tbk [(2, rp [(.tmp 5, (.dat 5 ((p0 : List GRow).map Qa8))), (.tmp 6, I p1)] (.dptr (Qa8 (x1)) 0)), (4, mv 8 (Zbd x1))] ⟨aid rfl Try.underlying39 Qri rfl rfl hi3 (mgt Qa8 hj4) rfl, Qar (vs := [(Zbd x1)]) rfl Zg2 Zf1 rfl (by rfl) rfl, trivial⟩ ?_
  refine Qag ?_
  obtain rfl := osi h
  exact fend ⟨[(Zbd x1)], ⟨Qbo (n := 0) (m := 5) (j := 0) (i := 0) (xs := [[I x1.T, I x1.P, I x1.Liquid, I x1.Vapour, I x1.Silica]]) (by kernel_rfl) (by kernel_rfl) Zf4 (by decide) rfl (nle rfl) rfl, trivial⟩, rfl⟩ (NLt.agg _ (nlc nll (nlc nll (nlc nll (nlc nll (nlc nll nl0))))))
def Qfg (_N : Nat) (p0 : GFlash) (p1 : GStream) : Option Int :=
  (some (w64 (p1.Heat - (w64 (p1.Mass * p0.Row.Liquid))))).bind fun x1 =>
  bif (decide (x1 ≤ 0)) then
   some 0
  else
   bif (decide (p1.Heat ≥ (w64 (p1.Mass * p0.Row.Vapour)))) then
    some p1.Mass
   else
    chk ((w64 (p0.Row.Vapour - p0.Row.Liquid)) != 0) <|
    (some (w64 (x1.tdiv (w64 (p0.Row.Vapour - p0.Row.Liquid))))).bind fun x6 =>
    some x6
theorem Qlb (N : Nat) (p0 : GFlash) (p1 : GStream) (r : Int) (h : Qfg N p0 p1 = some r) : Spec Try.prog 65 [(.agg (Qtq p0)), (.agg (Qab p1))] [] (I r) [] := by
  refine Qah Try.func65 rfl 0 (nle rfl) (fun X φ0 w0 hφ0 hd0 => ?_)
  unfold Qfg at h
  refine wx tbk [] trivial ?_
  obtain ⟨x1, hl2, h⟩ := bno h
  refine wx tbk [(9, rp [(.tmp 14, (I (w64 (p1.Heat - (w64 (p1.Mass * p0.Row.Liquid))))))] (I x1))] ⟨Qhw hl2 (aas rfl), trivial⟩ ?_
  refine wsq ?_
  refine Qao ?_
  refine wx tbk [] trivial ?_
  rcases bft ((decide (x1 ≤ 0))) with hc3 | hc3
  ·replace h := Qa6 hc3 h
   refine wft hc3 (by kernel_rfl) ?_
   refine wx tbk [] trivial ?_
   refine Qag ?_
   refine Qax ?_
   refine Qaj ?_
   obtain rfl := osi h
   exact fend ⟨[I 0], ⟨rot (by kernel_rfl), trivial⟩, rfl⟩ nll
  ·replace h := Qa7 hc3 h
   refine wfn hc3 (by kernel_rfl) ?_
   refine wx tbk [] trivial ?_
   rcases bft ((decide (p1.Heat ≥ (w64 (p1.Mass * p0.Row.Vapour))))) with hc4 | hc4
   ·replace h := Qa6 hc4 h
    refine wft hc4 (by kernel_rfl) ?_
    refine wx tbk [] trivial ?_
    refine Qag ?_
    refine Qax ?_
    refine Qaj ?_
    obtain rfl := osi h
    exact fend ⟨[I p1.Mass], ⟨rot (by kernel_rfl), trivial⟩, rfl⟩ nll
   ·replace h := Qa7 hc4 h
    refine wfn hc4 (by kernel_rfl) ?_
    refine Qas ?_
    refine bln ?_
    refine thn ?_
    obtain ⟨hz5, h⟩ := cko h
    obtain ⟨x6, hl7, h⟩ := bno h
    refine wx tbk [(8, rp [(.tmp 30, I x1), (.tmp 37, (I (w64 (p0.Row.Vapour - p0.Row.Liquid))))] (I (w64 (x1.tdiv (w64 (p0.Row.Vapour - p0.Row.Liquid)))))), (9, rp [(.tmp 38, (I (w64 (x1.tdiv (w64 (p0.Row.Vapour - p0.Row.Liquid))))))] (I x6))] ⟨Qnt rfl (Qq0 hz5), Qhw hl7 (aas rfl), trivial⟩ ?_
    refine Qag ?_
    obtain rfl := osi h
    exact fend ⟨[I x6], ⟨rot (by kernel_rfl), trivial⟩, rfl⟩ nll
def Qfu (N : Nat) (p0 : GFlash) (p1 : GStream) : Option GParts :=
  (Qfg N (⟨(⟨p0.Row.T, p0.Row.P, p0.Row.Liquid, p0.Row.Vapour, p0.Row.Silica⟩ : GRow)⟩ : GFlash) p1).bind fun x2 =>
  Qcc (fun ⟨y3, y4, y5, y6, y7, _, y9⟩ =>
    (some (if (w64 (y6 * p0.Row.Silica)) < p1.Silica then w64 (y6 * p0.Row.Silica) else p1.Silica)).bind fun x11 =>
    bif (decide (y6 > 0)) then
     (some (if (w64 (y7 - (w64 (y6 * p0.Row.Liquid)))) > 0 then w64 (y7 - (w64 (y6 * p0.Row.Liquid))) else 0)).bind fun x14 =>
     some (⟨(⟨y3, y4, 0, y5⟩ : GStream), (⟨y6, y7, x11, y9⟩ : GStream), x14, w64 (p1.Silica - x11)⟩ : GParts)
    else
     some (⟨(⟨y3, y4, 0, y5⟩ : GStream), (⟨y6, y7, x11, y9⟩ : GStream), 0, w64 (p1.Silica - x11)⟩ : GParts)) fun k10 : Int × Int × Int × Int × Int × Int × Int → Option GParts =>
  bif (x2 == 0) then
   k10 (0, 0, 0, p1.Mass, p1.Heat, p1.Silica, p1.Gas)
  else
   bif (x2 == p1.Mass) then
    k10 (x2, p1.Heat, p1.Gas, 0, 0, 0, 0)
   else
    k10 (x2, w64 (x2 * p0.Row.Vapour), p1.Gas, w64 (p1.Mass - x2), w64 (p1.Heat - (w64 (x2 * p0.Row.Vapour))), 0, 0)
def Zfl (p0 : GFlash) : AV := .agg [(I (p0.Row.T)), (I (p0.Row.P)), (I (p0.Row.Liquid)), (I (p0.Row.Vapour)), (I (p0.Row.Silica))]
def Zfk (p1 : GStream) : AV := .agg [(I (p1.Mass)), (I (p1.Heat)), (I (p1.Silica)), (I (p1.Gas))]
def Q7e (p0 : GFlash) : Slot := .own 5 [[(I (p0.Row.T)), (I (p0.Row.P)), (I (p0.Row.Liquid)), (I (p0.Row.Vapour)), (I (p0.Row.Silica))]]
def Q7d (p1 : GStream) : Slot := .own 4 [[(I (p1.Mass)), (I (p1.Heat)), (I (p1.Silica)), (I (p1.Gas))]]
theorem Qm7 (N : Nat) (p0 : GFlash) (p1 : GStream) (r : GParts) (h : Qfu N p0 p1 = some r) : Spec Try.prog 44 [(.agg (Qtq p0)), (.agg (Qab p1))] [] (.agg (Q0h r)) [] := by
  refine Qah Try.func44 rfl 0 (nle rfl) (fun X φ0 w0 hφ0 hd0 => ?_)
  unfold Qfu at h
  refine wx tbk [] trivial ?_
  obtain ⟨x2, hf1, h⟩ := bno h
  refine wx tbk [(2, rp [fu 65, (.tmp 7, (Zfl p0)), (.tmp 8, (Zfk p1))] (I x2))] ⟨apc (first := []) (cap := []) (vs := [(Zfl p0), (Zfk p1)]) rfl Zeb (Qlb N (⟨(⟨p0.Row.T, p0.Row.P, p0.Row.Liquid, p0.Row.Vapour, p0.Row.Silica⟩ : GRow)⟩ : GFlash) p1 _ hf1) rfl rfl (nlc (NLt.agg _ (nlc nll (nlc nll (nlc nll (nlc nll (nlc nll nl0)))))) (nlc (NLt.agg _ (nlc nll (nlc nll (nlc nll (nlc nll nl0))))) nl0)) nll rfl, trivial⟩ ?_
  obtain ⟨k10, hk_k10, h⟩ := jko h
  refine wjn (τ := Int × Int × Int × Int × Int × Int × Int) (fun t => k10 t = some r) (fun ⟨y3, y4, y5, y6, y7, y8, y9⟩ => ⟨mk 87 [(2, .ref 0 5 0 0), (3, .ref 1 4 0 0), (4, .ref 2 10 0 0)], [(Q7e p0), (Q7d p1), (.own 10 [[I y3, I y4, I 0, I y5, I y6, I y7, I y8, I y9, I 0, I 0]])]⟩) (fun t h => ?_) ?_
  ·subst hk_k10
   obtain ⟨y3, y4, y5, y6, y7, y8, y9⟩ := t
   obtain ⟨x11, hl12, h⟩ := bno h
   refine wx tbk [(9, rp [(.tmp 52, I p1.Silica), (.tmp 59, (I (w64 (y6 * p0.Row.Silica))))] (I x11))] ⟨Qhw hl12 (Qq7 rfl), trivial⟩ ?_
   refine wxd tbk [] trivial ?_
   refine wsq ?_
   refine wx tbk [] trivial ?_
   rcases bft ((decide (y6 > 0))) with hc13 | hc13
   ·replace h := Qa6 hc13 h
    refine wft hc13 (by kernel_rfl) ?_
    obtain ⟨x14, hl15, h⟩ := bno h
    refine wx1 tbk [(11, rp [ci 0, (.tmp 83, (I (w64 (y7 - (w64 (y6 * p0.Row.Liquid))))))] (I x14))] ⟨Qhw hl15 (Qnu rfl), trivial⟩ ?_
    refine thn ?_
    refine wx tbk [] trivial ?_
    refine Qag ?_
    obtain rfl := osi h
    exact fend ⟨[(.agg [I y3, I y4, I 0, I y5, I y6, I y7, I x11, I y9, I x14, (I (w64 (p1.Silica - x11)))])], ⟨Qbo (n := 2) (m := 10) (j := 0) (i := 0) (xs := [[I y3, I y4, I 0, I y5, I y6, I y7, I x11, I y9, I x14, (I (w64 (p1.Silica - x11)))]]) (by kernel_rfl) (by kernel_rfl) ti79 (by decide) rfl (nle rfl) rfl, trivial⟩, rfl⟩ (NLt.agg _ (nlc nll (nlc nll (nlc nll (nlc nll (nlc nll (nlc nll (nlc nll (nlc nll (nlc nll (nlc nll nl0)))))))))))
   ·replace h := Qa7 hc13 h
    refine wfn hc13 (by kernel_rfl) ?_
    refine Qas ?_
    refine thn ?_
    refine wx tbk [] trivial ?_
    refine Qag ?_
    obtain rfl := osi h
    exact fend ⟨[(.agg [I y3, I y4, I 0, I y5, I y6, I y7, I x11, I y9, I 0, (I (w64 (p1.Silica - x11)))])], ⟨Qbo (n := 2) (m := 10) (j := 0) (i := 0) (xs := [[I y3, I y4, I 0, I y5, I y6, I y7, I x11, I y9, I 0, (I (w64 (p1.Silica - x11)))]]) (by kernel_rfl) (by kernel_rfl) ti79 (by decide) rfl (nle rfl) rfl, trivial⟩, rfl⟩ (NLt.agg _ (nlc nll (nlc nll (nlc nll (nlc nll (nlc nll (nlc nll (nlc nll (nlc nll (nlc nll (nlc nll nl0)))))))))))
  ·skip
   refine Qao ?_
   refine wx tbk [] trivial ?_
   rcases bft ((x2 == 0)) with hc16 | hc16
   ·replace h := Qa6 hc16 h
    refine wft hc16 (by kernel_rfl) ?_
    refine wx1 tbk [] trivial ?_
    refine bln ?_
    refine thn ?_
    exact ⟨(0, 0, 0, p1.Mass, p1.Heat, p1.Silica, p1.Gas), h, (mto (n := 87) [(2, .ref 0 5 0 0), (3, .ref 1 4 0 0), (4, .ref 2 10 0 0)] [0, 1, 2] [(Q7e p0), (Q7d p1), (.own 10 [[I 0, I 0, I 0, I 0, I p1.Mass, I p1.Heat, I p1.Silica, I p1.Gas, I 0, I 0]])] hφ0 (pc (.rn (rqr rfl)) (pc (.rn (rqr rfl)) (pc (.rn (rqr rfl)) pn))) (qc (spb (lc rwl (lc rwl (lc rwl (lc rwl (lc rwl ln)))))) (qc (spb (lc rwl (lc rwl (lc rwl (lc rwl ln))))) (qc (spb (lc rwl (lc rwl (lc rwl (lc rwl (lc rwl (lc rwl (lc rwl (lc rwl (lc rwl (lc rwl ln))))))))))) qn))))⟩
   ·replace h := Qa7 hc16 h
    refine wfn hc16 (by kernel_rfl) ?_
    refine wx tbk [] trivial ?_
    rcases bft ((x2 == p1.Mass)) with hc17 | hc17
    ·replace h := Qa6 hc17 h
     refine wft hc17 (by kernel_rfl) ?_
     refine wx1 tbk [(5, rp [(.tmp 44, I x2), (.tmp 46, I p1.Heat), (.tmp 48, I p1.Gas)] (.agg [I x2, I p1.Heat, I 0, I p1.Gas]))] ⟨Qar (vs := [I x2, I p1.Heat, I p1.Gas]) rfl ts48 tz48 rfl (by rfl) rfl, trivial⟩ ?_
     refine bln ?_
     refine thn ?_
     exact ⟨(x2, p1.Heat, p1.Gas, 0, 0, 0, 0), h, (mto (n := 87) [(2, .ref 0 5 0 0), (3, .ref 1 4 0 0), (4, .ref 2 10 0 0)] [0, 1, 2] [(Q7e p0), (Q7d p1), (.own 10 [[I x2, I p1.Heat, I 0, I p1.Gas, I 0, I 0, I 0, I 0, I 0, I 0]])] hφ0 (pc (.rn (rqr rfl)) (pc (.rn (rqr rfl)) (pc (.rn (rqr rfl)) pn))) (qc (spb (lc rwl (lc rwl (lc rwl (lc rwl (lc rwl ln)))))) (qc (spb (lc rwl (lc rwl (lc rwl (lc rwl ln))))) (qc (spb (lc rwl (lc rwl (lc rwl (lc rwl (lc rwl (lc rwl (lc rwl (lc rwl (lc rwl (lc rwl ln))))))))))) qn))))⟩
    ·replace h := Qa7 hc17 h
     refine wfn hc17 (by kernel_rfl) ?_
     refine wx tbk [(8, rp [(.tmp 10, I x2), (.tmp 15, (I (w64 (x2 * p0.Row.Vapour)))), (.tmp 17, I p1.Gas)] (.agg [I x2, (I (w64 (x2 * p0.Row.Vapour))), I 0, I p1.Gas]))] ⟨Qar (vs := [I x2, (I (w64 (x2 * p0.Row.Vapour))), I p1.Gas]) rfl ts48 tz48 rfl (by rfl) rfl, trivial⟩ ?_
     refine wx1 tbk [(12, rp [(.tmp 23, (I (w64 (p1.Mass - x2)))), (.tmp 31, (I (w64 (p1.Heat - (w64 (x2 * p0.Row.Vapour))))))] (.agg [(I (w64 (p1.Mass - x2))), (I (w64 (p1.Heat - (w64 (x2 * p0.Row.Vapour))))), I 0, I 0]))] ⟨Qar (vs := [(I (w64 (p1.Mass - x2))), (I (w64 (p1.Heat - (w64 (x2 * p0.Row.Vapour)))))]) rfl ts48 tz48 rfl (by rfl) rfl, trivial⟩ ?_
     refine bln ?_
     refine thn ?_
     exact ⟨(x2, w64 (x2 * p0.Row.Vapour), p1.Gas, w64 (p1.Mass - x2), w64 (p1.Heat - (w64 (x2 * p0.Row.Vapour))), 0, 0), h, (mto (n := 87) [(2, .ref 0 5 0 0), (3, .ref 1 4 0 0), (4, .ref 2 10 0 0)] [0, 1, 2] [(Q7e p0), (Q7d p1), (.own 10 [[I x2, (I (w64 (x2 * p0.Row.Vapour))), I 0, I p1.Gas, (I (w64 (p1.Mass - x2))), (I (w64 (p1.Heat - (w64 (x2 * p0.Row.Vapour))))), I 0, I 0, I 0, I 0]])] hφ0 (pc (.rn (rqr rfl)) (pc (.rn (rqr rfl)) (pc (.rn (rqr rfl)) pn))) (qc (spb (lc rwl (lc rwl (lc rwl (lc rwl (lc rwl ln)))))) (qc (spb (lc rwl (lc rwl (lc rwl (lc rwl ln))))) (qc (spb (lc rwl (lc rwl (lc rwl (lc rwl (lc rwl (lc rwl (lc rwl (lc rwl (lc rwl (lc rwl ln))))))))))) qn))))⟩
def Qic (N : Nat) (p0 : (List GRow)) (p1 : Int) (p2 : GStream) : Option (GParts × Int) :=
  (Qel N p0).bind fun x2 =>
  bif (!x2) then
   some ((⟨(⟨0, 0, 0, 0⟩ : GStream), (⟨0, 0, 0, 0⟩ : GStream), 0, 0⟩ : GParts), 1)
  else
   (Qg0 N p0 p1).bind fun x5 =>
   bif (!x5) then
    some ((⟨(⟨0, 0, 0, 0⟩ : GStream), (⟨0, 0, 0, 0⟩ : GStream), 0, 0⟩ : GParts), 2)
   else
    (Qds N p2).bind fun x8 =>
    bif (!x8) then
     some ((⟨(⟨0, 0, 0, 0⟩ : GStream), (⟨0, 0, 0, 0⟩ : GStream), 0, 0⟩ : GParts), 1)
    else
     (Qhe N p0 p1).bind fun x11 =>
     (Qfu N (⟨(⟨x11.Row.T, x11.Row.P, x11.Row.Liquid, x11.Row.Vapour, x11.Row.Silica⟩ : GRow)⟩ : GFlash) p2).bind fun x13 =>
     some ((⟨(⟨x13.Steam.Mass, x13.Steam.Heat, x13.Steam.Silica, x13.Steam.Gas⟩ : GStream), (⟨x13.Water.Mass, x13.Water.Heat, x13.Water.Silica, x13.Water.Gas⟩ : GStream), x13.Rest, x13.Scale⟩ : GParts), 0)
def Q0w (p0 : (List GRow)) : AV := .dat 5 ((p0 : List GRow).map Qa8)
def Q0v : AV := .agg [(I (0)), (I (0)), (I (0)), (I (0)), (I (0)), (I (0)), (I (0)), (I (0)), (I (0)), (I (0))]
def Q7f (p2 : GStream) : AV := .agg [(I (p2.Mass)), (I (p2.Heat)), (I (p2.Silica)), (I (p2.Gas))]
def Zbe (x11 : GFlash) : AV := .agg [(I (x11.Row.T)), (I (x11.Row.P)), (I (x11.Row.Liquid)), (I (x11.Row.Vapour)), (I (x11.Row.Silica))]
def Zfm (x13 : GParts) : AV := .agg [(I (x13.Steam.Mass)), (I (x13.Steam.Heat)), (I (x13.Steam.Silica)), (I (x13.Steam.Gas)), (I (x13.Water.Mass)), (I (x13.Water.Heat)), (I (x13.Water.Silica)), (I (x13.Water.Gas)), (I (x13.Rest)), (I (x13.Scale))]
theorem Qp0 (N : Nat) (p0 : (List GRow)) (p1 : Int) (p2 : GStream) (r : (GParts × Int)) (h : Qic N p0 p1 p2 = some r) : Spec Try.prog 25 [(.dat 5 (p0.map Qa8)), (I p1), (.agg (Qab p2))] [] (.tup [(.agg (Q0h r.1)), (I r.2)]) [] := by
  refine Qah Try.func25 rfl 0 (nle rfl) (fun X φ0 w0 hφ0 hd0 => ?_)
  unfold Qic at h
  refine wx tbk [] trivial ?_
  refine wsq ?_
  refine Qao ?_
  obtain ⟨x2, hf1, h⟩ := bno h
  refine wx tbk [(1, rp [fu 41, (.tmp 9, (Q0w p0))] (B x2))] ⟨apc (first := []) (cap := []) (vs := [(Q0w p0)]) rfl Q6a (Qia N p0 _ hf1) rfl rfl (nlc (nld Qai _) nl0) nll rfl, trivial⟩ ?_
  rcases bft ((!x2)) with hc3 | hc3
  ·replace h := Qa6 hc3 h
   refine wft hc3 (by kernel_rfl) ?_
   refine wx tbk [(0, rp [] Q0v)] ⟨Qar (vs := []) rfl ts79 tz79 rfl (by rfl) rfl, trivial⟩ ?_
   refine Qag ?_
   refine Qax ?_
   refine Qaj ?_
   obtain rfl := osi h
   exact fend ⟨[Q0v, I 1], ⟨Qbo (n := 1) (m := 10) (j := 0) (i := 0) (xs := [[I 0, I 0, I 0, I 0, I 0, I 0, I 0, I 0, I 0, I 0]]) (by kernel_rfl) (by kernel_rfl) ti79 (by decide) rfl (nle rfl) rfl, rot (by kernel_rfl), trivial⟩, rfl⟩ (NLt.tup _ (nlc (NLt.agg _ (nlc nll (nlc nll (nlc nll (nlc nll (nlc nll (nlc nll (nlc nll (nlc nll (nlc nll (nlc nll nl0))))))))))) (nlc nll nl0)))
  ·replace h := Qa7 hc3 h
   refine wfn hc3 (by kernel_rfl) ?_
   obtain ⟨x5, hf4, h⟩ := bno h
   refine wx tbk [(2, rp [fu 42, (.tmp 14, (Q0w p0)), (.tmp 15, I p1)] (B x5))] ⟨apc (first := []) (cap := []) (vs := [(Q0w p0), I p1]) rfl Zen (Qml N p0 p1 _ hf4) rfl rfl (nlc (nld Qai _) (nlc nll nl0)) nll rfl, trivial⟩ ?_
   rcases bft ((!x5)) with hc6 | hc6
   ·replace h := Qa6 hc6 h
    refine wft hc6 (by kernel_rfl) ?_
    refine wx tbk [(0, rp [] Q0v)] ⟨Qar (vs := []) rfl ts79 tz79 rfl (by rfl) rfl, trivial⟩ ?_
    refine Qag ?_
    refine Qax ?_
    refine Qaj ?_
    obtain rfl := osi h
    exact fend ⟨[Q0v, I 2], ⟨Qbo (n := 1) (m := 10) (j := 0) (i := 0) (xs := [[I 0, I 0, I 0, I 0, I 0, I 0, I 0, I 0, I 0, I 0]]) (by kernel_rfl) (by kernel_rfl) ti79 (by decide) rfl (nle rfl) rfl, rot (by kernel_rfl), trivial⟩, rfl⟩ (NLt.tup _ (nlc (NLt.agg _ (nlc nll (nlc nll (nlc nll (nlc nll (nlc nll (nlc nll (nlc nll (nlc nll (nlc nll (nlc nll nl0))))))))))) (nlc nll nl0)))
   ·replace h := Qa7 hc6 h
    refine wfn hc6 (by kernel_rfl) ?_
    obtain ⟨x8, hf7, h⟩ := bno h
    refine wx tbk [(1, rp [fu 34, (.tmp 20, (Q7f p2))] (B x8))] ⟨apc (first := []) (cap := []) (vs := [(Q7f p2)]) rfl Qoi (Qdk N p2 _ hf7) rfl rfl (nlc (NLt.agg _ (nlc nll (nlc nll (nlc nll (nlc nll nl0))))) nl0) nll rfl, trivial⟩ ?_
    rcases bft ((!x8)) with hc9 | hc9
    ·replace h := Qa6 hc9 h
     refine wft hc9 (by kernel_rfl) ?_
     refine wx tbk [(0, rp [] Q0v)] ⟨Qar (vs := []) rfl ts79 tz79 rfl (by rfl) rfl, trivial⟩ ?_
     refine Qag ?_
     refine Qax ?_
     refine Qaj ?_
     obtain rfl := osi h
     exact fend ⟨[Q0v, I 1], ⟨Qbo (n := 1) (m := 10) (j := 0) (i := 0) (xs := [[I 0, I 0, I 0, I 0, I 0, I 0, I 0, I 0, I 0, I 0]]) (by kernel_rfl) (by kernel_rfl) ti79 (by decide) rfl (nle rfl) rfl, rot (by kernel_rfl), trivial⟩, rfl⟩ (NLt.tup _ (nlc (NLt.agg _ (nlc nll (nlc nll (nlc nll (nlc nll (nlc nll (nlc nll (nlc nll (nlc nll (nlc nll (nlc nll nl0))))))))))) (nlc nll nl0)))
    ·replace h := Qa7 hc9 h
     refine wfn hc9 (by kernel_rfl) ?_
     refine Qas ?_
     refine bln ?_
     refine thn ?_
     obtain ⟨x11, hf10, h⟩ := bno h
     obtain ⟨x13, hf12, h⟩ := bno h
     refine wxd tbk [(2, rp [fu 43, (.tmp 24, (Q0w p0)), (.tmp 25, I p1)] (Zbe x11)), (4, rp [fu 44, (.tmp 26, (Zbe x11)), (.tmp 27, (Q7f p2))] (Zfm x13))] ⟨apc (first := []) (cap := []) (vs := [(Q0w p0), I p1]) rfl Zem (Qm8 N p0 p1 _ hf10) rfl rfl (nlc (nld Qai _) (nlc nll nl0)) (NLt.agg _ (nlc nll (nlc nll (nlc nll (nlc nll (nlc nll nl0)))))) rfl, apc (first := []) (cap := []) (vs := [(Zbe x11), (Q7f p2)]) rfl Zel (Qm7 N (⟨(⟨x11.Row.T, x11.Row.P, x11.Row.Liquid, x11.Row.Vapour, x11.Row.Silica⟩ : GRow)⟩ : GFlash) p2 _ hf12) rfl rfl (nlc (NLt.agg _ (nlc nll (nlc nll (nlc nll (nlc nll (nlc nll nl0)))))) (nlc (NLt.agg _ (nlc nll (nlc nll (nlc nll (nlc nll nl0))))) nl0)) (NLt.agg _ (nlc nll (nlc nll (nlc nll (nlc nll (nlc nll (nlc nll (nlc nll (nlc nll (nlc nll (nlc nll nl0))))))))))) rfl, trivial⟩ ?_
     refine Qag ?_
     obtain rfl := osi h
     exact fend ⟨[(Zfm x13), I 0], ⟨Qbo (n := 1) (m := 10) (j := 0) (i := 0) (xs := [[I x13.Steam.Mass, I x13.Steam.Heat, I x13.Steam.Silica, I x13.Steam.Gas, I x13.Water.Mass, I x13.Water.Heat, I x13.Water.Silica, I x13.Water.Gas, I x13.Rest, I x13.Scale]]) (by kernel_rfl) (by kernel_rfl) ti79 (by decide) rfl (nle rfl) rfl, rot (by kernel_rfl), trivial⟩, rfl⟩ (NLt.tup _ (nlc (NLt.agg _ (nlc nll (nlc nll (nlc nll (nlc nll (nlc nll (nlc nll (nlc nll (nlc nll (nlc nll (nlc nll nl0))))))))))) (nlc nll nl0)))
def Qeo (N : Nat) (p0 : Int) (p1 : GStream) (p2 : (List Int)) (_p3 : (List GRow)) (_p4 : (List GElement)) (_p5 : Nat) (p6 : Nat) (_p7 : Nat) (_p8 : (List GStream)) (_p9 : Int) (_p10 : (List (List GStream))) (p11 : (List GLost)) (_p12 : (List Int)) : Option ((List GStream) × (List GLost)) :=
  (Qib N p1 p2).bind fun x4 =>
  chk (decide (0 ≤ p0) && decide (p0.toNat < p6)) <|
  (p11[p0.toNat]?).bind fun x6 =>
  chk (decide (0 ≤ p0) && decide (p0.toNat < p6)) <|
  ((p11.set p0.toNat (⟨x4.2.1.Heat, x6.Silica, x6.Gas, x6.Scale⟩ : GLost))[p0.toNat]?).bind fun x9 =>
  chk (decide (0 ≤ p0) && decide (p0.toNat < p6)) <|
  (((p11.set p0.toNat (⟨x4.2.1.Heat, x6.Silica, x6.Gas, x6.Scale⟩ : GLost)).set p0.toNat (⟨x9.Heat, x4.2.1.Silica, x9.Gas, x9.Scale⟩ : GLost))[p0.toNat]?).bind fun x12 =>
  some (x4.1, ((p11.set p0.toNat (⟨x4.2.1.Heat, x6.Silica, x6.Gas, x6.Scale⟩ : GLost)).set p0.toNat (⟨x9.Heat, x4.2.1.Silica, x9.Gas, x9.Scale⟩ : GLost)).set p0.toNat (⟨x12.Heat, x12.Silica, x4.2.1.Gas, x12.Scale⟩ : GLost))
def Zbc (p1 : GStream) : AV := .agg [(I (p1.Mass)), (I (p1.Heat)), (I (p1.Silica)), (I (p1.Gas))]
def Zbb (p2 : (List Int)) : AV := .dat 1 ((p2 : List Int).map Qam)
def Qpm (p3 : (List GRow)) (p4 : (List GElement)) (p5 : Nat) (p6 : Nat) (p7 : Nat) (p8 : (List GStream)) (p9 : Int) : Slot := .own 7 [[(.dat 5 ((p3 : List GRow).map Qa8)), (.dat 7 ((p4 : List GElement).map Qad)), (.own 1 1 (0) (p5)), (.own 2 4 (0) (p6)), (.own 3 1 (0) (p7)), (.dat 4 ((p8 : List GStream).map Qab)), (I (p9))]]
def Qyq (p10 : (List (List GStream))) : Slot := .own 1 ((p10 : List (List GStream)).map Qae)
def Q3f (p11 : (List GLost)) : Slot := .own 4 ((p11 : List GLost).map Qa2)
def Qyp (p12 : (List Int)) : Slot := .own 1 ((p12 : List Int).map Qam)
def Qyr (x4 : ((List GStream) × GLoss × Int)) : AV := .dat 4 ((x4.1 : List GStream).map Qab)
def Q3e (p11 : (List GLost)) (p0 : Int) (x4 : ((List GStream) × GLoss × Int)) (x6 : GLost) : Slot := .own 4 ((p11.set p0.toNat (⟨x4.2.1.Heat, x6.Silica, x6.Gas, x6.Scale⟩ : GLost) : List GLost).map Qa2)
def Q3d (p11 : (List GLost)) (p0 : Int) (x4 : ((List GStream) × GLoss × Int)) (x6 : GLost) (x9 : GLost) : Slot := .own 4 (((p11.set p0.toNat (⟨x4.2.1.Heat, x6.Silica, x6.Gas, x6.Scale⟩ : GLost)).set p0.toNat (⟨x9.Heat, x4.2.1.Silica, x9.Gas, x9.Scale⟩ : GLost) : List GLost).map Qa2)
def Q93 (p11 : (List GLost)) (p0 : Int) (x4 : ((List GStream) × GLoss × Int)) (x6 : GLost) (x9 : GLost) (x12 : GLost) : Slot := .own 4 ((((p11.set p0.toNat (⟨x4.2.1.Heat, x6.Silica, x6.Gas, x6.Scale⟩ : GLost)).set p0.toNat (⟨x9.Heat, x4.2.1.Silica, x9.Gas, x9.Scale⟩ : GLost)).set p0.toNat (⟨x12.Heat, x12.Silica, x4.2.1.Gas, x12.Scale⟩ : GLost) : List GLost).map Qa2)
theorem Qil (N : Nat) (p0 : Int) (p1 : GStream) (p2 : (List Int)) (p3 : (List GRow)) (p4 : (List GElement)) (p5 : Nat) (p6 : Nat) (p7 : Nat) (p8 : (List GStream)) (p9 : Int) (p10 : (List (List GStream))) (p11 : (List GLost)) (p12 : (List Int)) (r : ((List GStream) × (List GLost))) (h : Qeo N p0 p1 p2 p3 p4 p5 p6 p7 p8 p9 p10 p11 p12 = some r) : Spec Try.prog 92 [(.ref 0 7 (0) 0), (I (p0)), (Zbc p1), (Zbb p2)] [(Qpm p3 p4 p5 p6 p7 p8 p9), (Qyq p10), (Q3f p11), (Qyp p12)] (.dat 4 ((r.1 : List GStream).map Qab)) [(Qpm p3 p4 p5 p6 p7 p8 p9), (Qyq p10), (.own 4 ((r.2 : List GLost).map Qa2)), (Qyp p12)] := by
  refine Qah Try.func92 rfl 4 (nle rfl) (fun X φ0 w0 hφ0 hd0 => ?_)
  unfold Qeo at h
  refine Qbt ?_
  refine wx tbk [] trivial ?_
  obtain ⟨x4, hf3, h⟩ := bno h
  refine wx tbk [(2, rp [fu 96, (.tmp 13, (Zbc p1)), (.tmp 14, (Zbb p2))] (.tup [(Qyr x4), (.agg [I x4.2.1.Heat, I x4.2.1.Silica, I x4.2.1.Gas]), I x4.2.2]))] ⟨apc (first := []) (cap := []) (vs := [(Zbc p1), (Zbb p2)]) rfl Zdp (Qpz N p1 p2 _ hf3) rfl rfl (nlc (NLt.agg _ (nlc nll (nlc nll (nlc nll (nlc nll nl0))))) (nlc (nld Qaf _) nl0)) (NLt.tup _ (nlc (nld Qac _) (nlc (NLt.agg _ (nlc nll (nlc nll (nlc nll nl0)))) (nlc nll nl0)))) rfl, trivial⟩ ?_
  obtain ⟨hi5, h⟩ := cko h
  obtain ⟨hi5a, hi5b⟩ := Qe8 hi5
  obtain ⟨x6, hg7, h⟩ := bno h
  obtain ⟨hi8, h⟩ := cko h
  obtain ⟨hi8a, hi8b⟩ := Qe8 hi8
  obtain ⟨x9, hg10, h⟩ := bno h
  obtain ⟨hi11, h⟩ := cko h
  obtain ⟨hi11a, hi11b⟩ := Qe8 hi11
  obtain ⟨x12, hg13, h⟩ := bno h
  refine wxd tbk [(1, rb [(.tmp 19, .ref 0 7 0 0)] [(0, (Qpm p3 p4 p5 p6 p7 p8 p9))] (.ref 0 7 0 0)), (7, rb [(.tmp 25, .ref 0 7 0 0)] [(0, (Qpm p3 p4 p5 p6 p7 p8 p9))] (.ref 0 7 0 0)), (13, rb [(.tmp 31, .ref 0 7 0 0)] [(0, (Qpm p3 p4 p5 p6 p7 p8 p9))] (.ref 0 7 0 0)), (24, rb [(.tmp 23, (.own 2 4 (0) (p6))), (.tmp 24, I p0)] [(2, (Q3f p11))] (.ref 2 4 (p0.toNat) 0)), (26, ⟨[(.tmp 44, (.ref 2 4 (p0.toNat) 0)), (.tmp 38, I x4.2.1.Heat)], [(2, (Q3f p11))], .any, [(2, (Q3e p11 p0 x4 x6))], false⟩), (27, rb [(.tmp 29, (.own 2 4 (0) (p6))), (.tmp 30, I p0)] [(2, (Q3e p11 p0 x4 x6))] (.ref 2 4 (p0.toNat) 0)), (29, ⟨[(.tmp 46, (.ref 2 4 (p0.toNat) 1)), (.tmp 40, I x4.2.1.Silica)], [(2, (Q3e p11 p0 x4 x6))], .any, [(2, (Q3d p11 p0 x4 x6 x9))], false⟩), (30, rb [(.tmp 35, (.own 2 4 (0) (p6))), (.tmp 36, I p0)] [(2, (Q3d p11 p0 x4 x6 x9))] (.ref 2 4 (p0.toNat) 0)), (32, ⟨[(.tmp 48, (.ref 2 4 (p0.toNat) 2)), (.tmp 42, I x4.2.1.Gas)], [(2, (Q3d p11 p0 x4 x6 x9))], .any, [(2, (Q93 p11 p0 x4 x6 x9 x12))], false⟩)] ⟨Qbc rfl, Qbc rfl, Qbc rfl, aio rfl Try.underlying32 ti50 (odt hi5a) (odt hi5b) (Nat.zero_add _), ast rfl ti3 (by rfl) (mgt Qa2 hg7) (nle rfl) (Qgw Qa2 rfl), aio rfl Try.underlying32 ti50 (odt hi8a) (odt hi8b) (Nat.zero_add _), ast rfl ti3 (by rfl) (mgt Qa2 hg10) (nle rfl) (Qgw Qa2 rfl), aio rfl Try.underlying32 ti50 (odt hi11a) (odt hi11b) (Nat.zero_add _), ast rfl ti3 (by rfl) (mgt Qa2 hg13) (nle rfl) (Qgw Qa2 rfl), trivial⟩ ?_
  refine wx tbk [] trivial ?_
  refine wmr (mto (n := 50) (l' := [(8, (Qyr x4))]) (own' := [(Qpm p3 p4 p5 p6 p7 p8 p9), (Qyq p10), (.own 4 (((((p11.set p0.toNat (⟨x4.2.1.Heat, x6.Silica, x6.Gas, x6.Scale⟩ : GLost)).set p0.toNat (⟨x9.Heat, x4.2.1.Silica, x9.Gas, x9.Scale⟩ : GLost)).set p0.toNat (⟨x12.Heat, x12.Silica, x4.2.1.Gas, x12.Scale⟩ : GLost)) : List GLost).map Qa2)), (Qyp p12)]) [(8, (Qyr x4))] [0, 1, 2, 3] [(Qpm p3 p4 p5 p6 p7 p8 p9), (Qyq p10), (Q93 p11 p0 x4 x6 x9 x12), (Qyp p12)] hφ0 (pc (.rn (.plain _ (nld Qac _))) pn) (qc (spb (lc (.rn (.plain _ (nld Qai _))) (lc (.rn (.plain _ (nld Qaa _))) (lc (.rn (Qba rfl)) (lc (.rn (Qba rfl)) (lc (.rn (Qba rfl)) (lc (.rn (.plain _ (nld Qac _))) (lc rwl ln)))))))) (qc (spr Qak) (qc (spr Qaw) (qc (spr Qaf) qn))))) ?_
  refine Qag ?_
  obtain rfl := osi h
  exact ⟨_, Mor.rfl, Qdc (vs := [(Qyr x4)]) ⟨rot (by kernel_rfl), trivial⟩ rfl (NLt.of0 (nld Qac _)) (by kernel_rfl) (Qal (Qbd (nlc (NLt.of0 (nld Qai _)) (nlc (NLt.of0 (nld Qaa _)) (nlc (NLt.own _ _ _ _ (by decide)) (nlc (NLt.own _ _ _ _ (by decide)) (nlc (NLt.own _ _ _ _ (by decide)) (nlc (NLt.of0 (nld Qac _)) (nlc (NLt.of0 nll) nl0)))))))) (Qal (Qcf Qak _) (Qal (Qcf Qaw _) (Qal (Qcf Qaf _) Qbr))))⟩
def Qej (N : Nat) (p0 : Int) (p1 : GStream) (p2 : (List GRow)) (p3 : (List GElement)) (p4 : Nat) (p5 : Nat) (p6 : Nat) (p7 : (List GStream)) (p8 : Int) (p9 : (List (List GStream))) (p10 : (List GLost)) (p11 : (List Int)) : Option ((List GStream) × Int × (List GLost) × (List Int)) :=
  (getI p3 p0).bind fun x5 =>
  (Qic N p2 x5.Level p1).bind fun x10 =>
  chk (decide (0 ≤ p0) && decide (p0.toNat < p5)) <|
  (p10[p0.toNat]?).bind fun x12 =>
  chk (decide (0 ≤ p0) && decide (p0.toNat < p6)) <|
  (p11[p0.toNat]?).bind fun x15 =>
  chk (decide (0 ≤ p0) && decide (p0.toNat < p6)) <|
  (p11[p0.toNat]?).bind fun _ =>
  bif (x5.Amount == 0) then
   some ([(⟨x10.1.Steam.Mass, x10.1.Steam.Heat, x10.1.Steam.Silica, x10.1.Steam.Gas⟩ : GStream), (⟨x10.1.Water.Mass, x10.1.Water.Heat, x10.1.Water.Silica, x10.1.Water.Gas⟩ : GStream)], w64 (p8 + x10.1.Steam.Mass), p10.set p0.toNat (⟨x12.Heat, x12.Silica, x12.Gas, x10.1.Scale⟩ : GLost), p11.set p0.toNat (w64 (x15 + x10.1.Scale)))
  else
   (Qeo N p0 (⟨x10.1.Water.Mass, x10.1.Water.Heat, x10.1.Water.Silica, x10.1.Water.Gas⟩ : GStream) ([w64 (1000 - x5.Amount), x5.Amount]) p2 p3 p4 p5 p6 p7 (w64 (p8 + x10.1.Steam.Mass)) p9 (p10.set p0.toNat (⟨x12.Heat, x12.Silica, x12.Gas, x10.1.Scale⟩ : GLost)) (p11.set p0.toNat (w64 (x15 + x10.1.Scale)))).bind fun x22 =>
   (getI x22.1 1).bind fun x23 =>
   (Qd6 N ([(⟨x10.1.Steam.Mass, x10.1.Steam.Heat, x10.1.Steam.Silica, x10.1.Steam.Gas⟩ : GStream), x23])).bind fun x28 =>
   (getI x22.1 0).bind fun x29 =>
   some ([x28, x29], w64 (p8 + x10.1.Steam.Mass), x22.2, p11.set p0.toNat (w64 (x15 + x10.1.Scale)))
def Zbf (p1 : GStream) : AV := .agg [(I (p1.Mass)), (I (p1.Heat)), (I (p1.Silica)), (I (p1.Gas))]
def Qwl (p2 : (List GRow)) : AV := .dat 5 ((p2 : List GRow).map Qa8)
def Q0x (p3 : (List GElement)) : AV := .dat 7 ((p3 : List GElement).map Qad)
def Q3k (p7 : (List GStream)) : AV := .dat 4 ((p7 : List GStream).map Qab)
def Qwk (p2 : (List GRow)) (p3 : (List GElement)) (p4 : Nat) (p5 : Nat) (p6 : Nat) (p7 : (List GStream)) (p8 : Int) : Slot := .own 7 [[(Qwl p2), (Q0x p3), (.own 1 1 (0) (p4)), (.own 2 4 (0) (p5)), (.own 3 1 (0) (p6)), (Q3k p7), (I (p8))]]
def Ql6 (p9 : (List (List GStream))) : Slot := .own 1 ((p9 : List (List GStream)).map Qae)
def Q3l (p10 : (List GLost)) : Slot := .own 4 ((p10 : List GLost).map Qa2)
def Qt1 (p11 : (List Int)) : Slot := .own 1 ((p11 : List Int).map Qam)
def Qyx (p10 : (List GLost)) (p0 : Int) (x12 : GLost) (x10 : (GParts × Int)) : Slot := .own 4 ((p10.set p0.toNat (⟨x12.Heat, x12.Silica, x12.Gas, x10.1.Scale⟩ : GLost) : List GLost).map Qa2)
def Qpn (p11 : (List Int)) (p0 : Int) (x15 : Int) (x10 : (GParts × Int)) : Slot := .own 1 ((p11.set p0.toNat (w64 (x15 + x10.1.Scale)) : List Int).map Qam)
def Qyw (x10 : (GParts × Int)) : AV := .agg [(I (x10.1.Steam.Mass)), (I (x10.1.Steam.Heat)), (I (x10.1.Steam.Silica)), (I (x10.1.Steam.Gas))]
def Q3j (x10 : (GParts × Int)) : AV := .agg [(I (x10.1.Water.Mass)), (I (x10.1.Water.Heat)), (I (x10.1.Water.Silica)), (I (x10.1.Water.Gas))]
def Qyv (x10 : (GParts × Int)) : AV := .dat 4 (([(⟨x10.1.Steam.Mass, x10.1.Steam.Heat, x10.1.Steam.Silica, x10.1.Steam.Gas⟩ : GStream), (⟨x10.1.Water.Mass, x10.1.Water.Heat, x10.1.Water.Silica, x10.1.Water.Gas⟩ : GStream)] : List GStream).map Qab)
def Qrt (p2 : (List GRow)) (p3 : (List GElement)) (p4 : Nat) (p5 : Nat) (p6 : Nat) (p7 : (List GStream)) (p8 : Int) (x10 : (GParts × Int)) : Slot := .own 7 [[(Qwl p2), (Q0x p3), (.own 1 1 (0) (p4)), (.own 2 4 (0) (p5)), (.own 3 1 (0) (p6)), (Q3k p7), (I (w64 (p8 + x10.1.Steam.Mass)))]]
def Q3i (x5 : GElement) : AV := .dat 1 (([w64 (1000 - x5.Amount), x5.Amount] : List Int).map Qam)
def Qyt (x22 : ((List GStream) × (List GLost))) : AV := .dat 4 ((x22.1 : List GStream).map Qab)
def Qyu (x22 : ((List GStream) × (List GLost))) : Slot := .own 4 ((x22.2 : List GLost).map Qa2)
def Q95 (x23 : GStream) : AV := .agg [(I (x23.Mass)), (I (x23.Heat)), (I (x23.Silica)), (I (x23.Gas))]
def Q3h (x10 : (GParts × Int)) (x23 : GStream) : AV := .dat 4 (([(⟨x10.1.Steam.Mass, x10.1.Steam.Heat, x10.1.Steam.Silica, x10.1.Steam.Gas⟩ : GStream), x23] : List GStream).map Qab)
def Q3g (x28 : GStream) : AV := .agg [(I (x28.Mass)), (I (x28.Heat)), (I (x28.Silica)), (I (x28.Gas))]
def Q94 (x29 : GStream) : AV := .agg [(I (x29.Mass)), (I (x29.Heat)), (I (x29.Silica)), (I (x29.Gas))]
def Qys (x28 : GStream) (x29 : GStream) : AV := .dat 4 (([x28, x29] : List GStream).map Qab)
theorem Qkd (N : Nat) (p0 : Int) (p1 : GStream) (p2 : (List GRow)) (p3 : (List GElement)) (p4 : Nat) (p5 : Nat) (p6 : Nat) (p7 : (List GStream)) (p8 : Int) (p9 : (List (List GStream))) (p10 : (List GLost)) (p11 : (List Int)) (r : ((List GStream) × Int × (List GLost) × (List Int))) (h : Qej N p0 p1 p2 p3 p4 p5 p6 p7 p8 p9 p10 p11 = some r) : Spec Try.prog 77 [(.ref 0 7 (0) 0), (I (p0)), (Zbf p1)] [(Qwk p2 p3 p4 p5 p6 p7 p8), (Ql6 p9), (Q3l p10), (Qt1 p11)] (.dat 4 ((r.1 : List GStream).map Qab)) [(.own 7 [[(Qwl p2), (Q0x p3), (.own 1 1 (0) (p4)), (.own 2 4 (0) (p5)), (.own 3 1 (0) (p6)), (Q3k p7), (I (r.2.1))]]), (Ql6 p9), (.own 4 ((r.2.2.1 : List GLost).map Qa2)), (.own 1 ((r.2.2.2 : List Int).map Qam))] := by
  refine Qah Try.func77 rfl 4 (nle rfl) (fun X φ0 w0 hφ0 hd0 => ?_)
  unfold Qej at h
  refine Qbt ?_
  refine wx tbk [] trivial ?_
  obtain ⟨x5, hg6, h⟩ := bno h
  obtain ⟨hi7, hj8⟩ := gsm hg6
  refine wx tbk [(1, rb [(.tmp 11, .ref 0 7 0 0)] [(0, (Qwk p2 p3 p4 p5 p6 p7 p8))] (.ref 0 7 0 0)), (6, rp [(.tmp 15, (Q0x p3)), (.tmp 16, I p0)] (.dptr (Qad (x5)) 0))] ⟨Qbc rfl, aid rfl Try.underlying40 ti76 rfl rfl hi7 (mgt Qad hj8) rfl, trivial⟩ ?_
  obtain ⟨x10, hf9, h⟩ := bno h
  refine wxd tbk [(1, rb [(.tmp 20, .ref 0 7 0 0)] [(0, (Qwk p2 p3 p4 p5 p6 p7 p8))] (.ref 0 7 0 0)), (8, rp [fu 25, (.tmp 24, (Qwl p2)), (.tmp 26, I x5.Level), (.tmp 27, (Zbf p1))] (.tup [(.agg [I x10.1.Steam.Mass, I x10.1.Steam.Heat, I x10.1.Steam.Silica, I x10.1.Steam.Gas, I x10.1.Water.Mass, I x10.1.Water.Heat, I x10.1.Water.Silica, I x10.1.Water.Gas, I x10.1.Rest, I x10.1.Scale]), I x10.2]))] ⟨Qbc rfl, apc (first := []) (cap := []) (vs := [(Qwl p2), I x5.Level, (Zbf p1)]) rfl Zes (Qp0 N p2 x5.Level p1 _ hf9) rfl rfl (nlc (nld Qai _) (nlc nll (nlc (NLt.agg _ (nlc nll (nlc nll (nlc nll (nlc nll nl0))))) nl0))) (NLt.tup _ (nlc (NLt.agg _ (nlc nll (nlc nll (nlc nll (nlc nll (nlc nll (nlc nll (nlc nll (nlc nll (nlc nll (nlc nll nl0))))))))))) (nlc nll nl0))) rfl, trivial⟩ ?_
  obtain ⟨hi11, h⟩ := cko h
  obtain ⟨hi11a, hi11b⟩ := Qe8 hi11
  obtain ⟨x12, hg13, h⟩ := bno h
  refine wxd tbk [(1, rb [(.tmp 31, .ref 0 7 0 0)] [(0, (Qwk p2 p3 p4 p5 p6 p7 p8))] (.ref 0 7 0 0)), (8, rb [(.tmp 35, (.own 2 4 (0) (p5))), (.tmp 36, I p0)] [(2, (Q3l p10))] (.ref 2 4 (p0.toNat) 0)), (10, ⟨[(.tmp 40, (.ref 2 4 (p0.toNat) 3)), (.tmp 38, I x10.1.Scale)], [(2, (Q3l p10))], .any, [(2, (Qyx p10 p0 x12 x10))], false⟩)] ⟨Qbc rfl, aio rfl Try.underlying32 ti50 (odt hi11a) (odt hi11b) (Nat.zero_add _), ast rfl ti3 (by rfl) (mgt Qa2 hg13) (nle rfl) (Qgw Qa2 rfl), trivial⟩ ?_
  obtain ⟨hi14, h⟩ := cko h
  obtain ⟨hi14a, hi14b⟩ := Qe8 hi14
  obtain ⟨x15, hg16, h⟩ := bno h
  obtain ⟨hi17, h⟩ := cko h
  obtain ⟨hi17a, hi17b⟩ := Qe8 hi17
  obtain ⟨x18, hg19, h⟩ := bno h
  refine wxd tbk [(1, rb [(.tmp 41, .ref 0 7 0 0)] [(0, (Qwk p2 p3 p4 p5 p6 p7 p8))] (.ref 0 7 0 0)), (6, rb [(.tmp 45, (.own 3 1 (0) (p6))), (.tmp 46, I p0)] [(3, (Qt1 p11))] (.ref 3 1 (p0.toNat) 0)), (7, rb [(.tmp 47, (.ref 3 1 (p0.toNat) 0))] [(3, (Qt1 p11))] (I x15)), (11, rb [(.tmp 45, (.own 3 1 (0) (p6))), (.tmp 46, I p0)] [(3, (Qt1 p11))] (.ref 3 1 (p0.toNat) 0)), (12, ⟨[(.tmp 52, (.ref 3 1 (p0.toNat) 0)), (.tmp 51, (I (w64 (x15 + x10.1.Scale))))], [(3, (Qt1 p11))], .any, [(3, (Qpn p11 p0 x15 x10))], false⟩)] ⟨Qbc rfl, aio rfl Try.underlying27 ti3 (odt hi14a) (odt hi14b) (Nat.zero_add _), ald rfl ti3 (by decide) (mgt Qam hg16) (nle rfl) rfl, aio rfl Try.underlying27 ti3 (odt hi17a) (odt hi17b) (Nat.zero_add _), ast rfl ti3 (by rfl) (mgt Qam hg19) (nle rfl) (Qgw Qam rfl), trivial⟩ ?_
  refine wxd tbk [(1, rb [(.tmp 53, .ref 0 7 0 0)] [(0, (Qwk p2 p3 p4 p5 p6 p7 p8))] (.ref 0 7 0 0)), (8, rb [(.tmp 53, .ref 0 7 0 0)] [(0, (Qwk p2 p3 p4 p5 p6 p7 p8))] (.ref 0 7 0 0))] ⟨Qbc rfl, Qbc rfl, trivial⟩ ?_
  refine wsq ?_
  refine wx tbk [] trivial ?_
  rcases bft ((x5.Amount == 0)) with hc20 | hc20
  ·replace h := Qa6 hc20 h
   refine wft hc20 (by kernel_rfl) ?_
   refine wx tbk [(4, rp [(.tmp 67, (Qyw x10)), (.tmp 69, (Q3j x10))] (Qyv x10))] ⟨Qb6 (vs := [(Qyw x10), (Q3j x10)]) rfl Try.underlying45 ti48 tz48 rfl (by decide) rfl (by decide) (by rfl) (by rfl) (by rfl) rfl, trivial⟩ ?_
   refine wmr (mto (n := 93) (l' := [(6, (Qyv x10))]) (own' := [(.own 7 [[(Qwl p2), (Q0x p3), (.own 1 1 (0) (p4)), (.own 2 4 (0) (p5)), (.own 3 1 (0) (p6)), (Q3k p7), (I ((w64 (p8 + x10.1.Steam.Mass))))]]), (Ql6 p9), (.own 4 (((p10.set p0.toNat (⟨x12.Heat, x12.Silica, x12.Gas, x10.1.Scale⟩ : GLost)) : List GLost).map Qa2)), (.own 1 (((p11.set p0.toNat (w64 (x15 + x10.1.Scale))) : List Int).map Qam))]) [(6, (Qyv x10))] [0, 1, 2, 3] [(Qrt p2 p3 p4 p5 p6 p7 p8 x10), (Ql6 p9), (Qyx p10 p0 x12 x10), (Qpn p11 p0 x15 x10)] hφ0 (pc (.rn (.plain _ (nld Qac _))) pn) (qc (spb (lc (.rn (.plain _ (nld Qai _))) (lc (.rn (.plain _ (nld Qaa _))) (lc (.rn (Qba rfl)) (lc (.rn (Qba rfl)) (lc (.rn (Qba rfl)) (lc (.rn (.plain _ (nld Qac _))) (lc rwl ln)))))))) (qc (spr Qak) (qc (spr Qaw) (qc (spr Qaf) qn))))) ?_
   refine Qag ?_
   refine Qaj ?_
   obtain rfl := osi h
   exact ⟨_, Mor.rfl, Qdc (vs := [(Qyv x10)]) ⟨rot (by kernel_rfl), trivial⟩ rfl (NLt.of0 (nld Qac _)) (by kernel_rfl) (Qal (Qbd (nlc (NLt.of0 (nld Qai _)) (nlc (NLt.of0 (nld Qaa _)) (nlc (NLt.own _ _ _ _ (by decide)) (nlc (NLt.own _ _ _ _ (by decide)) (nlc (NLt.own _ _ _ _ (by decide)) (nlc (NLt.of0 (nld Qac _)) (nlc (NLt.of0 nll) nl0)))))))) (Qal (Qcf Qak _) (Qal (Qcf Qaw _) (Qal (Qcf Qaf _) Qbr))))⟩
  ·replace h := Qa7 hc20 h
   refine wfn hc20 (by kernel_rfl) ?_
   refine Qas ?_
   refine thn ?_
   obtain ⟨x22, hf21, h⟩ := bno h
   refine wx tbk [(9, rp [(.tmp 77, (I (w64 (1000 - x5.Amount)))), (.tmp 79, I x5.Amount)] (Q3i x5)), (10, ⟨[fu 92, (.tmp 71, .ref 0 7 0 0), (.tmp 72, I p0), (.tmp 74, (Q3j x10)), (.tmp 80, (Q3i x5))], [(0, (Qrt p2 p3 p4 p5 p6 p7 p8 x10)), (1, (Ql6 p9)), (2, (Qyx p10 p0 x12 x10)), (3, (Qpn p11 p0 x15 x10))], (Qyt x22), [(0, (Qrt p2 p3 p4 p5 p6 p7 p8 x10)), (1, (Ql6 p9)), (2, (Qyu x22)), (3, (Qpn p11 p0 x15 x10))], false⟩)] ⟨Qb6 (vs := [(I (w64 (1000 - x5.Amount))), I x5.Amount]) rfl Try.underlying27 ti3 tz3 rfl (by decide) rfl (by decide) (by rfl) (by rfl) (by rfl) rfl, Qaq (first := []) (cap := []) (vs := [.ref 0 7 0 0, I p0, (.agg [(I ((⟨x10.1.Water.Mass, x10.1.Water.Heat, x10.1.Water.Silica, x10.1.Water.Gas⟩ : GStream).Mass)), (I ((⟨x10.1.Water.Mass, x10.1.Water.Heat, x10.1.Water.Silica, x10.1.Water.Gas⟩ : GStream).Heat)), (I ((⟨x10.1.Water.Mass, x10.1.Water.Heat, x10.1.Water.Silica, x10.1.Water.Gas⟩ : GStream).Silica)), (I ((⟨x10.1.Water.Mass, x10.1.Water.Heat, x10.1.Water.Silica, x10.1.Water.Gas⟩ : GStream).Gas))]), (Q3i x5)]) (σr := [(Qrt p2 p3 p4 p5 p6 p7 p8 x10), (Ql6 p9), (Qyx p10 p0 x12 x10), (Qpn p11 p0 x15 x10)]) (σr' := [(Qrt p2 p3 p4 p5 p6 p7 p8 x10), (Ql6 p9), (Qyu x22), (Qpn p11 p0 x15 x10)]) (res' := (Qyt x22)) [0, 1, 2, 3] rfl Q52 (Qil N p0 (⟨x10.1.Water.Mass, x10.1.Water.Heat, x10.1.Water.Silica, x10.1.Water.Gas⟩ : GStream) ([w64 (1000 - x5.Amount), x5.Amount]) p2 p3 p4 p5 p6 p7 (w64 (p8 + x10.1.Steam.Mass)) p9 (p10.set p0.toNat (⟨x12.Heat, x12.Silica, x12.Gas, x10.1.Scale⟩ : GLost)) (p11.set p0.toNat (w64 (x15 + x10.1.Scale))) _ hf21) rfl (Qbn (rnc (Qbi rfl) (rnc (.plain _ nll) (rnc (.plain _ (NLt.agg _ (nlc nll (nlc nll (nlc nll (nlc nll nl0)))))) (rnc (.plain _ (nld Qaf _)) rn0))))) (slc (Qan (rnc (.plain _ (nld Qai _)) (rnc (.plain _ (nld Qaa _)) (rnc (Qc3 rfl) (rnc (Qc3 rfl) (rnc (Qc3 rfl) (rnc (.plain _ (nld Qac _)) (rnc (.plain _ nll) rn0)))))))) (slc (Qa9 Qak) (slc (Qa9 Qaw) (slc (Qa9 Qaf) Qap)))) (slc (Qan (rnc (.plain _ (nld Qai _)) (rnc (.plain _ (nld Qaa _)) (rnc (Qdd rfl) (rnc (Qdd rfl) (rnc (Qdd rfl) (rnc (.plain _ (nld Qac _)) (rnc (.plain _ nll) rn0)))))))) (slc (Qa9 Qak) (slc (Qa9 Qaw) (slc (Qa9 Qaf) Qap)))) (.plain _ (nld Qac _)) rfl rfl rfl, trivial⟩ ?_
   obtain ⟨x23, hg24, h⟩ := bno h
   obtain ⟨hi25, hj26⟩ := gsm hg24
   obtain ⟨x28, hf27, h⟩ := bno h
   obtain ⟨x29, hg30, h⟩ := bno h
   obtain ⟨hi31, hj32⟩ := gsm hg30
   refine wxd tbk [(3, rp [(.tmp 84, (Qyt x22)), ci 1] (.dptr (Qab (x23)) 0)), (5, rp [(.tmp 83, (Qyw x10)), (.tmp 86, (Q95 x23))] (Q3h x10 x23)), (6, rp [fu 31, (.tmp 87, (Q3h x10 x23))] (Q3g x28)), (8, rp [(.tmp 89, (Qyt x22)), ci 0] (.dptr (Qab (x29)) 0)), (10, rp [(.tmp 88, (Q3g x28)), (.tmp 91, (Q94 x29))] (Qys x28 x29))] ⟨aid rfl Try.underlying45 ti48 rfl rfl hi25 (mgt Qab hj26) rfl, Qb6 (vs := [(Qyw x10), (Q95 x23)]) rfl Try.underlying45 ti48 tz48 rfl (by decide) rfl (by decide) (by rfl) (by rfl) (by rfl) rfl, apc (first := []) (cap := []) (vs := [(Q3h x10 x23)]) rfl Qqu (Qgz N ([(⟨x10.1.Steam.Mass, x10.1.Steam.Heat, x10.1.Steam.Silica, x10.1.Steam.Gas⟩ : GStream), x23]) _ hf27) rfl rfl (nlc (nld Qac _) nl0) (NLt.agg _ (nlc nll (nlc nll (nlc nll (nlc nll nl0))))) rfl, aid rfl Try.underlying45 ti48 rfl rfl hi31 (mgt Qab hj32) rfl, Qb6 (vs := [(Q3g x28), (Q94 x29)]) rfl Try.underlying45 ti48 tz48 rfl (by decide) rfl (by decide) (by rfl) (by rfl) (by rfl) rfl, trivial⟩ ?_
   refine wmr (mto (n := 93) (l' := [(6, (Qys x28 x29))]) (own' := [(.own 7 [[(Qwl p2), (Q0x p3), (.own 1 1 (0) (p4)), (.own 2 4 (0) (p5)), (.own 3 1 (0) (p6)), (Q3k p7), (I ((w64 (p8 + x10.1.Steam.Mass))))]]), (Ql6 p9), (Qyu x22), (.own 1 (((p11.set p0.toNat (w64 (x15 + x10.1.Scale))) : List Int).map Qam))]) [(6, (Qys x28 x29))] [0, 1, 2, 3] [(Qrt p2 p3 p4 p5 p6 p7 p8 x10), (Ql6 p9), (Qyu x22), (Qpn p11 p0 x15 x10)] hφ0 (pc (.rn (.plain _ (nld Qac _))) pn) (qc (spb (lc (.rn (.plain _ (nld Qai _))) (lc (.rn (.plain _ (nld Qaa _))) (lc (.rn (Qba rfl)) (lc (.rn (Qba rfl)) (lc (.rn (Qba rfl)) (lc (.rn (.plain _ (nld Qac _))) (lc rwl ln)))))))) (qc (spr Qak) (qc (spr Qaw) (qc (spr Qaf) qn))))) ?_
   refine Qag ?_
   obtain rfl := osi h
   exact ⟨_, Mor.rfl, Qdc (vs := [(Qys x28 x29)]) ⟨rot (by kernel_rfl), trivial⟩ rfl (NLt.of0 (nld Qac _)) (by kernel_rfl) (Qal (Qbd (nlc (NLt.of0 (nld Qai _)) (nlc (NLt.of0 (nld Qaa _)) (nlc (NLt.own _ _ _ _ (by decide)) (nlc (NLt.own _ _ _ _ (by decide)) (nlc (NLt.own _ _ _ _ (by decide)) (nlc (NLt.of0 (nld Qac _)) (nlc (NLt.of0 nll) nl0)))))))) (Qal (Qcf Qak _) (Qal (Qcf Qaw _) (Qal (Qcf Qaf _) Qbr))))⟩
def Qgf (N : Nat) (p0 : Int) (p1 : GStream) (p2 : (List GRow)) (p3 : (List GElement)) (p4 : Nat) (p5 : Nat) (p6 : Nat) (p7 : (List GStream)) (p8 : Int) (p9 : (List (List GStream))) (p10 : (List GLost)) (p11 : (List Int)) : Option ((List GStream) × (List GLost)) :=
  (getI p3 p0).bind fun x3 =>
  (Qeo N p0 p1 x3.Weights p2 p3 p4 p5 p6 p7 p8 p9 p10 p11).bind fun x8 =>
  some (x8.1, x8.2)
def Zba (p1 : GStream) : AV := .agg [(I (p1.Mass)), (I (p1.Heat)), (I (p1.Silica)), (I (p1.Gas))]
def Qsu (p2 : (List GRow)) (p3 : (List GElement)) (p4 : Nat) (p5 : Nat) (p6 : Nat) (p7 : (List GStream)) (p8 : Int) : Slot := .own 7 [[(.dat 5 ((p2 : List GRow).map Qa8)), (.dat 7 ((p3 : List GElement).map Qad)), (.own 1 1 (0) (p4)), (.own 2 4 (0) (p5)), (.own 3 1 (0) (p6)), (.dat 4 ((p7 : List GStream).map Qab)), (I (p8))]]
def Qtz (p9 : (List (List GStream))) : Slot := .own 1 ((p9 : List (List GStream)).map Qae)
def Za9 (p10 : (List GLost)) : Slot := .own 4 ((p10 : List GLost).map Qa2)
def Qty (p11 : (List Int)) : Slot := .own 1 ((p11 : List Int).map Qam)
def Qt0 (x8 : ((List GStream) × (List GLost))) : AV := .dat 4 ((x8.1 : List GStream).map Qab)
def Qyo (x8 : ((List GStream) × (List GLost))) : Slot := .own 4 ((x8.2 : List GLost).map Qa2)
theorem Qlg (N : Nat) (p0 : Int) (p1 : GStream) (p2 : (List GRow)) (p3 : (List GElement)) (p4 : Nat) (p5 : Nat) (p6 : Nat) (p7 : (List GStream)) (p8 : Int) (p9 : (List (List GStream))) (p10 : (List GLost)) (p11 : (List Int)) (r : ((List GStream) × (List GLost))) (h : Qgf N p0 p1 p2 p3 p4 p5 p6 p7 p8 p9 p10 p11 = some r) : Spec Try.prog 78 [(.ref 0 7 (0) 0), (I (p0)), (Zba p1)] [(Qsu p2 p3 p4 p5 p6 p7 p8), (Qtz p9), (Za9 p10), (Qty p11)] (.dat 4 ((r.1 : List GStream).map Qab)) [(Qsu p2 p3 p4 p5 p6 p7 p8), (Qtz p9), (.own 4 ((r.2 : List GLost).map Qa2)), (Qty p11)] := by
  refine Qah Try.func78 rfl 4 (nle rfl) (fun X φ0 w0 hφ0 hd0 => ?_)
  unfold Qgf at h
  refine Qbt ?_
  refine wx tbk [] trivial ?_
  obtain ⟨x3, hg4, h⟩ := bno h
  obtain ⟨hi5, hj6⟩ := gsm hg4
  obtain ⟨x8, hf7, h⟩ := bno h
  refine wxd tbk [(4, rb [(.tmp 10, .ref 0 7 0 0)] [(0, (Qsu p2 p3 p4 p5 p6 p7 p8))] (.ref 0 7 0 0)), (9, rp [(.tmp 14, (.dat 7 ((p3 : List GElement).map Qad))), (.tmp 15, I p0)] (.dptr (Qad (x3)) 0)), (12, ⟨[fu 92, (.tmp 7, .ref 0 7 0 0), (.tmp 8, I p0), (.tmp 9, (Zba p1)), (.tmp 18, (.dat 1 ((x3.Weights : List Int).map Qam)))], [(0, (Qsu p2 p3 p4 p5 p6 p7 p8)), (1, (Qtz p9)), (2, (Za9 p10)), (3, (Qty p11))], (Qt0 x8), [(0, (Qsu p2 p3 p4 p5 p6 p7 p8)), (1, (Qtz p9)), (2, (Qyo x8)), (3, (Qty p11))], false⟩)] ⟨Qbc rfl, aid rfl Try.underlying40 ti76 rfl rfl hi5 (mgt Qad hj6) rfl, Qaq (first := []) (cap := []) (vs := [.ref 0 7 0 0, I p0, (Zba p1), (.dat 1 ((x3.Weights : List Int).map Qam))]) (σr := [(Qsu p2 p3 p4 p5 p6 p7 p8), (Qtz p9), (Za9 p10), (Qty p11)]) (σr' := [(Qsu p2 p3 p4 p5 p6 p7 p8), (Qtz p9), (Qyo x8), (Qty p11)]) (res' := (Qt0 x8)) [0, 1, 2, 3] rfl Q52 (Qil N p0 p1 x3.Weights p2 p3 p4 p5 p6 p7 p8 p9 p10 p11 _ hf7) rfl (Qbn (rnc (Qbi rfl) (rnc (.plain _ nll) (rnc (.plain _ (NLt.agg _ (nlc nll (nlc nll (nlc nll (nlc nll nl0)))))) (rnc (.plain _ (nld Qaf _)) rn0))))) (slc (Qan (rnc (.plain _ (nld Qai _)) (rnc (.plain _ (nld Qaa _)) (rnc (Qc3 rfl) (rnc (Qc3 rfl) (rnc (Qc3 rfl) (rnc (.plain _ (nld Qac _)) (rnc (.plain _ nll) rn0)))))))) (slc (Qa9 Qak) (slc (Qa9 Qaw) (slc (Qa9 Qaf) Qap)))) (slc (Qan (rnc (.plain _ (nld Qai _)) (rnc (.plain _ (nld Qaa _)) (rnc (Qdd rfl) (rnc (Qdd rfl) (rnc (Qdd rfl) (rnc (.plain _ (nld Qac _)) (rnc (.plain _ nll) rn0)))))))) (slc (Qa9 Qak) (slc (Qa9 Qaw) (slc (Qa9 Qaf) Qap)))) (.plain _ (nld Qac _)) rfl rfl rfl, trivial⟩ ?_
  refine wmr (mto (n := 20) (l' := [(6, (Qt0 x8))]) (own' := [(Qsu p2 p3 p4 p5 p6 p7 p8), (Qtz p9), (Qyo x8), (Qty p11)]) [(6, (Qt0 x8))] [0, 1, 2, 3] [(Qsu p2 p3 p4 p5 p6 p7 p8), (Qtz p9), (Qyo x8), (Qty p11)] hφ0 (pc (.rn (.plain _ (nld Qac _))) pn) (qc (spb (lc (.rn (.plain _ (nld Qai _))) (lc (.rn (.plain _ (nld Qaa _))) (lc (.rn (Qba rfl)) (lc (.rn (Qba rfl)) (lc (.rn (Qba rfl)) (lc (.rn (.plain _ (nld Qac _))) (lc rwl ln)))))))) (qc (spr Qak) (qc (spr Qaw) (qc (spr Qaf) qn))))) ?_
  refine Qag ?_
  obtain rfl := osi h
  exact ⟨_, Mor.rfl, Qdc (vs := [(Qt0 x8)]) ⟨rot (by kernel_rfl), trivial⟩ rfl (NLt.of0 (nld Qac _)) (by kernel_rfl) (Qal (Qbd (nlc (NLt.of0 (nld Qai _)) (nlc (NLt.of0 (nld Qaa _)) (nlc (NLt.own _ _ _ _ (by decide)) (nlc (NLt.own _ _ _ _ (by decide)) (nlc (NLt.own _ _ _ _ (by decide)) (nlc (NLt.of0 (nld Qac _)) (nlc (NLt.of0 nll) nl0)))))))) (Qal (Qcf Qak _) (Qal (Qcf Qaw _) (Qal (Qcf Qaf _) Qbr))))⟩
def Qcq (N : Nat) (p0 : Int) (p1 : Int) (p2 : (List GRow)) (p3 : (List GElement)) (p4 : Nat) (p5 : Nat) (p6 : Nat) (p7 : (List GStream)) (p8 : Int) (p9 : (List (List GStream))) (p10 : (List GLost)) (p11 : (List Int)) : Option ((Int × (List (List GStream)) × (List GLost) × (List Int)) ⊕ Int) :=
  (Qfy N p0 p2 p3 p4 p5 p6 p7 p8 p9 p10 p11).bind fun _ =>
  chk (decide (p4 ≤ p9.length)) <|
  chk (decide (p5 ≤ p10.length)) <|
  chk (decide (p6 ≤ p11.length)) <|
  (Qbs N p2 p3 (p9.take p4) (p10.take p5) (p11.take p6) p7 p8 p0).bind fun x12 =>
  (Qd6 N x12).bind fun x14 =>
  Qcc (fun _ =>
    (getI p3 p0).bind fun x16 =>
    bif (x16.Kind == 0) then
     none
    else
     bif (x16.Kind == 1) then
      (Qe1 N p0 x14 p2 p3 p4 p5 p6 p7 p8 p9 p10 p11).bind fun x23 =>
      chk (decide (0 ≤ p0) && decide (p0.toNat < p4)) <|
      (p9[p0.toNat]?).bind fun _ =>
      some (.inl (p8, p9.set p0.toNat x23, p10, p11))
     else
      bif (x16.Kind == 2) then
       (Qe1 N p0 x14 p2 p3 p4 p5 p6 p7 p8 p9 p10 p11).bind fun x29 =>
       chk (decide (0 ≤ p0) && decide (p0.toNat < p4)) <|
       (p9[p0.toNat]?).bind fun _ =>
       some (.inl (p8, p9.set p0.toNat x29, p10, p11))
      else
       bif (x16.Kind == 3) then
        (Qgq N p0 x14 p2 p3 p4 p5 p6 p7 p8 p9 p10 p11).bind fun x35 =>
        chk (decide (0 ≤ p0) && decide (p0.toNat < p4)) <|
        (p9[p0.toNat]?).bind fun _ =>
        some (.inl (p8, p9.set p0.toNat x35.1, x35.2, p11))
       else
        bif (x16.Kind == 4) then
         (Qej N p0 x14 p2 p3 p4 p5 p6 p7 p8 p9 p10 p11).bind fun x41 =>
         chk (decide (0 ≤ p0) && decide (p0.toNat < p4)) <|
         (p9[p0.toNat]?).bind fun _ =>
         some (.inl (x41.2.1, p9.set p0.toNat x41.1, x41.2.2.1, x41.2.2.2))
        else
         bif (x16.Kind == 5) then
          (Qgf N p0 x14 p2 p3 p4 p5 p6 p7 p8 p9 p10 p11).bind fun x47 =>
          chk (decide (0 ≤ p0) && decide (p0.toNat < p4)) <|
          (p9[p0.toNat]?).bind fun _ =>
          some (.inl (p8, p9.set p0.toNat x47.1, x47.2, p11))
         else
          bif (x16.Kind == 6) then
           (Qe1 N p0 x14 p2 p3 p4 p5 p6 p7 p8 p9 p10 p11).bind fun x53 =>
           chk (decide (0 ≤ p0) && decide (p0.toNat < p4)) <|
           (p9[p0.toNat]?).bind fun _ =>
           some (.inl (p8, p9.set p0.toNat x53, p10, p11))
          else
           none) fun k15 : Unit → Option ((Int × (List (List GStream)) × (List GLost) × (List Int)) ⊕ Int) =>
  bif (decide (x14.Mass > p1)) then
   some (.inr p0)
  else
   k15 ()
def Qef (p2 : (List GRow)) : AV := .dat 5 ((p2 : List GRow).map Qa8)
def Qdl (p3 : (List GElement)) : AV := .dat 7 ((p3 : List GElement).map Qad)
def Qee (p7 : (List GStream)) : AV := .dat 4 ((p7 : List GStream).map Qab)
def Qfr (p2 : (List GRow)) (p3 : (List GElement)) (p4 : Nat) (p5 : Nat) (p6 : Nat) (p7 : (List GStream)) (p8 : Int) : Slot := .own 7 [[(Qef p2), (Qdl p3), (.own 1 1 (0) (p4)), (.own 2 4 (0) (p5)), (.own 3 1 (0) (p6)), (Qee p7), (I (p8))]]
def Qfa (p9 : (List (List GStream))) : Slot := .own 1 ((p9 : List (List GStream)).map Qae)
def Qgo (p10 : (List GLost)) : Slot := .own 4 ((p10 : List GLost).map Qa2)
def Qfq (p11 : (List Int)) : Slot := .own 1 ((p11 : List Int).map Qam)
def Zbl : AV := .fn (.func 90) [] [(.ref 4 1 (0) 0), (.ref 5 1 (0) 0)]
def Zbm : Slot := .own 1 [[(.ref 0 7 (0) 0)]]
def Q3s (x12 : (List GStream)) : AV := .acc 6 48 4 ((x12 : List GStream).map Qab)
def Qhb (x14 : GStream) : AV := .agg [(I (x14.Mass)), (I (x14.Heat)), (I (x14.Silica)), (I (x14.Gas))]
def Qos (x14 : GStream) : Slot := .own 4 [[(I (x14.Mass)), (I (x14.Heat)), (I (x14.Silica)), (I (x14.Gas))]]
def Qk5 : Slot := .own 7 [[(.lit .nilFunc), (.fn (.func 75) [] []), (.fn (.func 75) [] []), (.fn (.func 76) [] []), (.fn (.func 77) [] []), (.fn (.func 78) [] []), (.fn (.func 75) [] [])]]
def Q3r (x23 : (List GStream)) : AV := .dat 4 ((x23 : List GStream).map Qab)
def Q3q (x29 : (List GStream)) : AV := .dat 4 ((x29 : List GStream).map Qab)
def Qy7 (x35 : ((List GStream) × (List GLost))) : Slot := .own 4 ((x35.2 : List GLost).map Qa2)
def Qy6 (p2 : (List GRow)) (p3 : (List GElement)) (p4 : Nat) (p5 : Nat) (p6 : Nat) (p7 : (List GStream)) (x41 : ((List GStream) × Int × (List GLost) × (List Int))) : Slot := .own 7 [[(Qef p2), (Qdl p3), (.own 1 1 (0) (p4)), (.own 2 4 (0) (p5)), (.own 3 1 (0) (p6)), (Qee p7), (I (x41.2.1))]]
def Qy5 (x41 : ((List GStream) × Int × (List GLost) × (List Int))) : Slot := .own 4 ((x41.2.2.1 : List GLost).map Qa2)
def Qy4 (x41 : ((List GStream) × Int × (List GLost) × (List Int))) : Slot := .own 1 ((x41.2.2.2 : List Int).map Qam)
def Qy3 (x47 : ((List GStream) × (List GLost))) : Slot := .own 4 ((x47.2 : List GLost).map Qa2)
def Q3p (x53 : (List GStream)) : AV := .dat 4 ((x53 : List GStream).map Qab)
theorem Qhl (N : Nat) (p0 : Int) (p1 : Int) (p2 : (List GRow)) (p3 : (List GElement)) (p4 : Nat) (p5 : Nat) (p6 : Nat) (p7 : (List GStream)) (p8 : Int) (p9 : (List (List GStream))) (p10 : (List GLost)) (p11 : (List Int)) (r : ((Int × (List (List GStream)) × (List GLost) × (List Int)) ⊕ Int)) (h : Qcq N p0 p1 p2 p3 p4 p5 p6 p7 p8 p9 p10 p11 = some r) : Zgu Try.prog 52 [(.ref 0 7 (0) 0), (I (p0)), (I (p1))] [(Qfr p2 p3 p4 p5 p6 p7 p8), (Qfa p9), (Qgo p10), (Qfq p11)]  ((Sum.elim (fun r => .ret (.tup []) [(.own 7 [[(.dat 5 ((p2 : List GRow).map Qa8)), (.dat 7 ((p3 : List GElement).map Qad)), (.own 1 1 (0) (p4)), (.own 2 4 (0) (p5)), (.own 3 1 (0) (p6)), (.dat 4 ((p7 : List GStream).map Qab)), (I (r.1))]]), (.own 1 ((r.2.1 : List (List GStream)).map Qae)), (.own 4 ((r.2.2.1 : List GLost).map Qa2)), (.own 1 ((r.2.2.2 : List Int).map Qam))]) (fun r => .pan (.iface 120 (.agg #[(.int .i64 (r))]))) : ((Int × (List (List GStream)) × (List GLost) × (List Int)) ⊕ Int) → Out) r) := by
  refine Qur Try.func52 rfl 4 (nle rfl) (fun X φ0 w0 hφ0 hd0 => ?_)
  unfold Qcq at h
  obtain ⟨x7, hf6, h⟩ := bno h
  obtain ⟨hz8, h⟩ := cko h
  obtain ⟨hz9, h⟩ := cko h
  obtain ⟨hz10, h⟩ := cko h
  obtain ⟨x12, hf11, h⟩ := bno h
  obtain ⟨x14, hf13, h⟩ := bno h
  refine wx tbk [(2, ⟨[fu 74, (.tmp 8, .ref 0 7 0 0), (.tmp 9, I p0)], [(0, (Qfr p2 p3 p4 p5 p6 p7 p8)), (1, (Qfa p9)), (2, (Qgo p10)), (3, (Qfq p11)), (4, .unused), (5, .unused)], Zbl, [(0, (Qfr p2 p3 p4 p5 p6 p7 p8)), (1, (Qfa p9)), (2, (Qgo p10)), (3, (Qfq p11)), (4, Zbm), (5, .own 1 [[I p0]])], false⟩), (3, ⟨[fu 73, (.tmp 10, Zbl)], [(4, Zbm), (0, (Qfr p2 p3 p4 p5 p6 p7 p8)), (1, (Qfa p9)), (2, (Qgo p10)), (3, (Qfq p11)), (5, .own 1 [[I p0]]), (6, .unused)], (Q3s x12), [(6, .tok)], false⟩), (4, rp [fu 31, (.tmp 11, (Q3s x12))] (Qhb x14))] ⟨Qaq (first := []) (cap := []) (vs := [.ref 0 7 0 0, I p0]) (σr := [(Qfr p2 p3 p4 p5 p6 p7 p8), (Qfa p9), (Qgo p10), (Qfq p11)]) (σr' := [(Qfr p2 p3 p4 p5 p6 p7 p8), (Qfa p9), (Qgo p10), (Qfq p11), Zbm, (.own 1 [[I p0]])]) (res' := Zbl) [0, 1, 2, 3, 4, 5] rfl Zd6 (Ql1 N p0 p2 p3 p4 p5 p6 p7 p8 p9 p10 p11 _ hf6) rfl (Qbn (rnc (Qbi rfl) (rnc (.plain _ nll) rn0))) (slc (Qan (rnc (.plain _ (nld Qai _)) (rnc (.plain _ (nld Qaa _)) (rnc (Qc3 rfl) (rnc (Qc3 rfl) (rnc (Qc3 rfl) (rnc (.plain _ (nld Qac _)) (rnc (.plain _ nll) rn0)))))))) (slc (Qa9 Qak) (slc (Qa9 Qaw) (slc (Qa9 Qaf) Qap)))) (slc (Qan (rnc (.plain _ (nld Qai _)) (rnc (.plain _ (nld Qaa _)) (rnc (Qdd rfl) (rnc (Qdd rfl) (rnc (Qdd rfl) (rnc (.plain _ (nld Qac _)) (rnc (.plain _ nll) rn0)))))))) (slc (Qa9 Qak) (slc (Qa9 Qaw) (slc (Qa9 Qaf) (slc (Qan (rnc (Qbl rfl) rn0)) (slc (Qan (rnc (.plain _ nll) rn0)) Qap)))))) (Qbk rn0 (rnc (Qbl rfl) (rnc (Qbl rfl) rn0))) rfl rfl rfl, Qi3 (rd' := [fu 73, (.tmp 10, (.fn (.func 90) [] [(.dptr [(.dptr [(Qef p2), (Qdl p3), (.dat 1 ((p9.take p4 : List (List GStream)).map Qae)), (.dat 4 ((p10.take p5 : List GLost).map Qa2)), (.dat 1 ((p11.take p6 : List Int).map Qam)), (Qee p7), I p8] 0)] 0), (.dptr [I p0] 0)]))]) [(4, 1, [[.ref 0 7 0 0]]), (0, 7, [[(Qef p2), (Qdl p3), (.own 1 1 (0) (p4)), (.own 2 4 (0) (p5)), (.own 3 1 (0) (p6)), (Qee p7), I p8]]), (1, 1, (p9 : List (List GStream)).map Qae), (2, 4, (p10 : List GLost).map Qa2), (3, 1, (p11 : List Int).map Qam), (5, 1, [[I p0]])] ⟨rfl, .same _, rfl, (Q9e trivial ⟨(Qno 0 rfl (lc (Qno 1 rfl (lc (.same _) (lc (.same _) (lc (Qx0 2 rfl hz8) (lc (Qx0 3 rfl hz9) (lc (Qx0 4 rfl hz10) (lc (.same _) (lc (.same _) ln)))))))) ln)), (Qno 5 rfl (lc (.same _) ln)), trivial⟩), trivial⟩ (by rfl) (.acc _ _ _ _ (nin rfl) (by simp) (Q8w Qxs _)) (Q8j .tok Qs3) (Qaq (first := []) (cap := []) (vs := [(.fn (.func 90) [] [(.dptr [(.dptr [(Qef p2), (Qdl p3), (.dat 1 ((p9.take p4 : List (List GStream)).map Qae)), (.dat 4 ((p10.take p5 : List GLost).map Qa2)), (.dat 1 ((p11.take p6 : List Int).map Qam)), (Qee p7), I p8] 0)] 0), (.dptr [I p0] 0)])]) (σr := []) (σr' := [.tok]) (res' := (Q3s x12)) [6] rfl Zd7 (Qhk N p2 p3 (p9.take p4) (p10.take p5) (p11.take p6) p7 p8 p0 _ hf11) rfl (Qbn (rnc (.plain _ (NLt.fn _ _ _ nl0 (nlc (NLt.dptr _ _ (nlc (NLt.dptr _ _ (nlc (nld Qai _) (nlc (nld Qaa _) (nlc (nld Qak _) (nlc (nld Qaw _) (nlc (nld Qaf _) (nlc (nld Qac _) (nlc nll nl0)))))))) nl0)) (nlc (NLt.dptr _ _ (nlc nll nl0)) nl0)))) rn0)) Qap (slc .tok Qap) (Q4v rfl (Qci Qac _)) rfl rfl rfl), awk (rd' := (.func 31, (.fn (.func 31) [] [])) :: [(.tmp 11, (.dat 4 ((x12 : List GStream).map Qab)))]) ⟨rfl, lrf, rfl, Less.acc, trivial⟩ (apc (first := []) (cap := []) (vs := [(.dat 4 ((x12 : List GStream).map Qab))]) rfl Qqu (Qgz N x12 _ hf13) rfl rfl (nlc (nld Qac _) nl0) (NLt.agg _ (nlc nll (nlc nll (nlc nll (nlc nll nl0))))) rfl), trivial⟩ ?_
  obtain ⟨k15, hk_k15, h⟩ := jko h
  refine wjn (τ := Unit) (fun t => k15 t = some r) (fun _ => ⟨mk 43 [(0, .ref 0 7 0 0), (1, I p0), (6, .ref 4 4 0 0)], [(Qfr p2 p3 p4 p5 p6 p7 p8), (Qfa p9), (Qgo p10), (Qfq p11), (Qos x14)]⟩) (fun t h => ?_) ?_
  ·subst hk_k15
   refine wx tbk [(0, rp [fu 75, fu 75, fu 76, fu 77, fu 78, fu 75] (.agg [(.lit .nilFunc), (.fn (.func 75) [] []), (.fn (.func 75) [] []), (.fn (.func 76) [] []), (.fn (.func 77) [] []), (.fn (.func 78) [] []), (.fn (.func 75) [] [])]))] ⟨Qo2 (vs := [(.fn (.func 75) [] []), (.fn (.func 75) [] []), (.fn (.func 76) [] []), (.fn (.func 77) [] []), (.fn (.func 78) [] []), (.fn (.func 75) [] [])]) rfl Try.underlying144 Qm6 Zfz rfl (by rfl) rfl, trivial⟩ ?_
   obtain ⟨x16, hg17, h⟩ := bno h
   obtain ⟨hi18, hj19⟩ := gsm hg17
   rcases bft ((x16.Kind == 0)) with hb20 | hb20
   ·replace h := Qa6 hb20 h
    cases h
   ·replace h := Qa7 hb20 h
    rcases bft ((x16.Kind == 1)) with hb21 | hb21
    ·replace h := Qa6 hb21 h
     obtain ⟨x23, hf22, h⟩ := bno h
     obtain ⟨hi24, h⟩ := cko h
     obtain ⟨hi24a, hi24b⟩ := Qe8 hi24
     obtain ⟨x25, hg26, h⟩ := bno h
     refine Qko [mv 0 (.ref 0 7 0 0), ⟨[(.tmp 21, .ref 0 7 0 0)], [], .ref 0 7 0 0, [], false⟩, ⟨[(.tmp 22, .ref 0 7 0 0)], [], .ref 0 7 0 2, [], false⟩, ⟨[(.tmp 23, .ref 0 7 0 2)], [], .ref 0 7 0 2, [], false⟩, ⟨[(.tmp 24, .ref 0 7 0 2)], [], (.own 1 1 (0) (p4)), [], false⟩, mv 1 (I p0), mv 0 (.ref 0 7 0 0), ⟨[(.tmp 27, .ref 0 7 0 0)], [], .ref 0 7 0 0, [], false⟩, ⟨[(.tmp 28, .ref 0 7 0 0)], [], .ref 0 7 0 0, [], false⟩, ⟨[(.tmp 29, .ref 0 7 0 0)], [], .ref 0 7 0 1, [], false⟩, ⟨[(.tmp 30, .ref 0 7 0 1)], [], (Qdl p3), [], false⟩, mv 1 (I p0), rp [(.tmp 31, (Qdl p3)), (.tmp 32, I p0)] (.dptr (Qad (x16)) 0), mv 33 (.dptr (Qad (x16)) 0), rp [(.tmp 34, (.dptr (Qad (x16)) 0))] (K .u8 (x16.Kind)), rb [(.tmp 7, .ref 5 7 0 0), (.tmp 35, (K .u8 (x16.Kind)))] [(5, Qk5)] (.ref 5 7 0 1), rb [(.tmp 36, .ref 5 7 0 1)] [(5, Qk5)] (.fn (.func 75) [] []), mv 0 (.ref 0 7 0 0), mv 1 (I p0), rb [(.tmp 6, .ref 4 4 0 0)] [(4, (Qos x14))] (Qhb x14), ⟨[(.tmp 37, (.fn (.func 75) [] [])), (.tmp 38, .ref 0 7 0 0), (.tmp 39, I p0), (.tmp 40, (Qhb x14))], [(0, (Qfr p2 p3 p4 p5 p6 p7 p8)), (1, (Qfa p9)), (2, (Qgo p10)), (3, (Qfq p11))], (Q3r x23), [(0, (Qfr p2 p3 p4 p5 p6 p7 p8)), (1, (Qfa p9)), (2, (Qgo p10)), (3, (Qfq p11))], false⟩, rb [(.tmp 25, (.own 1 1 (0) (p4))), (.tmp 26, I p0)] [(1, (Qfa p9))] (.ref 1 1 (p0.toNat) 0), ⟨[(.tmp 42, (.ref 1 1 (p0.toNat) 0)), (.tmp 41, (Q3r x23))], [(1, (Qfa p9))], .any, [(1, (.own 1 ((p9.set p0.toNat x23 : List (List GStream)).map Qae)))], false⟩] ?_ ?_
     ·exact ⟨fun _ => .hard (amv rfl), fun _ => .soft 0 (.own 7 [[(Qef p2), (Qdl p3), (.own 1 1 (0) (p4)), (.own 2 4 (0) (p5)), (.own 3 1 (0) (p6)), (Qee p7), I p8]]) (Qbc rfl) (SImp.box ⟨lrf, lrf, lrf, lrf, lrf, lrf, lrf, trivial⟩) ⟨trivial, trivial, trivial, trivial, trivial, trivial, trivial, trivial, trivial, trivial, trivial, trivial, trivial, trivial, trivial, trivial, trivial, trivial, trivial, trivial, ⟨(SImp.box ⟨lrf, lrf, lrf, lrf, lrf, lrf, lrf, trivial⟩), trivial, trivial, trivial, trivial⟩, trivial, ⟨trivial, trivial⟩, trivial⟩, fun _ => .soft 0 (.own 7 [[(Qef p2), (Qdl p3), (.own 1 1 (0) (p4)), (.own 2 4 (0) (p5)), (.own 3 1 (0) (p6)), (Qee p7), I p8]]) (afa rfl Try.underlying93 rfl rfl ti34 (by decide) rfl) (SImp.box ⟨lrf, lrf, lrf, lrf, lrf, lrf, lrf, trivial⟩) ⟨trivial, trivial, trivial, trivial, trivial, trivial, trivial, trivial, trivial, trivial, trivial, trivial, trivial, trivial, trivial, trivial, trivial, trivial, trivial, trivial, ⟨(SImp.box ⟨lrf, lrf, lrf, lrf, lrf, lrf, lrf, trivial⟩), trivial, trivial, trivial, trivial⟩, trivial, ⟨trivial, trivial⟩, trivial⟩, fun _ => .soft 0 (.own 7 [[(Qef p2), (Qdl p3), (.own 1 1 (0) (p4)), (.own 2 4 (0) (p5)), (.own 3 1 (0) (p6)), (Qee p7), I p8]]) (afa rfl Try.underlying34 rfl rfl ti31 (by decide) rfl) (SImp.box ⟨lrf, lrf, lrf, lrf, lrf, lrf, lrf, trivial⟩) ⟨trivial, trivial, trivial, trivial, trivial, trivial, trivial, trivial, trivial, trivial, trivial, trivial, trivial, trivial, trivial, trivial, trivial, trivial, trivial, trivial, ⟨(SImp.box ⟨lrf, lrf, lrf, lrf, lrf, lrf, lrf, trivial⟩), trivial, trivial, trivial, trivial⟩, trivial, ⟨trivial, trivial⟩, trivial⟩, fun _ => .soft 0 (.own 7 [[(Qef p2), (Qdl p3), (.own 1 1 (0) (p4)), (.own 2 4 (0) (p5)), (.own 3 1 (0) (p6)), (Qee p7), I p8]]) (ald rfl ti31 (by decide) rfl (nle rfl) rfl) (SImp.box ⟨lrf, lrf, lrf, lrf, lrf, lrf, lrf, trivial⟩) ⟨trivial, trivial, trivial, trivial, trivial, trivial, trivial, trivial, trivial, trivial, trivial, trivial, trivial, trivial, trivial, trivial, trivial, trivial, trivial, trivial, ⟨(SImp.box ⟨lrf, lrf, lrf, lrf, lrf, lrf, lrf, trivial⟩), trivial, trivial, trivial, trivial⟩, trivial, ⟨trivial, trivial⟩, trivial⟩, fun _ => .hard (amv rfl), fun _ => .hard (amv rfl), fun _ => .soft 0 (.own 7 [[(Qef p2), (Qdl p3), (.own 1 1 (0) (p4)), (.own 2 4 (0) (p5)), (.own 3 1 (0) (p6)), (Qee p7), I p8]]) (Qbc rfl) (SImp.box ⟨lrf, lrf, lrf, lrf, lrf, lrf, lrf, trivial⟩) ⟨trivial, trivial, trivial, trivial, trivial, trivial, trivial, trivial, trivial, trivial, trivial, trivial, trivial, trivial, trivial, trivial, trivial, trivial, trivial, trivial, ⟨(SImp.box ⟨lrf, lrf, lrf, lrf, lrf, lrf, lrf, trivial⟩), trivial, trivial, trivial, trivial⟩, trivial, ⟨trivial, trivial⟩, trivial⟩, fun _ => .soft 0 (.own 7 [[(Qef p2), (Qdl p3), (.own 1 1 (0) (p4)), (.own 2 4 (0) (p5)), (.own 3 1 (0) (p6)), (Qee p7), I p8]]) (afa rfl Try.underlying93 rfl rfl ti42 (by decide) rfl) (SImp.box ⟨lrf, lrf, lrf, lrf, lrf, lrf, lrf, trivial⟩) ⟨trivial, trivial, trivial, trivial, trivial, trivial, trivial, trivial, trivial, trivial, trivial, trivial, trivial, trivial, trivial, trivial, trivial, trivial, trivial, trivial, ⟨(SImp.box ⟨lrf, lrf, lrf, lrf, lrf, lrf, lrf, trivial⟩), trivial, trivial, trivial, trivial⟩, trivial, ⟨trivial, trivial⟩, trivial⟩, fun _ => .soft 0 (.own 7 [[(Qef p2), (Qdl p3), (.own 1 1 (0) (p4)), (.own 2 4 (0) (p5)), (.own 3 1 (0) (p6)), (Qee p7), I p8]]) (afa rfl Try.underlying42 rfl rfl ti40 (by decide) rfl) (SImp.box ⟨lrf, lrf, lrf, lrf, lrf, lrf, lrf, trivial⟩) ⟨trivial, trivial, trivial, trivial, trivial, trivial, trivial, trivial, trivial, trivial, trivial, trivial, trivial, trivial, trivial, trivial, trivial, trivial, trivial, trivial, ⟨(SImp.box ⟨lrf, lrf, lrf, lrf, lrf, lrf, lrf, trivial⟩), trivial, trivial, trivial, trivial⟩, trivial, ⟨trivial, trivial⟩, trivial⟩, fun _ => .soft 0 (.own 7 [[(Qef p2), (Qdl p3), (.own 1 1 (0) (p4)), (.own 2 4 (0) (p5)), (.own 3 1 (0) (p6)), (Qee p7), I p8]]) (ald rfl ti40 (by decide) rfl (nle rfl) rfl) (SImp.box ⟨lrf, lrf, lrf, lrf, lrf, lrf, lrf, trivial⟩) ⟨trivial, trivial, trivial, trivial, trivial, trivial, trivial, trivial, trivial, trivial, trivial, trivial, trivial, trivial, trivial, trivial, trivial, trivial, trivial, trivial, ⟨(SImp.box ⟨lrf, lrf, lrf, lrf, lrf, lrf, lrf, trivial⟩), trivial, trivial, trivial, trivial⟩, trivial, ⟨trivial, trivial⟩, trivial⟩, fun _ => .hard (amv rfl), fun _ => .hard (aid rfl Try.underlying40 ti76 rfl rfl hi18 (mgt Qad hj19) rfl), fun _ => .hard (afd rfl Try.underlying76 rfl rfl ti5 (by decide) rfl), fun _ => .hard (ald_ rfl ti5 (by decide) (nle rfl) rfl), fun _ => .hard (Qi7 hb21 (Qi8 rfl Try.underlying144 Qm6 (by decide) (by decide) rfl)), fun _ => .hard (ald rfl Qm6 (by decide) rfl (nle rfl) rfl), fun _ => .hard (amv rfl), fun _ => .hard (amv rfl), fun _ => .hard (ald rfl ti48 (by decide) rfl (nle rfl) rfl), fun _ => .hard (Qaq (first := []) (cap := []) (vs := [.ref 0 7 0 0, I p0, (Qhb x14)]) (σr := [(Qfr p2 p3 p4 p5 p6 p7 p8), (Qfa p9), (Qgo p10), (Qfq p11)]) (σr' := [(Qfr p2 p3 p4 p5 p6 p7 p8), (Qfa p9), (Qgo p10), (Qfq p11)]) (res' := (Q3r x23)) [0, 1, 2, 3] rfl Qxw (Qgx N p0 x14 p2 p3 p4 p5 p6 p7 p8 p9 p10 p11 _ hf22) rfl (Qbn (rnc (Qbi rfl) (rnc (.plain _ nll) (rnc (.plain _ (NLt.agg _ (nlc nll (nlc nll (nlc nll (nlc nll nl0)))))) rn0)))) (slc (Qan (rnc (.plain _ (nld Qai _)) (rnc (.plain _ (nld Qaa _)) (rnc (Qc3 rfl) (rnc (Qc3 rfl) (rnc (Qc3 rfl) (rnc (.plain _ (nld Qac _)) (rnc (.plain _ nll) rn0)))))))) (slc (Qa9 Qak) (slc (Qa9 Qaw) (slc (Qa9 Qaf) Qap)))) (slc (Qan (rnc (.plain _ (nld Qai _)) (rnc (.plain _ (nld Qaa _)) (rnc (Qdd rfl) (rnc (Qdd rfl) (rnc (Qdd rfl) (rnc (.plain _ (nld Qac _)) (rnc (.plain _ nll) rn0)))))))) (slc (Qa9 Qak) (slc (Qa9 Qaw) (slc (Qa9 Qaf) Qap)))) (.plain _ (nld Qac _)) rfl rfl rfl), fun _ => .hard (aio rfl Try.underlying31 ti45 (odt hi24a) (odt hi24b) (Nat.zero_add _)), fun _ => .hard (ast rfl ti45 (by rfl) (mgt Qae hg26) (nle rfl) (Qgw Qae rfl)), trivial⟩
     obtain rfl := osi h
     exact ⟨_, (mto (n := 43) (l' := []) (own' := [(Qfr p2 p3 p4 p5 p6 p7 p8), (.own 1 (((p9.set p0.toNat x23) : List (List GStream)).map Qae)), (Qgo p10), (Qfq p11)]) [] [0, 1, 2, 3] [(Qfr p2 p3 p4 p5 p6 p7 p8), (.own 1 ((p9.set p0.toNat x23 : List (List GStream)).map Qae)), (Qgo p10), (Qfq p11)] hφ0 pn (qc (spb (lc (.rn (.plain _ (nld Qai _))) (lc (.rn (.plain _ (nld Qaa _))) (lc (.rn (Qba rfl)) (lc (.rn (Qba rfl)) (lc (.rn (Qba rfl)) (lc (.rn (.plain _ (nld Qac _))) (lc rwl ln)))))))) (qc (spr Qak) (qc (spr Qaw) (qc (spr Qaf) qn))))), Qjz (vs := []) trivial rfl (NLt.tup _ nl0) (by kernel_rfl) (Qal (Qbd (nlc (NLt.of0 (nld Qai _)) (nlc (NLt.of0 (nld Qaa _)) (nlc (NLt.own _ _ _ _ (by decide)) (nlc (NLt.own _ _ _ _ (by decide)) (nlc (NLt.own _ _ _ _ (by decide)) (nlc (NLt.of0 (nld Qac _)) (nlc (NLt.of0 nll) nl0)))))))) (Qal (Qcf Qak _) (Qal (Qcf Qaw _) (Qal (Qcf Qaf _) Qbr))))⟩
    ·replace h := Qa7 hb21 h
     rcases bft ((x16.Kind == 2)) with hb27 | hb27
     ·replace h := Qa6 hb27 h
      obtain ⟨x29, hf28, h⟩ := bno h
      obtain ⟨hi30, h⟩ := cko h
      obtain ⟨hi30a, hi30b⟩ := Qe8 hi30
      obtain ⟨x31, hg32, h⟩ := bno h
      refine Qko [mv 0 (.ref 0 7 0 0), ⟨[(.tmp 21, .ref 0 7 0 0)], [], .ref 0 7 0 0, [], false⟩, ⟨[(.tmp 22, .ref 0 7 0 0)], [], .ref 0 7 0 2, [], false⟩, ⟨[(.tmp 23, .ref 0 7 0 2)], [], .ref 0 7 0 2, [], false⟩, ⟨[(.tmp 24, .ref 0 7 0 2)], [], (.own 1 1 (0) (p4)), [], false⟩, mv 1 (I p0), mv 0 (.ref 0 7 0 0), ⟨[(.tmp 27, .ref 0 7 0 0)], [], .ref 0 7 0 0, [], false⟩, ⟨[(.tmp 28, .ref 0 7 0 0)], [], .ref 0 7 0 0, [], false⟩, ⟨[(.tmp 29, .ref 0 7 0 0)], [], .ref 0 7 0 1, [], false⟩, ⟨[(.tmp 30, .ref 0 7 0 1)], [], (Qdl p3), [], false⟩, mv 1 (I p0), rp [(.tmp 31, (Qdl p3)), (.tmp 32, I p0)] (.dptr (Qad (x16)) 0), mv 33 (.dptr (Qad (x16)) 0), rp [(.tmp 34, (.dptr (Qad (x16)) 0))] (K .u8 (x16.Kind)), rb [(.tmp 7, .ref 5 7 0 0), (.tmp 35, (K .u8 (x16.Kind)))] [(5, Qk5)] (.ref 5 7 0 2), rb [(.tmp 36, .ref 5 7 0 2)] [(5, Qk5)] (.fn (.func 75) [] []), mv 0 (.ref 0 7 0 0), mv 1 (I p0), rb [(.tmp 6, .ref 4 4 0 0)] [(4, (Qos x14))] (Qhb x14), ⟨[(.tmp 37, (.fn (.func 75) [] [])), (.tmp 38, .ref 0 7 0 0), (.tmp 39, I p0), (.tmp 40, (Qhb x14))], [(0, (Qfr p2 p3 p4 p5 p6 p7 p8)), (1, (Qfa p9)), (2, (Qgo p10)), (3, (Qfq p11))], (Q3q x29), [(0, (Qfr p2 p3 p4 p5 p6 p7 p8)), (1, (Qfa p9)), (2, (Qgo p10)), (3, (Qfq p11))], false⟩, rb [(.tmp 25, (.own 1 1 (0) (p4))), (.tmp 26, I p0)] [(1, (Qfa p9))] (.ref 1 1 (p0.toNat) 0), ⟨[(.tmp 42, (.ref 1 1 (p0.toNat) 0)), (.tmp 41, (Q3q x29))], [(1, (Qfa p9))], .any, [(1, (.own 1 ((p9.set p0.toNat x29 : List (List GStream)).map Qae)))], false⟩] ?_ ?_
      ·exact ⟨fun _ => .hard (amv rfl), fun _ => .soft 0 (.own 7 [[(Qef p2), (Qdl p3), (.own 1 1 (0) (p4)), (.own 2 4 (0) (p5)), (.own 3 1 (0) (p6)), (Qee p7), I p8]]) (Qbc rfl) (SImp.box ⟨lrf, lrf, lrf, lrf, lrf, lrf, lrf, trivial⟩) ⟨trivial, trivial, trivial, trivial, trivial, trivial, trivial, trivial, trivial, trivial, trivial, trivial, trivial, trivial, trivial, trivial, trivial, trivial, trivial, trivial, ⟨(SImp.box ⟨lrf, lrf, lrf, lrf, lrf, lrf, lrf, trivial⟩), trivial, trivial, trivial, trivial⟩, trivial, ⟨trivial, trivial⟩, trivial⟩, fun _ => .soft 0 (.own 7 [[(Qef p2), (Qdl p3), (.own 1 1 (0) (p4)), (.own 2 4 (0) (p5)), (.own 3 1 (0) (p6)), (Qee p7), I p8]]) (afa rfl Try.underlying93 rfl rfl ti34 (by decide) rfl) (SImp.box ⟨lrf, lrf, lrf, lrf, lrf, lrf, lrf, trivial⟩) ⟨trivial, trivial, trivial, trivial, trivial, trivial, trivial, trivial, trivial, trivial, trivial, trivial, trivial, trivial, trivial, trivial, trivial, trivial, trivial, trivial, ⟨(SImp.box ⟨lrf, lrf, lrf, lrf, lrf, lrf, lrf, trivial⟩), trivial, trivial, trivial, trivial⟩, trivial, ⟨trivial, trivial⟩, trivial⟩, fun _ => .soft 0 (.own 7 [[(Qef p2), (Qdl p3), (.own 1 1 (0) (p4)), (.own 2 4 (0) (p5)), (.own 3 1 (0) (p6)), (Qee p7), I p8]]) (afa rfl Try.underlying34 rfl rfl ti31 (by decide) rfl) (SImp.box ⟨lrf, lrf, lrf, lrf, lrf, lrf, lrf, trivial⟩) ⟨trivial, trivial, trivial, trivial, trivial, trivial, trivial, trivial, trivial, trivial, trivial, trivial, trivial, trivial, trivial, trivial, trivial, trivial, trivial, trivial, ⟨(SImp.box ⟨lrf, lrf, lrf, lrf, lrf, lrf, lrf, trivial⟩), trivial, trivial, trivial, trivial⟩, trivial, ⟨trivial, trivial⟩, trivial⟩, fun _ => .soft 0 (.own 7 [[(Qef p2), (Qdl p3), (.own 1 1 (0) (p4)), (.own 2 4 (0) (p5)), (.own 3 1 (0) (p6)), (Qee p7), I p8]]) (ald rfl ti31 (by decide) rfl (nle rfl) rfl) (SImp.box ⟨lrf, lrf, lrf, lrf, lrf, lrf, lrf, trivial⟩) ⟨trivial, trivial, trivial, trivial, trivial, trivial, trivial, trivial, trivial, trivial, trivial, trivial, trivial, trivial, trivial, trivial, trivial, trivial, trivial, trivial, ⟨(SImp.box ⟨lrf, lrf, lrf, lrf, lrf, lrf, lrf, trivial⟩), trivial, trivial, trivial, trivial⟩, trivial, ⟨trivial, trivial⟩, trivial⟩, fun _ => .hard (amv rfl), fun _ => .hard (amv rfl), fun _ => .soft 0 (.own 7 [[(Qef p2), (Qdl p3), (.own 1 1 (0) (p4)), (.own 2 4 (0) (p5)), (.own 3 1 (0) (p6)), (Qee p7), I p8]]) (Qbc rfl) (SImp.box ⟨lrf, lrf, lrf, lrf, lrf, lrf, lrf, trivial⟩) ⟨trivial, trivial, trivial, trivial, trivial, trivial, trivial, trivial, trivial, trivial, trivial, trivial, trivial, trivial, trivial, trivial, trivial, trivial, trivial, trivial, ⟨(SImp.box ⟨lrf, lrf, lrf, lrf, lrf, lrf, lrf, trivial⟩), trivial, trivial, trivial, trivial⟩, trivial, ⟨trivial, trivial⟩, trivial⟩, fun _ => .soft 0 (.own 7 [[(Qef p2), (Qdl p3), (.own 1 1 (0) (p4)), (.own 2 4 (0) (p5)), (.own 3 1 (0) (p6)), (Qee p7), I p8]]) (afa rfl Try.underlying93 rfl rfl ti42 (by decide) rfl) (SImp.box ⟨lrf, lrf, lrf, lrf, lrf, lrf, lrf, trivial⟩) ⟨trivial, trivial, trivial, trivial, trivial, trivial, trivial, trivial, trivial, trivial, trivial, trivial, trivial, trivial, trivial, trivial, trivial, trivial, trivial, trivial, ⟨(SImp.box ⟨lrf, lrf, lrf, lrf, lrf, lrf, lrf, trivial⟩), trivial, trivial, trivial, trivial⟩, trivial, ⟨trivial, trivial⟩, trivial⟩, fun _ => .soft 0 (.own 7 [[(Qef p2), (Qdl p3), (.own 1 1 (0) (p4)), (.own 2 4 (0) (p5)), (.own 3 1 (0) (p6)), (Qee p7), I p8]]) (afa rfl Try.underlying42 rfl rfl ti40 (by decide) rfl) (SImp.box ⟨lrf, lrf, lrf, lrf, lrf, lrf, lrf, trivial⟩) ⟨trivial, trivial, trivial, trivial, trivial, trivial, trivial, trivial, trivial, trivial, trivial, trivial, trivial, trivial, trivial, trivial, trivial, trivial, trivial, trivial, ⟨(SImp.box ⟨lrf, lrf, lrf, lrf, lrf, lrf, lrf, trivial⟩), trivial, trivial, trivial, trivial⟩, trivial, ⟨trivial, trivial⟩, trivial⟩, fun _ => .soft 0 (.own 7 [[(Qef p2), (Qdl p3), (.own 1 1 (0) (p4)), (.own 2 4 (0) (p5)), (.own 3 1 (0) (p6)), (Qee p7), I p8]]) (ald rfl ti40 (by decide) rfl (nle rfl) rfl) (SImp.box ⟨lrf, lrf, lrf, lrf, lrf, lrf, lrf, trivial⟩) ⟨trivial, trivial, trivial, trivial, trivial, trivial, trivial, trivial, trivial, trivial, trivial, trivial, trivial, trivial, trivial, trivial, trivial, trivial, trivial, trivial, ⟨(SImp.box ⟨lrf, lrf, lrf, lrf, lrf, lrf, lrf, trivial⟩), trivial, trivial, trivial, trivial⟩, trivial, ⟨trivial, trivial⟩, trivial⟩, fun _ => .hard (amv rfl), fun _ => .hard (aid rfl Try.underlying40 ti76 rfl rfl hi18 (mgt Qad hj19) rfl), fun _ => .hard (afd rfl Try.underlying76 rfl rfl ti5 (by decide) rfl), fun _ => .hard (ald_ rfl ti5 (by decide) (nle rfl) rfl), fun _ => .hard (Qi7 hb27 (Qi8 rfl Try.underlying144 Qm6 (by decide) (by decide) rfl)), fun _ => .hard (ald rfl Qm6 (by decide) rfl (nle rfl) rfl), fun _ => .hard (amv rfl), fun _ => .hard (amv rfl), fun _ => .hard (ald rfl ti48 (by decide) rfl (nle rfl) rfl), fun _ => .hard (Qaq (first := []) (cap := []) (vs := [.ref 0 7 0 0, I p0, (Qhb x14)]) (σr := [(Qfr p2 p3 p4 p5 p6 p7 p8), (Qfa p9), (Qgo p10), (Qfq p11)]) (σr' := [(Qfr p2 p3 p4 p5 p6 p7 p8), (Qfa p9), (Qgo p10), (Qfq p11)]) (res' := (Q3q x29)) [0, 1, 2, 3] rfl Qxw (Qgx N p0 x14 p2 p3 p4 p5 p6 p7 p8 p9 p10 p11 _ hf28) rfl (Qbn (rnc (Qbi rfl) (rnc (.plain _ nll) (rnc (.plain _ (NLt.agg _ (nlc nll (nlc nll (nlc nll (nlc nll nl0)))))) rn0)))) (slc (Qan (rnc (.plain _ (nld Qai _)) (rnc (.plain _ (nld Qaa _)) (rnc (Qc3 rfl) (rnc (Qc3 rfl) (rnc (Qc3 rfl) (rnc (.plain _ (nld Qac _)) (rnc (.plain _ nll) rn0)))))))) (slc (Qa9 Qak) (slc (Qa9 Qaw) (slc (Qa9 Qaf) Qap)))) (slc (Qan (rnc (.plain _ (nld Qai _)) (rnc (.plain _ (nld Qaa _)) (rnc (Qdd rfl) (rnc (Qdd rfl) (rnc (Qdd rfl) (rnc (.plain _ (nld Qac _)) (rnc (.plain _ nll) rn0)))))))) (slc (Qa9 Qak) (slc (Qa9 Qaw) (slc (Qa9 Qaf) Qap)))) (.plain _ (nld Qac _)) rfl rfl rfl), fun _ => .hard (aio rfl Try.underlying31 ti45 (odt hi30a) (odt hi30b) (Nat.zero_add _)), fun _ => .hard (ast rfl ti45 (by rfl) (mgt Qae hg32) (nle rfl) (Qgw Qae rfl)), trivial⟩
      obtain rfl := osi h
      exact ⟨_, (mto (n := 43) (l' := []) (own' := [(Qfr p2 p3 p4 p5 p6 p7 p8), (.own 1 (((p9.set p0.toNat x29) : List (List GStream)).map Qae)), (Qgo p10), (Qfq p11)]) [] [0, 1, 2, 3] [(Qfr p2 p3 p4 p5 p6 p7 p8), (.own 1 ((p9.set p0.toNat x29 : List (List GStream)).map Qae)), (Qgo p10), (Qfq p11)] hφ0 pn (qc (spb (lc (.rn (.plain _ (nld Qai _))) (lc (.rn (.plain _ (nld Qaa _))) (lc (.rn (Qba rfl)) (lc (.rn (Qba rfl)) (lc (.rn (Qba rfl)) (lc (.rn (.plain _ (nld Qac _))) (lc rwl ln)))))))) (qc (spr Qak) (qc (spr Qaw) (qc (spr Qaf) qn))))), Qjz (vs := []) trivial rfl (NLt.tup _ nl0) (by kernel_rfl) (Qal (Qbd (nlc (NLt.of0 (nld Qai _)) (nlc (NLt.of0 (nld Qaa _)) (nlc (NLt.own _ _ _ _ (by decide)) (nlc (NLt.own _ _ _ _ (by decide)) (nlc (NLt.own _ _ _ _ (by decide)) (nlc (NLt.of0 (nld Qac _)) (nlc (NLt.of0 nll) nl0)))))))) (Qal (Qcf Qak _) (Qal (Qcf Qaw _) (Qal (Qcf Qaf _) Qbr))))⟩
     ·replace h := Qa7 hb27 h
      rcases bft ((x16.Kind == 3)) with hb33 | hb33
      ·replace h := Qa6 hb33 h
       obtain ⟨x35, hf34, h⟩ := bno h
       obtain ⟨hi36, h⟩ := cko h
       obtain ⟨hi36a, hi36b⟩ := Qe8 hi36
       obtain ⟨x37, hg38, h⟩ := bno h
       refine Qko [mv 0 (.ref 0 7 0 0), ⟨[(.tmp 21, .ref 0 7 0 0)], [], .ref 0 7 0 0, [], false⟩, ⟨[(.tmp 22, .ref 0 7 0 0)], [], .ref 0 7 0 2, [], false⟩, ⟨[(.tmp 23, .ref 0 7 0 2)], [], .ref 0 7 0 2, [], false⟩, ⟨[(.tmp 24, .ref 0 7 0 2)], [], (.own 1 1 (0) (p4)), [], false⟩, mv 1 (I p0), mv 0 (.ref 0 7 0 0), ⟨[(.tmp 27, .ref 0 7 0 0)], [], .ref 0 7 0 0, [], false⟩, ⟨[(.tmp 28, .ref 0 7 0 0)], [], .ref 0 7 0 0, [], false⟩, ⟨[(.tmp 29, .ref 0 7 0 0)], [], .ref 0 7 0 1, [], false⟩, ⟨[(.tmp 30, .ref 0 7 0 1)], [], (Qdl p3), [], false⟩, mv 1 (I p0), rp [(.tmp 31, (Qdl p3)), (.tmp 32, I p0)] (.dptr (Qad (x16)) 0), mv 33 (.dptr (Qad (x16)) 0), rp [(.tmp 34, (.dptr (Qad (x16)) 0))] (K .u8 (x16.Kind)), rb [(.tmp 7, .ref 5 7 0 0), (.tmp 35, (K .u8 (x16.Kind)))] [(5, Qk5)] (.ref 5 7 0 3), rb [(.tmp 36, .ref 5 7 0 3)] [(5, Qk5)] (.fn (.func 76) [] []), mv 0 (.ref 0 7 0 0), mv 1 (I p0), rb [(.tmp 6, .ref 4 4 0 0)] [(4, (Qos x14))] (Qhb x14), ⟨[(.tmp 37, (.fn (.func 76) [] [])), (.tmp 38, .ref 0 7 0 0), (.tmp 39, I p0), (.tmp 40, (Qhb x14))], [(0, (Qfr p2 p3 p4 p5 p6 p7 p8)), (1, (Qfa p9)), (2, (Qgo p10)), (3, (Qfq p11))], (.dat 4 ((x35.1 : List GStream).map Qab)), [(0, (Qfr p2 p3 p4 p5 p6 p7 p8)), (1, (Qfa p9)), (2, (Qy7 x35)), (3, (Qfq p11))], false⟩, rb [(.tmp 25, (.own 1 1 (0) (p4))), (.tmp 26, I p0)] [(1, (Qfa p9))] (.ref 1 1 (p0.toNat) 0), ⟨[(.tmp 42, (.ref 1 1 (p0.toNat) 0)), (.tmp 41, (.dat 4 ((x35.1 : List GStream).map Qab)))], [(1, (Qfa p9))], .any, [(1, (.own 1 ((p9.set p0.toNat x35.1 : List (List GStream)).map Qae)))], false⟩] ?_ ?_
       ·exact ⟨fun _ => .hard (amv rfl), fun _ => .soft 0 (.own 7 [[(Qef p2), (Qdl p3), (.own 1 1 (0) (p4)), (.own 2 4 (0) (p5)), (.own 3 1 (0) (p6)), (Qee p7), I p8]]) (Qbc rfl) (SImp.box ⟨lrf, lrf, lrf, lrf, lrf, lrf, lrf, trivial⟩) ⟨trivial, trivial, trivial, trivial, trivial, trivial, trivial, trivial, trivial, trivial, trivial, trivial, trivial, trivial, trivial, trivial, trivial, trivial, trivial, trivial, ⟨(SImp.box ⟨lrf, lrf, lrf, lrf, lrf, lrf, lrf, trivial⟩), trivial, trivial, trivial, trivial⟩, trivial, ⟨trivial, trivial⟩, trivial⟩, fun _ => .soft 0 (.own 7 [[(Qef p2), (Qdl p3), (.own 1 1 (0) (p4)), (.own 2 4 (0) (p5)), (.own 3 1 (0) (p6)), (Qee p7), I p8]]) (afa rfl Try.underlying93 rfl rfl ti34 (by decide) rfl) (SImp.box ⟨lrf, lrf, lrf, lrf, lrf, lrf, lrf, trivial⟩) ⟨trivial, trivial, trivial, trivial, trivial, trivial, trivial, trivial, trivial, trivial, trivial, trivial, trivial, trivial, trivial, trivial, trivial, trivial, trivial, trivial, ⟨(SImp.box ⟨lrf, lrf, lrf, lrf, lrf, lrf, lrf, trivial⟩), trivial, trivial, trivial, trivial⟩, trivial, ⟨trivial, trivial⟩, trivial⟩, fun _ => .soft 0 (.own 7 [[(Qef p2), (Qdl p3), (.own 1 1 (0) (p4)), (.own 2 4 (0) (p5)), (.own 3 1 (0) (p6)), (Qee p7), I p8]]) (afa rfl Try.underlying34 rfl rfl ti31 (by decide) rfl) (SImp.box ⟨lrf, lrf, lrf, lrf, lrf, lrf, lrf, trivial⟩) ⟨trivial, trivial, trivial, trivial, trivial, trivial, trivial, trivial, trivial, trivial, trivial, trivial, trivial, trivial, trivial, trivial, trivial, trivial, trivial, trivial, ⟨(SImp.box ⟨lrf, lrf, lrf, lrf, lrf, lrf, lrf, trivial⟩), trivial, trivial, trivial, trivial⟩, trivial, ⟨trivial, trivial⟩, trivial⟩, fun _ => .soft 0 (.own 7 [[(Qef p2), (Qdl p3), (.own 1 1 (0) (p4)), (.own 2 4 (0) (p5)), (.own 3 1 (0) (p6)), (Qee p7), I p8]]) (ald rfl ti31 (by decide) rfl (nle rfl) rfl) (SImp.box ⟨lrf, lrf, lrf, lrf, lrf, lrf, lrf, trivial⟩) ⟨trivial, trivial, trivial, trivial, trivial, trivial, trivial, trivial, trivial, trivial, trivial, trivial, trivial, trivial, trivial, trivial, trivial, trivial, trivial, trivial, ⟨(SImp.box ⟨lrf, lrf, lrf, lrf, lrf, lrf, lrf, trivial⟩), trivial, trivial, trivial, trivial⟩, trivial, ⟨trivial, trivial⟩, trivial⟩, fun _ => .hard (amv rfl), fun _ => .hard (amv rfl), fun _ => .soft 0 (.own 7 [[(Qef p2), (Qdl p3), (.own 1 1 (0) (p4)), (.own 2 4 (0) (p5)), (.own 3 1 (0) (p6)), (Qee p7), I p8]]) (Qbc rfl) (SImp.box ⟨lrf, lrf, lrf, lrf, lrf, lrf, lrf, trivial⟩) ⟨trivial, trivial, trivial, trivial, trivial, trivial, trivial, trivial, trivial, trivial, trivial, trivial, trivial, trivial, trivial, trivial, trivial, trivial, trivial, trivial, ⟨(SImp.box ⟨lrf, lrf, lrf, lrf, lrf, lrf, lrf, trivial⟩), trivial, trivial, trivial, trivial⟩, trivial, ⟨trivial, trivial⟩, trivial⟩, fun _ => .soft 0 (.own 7 [[(Qef p2), (Qdl p3), (.own 1 1 (0) (p4)), (.own 2 4 (0) (p5)), (.own 3 1 (0) (p6)), (Qee p7), I p8]]) (afa rfl Try.underlying93 rfl rfl ti42 (by decide) rfl) (SImp.box ⟨lrf, lrf, lrf, lrf, lrf, lrf, lrf, trivial⟩) ⟨trivial, trivial, trivial, trivial, trivial, trivial, trivial, trivial, trivial, trivial, trivial, trivial, trivial, trivial, trivial, trivial, trivial, trivial, trivial, trivial, ⟨(SImp.box ⟨lrf, lrf, lrf, lrf, lrf, lrf, lrf, trivial⟩), trivial, trivial, trivial, trivial⟩, trivial, ⟨trivial, trivial⟩, trivial⟩, fun _ => .soft 0 (.own 7 [[(Qef p2), (Qdl p3), (.own 1 1 (0) (p4)), (.own 2 4 (0) (p5)), (.own 3 1 (0) (p6)), (Qee p7), I p8]]) (afa rfl Try.underlying42 rfl rfl ti40 (by decide) rfl) (SImp.box ⟨lrf, lrf, lrf, lrf, lrf, lrf, lrf, trivial⟩) ⟨trivial, trivial, trivial, trivial, trivial, trivial, trivial, trivial, trivial, trivial, trivial, trivial, trivial, trivial, trivial, trivial, trivial, trivial, trivial, trivial, ⟨(SImp.box ⟨lrf, lrf, lrf, lrf, lrf, lrf, lrf, trivial⟩), trivial, trivial, trivial, trivial⟩, trivial, ⟨trivial, trivial⟩, trivial⟩, fun _ => .soft 0 (.own 7 [[(Qef p2), (Qdl p3), (.own 1 1 (0) (p4)), (.own 2 4 (0) (p5)), (.own 3 1 (0) (p6)), (Qee p7), I p8]]) (ald rfl ti40 (by decide) rfl (nle rfl) rfl) (SImp.box ⟨lrf, lrf, lrf, lrf, lrf, lrf, lrf, trivial⟩) ⟨trivial, trivial, trivial, trivial, trivial, trivial, trivial, trivial, trivial, trivial, trivial, trivial, trivial, trivial, trivial, trivial, trivial, trivial, trivial, trivial, ⟨(SImp.box ⟨lrf, lrf, lrf, lrf, lrf, lrf, lrf, trivial⟩), trivial, trivial, trivial, trivial⟩, trivial, ⟨trivial, trivial⟩, trivial⟩, fun _ => .hard (amv rfl), fun _ => .hard (aid rfl Try.underlying40 ti76 rfl rfl hi18 (mgt Qad hj19) rfl), fun _ => .hard (afd rfl Try.underlying76 rfl rfl ti5 (by decide) rfl), fun _ => .hard (ald_ rfl ti5 (by decide) (nle rfl) rfl), fun _ => .hard (Qi7 hb33 (Qi8 rfl Try.underlying144 Qm6 (by decide) (by decide) rfl)), fun _ => .hard (ald rfl Qm6 (by decide) rfl (nle rfl) rfl), fun _ => .hard (amv rfl), fun _ => .hard (amv rfl), fun _ => .hard (ald rfl ti48 (by decide) rfl (nle rfl) rfl), fun _ => .hard (Qaq (first := []) (cap := []) (vs := [.ref 0 7 0 0, I p0, (Qhb x14)]) (σr := [(Qfr p2 p3 p4 p5 p6 p7 p8), (Qfa p9), (Qgo p10), (Qfq p11)]) (σr' := [(Qfr p2 p3 p4 p5 p6 p7 p8), (Qfa p9), (Qy7 x35), (Qfq p11)]) (res' := (.dat 4 ((x35.1 : List GStream).map Qab))) [0, 1, 2, 3] rfl Zd5 (Ql2 N p0 x14 p2 p3 p4 p5 p6 p7 p8 p9 p10 p11 _ hf34) rfl (Qbn (rnc (Qbi rfl) (rnc (.plain _ nll) (rnc (.plain _ (NLt.agg _ (nlc nll (nlc nll (nlc nll (nlc nll nl0)))))) rn0)))) (slc (Qan (rnc (.plain _ (nld Qai _)) (rnc (.plain _ (nld Qaa _)) (rnc (Qc3 rfl) (rnc (Qc3 rfl) (rnc (Qc3 rfl) (rnc (.plain _ (nld Qac _)) (rnc (.plain _ nll) rn0)))))))) (slc (Qa9 Qak) (slc (Qa9 Qaw) (slc (Qa9 Qaf) Qap)))) (slc (Qan (rnc (.plain _ (nld Qai _)) (rnc (.plain _ (nld Qaa _)) (rnc (Qdd rfl) (rnc (Qdd rfl) (rnc (Qdd rfl) (rnc (.plain _ (nld Qac _)) (rnc (.plain _ nll) rn0)))))))) (slc (Qa9 Qak) (slc (Qa9 Qaw) (slc (Qa9 Qaf) Qap)))) (.plain _ (nld Qac _)) rfl rfl rfl), fun _ => .hard (aio rfl Try.underlying31 ti45 (odt hi36a) (odt hi36b) (Nat.zero_add _)), fun _ => .hard (ast rfl ti45 (by rfl) (mgt Qae hg38) (nle rfl) (Qgw Qae rfl)), trivial⟩
       obtain rfl := osi h
       exact ⟨_, (mto (n := 43) (l' := []) (own' := [(Qfr p2 p3 p4 p5 p6 p7 p8), (.own 1 (((p9.set p0.toNat x35.1) : List (List GStream)).map Qae)), (Qy7 x35), (Qfq p11)]) [] [0, 1, 2, 3] [(Qfr p2 p3 p4 p5 p6 p7 p8), (.own 1 ((p9.set p0.toNat x35.1 : List (List GStream)).map Qae)), (Qy7 x35), (Qfq p11)] hφ0 pn (qc (spb (lc (.rn (.plain _ (nld Qai _))) (lc (.rn (.plain _ (nld Qaa _))) (lc (.rn (Qba rfl)) (lc (.rn (Qba rfl)) (lc (.rn (Qba rfl)) (lc (.rn (.plain _ (nld Qac _))) (lc rwl ln)))))))) (qc (spr Qak) (qc (spr Qaw) (qc (spr Qaf) qn))))), Qjz (vs := []) trivial rfl (NLt.tup _ nl0) (by kernel_rfl) (Qal (Qbd (nlc (NLt.of0 (nld Qai _)) (nlc (NLt.of0 (nld Qaa _)) (nlc (NLt.own _ _ _ _ (by decide)) (nlc (NLt.own _ _ _ _ (by decide)) (nlc (NLt.own _ _ _ _ (by decide)) (nlc (NLt.of0 (nld Qac _)) (nlc (NLt.of0 nll) nl0)))))))) (Qal (Qcf Qak _) (Qal (Qcf Qaw _) (Qal (Qcf Qaf _) Qbr))))⟩
      ·replace h := Qa7 hb33 h
       rcases bft ((x16.Kind == 4)) with hb39 | hb39
       ·replace h := Qa6 hb39 h
        obtain ⟨x41, hf40, h⟩ := bno h
        obtain ⟨hi42, h⟩ := cko h
        obtain ⟨hi42a, hi42b⟩ := Qe8 hi42
        obtain ⟨x43, hg44, h⟩ := bno h
        refine Qko [mv 0 (.ref 0 7 0 0), ⟨[(.tmp 21, .ref 0 7 0 0)], [], .ref 0 7 0 0, [], false⟩, ⟨[(.tmp 22, .ref 0 7 0 0)], [], .ref 0 7 0 2, [], false⟩, ⟨[(.tmp 23, .ref 0 7 0 2)], [], .ref 0 7 0 2, [], false⟩, ⟨[(.tmp 24, .ref 0 7 0 2)], [], (.own 1 1 (0) (p4)), [], false⟩, mv 1 (I p0), mv 0 (.ref 0 7 0 0), ⟨[(.tmp 27, .ref 0 7 0 0)], [], .ref 0 7 0 0, [], false⟩, ⟨[(.tmp 28, .ref 0 7 0 0)], [], .ref 0 7 0 0, [], false⟩, ⟨[(.tmp 29, .ref 0 7 0 0)], [], .ref 0 7 0 1, [], false⟩, ⟨[(.tmp 30, .ref 0 7 0 1)], [], (Qdl p3), [], false⟩, mv 1 (I p0), rp [(.tmp 31, (Qdl p3)), (.tmp 32, I p0)] (.dptr (Qad (x16)) 0), mv 33 (.dptr (Qad (x16)) 0), rp [(.tmp 34, (.dptr (Qad (x16)) 0))] (K .u8 (x16.Kind)), rb [(.tmp 7, .ref 5 7 0 0), (.tmp 35, (K .u8 (x16.Kind)))] [(5, Qk5)] (.ref 5 7 0 4), rb [(.tmp 36, .ref 5 7 0 4)] [(5, Qk5)] (.fn (.func 77) [] []), mv 0 (.ref 0 7 0 0), mv 1 (I p0), rb [(.tmp 6, .ref 4 4 0 0)] [(4, (Qos x14))] (Qhb x14), ⟨[(.tmp 37, (.fn (.func 77) [] [])), (.tmp 38, .ref 0 7 0 0), (.tmp 39, I p0), (.tmp 40, (Qhb x14))], [(0, (Qfr p2 p3 p4 p5 p6 p7 p8)), (1, (Qfa p9)), (2, (Qgo p10)), (3, (Qfq p11))], (.dat 4 ((x41.1 : List GStream).map Qab)), [(0, (Qy6 p2 p3 p4 p5 p6 p7 x41)), (1, (Qfa p9)), (2, (Qy5 x41)), (3, (Qy4 x41))], false⟩, rb [(.tmp 25, (.own 1 1 (0) (p4))), (.tmp 26, I p0)] [(1, (Qfa p9))] (.ref 1 1 (p0.toNat) 0), ⟨[(.tmp 42, (.ref 1 1 (p0.toNat) 0)), (.tmp 41, (.dat 4 ((x41.1 : List GStream).map Qab)))], [(1, (Qfa p9))], .any, [(1, (.own 1 ((p9.set p0.toNat x41.1 : List (List GStream)).map Qae)))], false⟩] ?_ ?_
        ·exact ⟨fun _ => .hard (amv rfl), fun _ => .soft 0 (.own 7 [[(Qef p2), (Qdl p3), (.own 1 1 (0) (p4)), (.own 2 4 (0) (p5)), (.own 3 1 (0) (p6)), (Qee p7), .any]]) (Qbc rfl) (SImp.box ⟨lrf, lrf, lrf, lrf, lrf, lrf, Less.any, trivial⟩) ⟨trivial, trivial, trivial, trivial, trivial, trivial, trivial, trivial, trivial, trivial, trivial, trivial, trivial, trivial, trivial, trivial, trivial, trivial, trivial, trivial, ⟨(SImp.box ⟨lrf, lrf, lrf, lrf, lrf, lrf, Less.any, trivial⟩), trivial, trivial, trivial, trivial⟩, trivial, ⟨trivial, trivial⟩, trivial⟩, fun _ => .soft 0 (.own 7 [[(Qef p2), (Qdl p3), (.own 1 1 (0) (p4)), (.own 2 4 (0) (p5)), (.own 3 1 (0) (p6)), (Qee p7), .any]]) (afa rfl Try.underlying93 rfl rfl ti34 (by decide) rfl) (SImp.box ⟨lrf, lrf, lrf, lrf, lrf, lrf, Less.any, trivial⟩) ⟨trivial, trivial, trivial, trivial, trivial, trivial, trivial, trivial, trivial, trivial, trivial, trivial, trivial, trivial, trivial, trivial, trivial, trivial, trivial, trivial, ⟨(SImp.box ⟨lrf, lrf, lrf, lrf, lrf, lrf, Less.any, trivial⟩), trivial, trivial, trivial, trivial⟩, trivial, ⟨trivial, trivial⟩, trivial⟩, fun _ => .soft 0 (.own 7 [[(Qef p2), (Qdl p3), (.own 1 1 (0) (p4)), (.own 2 4 (0) (p5)), (.own 3 1 (0) (p6)), (Qee p7), .any]]) (afa rfl Try.underlying34 rfl rfl ti31 (by decide) rfl) (SImp.box ⟨lrf, lrf, lrf, lrf, lrf, lrf, Less.any, trivial⟩) ⟨trivial, trivial, trivial, trivial, trivial, trivial, trivial, trivial, trivial, trivial, trivial, trivial, trivial, trivial, trivial, trivial, trivial, trivial, trivial, trivial, ⟨(SImp.box ⟨lrf, lrf, lrf, lrf, lrf, lrf, Less.any, trivial⟩), trivial, trivial, trivial, trivial⟩, trivial, ⟨trivial, trivial⟩, trivial⟩, fun _ => .soft 0 (.own 7 [[(Qef p2), (Qdl p3), (.own 1 1 (0) (p4)), (.own 2 4 (0) (p5)), (.own 3 1 (0) (p6)), (Qee p7), .any]]) (ald rfl ti31 (by decide) rfl (nle rfl) rfl) (SImp.box ⟨lrf, lrf, lrf, lrf, lrf, lrf, Less.any, trivial⟩) ⟨trivial, trivial, trivial, trivial, trivial, trivial, trivial, trivial, trivial, trivial, trivial, trivial, trivial, trivial, trivial, trivial, trivial, trivial, trivial, trivial, ⟨(SImp.box ⟨lrf, lrf, lrf, lrf, lrf, lrf, Less.any, trivial⟩), trivial, trivial, trivial, trivial⟩, trivial, ⟨trivial, trivial⟩, trivial⟩, fun _ => .hard (amv rfl), fun _ => .hard (amv rfl), fun _ => .soft 0 (.own 7 [[(Qef p2), (Qdl p3), (.own 1 1 (0) (p4)), (.own 2 4 (0) (p5)), (.own 3 1 (0) (p6)), (Qee p7), .any]]) (Qbc rfl) (SImp.box ⟨lrf, lrf, lrf, lrf, lrf, lrf, Less.any, trivial⟩) ⟨trivial, trivial, trivial, trivial, trivial, trivial, trivial, trivial, trivial, trivial, trivial, trivial, trivial, trivial, trivial, trivial, trivial, trivial, trivial, trivial, ⟨(SImp.box ⟨lrf, lrf, lrf, lrf, lrf, lrf, Less.any, trivial⟩), trivial, trivial, trivial, trivial⟩, trivial, ⟨trivial, trivial⟩, trivial⟩, fun _ => .soft 0 (.own 7 [[(Qef p2), (Qdl p3), (.own 1 1 (0) (p4)), (.own 2 4 (0) (p5)), (.own 3 1 (0) (p6)), (Qee p7), .any]]) (afa rfl Try.underlying93 rfl rfl ti42 (by decide) rfl) (SImp.box ⟨lrf, lrf, lrf, lrf, lrf, lrf, Less.any, trivial⟩) ⟨trivial, trivial, trivial, trivial, trivial, trivial, trivial, trivial, trivial, trivial, trivial, trivial, trivial, trivial, trivial, trivial, trivial, trivial, trivial, trivial, ⟨(SImp.box ⟨lrf, lrf, lrf, lrf, lrf, lrf, Less.any, trivial⟩), trivial, trivial, trivial, trivial⟩, trivial, ⟨trivial, trivial⟩, trivial⟩, fun _ => .soft 0 (.own 7 [[(Qef p2), (Qdl p3), (.own 1 1 (0) (p4)), (.own 2 4 (0) (p5)), (.own 3 1 (0) (p6)), (Qee p7), .any]]) (afa rfl Try.underlying42 rfl rfl ti40 (by decide) rfl) (SImp.box ⟨lrf, lrf, lrf, lrf, lrf, lrf, Less.any, trivial⟩) ⟨trivial, trivial, trivial, trivial, trivial, trivial, trivial, trivial, trivial, trivial, trivial, trivial, trivial, trivial, trivial, trivial, trivial, trivial, trivial, trivial, ⟨(SImp.box ⟨lrf, lrf, lrf, lrf, lrf, lrf, Less.any, trivial⟩), trivial, trivial, trivial, trivial⟩, trivial, ⟨trivial, trivial⟩, trivial⟩, fun _ => .soft 0 (.own 7 [[(Qef p2), (Qdl p3), (.own 1 1 (0) (p4)), (.own 2 4 (0) (p5)), (.own 3 1 (0) (p6)), (Qee p7), .any]]) (ald rfl ti40 (by decide) rfl (nle rfl) rfl) (SImp.box ⟨lrf, lrf, lrf, lrf, lrf, lrf, Less.any, trivial⟩) ⟨trivial, trivial, trivial, trivial, trivial, trivial, trivial, trivial, trivial, trivial, trivial, trivial, trivial, trivial, trivial, trivial, trivial, trivial, trivial, trivial, ⟨(SImp.box ⟨lrf, lrf, lrf, lrf, lrf, lrf, Less.any, trivial⟩), trivial, trivial, trivial, trivial⟩, trivial, ⟨trivial, trivial⟩, trivial⟩, fun _ => .hard (amv rfl), fun _ => .hard (aid rfl Try.underlying40 ti76 rfl rfl hi18 (mgt Qad hj19) rfl), fun _ => .hard (afd rfl Try.underlying76 rfl rfl ti5 (by decide) rfl), fun _ => .hard (ald_ rfl ti5 (by decide) (nle rfl) rfl), fun _ => .hard (Qi7 hb39 (Qi8 rfl Try.underlying144 Qm6 (by decide) (by decide) rfl)), fun _ => .hard (ald rfl Qm6 (by decide) rfl (nle rfl) rfl), fun _ => .hard (amv rfl), fun _ => .hard (amv rfl), fun _ => .hard (ald rfl ti48 (by decide) rfl (nle rfl) rfl), fun _ => .hard (Qaq (first := []) (cap := []) (vs := [.ref 0 7 0 0, I p0, (Qhb x14)]) (σr := [(Qfr p2 p3 p4 p5 p6 p7 p8), (Qfa p9), (Qgo p10), (Qfq p11)]) (σr' := [(Qy6 p2 p3 p4 p5 p6 p7 x41), (Qfa p9), (Qy5 x41), (Qy4 x41)]) (res' := (.dat 4 ((x41.1 : List GStream).map Qab))) [0, 1, 2, 3] rfl Zd4 (Qkd N p0 x14 p2 p3 p4 p5 p6 p7 p8 p9 p10 p11 _ hf40) rfl (Qbn (rnc (Qbi rfl) (rnc (.plain _ nll) (rnc (.plain _ (NLt.agg _ (nlc nll (nlc nll (nlc nll (nlc nll nl0)))))) rn0)))) (slc (Qan (rnc (.plain _ (nld Qai _)) (rnc (.plain _ (nld Qaa _)) (rnc (Qc3 rfl) (rnc (Qc3 rfl) (rnc (Qc3 rfl) (rnc (.plain _ (nld Qac _)) (rnc (.plain _ nll) rn0)))))))) (slc (Qa9 Qak) (slc (Qa9 Qaw) (slc (Qa9 Qaf) Qap)))) (slc (Qan (rnc (.plain _ (nld Qai _)) (rnc (.plain _ (nld Qaa _)) (rnc (Qdd rfl) (rnc (Qdd rfl) (rnc (Qdd rfl) (rnc (.plain _ (nld Qac _)) (rnc (.plain _ nll) rn0)))))))) (slc (Qa9 Qak) (slc (Qa9 Qaw) (slc (Qa9 Qaf) Qap)))) (.plain _ (nld Qac _)) rfl rfl rfl), fun _ => .hard (aio rfl Try.underlying31 ti45 (odt hi42a) (odt hi42b) (Nat.zero_add _)), fun _ => .hard (ast rfl ti45 (by rfl) (mgt Qae hg44) (nle rfl) (Qgw Qae rfl)), trivial⟩
        obtain rfl := osi h
        exact ⟨_, (mto (n := 43) (l' := []) (own' := [(Qy6 p2 p3 p4 p5 p6 p7 x41), (.own 1 (((p9.set p0.toNat x41.1) : List (List GStream)).map Qae)), (Qy5 x41), (Qy4 x41)]) [] [0, 1, 2, 3] [(Qy6 p2 p3 p4 p5 p6 p7 x41), (.own 1 ((p9.set p0.toNat x41.1 : List (List GStream)).map Qae)), (Qy5 x41), (Qy4 x41)] hφ0 pn (qc (spb (lc (.rn (.plain _ (nld Qai _))) (lc (.rn (.plain _ (nld Qaa _))) (lc (.rn (Qba rfl)) (lc (.rn (Qba rfl)) (lc (.rn (Qba rfl)) (lc (.rn (.plain _ (nld Qac _))) (lc rwl ln)))))))) (qc (spr Qak) (qc (spr Qaw) (qc (spr Qaf) qn))))), Qjz (vs := []) trivial rfl (NLt.tup _ nl0) (by kernel_rfl) (Qal (Qbd (nlc (NLt.of0 (nld Qai _)) (nlc (NLt.of0 (nld Qaa _)) (nlc (NLt.own _ _ _ _ (by decide)) (nlc (NLt.own _ _ _ _ (by decide)) (nlc (NLt.own _ _ _ _ (by decide)) (nlc (NLt.of0 (nld Qac _)) (nlc (NLt.of0 nll) nl0)))))))) (Qal (Qcf Qak _) (Qal (Qcf Qaw _) (Qal (Qcf Qaf _) Qbr))))⟩
       ·replace h := Qa7 hb39 h
        rcases bft ((x16.Kind == 5)) with hb45 | hb45
        ·replace h := Qa6 hb45 h
         obtain ⟨x47, hf46, h⟩ := bno h
         obtain ⟨hi48, h⟩ := cko h
         obtain ⟨hi48a, hi48b⟩ := Qe8 hi48
         obtain ⟨x49, hg50, h⟩ := bno h
         refine Qko [mv 0 (.ref 0 7 0 0), ⟨[(.tmp 21, .ref 0 7 0 0)], [], .ref 0 7 0 0, [], false⟩, ⟨[(.tmp 22, .ref 0 7 0 0)], [], .ref 0 7 0 2, [], false⟩, ⟨[(.tmp 23, .ref 0 7 0 2)], [], .ref 0 7 0 2, [], false⟩, ⟨[(.tmp 24, .ref 0 7 0 2)], [], (.own 1 1 (0) (p4)), [], false⟩, mv 1 (I p0), mv 0 (.ref 0 7 0 0), ⟨[(.tmp 27, .ref 0 7 0 0)], [], .ref 0 7 0 0, [], false⟩, ⟨[(.tmp 28, .ref 0 7 0 0)], [], .ref 0 7 0 0, [], false⟩, ⟨[(.tmp 29, .ref 0 7 0 0)], [], .ref 0 7 0 1, [], false⟩, ⟨[(.tmp 30, .ref 0 7 0 1)], [], (Qdl p3), [], false⟩, mv 1 (I p0), rp [(.tmp 31, (Qdl p3)), (.tmp 32, I p0)] (.dptr (Qad (x16)) 0), mv 33 (.dptr (Qad (x16)) 0), rp [(.tmp 34, (.dptr (Qad (x16)) 0))] (K .u8 (x16.Kind)), rb [(.tmp 7, .ref 5 7 0 0), (.tmp 35, (K .u8 (x16.Kind)))] [(5, Qk5)] (.ref 5 7 0 5), rb [(.tmp 36, .ref 5 7 0 5)] [(5, Qk5)] (.fn (.func 78) [] []), mv 0 (.ref 0 7 0 0), mv 1 (I p0), rb [(.tmp 6, .ref 4 4 0 0)] [(4, (Qos x14))] (Qhb x14), ⟨[(.tmp 37, (.fn (.func 78) [] [])), (.tmp 38, .ref 0 7 0 0), (.tmp 39, I p0), (.tmp 40, (Qhb x14))], [(0, (Qfr p2 p3 p4 p5 p6 p7 p8)), (1, (Qfa p9)), (2, (Qgo p10)), (3, (Qfq p11))], (.dat 4 ((x47.1 : List GStream).map Qab)), [(0, (Qfr p2 p3 p4 p5 p6 p7 p8)), (1, (Qfa p9)), (2, (Qy3 x47)), (3, (Qfq p11))], false⟩, rb [(.tmp 25, (.own 1 1 (0) (p4))), (.tmp 26, I p0)] [(1, (Qfa p9))] (.ref 1 1 (p0.toNat) 0), ⟨[(.tmp 42, (.ref 1 1 (p0.toNat) 0)), (.tmp 41, (.dat 4 ((x47.1 : List GStream).map Qab)))], [(1, (Qfa p9))], .any, [(1, (.own 1 ((p9.set p0.toNat x47.1 : List (List GStream)).map Qae)))], false⟩] ?_ ?_
         ·exact ⟨fun _ => .hard (amv rfl), fun _ => .soft 0 (.own 7 [[(Qef p2), (Qdl p3), (.own 1 1 (0) (p4)), (.own 2 4 (0) (p5)), (.own 3 1 (0) (p6)), (Qee p7), I p8]]) (Qbc rfl) (SImp.box ⟨lrf, lrf, lrf, lrf, lrf, lrf, lrf, trivial⟩) ⟨trivial, trivial, trivial, trivial, trivial, trivial, trivial, trivial, trivial, trivial, trivial, trivial, trivial, trivial, trivial, trivial, trivial, trivial, trivial, trivial, ⟨(SImp.box ⟨lrf, lrf, lrf, lrf, lrf, lrf, lrf, trivial⟩), trivial, trivial, trivial, trivial⟩, trivial, ⟨trivial, trivial⟩, trivial⟩, fun _ => .soft 0 (.own 7 [[(Qef p2), (Qdl p3), (.own 1 1 (0) (p4)), (.own 2 4 (0) (p5)), (.own 3 1 (0) (p6)), (Qee p7), I p8]]) (afa rfl Try.underlying93 rfl rfl ti34 (by decide) rfl) (SImp.box ⟨lrf, lrf, lrf, lrf, lrf, lrf, lrf, trivial⟩) ⟨trivial, trivial, trivial, trivial, trivial, trivial, trivial, trivial, trivial, trivial, trivial, trivial, trivial, trivial, trivial, trivial, trivial, trivial, trivial, trivial, ⟨(SImp.box ⟨lrf, lrf, lrf, lrf, lrf, lrf, lrf, trivial⟩), trivial, trivial, trivial, trivial⟩, trivial, ⟨trivial, trivial⟩, trivial⟩, fun _ => .soft 0 (.own 7 [[(Qef p2), (Qdl p3), (.own 1 1 (0) (p4)), (.own 2 4 (0) (p5)), (.own 3 1 (0) (p6)), (Qee p7), I p8]]) (afa rfl Try.underlying34 rfl rfl ti31 (by decide) rfl) (SImp.box ⟨lrf, lrf, lrf, lrf, lrf, lrf, lrf, trivial⟩) ⟨trivial, trivial, trivial, trivial, trivial, trivial, trivial, trivial, trivial, trivial, trivial, trivial, trivial, trivial, trivial, trivial, trivial, trivial, trivial, trivial, ⟨(SImp.box ⟨lrf, lrf, lrf, lrf, lrf, lrf, lrf, trivial⟩), trivial, trivial, trivial, trivial⟩, trivial, ⟨trivial, trivial⟩, trivial⟩, fun _ => .soft 0 (.own 7 [[(Qef p2), (Qdl p3), (.own 1 1 (0) (p4)), (.own 2 4 (0) (p5)), (.own 3 1 (0) (p6)), (Qee p7), I p8]]) (ald rfl ti31 (by decide) rfl (nle rfl) rfl) (SImp.box ⟨lrf, lrf, lrf, lrf, lrf, lrf, lrf, trivial⟩) ⟨trivial, trivial, trivial, trivial, trivial, trivial, trivial, trivial, trivial, trivial, trivial, trivial, trivial, trivial, trivial, trivial, trivial, trivial, trivial, trivial, ⟨(SImp.box ⟨lrf, lrf, lrf, lrf, lrf, lrf, lrf, trivial⟩), trivial, trivial, trivial, trivial⟩, trivial, ⟨trivial, trivial⟩, trivial⟩, fun _ => .hard (amv rfl), fun _ => .hard (amv rfl), fun _ => .soft 0 (.own 7 [[(Qef p2), (Qdl p3), (.own 1 1 (0) (p4)), (.own 2 4 (0) (p5)), (.own 3 1 (0) (p6)), (Qee p7), I p8]]) (Qbc rfl) (SImp.box ⟨lrf, lrf, lrf, lrf, lrf, lrf, lrf, trivial⟩) ⟨trivial, trivial, trivial, trivial, trivial, trivial, trivial, trivial, trivial, trivial, trivial, trivial, trivial, trivial, trivial, trivial, trivial, trivial, trivial, trivial, ⟨(SImp.box ⟨lrf, lrf, lrf, lrf, lrf, lrf, lrf, trivial⟩), trivial, trivial, trivial, trivial⟩, trivial, ⟨trivial, trivial⟩, trivial⟩, fun _ => .soft 0 (.own 7 [[(Qef p2), (Qdl p3), (.own 1 1 (0) (p4)), (.own 2 4 (0) (p5)), (.own 3 1 (0) (p6)), (Qee p7), I p8]]) (afa rfl Try.underlying93 rfl rfl ti42 (by decide) rfl) (SImp.box ⟨lrf, lrf, lrf, lrf, lrf, lrf, lrf, trivial⟩) ⟨trivial, trivial, trivial, trivial, trivial, trivial, trivial, trivial, trivial, trivial, trivial, trivial, trivial, trivial, trivial, trivial, trivial, trivial, trivial, trivial, ⟨(SImp.box ⟨lrf, lrf, lrf, lrf, lrf, lrf, lrf, trivial⟩), trivial, trivial, trivial, trivial⟩, trivial, ⟨trivial, trivial⟩, trivial⟩, fun _ => .soft 0 (.own 7 [[(Qef p2), (Qdl p3), (.own 1 1 (0) (p4)), (.own 2 4 (0) (p5)), (.own 3 1 (0) (p6)), (Qee p7), I p8]]) (afa rfl Try.underlying42 rfl rfl ti40 (by decide) rfl) (SImp.box ⟨lrf, lrf, lrf, lrf, lrf, lrf, lrf, trivial⟩) ⟨trivial, trivial, trivial, trivial, trivial, trivial, trivial, trivial, trivial, trivial, trivial, trivial, trivial, trivial, trivial, trivial, trivial, trivial, trivial, trivial, ⟨(SImp.box ⟨lrf, lrf, lrf, lrf, lrf, lrf, lrf, trivial⟩), trivial, trivial, trivial, trivial⟩, trivial, ⟨trivial, trivial⟩, trivial⟩, fun _ => .soft 0 (.own 7 [[(Qef p2), (Qdl p3), (.own 1 1 (0) (p4)), (.own 2 4 (0) (p5)), (.own 3 1 (0) (p6)), (Qee p7), I p8]]) (ald rfl ti40 (by decide) rfl (nle rfl) rfl) (SImp.box ⟨lrf, lrf, lrf, lrf, lrf, lrf, lrf, trivial⟩) ⟨trivial, trivial, trivial, trivial, trivial, trivial, trivial, trivial, trivial, trivial, trivial, trivial, trivial, trivial, trivial, trivial, trivial, trivial, trivial, trivial, ⟨(SImp.box ⟨lrf, lrf, lrf, lrf, lrf, lrf, lrf, trivial⟩), trivial, trivial, trivial, trivial⟩, trivial, ⟨trivial, trivial⟩, trivial⟩, fun _ => .hard (amv rfl), fun _ => .hard (aid rfl Try.underlying40 ti76 rfl rfl hi18 (mgt Qad hj19) rfl), fun _ => .hard (afd rfl Try.underlying76 rfl rfl ti5 (by decide) rfl), fun _ => .hard (ald_ rfl ti5 (by decide) (nle rfl) rfl), fun _ => .hard (Qi7 hb45 (Qi8 rfl Try.underlying144 Qm6 (by decide) (by decide) rfl)), fun _ => .hard (ald rfl Qm6 (by decide) rfl (nle rfl) rfl), fun _ => .hard (amv rfl), fun _ => .hard (amv rfl), fun _ => .hard (ald rfl ti48 (by decide) rfl (nle rfl) rfl), fun _ => .hard (Qaq (first := []) (cap := []) (vs := [.ref 0 7 0 0, I p0, (Qhb x14)]) (σr := [(Qfr p2 p3 p4 p5 p6 p7 p8), (Qfa p9), (Qgo p10), (Qfq p11)]) (σr' := [(Qfr p2 p3 p4 p5 p6 p7 p8), (Qfa p9), (Qy3 x47), (Qfq p11)]) (res' := (.dat 4 ((x47.1 : List GStream).map Qab))) [0, 1, 2, 3] rfl Zd3 (Qlg N p0 x14 p2 p3 p4 p5 p6 p7 p8 p9 p10 p11 _ hf46) rfl (Qbn (rnc (Qbi rfl) (rnc (.plain _ nll) (rnc (.plain _ (NLt.agg _ (nlc nll (nlc nll (nlc nll (nlc nll nl0)))))) rn0)))) (slc (Qan (rnc (.plain _ (nld Qai _)) (rnc (.plain _ (nld Qaa _)) (rnc (Qc3 rfl) (rnc (Qc3 rfl) (rnc (Qc3 rfl) (rnc (.plain _ (nld Qac _)) (rnc (.plain _ nll) rn0)))))))) (slc (Qa9 Qak) (slc (Qa9 Qaw) (slc (Qa9 Qaf) Qap)))) (slc (Qan (rnc (.plain _ (nld Qai _)) (rnc (.plain _ (nld Qaa _)) (rnc (Qdd rfl) (rnc (Qdd rfl) (rnc (Qdd rfl) (rnc (.plain _ (nld Qac _)) (rnc (.plain _ nll) rn0)))))))) (slc (Qa9 Qak) (slc (Qa9 Qaw) (slc (Qa9 Qaf) Qap)))) (.plain _ (nld Qac _)) rfl rfl rfl), fun _ => .hard (aio rfl Try.underlying31 ti45 (odt hi48a) (odt hi48b) (Nat.zero_add _)), fun _ => .hard (ast rfl ti45 (by rfl) (mgt Qae hg50) (nle rfl) (Qgw Qae rfl)), trivial⟩
         obtain rfl := osi h
         exact ⟨_, (mto (n := 43) (l' := []) (own' := [(Qfr p2 p3 p4 p5 p6 p7 p8), (.own 1 (((p9.set p0.toNat x47.1) : List (List GStream)).map Qae)), (Qy3 x47), (Qfq p11)]) [] [0, 1, 2, 3] [(Qfr p2 p3 p4 p5 p6 p7 p8), (.own 1 ((p9.set p0.toNat x47.1 : List (List GStream)).map Qae)), (Qy3 x47), (Qfq p11)] hφ0 pn (qc (spb (lc (.rn (.plain _ (nld Qai _))) (lc (.rn (.plain _ (nld Qaa _))) (lc (.rn (Qba rfl)) (lc (.rn (Qba rfl)) (lc (.rn (Qba rfl)) (lc (.rn (.plain _ (nld Qac _))) (lc rwl ln)))))))) (qc (spr Qak) (qc (spr Qaw) (qc (spr Qaf) qn))))), Qjz (vs := []) trivial rfl (NLt.tup _ nl0) (by kernel_rfl) (Qal (Qbd (nlc (NLt.of0 (nld Qai _)) (nlc (NLt.of0 (nld Qaa _)) (nlc (NLt.own _ _ _ _ (by decide)) (nlc (NLt.own _ _ _ _ (by decide)) (nlc (NLt.own _ _ _ _ (by decide)) (nlc (NLt.of0 (nld Qac _)) (nlc (NLt.of0 nll) nl0)))))))) (Qal (Qcf Qak _) (Qal (Qcf Qaw _) (Qal (Qcf Qaf _) Qbr))))⟩
        ·replace h := Qa7 hb45 h
         rcases bft ((x16.Kind == 6)) with hb51 | hb51
         ·replace h := Qa6 hb51 h
          obtain ⟨x53, hf52, h⟩ := bno h
          obtain ⟨hi54, h⟩ := cko h
          obtain ⟨hi54a, hi54b⟩ := Qe8 hi54
          obtain ⟨x55, hg56, h⟩ := bno h
          refine Qko [mv 0 (.ref 0 7 0 0), ⟨[(.tmp 21, .ref 0 7 0 0)], [], .ref 0 7 0 0, [], false⟩, ⟨[(.tmp 22, .ref 0 7 0 0)], [], .ref 0 7 0 2, [], false⟩, ⟨[(.tmp 23, .ref 0 7 0 2)], [], .ref 0 7 0 2, [], false⟩, ⟨[(.tmp 24, .ref 0 7 0 2)], [], (.own 1 1 (0) (p4)), [], false⟩, mv 1 (I p0), mv 0 (.ref 0 7 0 0), ⟨[(.tmp 27, .ref 0 7 0 0)], [], .ref 0 7 0 0, [], false⟩, ⟨[(.tmp 28, .ref 0 7 0 0)], [], .ref 0 7 0 0, [], false⟩, ⟨[(.tmp 29, .ref 0 7 0 0)], [], .ref 0 7 0 1, [], false⟩, ⟨[(.tmp 30, .ref 0 7 0 1)], [], (Qdl p3), [], false⟩, mv 1 (I p0), rp [(.tmp 31, (Qdl p3)), (.tmp 32, I p0)] (.dptr (Qad (x16)) 0), mv 33 (.dptr (Qad (x16)) 0), rp [(.tmp 34, (.dptr (Qad (x16)) 0))] (K .u8 (x16.Kind)), rb [(.tmp 7, .ref 5 7 0 0), (.tmp 35, (K .u8 (x16.Kind)))] [(5, Qk5)] (.ref 5 7 0 6), rb [(.tmp 36, .ref 5 7 0 6)] [(5, Qk5)] (.fn (.func 75) [] []), mv 0 (.ref 0 7 0 0), mv 1 (I p0), rb [(.tmp 6, .ref 4 4 0 0)] [(4, (Qos x14))] (Qhb x14), ⟨[(.tmp 37, (.fn (.func 75) [] [])), (.tmp 38, .ref 0 7 0 0), (.tmp 39, I p0), (.tmp 40, (Qhb x14))], [(0, (Qfr p2 p3 p4 p5 p6 p7 p8)), (1, (Qfa p9)), (2, (Qgo p10)), (3, (Qfq p11))], (Q3p x53), [(0, (Qfr p2 p3 p4 p5 p6 p7 p8)), (1, (Qfa p9)), (2, (Qgo p10)), (3, (Qfq p11))], false⟩, rb [(.tmp 25, (.own 1 1 (0) (p4))), (.tmp 26, I p0)] [(1, (Qfa p9))] (.ref 1 1 (p0.toNat) 0), ⟨[(.tmp 42, (.ref 1 1 (p0.toNat) 0)), (.tmp 41, (Q3p x53))], [(1, (Qfa p9))], .any, [(1, (.own 1 ((p9.set p0.toNat x53 : List (List GStream)).map Qae)))], false⟩] ?_ ?_
          ·exact ⟨fun _ => .hard (amv rfl), fun _ => .soft 0 (.own 7 [[(Qef p2), (Qdl p3), (.own 1 1 (0) (p4)), (.own 2 4 (0) (p5)), (.own 3 1 (0) (p6)), (Qee p7), I p8]]) (Qbc rfl) (SImp.box ⟨lrf, lrf, lrf, lrf, lrf, lrf, lrf, trivial⟩) ⟨trivial, trivial, trivial, trivial, trivial, trivial, trivial, trivial, trivial, trivial, trivial, trivial, trivial, trivial, trivial, trivial, trivial, trivial, trivial, trivial, ⟨(SImp.box ⟨lrf, lrf, lrf, lrf, lrf, lrf, lrf, trivial⟩), trivial, trivial, trivial, trivial⟩, trivial, ⟨trivial, trivial⟩, trivial⟩, fun _ => .soft 0 (.own 7 [[(Qef p2), (Qdl p3), (.own 1 1 (0) (p4)), (.own 2 4 (0) (p5)), (.own 3 1 (0) (p6)), (Qee p7), I p8]]) (afa rfl Try.underlying93 rfl rfl ti34 (by decide) rfl) (SImp.box ⟨lrf, lrf, lrf, lrf, lrf, lrf, lrf, trivial⟩) ⟨trivial, trivial, trivial, trivial, trivial, trivial, trivial, trivial, trivial, trivial, trivial, trivial, trivial, trivial, trivial, trivial, trivial, trivial, trivial, trivial, ⟨(SImp.box ⟨lrf, lrf, lrf, lrf, lrf, lrf, lrf, trivial⟩), trivial, trivial, trivial, trivial⟩, trivial, ⟨trivial, trivial⟩, trivial⟩, fun _ => .soft 0 (.own 7 [[(Qef p2), (Qdl p3), (.own 1 1 (0) (p4)), (.own 2 4 (0) (p5)), (.own 3 1 (0) (p6)), (Qee p7), I p8]]) (afa rfl Try.underlying34 rfl rfl ti31 (by decide) rfl) (SImp.box ⟨lrf, lrf, lrf, lrf, lrf, lrf, lrf, trivial⟩) ⟨trivial, trivial, trivial, trivial, trivial, trivial, trivial, trivial, trivial, trivial, trivial, trivial, trivial, trivial, trivial, trivial, trivial, trivial, trivial, trivial, ⟨(SImp.box ⟨lrf, lrf, lrf, lrf, lrf, lrf, lrf, trivial⟩), trivial, trivial, trivial, trivial⟩, trivial, ⟨trivial, trivial⟩, trivial⟩, fun _ => .soft 0 (.own 7 [[(Qef p2), (Qdl p3), (.own 1 1 (0) (p4)), (.own 2 4 (0) (p5)), (.own 3 1 (0) (p6)), (Qee p7), I p8]]) (ald rfl ti31 (by decide) rfl (nle rfl) rfl) (SImp.box ⟨lrf, lrf, lrf, lrf, lrf, lrf, lrf, trivial⟩) ⟨trivial, trivial, trivial, trivial, trivial, trivial, trivial, trivial, trivial, trivial, trivial, trivial, trivial, trivial, trivial, trivial, trivial, trivial, trivial, trivial, ⟨(SImp.box ⟨lrf, lrf, lrf, lrf, lrf, lrf, lrf, trivial⟩), trivial, trivial, trivial, trivial⟩, trivial, ⟨trivial, trivial⟩, trivial⟩, fun _ => .hard (amv rfl), fun _ => .hard (amv rfl), fun _ => .soft 0 (.own 7 [[(Qef p2), (Qdl p3), (.own 1 1 (0) (p4)), (.own 2 4 (0) (p5)), (.own 3 1 (0) (p6)), (Qee p7), I p8]]) (Qbc rfl) (SImp.box ⟨lrf, lrf, lrf, lrf, lrf, lrf, lrf, trivial⟩) ⟨trivial, trivial, trivial, trivial, trivial, trivial, trivial, trivial, trivial, trivial, trivial, trivial, trivial, trivial, trivial, trivial, trivial, trivial, trivial, trivial, ⟨(SImp.box ⟨lrf, lrf, lrf, lrf, lrf, lrf, lrf, trivial⟩), trivial, trivial, trivial, trivial⟩, trivial, ⟨trivial, trivial⟩, trivial⟩, fun _ => .soft 0 (.own 7 [[(Qef p2), (Qdl p3), (.own 1 1 (0) (p4)), (.own 2 4 (0) (p5)), (.own 3 1 (0) (p6)), (Qee p7), I p8]]) (afa rfl Try.underlying93 rfl rfl ti42 (by decide) rfl) (SImp.box ⟨lrf, lrf, lrf, lrf, lrf, lrf, lrf, trivial⟩) ⟨trivial, trivial, trivial, trivial, trivial, trivial, trivial, trivial, trivial, trivial, trivial, trivial, trivial, trivial, trivial, trivial, trivial, trivial, trivial, trivial, ⟨(SImp.box ⟨lrf, lrf, lrf, lrf, lrf, lrf, lrf, trivial⟩), trivial, trivial, trivial, trivial⟩, trivial, ⟨trivial, trivial⟩, trivial⟩, fun _ => .soft 0 (.own 7 [[(Qef p2), (Qdl p3), (.own 1 1 (0) (p4)), (.own 2 4 (0) (p5)), (.own 3 1 (0) (p6)), (Qee p7), I p8]]) (afa rfl Try.underlying42 rfl rfl ti40 (by decide) rfl) (SImp.box ⟨lrf, lrf, lrf, lrf, lrf, lrf, lrf, trivial⟩) ⟨trivial, trivial, trivial, trivial, trivial, trivial, trivial, trivial, trivial, trivial, trivial, trivial, trivial, trivial, trivial, trivial, trivial, trivial, trivial, trivial, ⟨(SImp.box ⟨lrf, lrf, lrf, lrf, lrf, lrf, lrf, trivial⟩), trivial, trivial, trivial, trivial⟩, trivial, ⟨trivial, trivial⟩, trivial⟩, fun _ => .soft 0 (.own 7 [[(Qef p2), (Qdl p3), (.own 1 1 (0) (p4)), (.own 2 4 (0) (p5)), (.own 3 1 (0) (p6)), (Qee p7), I p8]]) (ald rfl ti40 (by decide) rfl (nle rfl) rfl) (SImp.box ⟨lrf, lrf, lrf, lrf, lrf, lrf, lrf, trivial⟩) ⟨trivial, trivial, trivial, trivial, trivial, trivial, trivial, trivial, trivial, trivial, trivial, trivial, trivial, trivial, trivial, trivial, trivial, trivial, trivial, trivial, ⟨(SImp.box ⟨lrf, lrf, lrf, lrf, lrf, lrf, lrf, trivial⟩), trivial, trivial, trivial, trivial⟩, trivial, ⟨trivial, trivial⟩, trivial⟩, fun _ => .hard (amv rfl), fun _ => .hard (aid rfl Try.underlying40 ti76 rfl rfl hi18 (mgt Qad hj19) rfl), fun _ => .hard (afd rfl Try.underlying76 rfl rfl ti5 (by decide) rfl), fun _ => .hard (ald_ rfl ti5 (by decide) (nle rfl) rfl), fun _ => .hard (Qi7 hb51 (Qi8 rfl Try.underlying144 Qm6 (by decide) (by decide) rfl)), fun _ => .hard (ald rfl Qm6 (by decide) rfl (nle rfl) rfl), fun _ => .hard (amv rfl), fun _ => .hard (amv rfl), fun _ => .hard (ald rfl ti48 (by decide) rfl (nle rfl) rfl), fun _ => .hard (Qaq (first := []) (cap := []) (vs := [.ref 0 7 0 0, I p0, (Qhb x14)]) (σr := [(Qfr p2 p3 p4 p5 p6 p7 p8), (Qfa p9), (Qgo p10), (Qfq p11)]) (σr' := [(Qfr p2 p3 p4 p5 p6 p7 p8), (Qfa p9), (Qgo p10), (Qfq p11)]) (res' := (Q3p x53)) [0, 1, 2, 3] rfl Qxw (Qgx N p0 x14 p2 p3 p4 p5 p6 p7 p8 p9 p10 p11 _ hf52) rfl (Qbn (rnc (Qbi rfl) (rnc (.plain _ nll) (rnc (.plain _ (NLt.agg _ (nlc nll (nlc nll (nlc nll (nlc nll nl0)))))) rn0)))) (slc (Qan (rnc (.plain _ (nld Qai _)) (rnc (.plain _ (nld Qaa _)) (rnc (Qc3 rfl) (rnc (Qc3 rfl) (rnc (Qc3 rfl) (rnc (.plain _ (nld Qac _)) (rnc (.plain _ nll) rn0)))))))) (slc (Qa9 Qak) (slc (Qa9 Qaw) (slc (Qa9 Qaf) Qap)))) (slc (Qan (rnc (.plain _ (nld Qai _)) (rnc (.plain _ (nld Qaa _)) (rnc (Qdd rfl) (rnc (Qdd rfl) (rnc (Qdd rfl) (rnc (.plain _ (nld Qac _)) (rnc (.plain _ nll) rn0)))))))) (slc (Qa9 Qak) (slc (Qa9 Qaw) (slc (Qa9 Qaf) Qap)))) (.plain _ (nld Qac _)) rfl rfl rfl), fun _ => .hard (aio rfl Try.underlying31 ti45 (odt hi54a) (odt hi54b) (Nat.zero_add _)), fun _ => .hard (ast rfl ti45 (by rfl) (mgt Qae hg56) (nle rfl) (Qgw Qae rfl)), trivial⟩
          obtain rfl := osi h
          exact ⟨_, (mto (n := 43) (l' := []) (own' := [(Qfr p2 p3 p4 p5 p6 p7 p8), (.own 1 (((p9.set p0.toNat x53) : List (List GStream)).map Qae)), (Qgo p10), (Qfq p11)]) [] [0, 1, 2, 3] [(Qfr p2 p3 p4 p5 p6 p7 p8), (.own 1 ((p9.set p0.toNat x53 : List (List GStream)).map Qae)), (Qgo p10), (Qfq p11)] hφ0 pn (qc (spb (lc (.rn (.plain _ (nld Qai _))) (lc (.rn (.plain _ (nld Qaa _))) (lc (.rn (Qba rfl)) (lc (.rn (Qba rfl)) (lc (.rn (Qba rfl)) (lc (.rn (.plain _ (nld Qac _))) (lc rwl ln)))))))) (qc (spr Qak) (qc (spr Qaw) (qc (spr Qaf) qn))))), Qjz (vs := []) trivial rfl (NLt.tup _ nl0) (by kernel_rfl) (Qal (Qbd (nlc (NLt.of0 (nld Qai _)) (nlc (NLt.of0 (nld Qaa _)) (nlc (NLt.own _ _ _ _ (by decide)) (nlc (NLt.own _ _ _ _ (by decide)) (nlc (NLt.own _ _ _ _ (by decide)) (nlc (NLt.of0 (nld Qac _)) (nlc (NLt.of0 nll) nl0)))))))) (Qal (Qcf Qak _) (Qal (Qcf Qaw _) (Qal (Qcf Qaf _) Qbr))))⟩
         ·replace h := Qa7 hb51 h
          cases h
  ·skip
   refine wx tbk [] trivial ?_
   rcases bft ((decide (x14.Mass > p1))) with hc57 | hc57
   ·replace h := Qa6 hc57 h
    refine wft hc57 (by kernel_rfl) ?_
    refine Q9i 3 [mv 1 (I p0), rp [(.tmp 17, I p0)] (.agg [I p0]), rp [(.tmp 18, (.agg [I p0]))] (.lit (.iface 120 (.agg #[(.int .i64 (p0))]))), ⟨[(.tmp 19, (.lit (.iface 120 (.agg #[(.int .i64 (p0))]))))], [], .any, [], false⟩] (by exact ⟨by kernel_rfl, by kernel_rfl⟩) rfl (by kernel_rfl) rfl (Qxf rfl) (⟨fun _ _ => amv rfl, fun _ _ => Qar (vs := [I p0]) rfl Zg1 Zf0 rfl (by rfl) rfl, fun _ _ => awk (rd' := [(.tmp 18, .lit (.agg #[(.int .i64 (p0))]))]) ⟨rfl, (Less.lits [(.int .i64 (p0))]), trivial⟩ (Qyd rfl Try.underlying120), fun _ h => absurd rfl h, trivial⟩) ?_
    obtain rfl := osi h
    exact rfl
   ·replace h := Qa7 hc57 h
    refine wfn hc57 (by kernel_rfl) ?_
    refine Qas ?_
    refine thn ?_
    exact ⟨(), h, (mto (n := 43) [(0, .ref 0 7 0 0), (1, I p0), (6, .ref 7 4 0 0)] [0, 1, 2, 3, 7] [(Qfr p2 p3 p4 p5 p6 p7 p8), (Qfa p9), (Qgo p10), (Qfq p11), (Qos x14)] hφ0 (pc (.rn (rqr rfl)) (pc rwl (pc (.rn (rqr rfl)) pn))) (qc (spb (lc (.rn (.plain _ (nld Qai _))) (lc (.rn (.plain _ (nld Qaa _))) (lc (.rn (Qba rfl)) (lc (.rn (Qba rfl)) (lc (.rn (Qba rfl)) (lc (.rn (.plain _ (nld Qac _))) (lc rwl ln)))))))) (qc (spr Qak) (qc (spr Qaw) (qc (spr Qaf) (qc (spb (lc rwl (lc rwl (lc rwl (lc rwl ln))))) qn))))))⟩
theorem Qkf (N : Nat) (p0 : Int) (p1 : Int) (p2 : (List GRow)) (p3 : (List GElement)) (p4 : Nat) (p5 : Nat) (p6 : Nat) (p7 : (List GStream)) (p8 : Int) (p9 : (List (List GStream))) (p10 : (List GLost)) (p11 : (List Int)) (r : (Int × (List (List GStream)) × (List GLost) × (List Int))) (h : Qcq N p0 p1 p2 p3 p4 p5 p6 p7 p8 p9 p10 p11 = some (.inl r)) : Spec Try.prog 52 [.ref 0 7 0 0, I p0, I p1] [(Qfr p2 p3 p4 p5 p6 p7 p8), (Qfa p9), (Qgo p10), (Qfq p11)] (.tup []) [(.own 7 [[(.dat 5 ((p2 : List GRow).map Qa8)), (.dat 7 ((p3 : List GElement).map Qad)), (.own 1 1 (0) (p4)), (.own 2 4 (0) (p5)), (.own 3 1 (0) (p6)), (.dat 4 ((p7 : List GStream).map Qab)), I r.1]]), (.own 1 ((r.2.1 : List (List GStream)).map Qae)), (.own 4 ((r.2.2.1 : List GLost).map Qa2)), (.own 1 ((r.2.2.2 : List Int).map Qam))] := Qhl N p0 p1 p2 p3 p4 p5 p6 p7 p8 p9 p10 p11 _ h
theorem Qke (N : Nat) (p0 : Int) (p1 : Int) (p2 : (List GRow)) (p3 : (List GElement)) (p4 : Nat) (p5 : Nat) (p6 : Nat) (p7 : (List GStream)) (p8 : Int) (p9 : (List (List GStream))) (p10 : (List GLost)) (p11 : (List Int)) (r : Int) (h : Qcq N p0 p1 p2 p3 p4 p5 p6 p7 p8 p9 p10 p11 = some (.inr r)) : Q9t Try.prog 52 [.ref 0 7 0 0, I p0, I p1] [(Qfr p2 p3 p4 p5 p6 p7 p8), (Qfa p9), (Qgo p10), (Qfq p11)] (.iface 120 (.agg #[(.int .i64 (r))])) := Qhl N p0 p1 p2 p3 p4 p5 p6 p7 p8 p9 p10 p11 _ h
def Zfj : Slot := .own 1 [[(.lit (.pointer none))]]
theorem Qnd (v0 : Int) : DPan Try.prog 51 [1, 1] (.iface 120 (.agg #[(.int .i64 (v0))])) [[(.lit (.pointer none))], [(I (v0))]] := by
  refine Qoy (t := 5) (args := [.ref 0 1 0 0, .ref 1 1 0 0]) Try.func51 rfl (fun _ _ => rfl) (by kernel_rfl) Zc3 2 (nle rfl) (fun X φ0 w0 hφ0 => ?_)
  refine Qbt ?_
  refine Qao ?_
  refine wx tbk [(0, rp [(.tmp 5, (.lit (.iface 120 (.agg #[(.int .i64 (v0))])))), (.const .nilIface, (.lit .nilIface))] (B false))] ⟨Qyc rfl Try.underlying20, trivial⟩ ?_
  refine Qir (by kernel_rfl) ?_
  refine wx tbk [(0, rp [(.tmp 5, (.lit (.iface 120 (.agg #[(.int .i64 (v0))]))))] (.tup [(.agg [I v0]), B true]))] ⟨Qx8 (r := .lit (.tuple #[(.agg #[(.int .i64 (v0))]), (.bool true)])) (Less.trans Q5o (Less.tup ⟨Q5p (l := [(.int .i64 (v0))]), lrf, trivial⟩)) (Qtu rfl Try.underlying120), trivial⟩ ?_
  refine Qch (by kernel_rfl) ?_
  refine wx tbk [] trivial ?_
  refine wy1 tbk [] trivial ?_
  refine bln ?_
  exact ⟨_, (mto (n := 13) (l' := []) (own' := [Zfj, (.own 1 [[I v0]])]) [] [0, 1] [Zfj, (.own 1 [[I v0]])] hφ0 pn (qc (spb (lc rwl ln)) (qc (spb (lc rwl ln)) qn))), Qdc (vs := []) trivial rfl (NLt.tup _ nl0) (by kernel_rfl) (Qal (Qbd (nlt0 (nlc nll nl0))) (Qal (Qbd (nlt0 (nlc nll nl0))) Qbr))⟩
end Go.Proofs.Ytmbhnllcfmiajaa
