/-
  Functions of the program: what they compute, as plain functions, and that they do. No conditions.
-/
import Derived.Test.YtmbhnllcfmiajaaX3
namespace Go.Proofs.Ytmbhnllcfmiajaa
set_option maxRecDepth 100000
set_option maxHeartbeats 4000000
open Go.RowKit
def Qgm (_N : Nat) (p0 : (List Int)) : Option Unit :=
  chk (!p0.isEmpty) <|
  chk (!p0.isEmpty) <|
  chk (decide ((0 + p0.length) * 8 ≤ 140737488355328)) <|
  some ()
def Q9z (p0 : (List Int)) : AV := .dat 1 ((p0 : List Int).map Qaj)
def Q59 (p0 : (List Int)) : Slot := .own 1 ((p0 : List Int).map Qaj)
def Zdx : AV := .acc 0 3 1 ((([] : List Int) : List Int).map Qaj)
theorem Qj9 (N : Nat) (p0 : (List Int)) (r : Unit) (h : Qgm N p0 = some r) : Spec Try.prog 50 [(Q9z p0)] [] (.own 0 1 (0) (p0.length)) [(Q59 p0)] := by
  refine Qak Try.func50 rfl 1 (nle rfl) (fun X φ0 w0 hφ0 hd0 => ?_)
  unfold Qgm at h
  refine Qbp ?_
  refine wx tbk [] trivial ?_
  refine wsq ?_
  obtain ⟨hz1, h⟩ := cko h
  refine wx tbk [(1, rp [(.tmp 3, (Q9z p0)), ((.const (.slice none 0 0)), nilS)] (B false))] ⟨Qxu rfl Try.underlying27 rfl (Qlb hz1), trivial⟩ ?_
  refine Qgt (by kernel_rfl) ?_
  refine Qap ?_
  refine thn ?_
  obtain ⟨ha3, h⟩ := cko h
  obtain ⟨ha2, h⟩ := cko h
  refine wx tbk [(0, ⟨[], [(0, .unused)], Zdx, [(0, .tok)], false⟩), (2, ⟨[(.tmp 5, Zdx), (.tmp 6, (Q9z p0))], [(0, .tok), (1, .unused)], (.own 1 1 (0) (p0.length)), [(0, .dead), (1, (Q59 p0))], false⟩)] ⟨Qlf rfl Try.underlying27 ti3 tz3, Q1j rfl Try.underlying27 te3 (Base.acc _ _) rfl rfl (Qlb ha3) (Qpz Qaj Qqw _) (Q7y Qaj ha2) (Q7x Qaj ha2 (by decide)) (List.length_map _), trivial⟩ ?_
  refine wmr (mto (n := 8) (l' := [(2, (.own 0 1 (0) (p0.length)))]) (own' := [(Q59 p0)]) [(2, (.own 1 1 (0) (p0.length)))] [1] [(Q59 p0)] hφ0 (pc (.rn (Qaz rfl)) pn) (qc (spr Qab) qn)) ?_
  refine Qad ?_
  obtain rfl := osi h
  exact ⟨_, Mor.rfl, Qcz (vs := [(.own 0 1 (0) (p0.length))]) ⟨rot (by kernel_rfl), trivial⟩ rfl (NLt.own _ _ _ _ (by decide)) (by kernel_rfl) (Qal (Qb0 Qab _) Qbn)⟩
theorem Qow : DRet Try.prog 51 [1, 1] := by
  refine Qph (t := 5) (args := [.any, .any]) Try.func51 rfl (fun _ _ => rfl) (by kernel_rfl) Zbe 0 (nle rfl) (fun X φ0 w0 hφ0 => ?_)
  refine Qan ?_
  refine wx tbk [(0, rp [(.tmp 5, (.lit .nilIface)), (.const .nilIface, (.lit .nilIface))] (B true))] ⟨Qvw rfl Try.underlying20, trivial⟩ ?_
  refine Qbk (by kernel_rfl) ?_
  refine wx1 tbk [] trivial ?_
  refine bln ?_
  exact fend ⟨[], trivial, rfl⟩ (.tup _ nl0)
def Qei (_N : Nat) (p0 : GElement) (p1 : Int) : Option Int :=
  chk (p0.Narrow != 0) <|
  (some (if (w64 (p0.Wide - (w64 (p1.tdiv p0.Narrow)))) > 0 then w64 (p0.Wide - (w64 (p1.tdiv p0.Narrow))) else 0)).bind fun x2 =>
  some x2
theorem Qgz (N : Nat) (p0 : GElement) (p1 : Int) (r : Int) (h : Qei N p0 p1 = some r) : Spec Try.prog 36 [(.agg (Qac p0)), (I p1)] [] (I r) [] := by
  refine Qak Try.func36 rfl 0 (nle rfl) (fun X φ0 w0 hφ0 hd0 => ?_)
  unfold Qei at h
  refine wx tbk [] trivial ?_
  obtain ⟨hz1, h⟩ := cko h
  obtain ⟨x2, hl3, h⟩ := bno h
  refine wxd tbk [(5, rp [(.tmp 7, I p1), (.tmp 9, I p0.Narrow)] (I (w64 (p1.tdiv p0.Narrow)))), (7, rp [ci 0, (.tmp 11, (I (w64 (p0.Wide - (w64 (p1.tdiv p0.Narrow))))))] (I x2))] ⟨Ql8 rfl (Qo4 hz1), Qgj hl3 (Ql9 rfl), trivial⟩ ?_
  refine Qad ?_
  obtain rfl := osi h
  exact fend ⟨[I x2], ⟨rot (by kernel_rfl), trivial⟩, rfl⟩ nll
def Qid (_N : Nat) (_p0 : Int) (_p1 : (List GRow)) (_p2 : (List GElement)) (_p3 : Nat) (_p4 : Nat) (_p5 : Nat) (_p6 : (List GStream)) (_p7 : Int) (_p8 : (List (List GStream))) (_p9 : (List GLost)) (_p10 : (List Int)) : Option Unit :=
  some ()
def Q58 (p1 : (List GRow)) (p2 : (List GElement)) (p3 : Nat) (p4 : Nat) (p5 : Nat) (p6 : (List GStream)) (p7 : Int) : Slot := .own 7 [[(.dat 5 ((p1 : List GRow).map Qa3)), (.dat 7 ((p2 : List GElement).map Qac)), (.own 1 1 (0) (p3)), (.own 2 4 (0) (p4)), (.own 3 1 (0) (p5)), (.dat 4 ((p6 : List GStream).map Qae)), (I (p7))]]
def Q57 (p8 : (List (List GStream))) : Slot := .own 1 ((p8 : List (List GStream)).map Qao)
def Q56 (p9 : (List GLost)) : Slot := .own 4 ((p9 : List GLost).map Qbd)
def Q55 (p10 : (List Int)) : Slot := .own 1 ((p10 : List Int).map Qaj)
def Q2i : AV := .fn (.func 90) [] [(.ref 4 1 (0) 0), (.ref 5 1 (0) 0)]
def Q9w : Slot := .own 1 [[(.ref 0 7 (0) 0)]]
theorem Qmp (N : Nat) (p0 : Int) (p1 : (List GRow)) (p2 : (List GElement)) (p3 : Nat) (p4 : Nat) (p5 : Nat) (p6 : (List GStream)) (p7 : Int) (p8 : (List (List GStream))) (p9 : (List GLost)) (p10 : (List Int)) (r : Unit) (h : Qid N p0 p1 p2 p3 p4 p5 p6 p7 p8 p9 p10 = some r) : Spec Try.prog 74 [(.ref 0 7 (0) 0), (I (p0))] [(Q58 p1 p2 p3 p4 p5 p6 p7), (Q57 p8), (Q56 p9), (Q55 p10)] Q2i [(Q58 p1 p2 p3 p4 p5 p6 p7), (Q57 p8), (Q56 p9), (Q55 p10), Q9w, (.own 1 [[(I (p0))]])] := by
  refine Qak Try.func74 rfl 6 (nle rfl) (fun X φ0 w0 hφ0 hd0 => ?_)
  unfold Qid at h
  refine Qbp ?_
  refine wx tbk [] trivial ?_
  refine wx tbk [(0, rp [(.tmp 2, .ref 4 1 0 0), (.tmp 3, .ref 5 1 0 0)] Q2i)] ⟨Qfu (fs := []) (cs := [.ref 4 1 0 0, .ref 5 1 0 0]) rfl rfl rfl rfl, trivial⟩ ?_
  refine wmr (mto (n := 6) (l' := [(4, Q2i)]) (own' := [(Q58 p1 p2 p3 p4 p5 p6 p7), (Q57 p8), (Q56 p9), (Q55 p10), Q9w, (.own 1 [[I p0]])]) [(4, Q2i)] [0, 1, 2, 3, 4, 5] [(Q58 p1 p2 p3 p4 p5 p6 p7), (Q57 p8), (Q56 p9), (Q55 p10), Q9w, (.own 1 [[I p0]])] hφ0 (pc (.rn (Qav rn0 (rnc (rqr rfl) (rnc (rqr rfl) rn0)))) pn) (qc (spb (lc (.rn (.plain _ (nld Qah _))) (lc (.rn (.plain _ (nld Qaa _))) (lc (.rn (Qaz rfl)) (lc (.rn (Qaz rfl)) (lc (.rn (Qaz rfl)) (lc (.rn (.plain _ (nld Qai _))) (lc rwl ln)))))))) (qc (spr Qat) (qc (spr Qa9) (qc (spr Qab) (qc (spb (lc (.rn (rqr rfl)) ln)) (qc (spb (lc rwl ln)) qn))))))) ?_
  refine Qad ?_
  obtain rfl := osi h
  exact ⟨_, Mor.rfl, Qcz (vs := [Q2i]) ⟨rot (by kernel_rfl), trivial⟩ rfl (NLt.fn _ _ _ nl0 (nlc (NLt.ref _ _ _ _ (by decide)) (nlc (NLt.ref _ _ _ _ (by decide)) nl0))) (by kernel_rfl) (Qal (Qa4 (nlc (NLt.of0 (nld Qah _)) (nlc (NLt.of0 (nld Qaa _)) (nlc (NLt.own _ _ _ _ (by decide)) (nlc (NLt.own _ _ _ _ (by decide)) (nlc (NLt.own _ _ _ _ (by decide)) (nlc (NLt.of0 (nld Qai _)) (nlc (NLt.of0 nll) nl0)))))))) (Qal (Qb0 Qat _) (Qal (Qb0 Qa9 _) (Qal (Qb0 Qab _) (Qal (Qa4 (nlc (NLt.ref _ _ _ _ (by decide)) nl0)) (Qal (Qa4 (nlc (NLt.of0 nll) nl0)) Qbn))))))⟩
def Qdd (N : Nat) (p0 : (List Int)) (k1 : Unit → Option Int) (p1 : Int) : Nat → Int → Option Int
  | 0, _ => none
  | n4 + 1, y2 =>
    bif (decide (y2 < (p0.length : Int))) then
     (getI p0 y2).bind fun x6 =>
     bif (p1 == x6) then
      some y2
     else
      Qdd N p0 k1 p1 n4 (w64 (y2 + 1))
    else
     k1 ()
def Qg3 (N : Nat) (p0 : (List Int)) (p1 : Int) : Option Int :=
  Qbz (fun _ =>
    some (-1)) fun k1 : Unit → Option Int =>
  Qdd N p0 k1 p1 N 0
def Qz3 (p0 : (List Int)) : AV := .dat 1 ((p0 : List Int).map Qaj)
theorem Qho (N : Nat) (p0 : (List Int)) (p1 : Int) (r : Int) (h : Qg3 N p0 p1 = some r) : Spec Try.prog 91 [(.dat 1 (p0.map Qaj)), (I p1)] [] (I r) [] := by
  refine Qak Try.func91 rfl 0 (nle rfl) (fun X φ0 w0 hφ0 hd0 => ?_)
  unfold Qg3 at h
  refine wx tbk [] trivial ?_
  obtain ⟨k1, hk_k1, h⟩ := jko h
  refine wjn (τ := Unit) (fun t => k1 t = some r) (fun _ => ⟨mk 19 [], []⟩) (fun t h => ?_) ?_
  ·subst hk_k1
   refine wx tbk [] trivial ?_
   refine Qad ?_
   obtain rfl := osi h
   exact fend ⟨[(I ((-1)))], ⟨rot (by kernel_rfl), trivial⟩, rfl⟩ nll
  ·skip
   refine wx tbk [(1, rp [(.tmp 6, (Qz3 p0))] (I ((p0.length : Int))))] ⟨alm (c := Qaj) (l := p0) (aln rfl Try.underlying27 rfl), trivial⟩ ?_
   refine Qan ?_
   refine wmr (mto (n := 19) (l' := [(0, (Qz3 p0)), (1, I p1), (7, (I ((p0.length : Int)))), (8, I 0)]) (own' := []) [(0, (Qz3 p0)), (1, I p1), (7, (I ((p0.length : Int)))), (8, I 0)] [] [] hφ0 (pc (.rn (.plain _ (nld Qab _))) (pc rwl (pc rwl (pc rwl pn)))) qn) ?_
   refine Qby (τ := Int) (fun n t => Qdd N p0 k1 p1 n t = some r) (fun y2 => ⟨mk 19 [(0, (Qz3 p0)), (1, I p1), (7, (I ((p0.length : Int)))), (8, I y2)], []⟩) (fun t h => by rw [Qdd] at h; cases h) (fun n4 ih y2 h => ?_) N (0) h
   rw [Qdd] at h
   skip
   refine wx tbk [] trivial ?_
   refine wsq ?_
   rcases bft ((decide (y2 < (p0.length : Int)))) with hc5 | hc5
   ·replace h := Qaw hc5 h
    refine wft hc5 (by kernel_rfl) ?_
    refine Qap ?_
    refine thn ?_
    refine wsq ?_
    refine Qan ?_
    refine wx tbk [] trivial ?_
    obtain ⟨x6, hg7, h⟩ := bno h
    obtain ⟨hi8, hj9⟩ := gsm hg7
    refine wx tbk [(3, rp [(.tmp 12, (Qz3 p0)), (.tmp 13, I y2)] (.dptr (Qaj (x6)) 0))] ⟨aid rfl Try.underlying27 ti3 rfl rfl hi8 (mgt Qaj hj9) rfl, trivial⟩ ?_
    rcases bft ((p1 == x6)) with hc10 | hc10
    ·replace h := Qaw hc10 h
     refine wft hc10 (by kernel_rfl) ?_
     refine wx tbk [] trivial ?_
     refine Qad ?_
     refine Qas ?_
     refine Qaf ?_
     refine Qaf ?_
     refine Qas ?_
     refine Qaf ?_
     obtain rfl := osi h
     exact fend ⟨[I y2], ⟨rot (by kernel_rfl), trivial⟩, rfl⟩ nll
    ·replace h := Qax hc10 h
     refine wfn hc10 (by kernel_rfl) ?_
     refine Qap ?_
     refine bln ?_
     refine thn ?_
     refine wx1 tbk [] trivial ?_
     refine thn ?_
     exact arm (mto (n := 19) [(0, (Qz3 p0)), (1, I p1), (7, (I ((p0.length : Int)))), (8, (I (w64 (y2 + 1))))] [] [] hφ0 (pc (.rn (.plain _ (nld Qab _))) (pc rwl (pc rwl (pc rwl pn)))) qn) (ih (w64 (y2 + 1)) h)
   ·replace h := Qax hc5 h
    refine wfn hc5 (by kernel_rfl) ?_
    refine Qbi ?_
    refine Qay ?_
    refine Qay ?_
    refine Qbh rfl ?_
    refine thn ?_
    exact ⟨(), h, (mto (n := 19) [] [] [] hφ0 pn qn)⟩
def Qd7 (N : Nat) (x1 : GElement) (p2 : (List (List GStream))) : Nat → Int → Option (List GStream)
  | 0, _ => none
  | n19 + 1, y15 =>
    bif (decide (y15 < (x1.From.length : Int))) then
     (getI x1.From y15).bind fun x21 =>
     (getI p2 x21.Element).bind fun x25 =>
     (getI x25 x21.Outlet).bind fun x29 =>
     yld x29 <|
     Qd7 N x1 p2 n19 (w64 (y15 + 1))
    else
     some ([])
def Qic (N : Nat) (p0 : (List GRow)) (p1 : (List GElement)) (p2 : (List (List GStream))) (_p3 : (List GLost)) (_p4 : (List Int)) (p5 : (List GStream)) (_p6 : Int) (p7 : Int) : Option (List GStream) :=
  (getI p1 p7).bind fun x1 =>
  bif (x1.Kind == 1) then
   (Qkd N (⟨p0, p1⟩ : GNet) 1).bind fun x7 =>
   (Qg3 N x7 p7).bind fun x9 =>
   (getI p5 x9).bind fun x10 =>
   yld x10 <|
   some ([])
  else
   Qd7 N x1 p2 N 0
def Qf5 (p0 : (List GRow)) : AV := .dat 5 ((p0 : List GRow).map Qa3)
def Qfv (p1 : (List GElement)) : AV := .dat 7 ((p1 : List GElement).map Qac)
def Qfq (p2 : (List (List GStream))) : AV := .dat 1 ((p2 : List (List GStream)).map Qao)
def Qga (p3 : (List GLost)) : AV := .dat 4 ((p3 : List GLost).map Qbd)
def Qf9 (p4 : (List Int)) : AV := .dat 1 ((p4 : List Int).map Qaj)
def Qfp (p5 : (List GStream)) : AV := .dat 4 ((p5 : List GStream).map Qae)
def Qz6 (p0 : (List GRow)) (p1 : (List GElement)) : AV := .agg [(Qf5 p0), (Qfv p1)]
def Qz5 (x7 : (List Int)) : AV := .dat 1 ((x7 : List Int).map Qaj)
def Q54 (x10 : GStream) : AV := .agg [(I (x10.Mass)), (I (x10.Heat)), (I (x10.Silica)), (I (x10.Gas))]
def Qz4 (x1 : GElement) : AV := .dat 2 ((x1.From : List GPort).map Qam)
def Qpa (x21 : GPort) : Slot := .own 2 [[(I (x21.Element)), (I (x21.Outlet))]]
def Qyh (x25 : (List GStream)) : AV := .dat 4 ((x25 : List GStream).map Qae)
def Qyg (x29 : GStream) : AV := .agg [(I (x29.Mass)), (I (x29.Heat)), (I (x29.Silica)), (I (x29.Gas))]
theorem Qmo (N : Nat) (p0 : (List GRow)) (p1 : (List GElement)) (p2 : (List (List GStream))) (p3 : (List GLost)) (p4 : (List Int)) (p5 : (List GStream)) (p6 : Int) (p7 : Int) (r : (List GStream)) (h : Qic N p0 p1 p2 p3 p4 p5 p6 p7 = some r) : Qrr Try.prog 90 [(.dptr [(.dptr [(Qf5 p0), (Qfv p1), (Qfq p2), (Qga p3), (Qf9 p4), (Qfp p5), (I (p6))] 0)] 0), (.dptr [(I (p7))] 0)] [] (fun x => [(.agg #[(.int .i64 (x.Mass)), (.int .i64 (x.Heat)), (.int .i64 (x.Silica)), (.int .i64 (x.Gas))])]) r := by
  refine Qsh Try.func90 rfl rfl (fun X φ0 w0 l J hφ0 hy => ?_)
  unfold Qic at h
  refine wsq ?_
  obtain ⟨x1, hg2, h⟩ := bno h
  obtain ⟨hi3, hj4⟩ := gsm hg2
  refine wxd tbk [(6, rp [(.tmp 10, (Qfv p1)), (.tmp 11, I p7)] (.dptr (Qac (x1)) 0))] ⟨aid rfl Try.underlying40 ti76 rfl rfl hi3 (mgt Qac hj4) rfl, trivial⟩ ?_
  rcases bft ((x1.Kind == 1)) with hc5 | hc5
  ·replace h := Qaw hc5 h
   refine wft hc5 (by kernel_rfl) ?_
   obtain ⟨x7, hf6, h⟩ := bno h
   obtain ⟨x9, hf8, h⟩ := bno h
   obtain ⟨x10, hg11, h⟩ := bno h
   obtain ⟨hi12, hj13⟩ := gsm hg11
   obtain ⟨q14, hy_, hq_⟩ := Qwp h
   clear h
   subst hq_
   have h := hy_
   clear hy_
   refine Qvu 14 [mv 0 (.lit (.func (.yield l) #[] #[])), rp [(.tmp 1, (.dptr [(.dptr [(Qf5 p0), (Qfv p1), (Qfq p2), (Qga p3), (Qf9 p4), (Qfp p5), I p6] 0)] 0))] (.dptr [(Qf5 p0), (Qfv p1), (Qfq p2), (Qga p3), (Qf9 p4), (Qfp p5), I p6] 0), mv 17 (.dptr [(Qf5 p0), (Qfv p1), (Qfq p2), (Qga p3), (Qf9 p4), (Qfp p5), I p6] 0), rp [(.tmp 18, (.dptr [(Qf5 p0), (Qfv p1), (Qfq p2), (Qga p3), (Qf9 p4), (Qfp p5), I p6] 0))] (.dptr [(Qf5 p0), (Qfv p1), (Qfq p2), (Qga p3), (Qf9 p4), (Qfp p5), I p6] 5), rp [(.tmp 19, (.dptr [(Qf5 p0), (Qfv p1), (Qfq p2), (Qga p3), (Qf9 p4), (Qfp p5), I p6] 5))] (Qfp p5), rp [(.tmp 1, (.dptr [(.dptr [(Qf5 p0), (Qfv p1), (Qfq p2), (Qga p3), (Qf9 p4), (Qfp p5), I p6] 0)] 0))] (.dptr [(Qf5 p0), (Qfv p1), (Qfq p2), (Qga p3), (Qf9 p4), (Qfp p5), I p6] 0), mv 21 (.dptr [(Qf5 p0), (Qfv p1), (Qfq p2), (Qga p3), (Qf9 p4), (Qfp p5), I p6] 0), mv 22 (.dptr [(Qf5 p0), (Qfv p1), (Qfq p2), (Qga p3), (Qf9 p4), (Qfp p5), I p6] 0), rp [(.tmp 23, (.dptr [(Qf5 p0), (Qfv p1), (Qfq p2), (Qga p3), (Qf9 p4), (Qfp p5), I p6] 0))] (Qz6 p0 p1), rp [fu 70, (.tmp 24, (Qz6 p0 p1)), (.const (.int .u8 1), (K .u8 (1)))] (Qz5 x7), rp [(.tmp 2, (.dptr [I p7] 0))] (I p7), rp [fu 91, (.tmp 25, (Qz5 x7)), (.tmp 26, I p7)] (I x9), rp [(.tmp 20, (Qfp p5)), (.tmp 27, I x9)] (.dptr (Qae (x10)) 0), rp [(.tmp 28, (.dptr (Qae (x10)) 0))] (Q54 x10), ⟨[(.tmp 16, (.lit (.func (.yield l) #[] #[]))), (.tmp 29, (Q54 x10))], [(0, (.far (J (some (x10 :: q14)))))], B true, [(0, (.far (J (some (q14)))))], false⟩] [mv 0 (.lit (.func (.yield l) #[] #[])), rp [(.tmp 1, (.dptr [(.dptr [(Qf5 p0), (Qfv p1), (Qfq p2), (Qga p3), (Qf9 p4), (Qfp p5), I p6] 0)] 0))] (.dptr [(Qf5 p0), (Qfv p1), (Qfq p2), (Qga p3), (Qf9 p4), (Qfp p5), I p6] 0), mv 17 (.dptr [(Qf5 p0), (Qfv p1), (Qfq p2), (Qga p3), (Qf9 p4), (Qfp p5), I p6] 0), rp [(.tmp 18, (.dptr [(Qf5 p0), (Qfv p1), (Qfq p2), (Qga p3), (Qf9 p4), (Qfp p5), I p6] 0))] (.dptr [(Qf5 p0), (Qfv p1), (Qfq p2), (Qga p3), (Qf9 p4), (Qfp p5), I p6] 5), rp [(.tmp 19, (.dptr [(Qf5 p0), (Qfv p1), (Qfq p2), (Qga p3), (Qf9 p4), (Qfp p5), I p6] 5))] (Qfp p5), rp [(.tmp 1, (.dptr [(.dptr [(Qf5 p0), (Qfv p1), (Qfq p2), (Qga p3), (Qf9 p4), (Qfp p5), I p6] 0)] 0))] (.dptr [(Qf5 p0), (Qfv p1), (Qfq p2), (Qga p3), (Qf9 p4), (Qfp p5), I p6] 0), mv 21 (.dptr [(Qf5 p0), (Qfv p1), (Qfq p2), (Qga p3), (Qf9 p4), (Qfp p5), I p6] 0), mv 22 (.dptr [(Qf5 p0), (Qfv p1), (Qfq p2), (Qga p3), (Qf9 p4), (Qfp p5), I p6] 0), rp [(.tmp 23, (.dptr [(Qf5 p0), (Qfv p1), (Qfq p2), (Qga p3), (Qf9 p4), (Qfp p5), I p6] 0))] (Qz6 p0 p1), rp [fu 70, (.tmp 24, (Qz6 p0 p1)), (.const (.int .u8 1), (K .u8 (1)))] (Qz5 x7), rp [(.tmp 2, (.dptr [I p7] 0))] (I p7), rp [fu 91, (.tmp 25, (Qz5 x7)), (.tmp 26, I p7)] (I x9), rp [(.tmp 20, (Qfp p5)), (.tmp 27, I x9)] (.dptr (Qae (x10)) 0), rp [(.tmp 28, (.dptr (Qae (x10)) 0))] (Q54 x10), ⟨[(.tmp 16, (.lit (.func (.yield l) #[] #[]))), (.tmp 29, (Q54 x10))], [(0, (.far (J (some (x10 :: q14)))))], B false, [(0, (.far (J none)))], false⟩] (by exact ⟨by kernel_rfl, by kernel_rfl⟩) (by exact ⟨by kernel_rfl, by kernel_rfl⟩) rfl rfl rfl rfl (Qnf (rd' := (.tmp 16, .lit (.func (.yield l) #[] #[])) :: [(.tmp 29, .lit (.agg #[(.int .i64 (x10.Mass)), (.int .i64 (x10.Heat)), (.int .i64 (x10.Silica)), (.int .i64 (x10.Gas))]))]) ⟨rfl, lrf, rfl, (Less.lits [(.int .i64 (x10.Mass)), (.int .i64 (x10.Heat)), (.int .i64 (x10.Silica)), (.int .i64 (x10.Gas))]), trivial⟩ (Ql7 (x := x10) (rest := q14) rfl rfl hy rfl)) (⟨fun _ _ => amv rfl, fun _ _ => ald_ rfl ti89 (by decide) (nle rfl) rfl, fun _ _ => anc rfl rfl, fun _ _ => afd rfl Try.underlying93 rfl rfl ti45 (by decide) rfl, fun _ _ => ald_ rfl ti45 (by decide) (nle rfl) rfl, fun _ _ => ald_ rfl ti89 (by decide) (nle rfl) rfl, fun _ _ => anc rfl rfl, fun _ _ => afd rfl Try.underlying93 rfl rfl ti42 (by decide) rfl, fun _ _ => ald_ rfl ti42 (by decide) (nle rfl) rfl, fun _ _ => apc (first := []) (cap := []) (vs := [(Qz6 p0 p1), (K .u8 (1))]) rfl Qtu (Qh7 N (⟨p0, p1⟩ : GNet) 1 _ hf6) rfl rfl (nlc (NLt.agg _ (nlc (nld Qah _) (nlc (nld Qaa _) nl0))) (nlc nll nl0)) (nld Qab _) rfl, fun _ _ => ald_ rfl ti3 (by decide) (nle rfl) rfl, fun _ _ => apc (first := []) (cap := []) (vs := [(Qz5 x7), I p7]) rfl Q4k (Qho N x7 p7 _ hf8) rfl rfl (nlc (nld Qab _) (nlc nll nl0)) nll rfl, fun _ _ => aid rfl Try.underlying45 ti48 rfl rfl hi12 (mgt Qae hj13) rfl, fun _ _ => ald_ rfl ti48 (by decide) (nle rfl) rfl, fun _ h => absurd rfl h, trivial⟩) (⟨fun _ _ => amv rfl, fun _ _ => ald_ rfl ti89 (by decide) (nle rfl) rfl, fun _ _ => anc rfl rfl, fun _ _ => afd rfl Try.underlying93 rfl rfl ti45 (by decide) rfl, fun _ _ => ald_ rfl ti45 (by decide) (nle rfl) rfl, fun _ _ => ald_ rfl ti89 (by decide) (nle rfl) rfl, fun _ _ => anc rfl rfl, fun _ _ => afd rfl Try.underlying93 rfl rfl ti42 (by decide) rfl, fun _ _ => ald_ rfl ti42 (by decide) (nle rfl) rfl, fun _ _ => apc (first := []) (cap := []) (vs := [(Qz6 p0 p1), (K .u8 (1))]) rfl Qtu (Qh7 N (⟨p0, p1⟩ : GNet) 1 _ hf6) rfl rfl (nlc (NLt.agg _ (nlc (nld Qah _) (nlc (nld Qaa _) nl0))) (nlc nll nl0)) (nld Qab _) rfl, fun _ _ => ald_ rfl ti3 (by decide) (nle rfl) rfl, fun _ _ => apc (first := []) (cap := []) (vs := [(Qz5 x7), I p7]) rfl Q4k (Qho N x7 p7 _ hf8) rfl rfl (nlc (nld Qab _) (nlc nll nl0)) nll rfl, fun _ _ => aid rfl Try.underlying45 ti48 rfl rfl hi12 (mgt Qae hj13) rfl, fun _ _ => ald_ rfl ti48 (by decide) (nle rfl) rfl, fun _ h => absurd rfl h, trivial⟩) ?_ ?_
   ·skip
    refine Qad ?_
    refine Qaf ?_
    obtain rfl := osi h
    exact Or.inl rfl
   ·clear h
    refine Qad ?_
    refine Qaf ?_
    exact Or.inr (by kernel_rfl)
  ·replace h := Qax hc5 h
   refine wfn hc5 (by kernel_rfl) ?_
   refine Qap ?_
   refine thn ?_
   refine wxd tbk [(6, rp [(.tmp 35, (Qfv p1)), (.tmp 36, I p7)] (.dptr (Qac (x1)) 0)), (9, rp [(.tmp 39, (Qz4 x1))] (I ((x1.From.length : Int))))] ⟨aid rfl Try.underlying40 ti76 rfl rfl hi3 (mgt Qac hj4) rfl, alm (c := Qam) (l := x1.From) (aln rfl Try.underlying53 rfl), trivial⟩ ?_
   refine Qan ?_
   refine wmr (mto (n := 62) (l' := [(0, (.lit (.func (.yield l) #[] #[]))), (1, (.dptr [(.dptr [(Qf5 p0), (Qfv p1), (Qfq p2), (Qga p3), (Qf9 p4), (Qfp p5), I p6] 0)] 0)), (39, (Qz4 x1)), (40, (I ((x1.From.length : Int)))), (41, I 0)]) (own' := [(.far (J (some (r))))]) [(0, (.lit (.func (.yield l) #[] #[]))), (1, (.dptr [(.dptr [(Qf5 p0), (Qfv p1), (Qfq p2), (Qga p3), (Qf9 p4), (Qfp p5), I p6] 0)] 0)), (39, (Qz4 x1)), (40, (I ((x1.From.length : Int)))), (41, I 0)] [0] [(.far (J (some (r))))] hφ0 (pc rwl (pc (.rn (.plain _ (NLt.dptr _ _ (nlc (NLt.dptr _ _ (nlc (nld Qah _) (nlc (nld Qaa _) (nlc (nld Qat _) (nlc (nld Qa9 _) (nlc (nld Qab _) (nlc (nld Qai _) (nlc nll nl0)))))))) nl0)))) (pc (.rn (.plain _ (nld Qau _))) (pc rwl (pc rwl pn))))) (qc (.far _) qn)) ?_
   refine Qby (τ := (Int) × List GStream) (fun n t => Qd7 N x1 p2 n t.1 = some t.2) (fun ⟨y15, q16⟩ => ⟨mk 62 [(0, (.lit (.func (.yield l) #[] #[]))), (1, (.dptr [(.dptr [(Qf5 p0), (Qfv p1), (Qfq p2), (Qga p3), (Qf9 p4), (Qfp p5), I p6] 0)] 0)), (39, (Qz4 x1)), (40, (I ((x1.From.length : Int)))), (41, I y15)], [(.far (J (some (q16))))]⟩) (fun t h => by rw [Qd7] at h; cases h) (fun n19 ih t h => ?_) N ((0), r) h
   obtain ⟨y15, q16⟩ := t
   rw [Qd7] at h
   try dsimp only at h
   refine wx tbk [] trivial ?_
   refine wsq ?_
   rcases bft ((decide (y15 < (x1.From.length : Int)))) with hc20 | hc20
   ·replace h := Qaw hc20 h
    refine wft hc20 (by kernel_rfl) ?_
    refine Qap ?_
    refine thn ?_
    refine wsq ?_
    refine Qan ?_
    obtain ⟨x21, hg22, h⟩ := bno h
    obtain ⟨hi23, hj24⟩ := gsm hg22
    refine wx tbk [(0, rp [(.tmp 39, (Qz4 x1)), (.tmp 41, I y15)] (.dptr (Qam (x21)) 0))] ⟨aid rfl Try.underlying53 ti57 rfl rfl hi23 (mgt Qam hj24) rfl, trivial⟩ ?_
    obtain ⟨x25, hg26, h⟩ := bno h
    obtain ⟨hi27, hj28⟩ := gsm hg26
    obtain ⟨x29, hg30, h⟩ := bno h
    obtain ⟨hi31, hj32⟩ := gsm hg30
    obtain ⟨q33, hy_, hq_⟩ := Qwp h
    clear h
    subst hq_
    have h := hy_
    clear hy_
    refine Qvu 14 [mv 0 (.lit (.func (.yield l) #[] #[])), rp [(.tmp 1, (.dptr [(.dptr [(Qf5 p0), (Qfv p1), (Qfq p2), (Qga p3), (Qf9 p4), (Qfp p5), I p6] 0)] 0))] (.dptr [(Qf5 p0), (Qfv p1), (Qfq p2), (Qga p3), (Qf9 p4), (Qfp p5), I p6] 0), mv 46 (.dptr [(Qf5 p0), (Qfv p1), (Qfq p2), (Qga p3), (Qf9 p4), (Qfp p5), I p6] 0), rp [(.tmp 47, (.dptr [(Qf5 p0), (Qfv p1), (Qfq p2), (Qga p3), (Qf9 p4), (Qfp p5), I p6] 0))] (.dptr [(Qf5 p0), (Qfv p1), (Qfq p2), (Qga p3), (Qf9 p4), (Qfp p5), I p6] 2), mv 48 (.dptr [(Qf5 p0), (Qfv p1), (Qfq p2), (Qga p3), (Qf9 p4), (Qfp p5), I p6] 2), rp [(.tmp 49, (.dptr [(Qf5 p0), (Qfv p1), (Qfq p2), (Qga p3), (Qf9 p4), (Qfp p5), I p6] 2))] (Qfq p2), rb [(.tmp 5, .ref 1 2 0 0)] [(1, (Qpa x21))] (.ref 1 2 0 0), rb [(.tmp 51, .ref 1 2 0 0)] [(1, (Qpa x21))] (I x21.Element), rp [(.tmp 50, (Qfq p2)), (.tmp 52, I x21.Element)] (.dptr (Qao (x25)) 0), rp [(.tmp 53, (.dptr (Qao (x25)) 0))] (Qyh x25), rb [(.tmp 5, .ref 1 2 0 0)] [(1, (Qpa x21))] (.ref 1 2 0 1), rb [(.tmp 55, .ref 1 2 0 1)] [(1, (Qpa x21))] (I x21.Outlet), rp [(.tmp 54, (Qyh x25)), (.tmp 56, I x21.Outlet)] (.dptr (Qae (x29)) 0), rp [(.tmp 57, (.dptr (Qae (x29)) 0))] (Qyg x29), ⟨[(.tmp 45, (.lit (.func (.yield l) #[] #[]))), (.tmp 58, (Qyg x29))], [(0, (.far (J (some (x29 :: q33)))))], B true, [(0, (.far (J (some (q33)))))], false⟩, rp [(.tmp 59, B true)] (B false)] [mv 0 (.lit (.func (.yield l) #[] #[])), rp [(.tmp 1, (.dptr [(.dptr [(Qf5 p0), (Qfv p1), (Qfq p2), (Qga p3), (Qf9 p4), (Qfp p5), I p6] 0)] 0))] (.dptr [(Qf5 p0), (Qfv p1), (Qfq p2), (Qga p3), (Qf9 p4), (Qfp p5), I p6] 0), mv 46 (.dptr [(Qf5 p0), (Qfv p1), (Qfq p2), (Qga p3), (Qf9 p4), (Qfp p5), I p6] 0), rp [(.tmp 47, (.dptr [(Qf5 p0), (Qfv p1), (Qfq p2), (Qga p3), (Qf9 p4), (Qfp p5), I p6] 0))] (.dptr [(Qf5 p0), (Qfv p1), (Qfq p2), (Qga p3), (Qf9 p4), (Qfp p5), I p6] 2), mv 48 (.dptr [(Qf5 p0), (Qfv p1), (Qfq p2), (Qga p3), (Qf9 p4), (Qfp p5), I p6] 2), rp [(.tmp 49, (.dptr [(Qf5 p0), (Qfv p1), (Qfq p2), (Qga p3), (Qf9 p4), (Qfp p5), I p6] 2))] (Qfq p2), rb [(.tmp 5, .ref 1 2 0 0)] [(1, (Qpa x21))] (.ref 1 2 0 0), rb [(.tmp 51, .ref 1 2 0 0)] [(1, (Qpa x21))] (I x21.Element), rp [(.tmp 50, (Qfq p2)), (.tmp 52, I x21.Element)] (.dptr (Qao (x25)) 0), rp [(.tmp 53, (.dptr (Qao (x25)) 0))] (Qyh x25), rb [(.tmp 5, .ref 1 2 0 0)] [(1, (Qpa x21))] (.ref 1 2 0 1), rb [(.tmp 55, .ref 1 2 0 1)] [(1, (Qpa x21))] (I x21.Outlet), rp [(.tmp 54, (Qyh x25)), (.tmp 56, I x21.Outlet)] (.dptr (Qae (x29)) 0), rp [(.tmp 57, (.dptr (Qae (x29)) 0))] (Qyg x29), ⟨[(.tmp 45, (.lit (.func (.yield l) #[] #[]))), (.tmp 58, (Qyg x29))], [(0, (.far (J (some (x29 :: q33)))))], B false, [(0, (.far (J none)))], false⟩, rp [(.tmp 59, B false)] (B true)] (by exact ⟨by kernel_rfl, by kernel_rfl⟩) (by exact ⟨by kernel_rfl, by kernel_rfl⟩) rfl rfl rfl rfl (Qnf (rd' := (.tmp 45, .lit (.func (.yield l) #[] #[])) :: [(.tmp 58, .lit (.agg #[(.int .i64 (x29.Mass)), (.int .i64 (x29.Heat)), (.int .i64 (x29.Silica)), (.int .i64 (x29.Gas))]))]) ⟨rfl, lrf, rfl, (Less.lits [(.int .i64 (x29.Mass)), (.int .i64 (x29.Heat)), (.int .i64 (x29.Silica)), (.int .i64 (x29.Gas))]), trivial⟩ (Ql7 (x := x29) (rest := q33) rfl rfl hy rfl)) (⟨fun _ _ => amv rfl, fun _ _ => ald_ rfl ti89 (by decide) (nle rfl) rfl, fun _ _ => anc rfl rfl, fun _ _ => afd rfl Try.underlying93 rfl rfl ti34 (by decide) rfl, fun _ _ => afd rfl Try.underlying34 rfl rfl ti31 (by decide) rfl, fun _ _ => ald_ rfl ti31 (by decide) (nle rfl) rfl, fun _ _ => afa rfl Try.underlying57 rfl rfl ti3 (by decide) rfl, fun _ _ => ald rfl ti3 (by decide) rfl (nle rfl) rfl, fun _ _ => aid rfl Try.underlying31 ti45 rfl rfl hi27 (mgt Qao hj28) rfl, fun _ _ => ald_ rfl ti45 (by decide) (nle rfl) rfl, fun _ _ => afa rfl Try.underlying57 rfl rfl ti3 (by decide) rfl, fun _ _ => ald rfl ti3 (by decide) rfl (nle rfl) rfl, fun _ _ => aid rfl Try.underlying45 ti48 rfl rfl hi31 (mgt Qae hj32) rfl, fun _ _ => ald_ rfl ti48 (by decide) (nle rfl) rfl, fun _ h => absurd rfl h, fun _ _ => Qj5 rfl, trivial⟩) (⟨fun _ _ => amv rfl, fun _ _ => ald_ rfl ti89 (by decide) (nle rfl) rfl, fun _ _ => anc rfl rfl, fun _ _ => afd rfl Try.underlying93 rfl rfl ti34 (by decide) rfl, fun _ _ => afd rfl Try.underlying34 rfl rfl ti31 (by decide) rfl, fun _ _ => ald_ rfl ti31 (by decide) (nle rfl) rfl, fun _ _ => afa rfl Try.underlying57 rfl rfl ti3 (by decide) rfl, fun _ _ => ald rfl ti3 (by decide) rfl (nle rfl) rfl, fun _ _ => aid rfl Try.underlying31 ti45 rfl rfl hi27 (mgt Qao hj28) rfl, fun _ _ => ald_ rfl ti45 (by decide) (nle rfl) rfl, fun _ _ => afa rfl Try.underlying57 rfl rfl ti3 (by decide) rfl, fun _ _ => ald rfl ti3 (by decide) rfl (nle rfl) rfl, fun _ _ => aid rfl Try.underlying45 ti48 rfl rfl hi31 (mgt Qae hj32) rfl, fun _ _ => ald_ rfl ti48 (by decide) (nle rfl) rfl, fun _ h => absurd rfl h, fun _ _ => Qj5 rfl, trivial⟩) ?_ ?_
    ·skip
     refine Qgt (by kernel_rfl) ?_
     refine Qap ?_
     refine bln ?_
     refine thn ?_
     refine wx1 tbk [] trivial ?_
     refine thn ?_
     exact arm (mto (n := 62) [(0, (.lit (.func (.yield l) #[] #[]))), (1, (.dptr [(.dptr [(Qf5 p0), (Qfv p1), (Qfq p2), (Qga p3), (Qf9 p4), (Qfp p5), I p6] 0)] 0)), (39, (Qz4 x1)), (40, (I ((x1.From.length : Int)))), (41, (I (w64 (y15 + 1))))] [0] [(.far (J (some (q33))))] hφ0 (pc rwl (pc (.rn (.plain _ (NLt.dptr _ _ (nlc (NLt.dptr _ _ (nlc (nld Qah _) (nlc (nld Qaa _) (nlc (nld Qat _) (nlc (nld Qa9 _) (nlc (nld Qab _) (nlc (nld Qai _) (nlc nll nl0)))))))) nl0)))) (pc (.rn (.plain _ (nld Qau _))) (pc rwl (pc rwl pn))))) (qc (.far _) qn)) (ih ((w64 (y15 + 1)), q33) h)
    ·clear h
     refine Qbk (by kernel_rfl) ?_
     refine Qad ?_
     refine Qas ?_
     refine Qaf ?_
     refine Qaf ?_
     refine Qas ?_
     exact Or.inr (by kernel_rfl)
   ·replace h := Qax hc20 h
    refine wfn hc20 (by kernel_rfl) ?_
    refine Qbi ?_
    refine Qay ?_
    refine Qay ?_
    refine Qbh rfl ?_
    obtain rfl := osi h
    exact Or.inl rfl
def Qbe (N : Nat) (k3 : (List GStream) → Option (List GStream)) : (List GStream) → (List GStream) → Option (List GStream)
  | [], y6 =>
    k3 (y6)
  | x9 :: q10, y6 =>
    chk (decide ((y6.length + ([x9]).length) * 32 ≤ 140737488355328)) <|
    Qbe N k3 q10 (y6 ++ ([x9]))
def Qcx (N : Nat) (p0 : (List GRow)) (p1 : (List GElement)) (p2 : (List (List GStream))) (p3 : (List GLost)) (p4 : (List Int)) (p5 : (List GStream)) (p6 : Int) (p7 : Int) : Option (List GStream) :=
  Qbz (fun y2 =>
    some y2) fun k3 : (List GStream) → Option (List GStream) =>
  (Qic N p0 p1 p2 p3 p4 p5 p6 p7).bind fun q4 =>
  Qbe N k3 q4 ([])
def Q9u (p0 : (List GRow)) (p1 : (List GElement)) (p2 : (List (List GStream))) (p3 : (List GLost)) (p4 : (List Int)) (p5 : (List GStream)) (p6 : Int) (p7 : Int) : AV := .fn (.func 90) [] [(.dptr [(.dptr [(.dat 5 ((p0 : List GRow).map Qa3)), (.dat 7 ((p1 : List GElement).map Qac)), (.dat 1 ((p2 : List (List GStream)).map Qao)), (.dat 4 ((p3 : List GLost).map Qbd)), (.dat 1 ((p4 : List Int).map Qaj)), (.dat 4 ((p5 : List GStream).map Qae)), (I (p6))] 0)] 0), (.dptr [(I (p7))] 0)]
def Q2g (y6 : (List GStream)) : AV := .acc 1 48 4 ((y6 : List GStream).map Qae)
def Q8i (x9 : GStream) : AV := .agg [(I (x9.Mass)), (I (x9.Heat)), (I (x9.Silica)), (I (x9.Gas))]
theorem Qfz (N : Nat) (p0 : (List GRow)) (p1 : (List GElement)) (p2 : (List (List GStream))) (p3 : (List GLost)) (p4 : (List Int)) (p5 : (List GStream)) (p6 : Int) (p7 : Int) (r : (List GStream)) (h : Qcx N p0 p1 p2 p3 p4 p5 p6 p7 = some r) : Spec Try.prog 89 [nilS, (Q9u p0 p1 p2 p3 p4 p5 p6 p7)] [] (.acc 0 48 4 ((r : List GStream).map Qae)) [.tok] := by
  refine Qak Try.func89 rfl 1 (nle rfl) (fun X φ0 w0 hφ0 hd0 => ?_)
  unfold Qcx at h
  refine Qbp ?_
  refine wx tbk [] trivial ?_
  obtain ⟨k3, hk_k3, h⟩ := jko h
  refine wjn (τ := (List GStream)) (fun t => k3 t = some r) (fun y2 => ⟨mk 13 [(2, .ref 0 1 0 0)], [(.own 1 [[(.acc 1 48 4 ((y2 : List GStream).map Qae))]]), .tok]⟩) (fun y2 h => ?_) ?_
  ·subst hk_k3
   refine wx tbk [] trivial ?_
   refine wmr (mto (n := 13) (l' := [(4, (.acc 0 48 4 ((y2 : List GStream).map Qae)))]) (own' := [.tok]) [(4, (.acc 1 48 4 ((y2 : List GStream).map Qae)))] [1] [.tok] hφ0 (pc (.rn (Qbx rfl (Qbo Qai _))) pn) (qc .tok qn)) ?_
   refine Qad ?_
   obtain rfl := osi h
   exact ⟨_, Mor.rfl, Qcz (vs := [(.acc 0 48 4 ((y2 : List GStream).map Qae))]) ⟨rot (by kernel_rfl), trivial⟩ rfl (NLt.acc _ _ _ _ (by decide) (Qto Qai _)) (by kernel_rfl) (Qal .tok Qbn)⟩
  ·skip
   refine wx tbk [] trivial ?_
   refine Qan ?_
   obtain ⟨q4, hL5, h⟩ := bno h
   refine wmr (mto (n := 13) (l' := [(2, .ref 0 1 0 0), (6, (Q9u p0 p1 p2 p3 p4 p5 p6 p7))]) (own' := [(.own 1 [[nilS]])]) [(2, .ref 0 1 0 0), (6, (Q9u p0 p1 p2 p3 p4 p5 p6 p7))] [0] [(.own 1 [[nilS]])] hφ0 (pc (.rn (rqr rfl)) (pc (.rn (Qav rn0 (rnc (.plain _ (NLt.dptr _ _ (nlc (NLt.dptr _ _ (nlc (nld Qah _) (nlc (nld Qaa _) (nlc (nld Qat _) (nlc (nld Qa9 _) (nlc (nld Qab _) (nlc (nld Qai _) (nlc nll nl0)))))))) nl0))) (rnc (.plain _ (NLt.dptr _ _ (nlc nll nl0))) rn0)))) pn)) (qc (spb (lc rwl ln)) qn)) ?_
   refine wmr (Qp1 (n := 1) (ty := 48) (m := 4) (q := 0) (mq := 1) (c := [nilS]) 0 (by kernel_rfl) (by kernel_rfl) (by kernel_rfl) (by decide)) ?_
   refine Qss (τ := ((List GStream))) (kb := 1) (caps := [(.dptr [(.dptr [(.dat 5 ((p0 : List GRow).map Qa3)), (.dat 7 ((p1 : List GElement).map Qac)), (.dat 1 ((p2 : List (List GStream)).map Qao)), (.dat 4 ((p3 : List GLost).map Qbd)), (.dat 1 ((p4 : List Int).map Qaj)), (.dat 4 ((p5 : List GStream).map Qae)), I p6] 0)] 0), (.dptr [I p7] 0)]) (σr := []) (encs := fun x => [(.agg #[(.int .i64 (x.Mass)), (.int .i64 (x.Heat)), (.int .i64 (x.Silica)), (.int .i64 (x.Gas))])]) (fun x => [(.agg [I x.Mass, I x.Heat, I x.Silica, I x.Gas])]) [] (fun n hn => hφ0 n (Nat.le_trans (nle rfl) hn)) hd0 (Qmo N p0 p1 p2 p3 p4 p5 p6 p7 _ hL5) Zb0 (by kernel_rfl) (by kernel_rfl) (Qbm (rnc (.plain _ (NLt.dptr _ _ (nlc (NLt.dptr _ _ (nlc (nld Qah _) (nlc (nld Qaa _) (nlc (nld Qat _) (nlc (nld Qa9 _) (nlc (nld Qab _) (nlc (nld Qai _) (nlc nll nl0)))))))) nl0))) (rnc (.plain _ (NLt.dptr _ _ (nlc nll nl0))) rn0))) Qaq (by kernel_rfl) (fun _ => rfl) (fun x => ⟨(Less.unlits [(.int .i64 (x.Mass)), (.int .i64 (x.Heat)), (.int .i64 (x.Silica)), (.int .i64 (x.Gas))]), trivial⟩) (Q80 (Qp0 (NLt.ref _ _ _ _ (by decide)) (Qp0 (NLt.of0 (NLt.fn _ _ _ nl0 (nlc (NLt.dptr _ _ (nlc (NLt.dptr _ _ (nlc (nld Qah _) (nlc (nld Qaa _) (nlc (nld Qat _) (nlc (nld Qa9 _) (nlc (nld Qab _) (nlc (nld Qai _) (nlc nll nl0)))))))) nl0)) (nlc (NLt.dptr _ _ (nlc nll nl0)) nl0)))) Q3y))) (fun y6 => [(.own 1 [[(Q2g y6)]]), .tok]) (fun _ => rfl) (fun _ => rfl) (fun l t => Qbe N k3 l t = some r) ([]) h (by kernel_rfl) ?_ ?_
   ·intro l11 o12 X15 φ16 w17 hφ14 x9 q10 y6 h
    rw [Qbe] at h
    refine wx1 tbk [] trivial ?_
    refine ⟨by kernel_rfl, fun o13 => ?_⟩
    refine Qan ?_
    obtain ⟨ha18, h⟩ := cko h
    refine wx1 tbk [(2, rp [(.tmp 9, (Q8i x9))] (.dat 4 (([x9] : List GStream).map Qae))), (3, ⟨[(.tmp 8, (Q2g y6)), (.tmp 10, (.dat 4 (([x9] : List GStream).map Qae)))], [(1, .tok), (4, .unused)], (.acc 4 48 4 ((y6 ++ ([x9]) : List GStream).map Qae)), [(1, .dead), (4, .tok)], false⟩)] ⟨Qb1 (vs := [(Q8i x9)]) rfl Try.underlying45 ti48 tz48 rfl (by decide) rfl (by decide) (by rfl) (by rfl) (by rfl) rfl, Qgk rfl Try.underlying45 te48 (Base.acc _ _) rfl rfl (by rfl) (Qij Qae ha18) (Qii Qae ha18 (by decide)) (Qih Qae) rfl rfl, trivial⟩ ?_
    refine bln ?_
    exact ⟨(y6 ++ ([x9])), h, Q8w (own' := [(.own 1 [[(.acc 1 48 4 (((y6 ++ ([x9])) : List GStream).map Qae))]]), .tok, (.far (farL l11 o13))]) [0, 4, 2] [(.own 1 [[(.acc 4 48 4 ((y6 ++ ([x9]) : List GStream).map Qae))]]), .tok, (.far (farL l11 o13))] (by kernel_rfl) (by kernel_rfl) ⟨(spb (lc (.rn (Qbx rfl (Qbo Qai _))) ln)), .tok, .far _, trivial⟩⟩
   ·intro y6 h
    rw [Qbe] at h
    refine bln ?_
    refine thn ?_
    exact ⟨(y6), h, (mto (n := 13) [(2, .ref 0 1 0 0)] [0, 1] [(.own 1 [[(Q2g y6)]]), .tok] hφ0 (pc (.rn (rqr rfl)) pn) (qc (spb (lc (.rn (Qbx rfl (Qbo Qai _))) ln)) (qc .tok qn)))⟩
def Qeq (N : Nat) (p0 : (List GRow)) (p1 : (List GElement)) (p2 : (List (List GStream))) (p3 : (List GLost)) (p4 : (List Int)) (p5 : (List GStream)) (p6 : Int) (p7 : Int) : Option (List GStream) :=
  (Qcx N p0 p1 p2 p3 p4 p5 p6 p7).bind fun x3 =>
  some x3
def Q9v (p0 : (List GRow)) (p1 : (List GElement)) (p2 : (List (List GStream))) (p3 : (List GLost)) (p4 : (List Int)) (p5 : (List GStream)) (p6 : Int) (p7 : Int) : AV := .fn (.func 90) [] [(.dptr [(.dptr [(.dat 5 ((p0 : List GRow).map Qa3)), (.dat 7 ((p1 : List GElement).map Qac)), (.dat 1 ((p2 : List (List GStream)).map Qao)), (.dat 4 ((p3 : List GLost).map Qbd)), (.dat 1 ((p4 : List Int).map Qaj)), (.dat 4 ((p5 : List GStream).map Qae)), (I (p6))] 0)] 0), (.dptr [(I (p7))] 0)]
def Q2h (x3 : (List GStream)) : AV := .acc 0 48 4 ((x3 : List GStream).map Qae)
theorem Qh1 (N : Nat) (p0 : (List GRow)) (p1 : (List GElement)) (p2 : (List (List GStream))) (p3 : (List GLost)) (p4 : (List Int)) (p5 : (List GStream)) (p6 : Int) (p7 : Int) (r : (List GStream)) (h : Qeq N p0 p1 p2 p3 p4 p5 p6 p7 = some r) : Spec Try.prog 73 [(Q9v p0 p1 p2 p3 p4 p5 p6 p7)] [] (.acc 0 48 4 ((r : List GStream).map Qae)) [.tok] := by
  refine Qak Try.func73 rfl 1 (nle rfl) (fun X φ0 w0 hφ0 hd0 => ?_)
  unfold Qeq at h
  refine Qbp ?_
  refine wx tbk [] trivial ?_
  obtain ⟨x3, hf2, h⟩ := bno h
  refine wx tbk [(1, ⟨[fu 89, ((.const (.slice none 0 0)), nilS), (.tmp 3, (Q9v p0 p1 p2 p3 p4 p5 p6 p7))], [(0, .unused)], (Q2h x3), [(0, .tok)], false⟩)] ⟨Qar (first := []) (cap := []) (vs := [nilS, (Q9v p0 p1 p2 p3 p4 p5 p6 p7)]) (σr := []) (σr' := [.tok]) (res' := (Q2h x3)) [0] rfl Zb1 (Qfz N p0 p1 p2 p3 p4 p5 p6 p7 _ hf2) rfl (Qbm (rnc (.plain _ nll) (rnc (.plain _ (NLt.fn _ _ _ nl0 (nlc (NLt.dptr _ _ (nlc (NLt.dptr _ _ (nlc (nld Qah _) (nlc (nld Qaa _) (nlc (nld Qat _) (nlc (nld Qa9 _) (nlc (nld Qab _) (nlc (nld Qai _) (nlc nll nl0)))))))) nl0)) (nlc (NLt.dptr _ _ (nlc nll nl0)) nl0)))) rn0))) Qaq (slc .tok Qaq) (Q3i rfl (Qbo Qai _)) rfl rfl rfl, trivial⟩ ?_
  refine wmr (mto (n := 5) (l' := [(2, (Q2h x3))]) (own' := [.tok]) [(2, (Q2h x3))] [0] [.tok] hφ0 (pc (.rn (Qbx rfl (Qbo Qai _))) pn) (qc .tok qn)) ?_
  refine Qad ?_
  obtain rfl := osi h
  exact ⟨_, Mor.rfl, Qcz (vs := [(Q2h x3)]) ⟨rot (by kernel_rfl), trivial⟩ rfl (NLt.acc _ _ _ _ (by decide) (Qto Qai _)) (by kernel_rfl) (Qal .tok Qbn)⟩
def Qgd (_N : Nat) (_p0 : Int) (p1 : GStream) (_p2 : (List GRow)) (_p3 : (List GElement)) (_p4 : Nat) (_p5 : Nat) (_p6 : Nat) (_p7 : (List GStream)) (_p8 : Int) (_p9 : (List (List GStream))) (_p10 : (List GLost)) (_p11 : (List Int)) : Option (List GStream) :=
  some ([p1])
def Q9t (p1 : GStream) : AV := .agg [(I (p1.Mass)), (I (p1.Heat)), (I (p1.Silica)), (I (p1.Gas))]
def Q52 (p2 : (List GRow)) (p3 : (List GElement)) (p4 : Nat) (p5 : Nat) (p6 : Nat) (p7 : (List GStream)) (p8 : Int) : Slot := .own 7 [[(.dat 5 ((p2 : List GRow).map Qa3)), (.dat 7 ((p3 : List GElement).map Qac)), (.own 1 1 (0) (p4)), (.own 2 4 (0) (p5)), (.own 3 1 (0) (p6)), (.dat 4 ((p7 : List GStream).map Qae)), (I (p8))]]
def Q51 (p9 : (List (List GStream))) : Slot := .own 1 ((p9 : List (List GStream)).map Qao)
def Q50 (p10 : (List GLost)) : Slot := .own 4 ((p10 : List GLost).map Qbd)
def Q5z (p11 : (List Int)) : Slot := .own 1 ((p11 : List Int).map Qaj)
def Q53 (p1 : GStream) : AV := .dat 4 (([p1] : List GStream).map Qae)
theorem Qhd (N : Nat) (p0 : Int) (p1 : GStream) (p2 : (List GRow)) (p3 : (List GElement)) (p4 : Nat) (p5 : Nat) (p6 : Nat) (p7 : (List GStream)) (p8 : Int) (p9 : (List (List GStream))) (p10 : (List GLost)) (p11 : (List Int)) (r : (List GStream)) (h : Qgd N p0 p1 p2 p3 p4 p5 p6 p7 p8 p9 p10 p11 = some r) : Spec Try.prog 75 [(.ref 0 7 (0) 0), (I (p0)), (Q9t p1)] [(Q52 p2 p3 p4 p5 p6 p7 p8), (Q51 p9), (Q50 p10), (Q5z p11)] (.dat 4 ((r : List GStream).map Qae)) [(Q52 p2 p3 p4 p5 p6 p7 p8), (Q51 p9), (Q50 p10), (Q5z p11)] := by
  refine Qak Try.func75 rfl 4 (nle rfl) (fun X φ0 w0 hφ0 hd0 => ?_)
  unfold Qgd at h
  refine Qbp ?_
  refine wx tbk [] trivial ?_
  refine wx tbk [(1, rp [(.tmp 7, (Q9t p1))] (Q53 p1))] ⟨Qb1 (vs := [(Q9t p1)]) rfl Try.underlying45 ti48 tz48 rfl (by decide) rfl (by decide) (by rfl) (by rfl) (by rfl) rfl, trivial⟩ ?_
  refine wmr (mto (n := 9) (l' := [(6, (Q53 p1))]) (own' := [(Q52 p2 p3 p4 p5 p6 p7 p8), (Q51 p9), (Q50 p10), (Q5z p11)]) [(6, (Q53 p1))] [0, 1, 2, 3] [(Q52 p2 p3 p4 p5 p6 p7 p8), (Q51 p9), (Q50 p10), (Q5z p11)] hφ0 (pc (.rn (.plain _ (nld Qai _))) pn) (qc (spb (lc (.rn (.plain _ (nld Qah _))) (lc (.rn (.plain _ (nld Qaa _))) (lc (.rn (Qaz rfl)) (lc (.rn (Qaz rfl)) (lc (.rn (Qaz rfl)) (lc (.rn (.plain _ (nld Qai _))) (lc rwl ln)))))))) (qc (spr Qat) (qc (spr Qa9) (qc (spr Qab) qn))))) ?_
  refine Qad ?_
  obtain rfl := osi h
  exact ⟨_, Mor.rfl, Qcz (vs := [(Q53 p1)]) ⟨rot (by kernel_rfl), trivial⟩ rfl (NLt.of0 (nld Qai _)) (by kernel_rfl) (Qal (Qa4 (nlc (NLt.of0 (nld Qah _)) (nlc (NLt.of0 (nld Qaa _)) (nlc (NLt.own _ _ _ _ (by decide)) (nlc (NLt.own _ _ _ _ (by decide)) (nlc (NLt.own _ _ _ _ (by decide)) (nlc (NLt.of0 (nld Qai _)) (nlc (NLt.of0 nll) nl0)))))))) (Qal (Qb0 Qat _) (Qal (Qb0 Qa9 _) (Qal (Qb0 Qab _) Qbn))))⟩
def Qie (_N : Nat) (p0 : Int) (p1 : GStream) (_p2 : (List GRow)) (p3 : (List GElement)) (_p4 : Nat) (p5 : Nat) (_p6 : Nat) (_p7 : (List GStream)) (_p8 : Int) (_p9 : (List (List GStream))) (p10 : (List GLost)) (_p11 : (List Int)) : Option ((List GStream) × (List GLost)) :=
  (getI p3 p0).bind fun x3 =>
  (some (if p1.Heat < x3.Amount then p1.Heat else x3.Amount)).bind fun x7 =>
  chk (decide (0 ≤ p0) && decide (p0.toNat < p5)) <|
  (p10[p0.toNat]?).bind fun x10 =>
  some ([(⟨p1.Mass, w64 (p1.Heat - x7), p1.Silica, p1.Gas⟩ : GStream)], p10.set p0.toNat (⟨x7, x10.Silica, x10.Gas, x10.Scale⟩ : GLost))
def Qz2 (p2 : (List GRow)) (p3 : (List GElement)) (p4 : Nat) (p5 : Nat) (p6 : Nat) (p7 : (List GStream)) (p8 : Int) : Slot := .own 7 [[(.dat 5 ((p2 : List GRow).map Qa3)), (.dat 7 ((p3 : List GElement).map Qac)), (.own 1 1 (0) (p4)), (.own 2 4 (0) (p5)), (.own 3 1 (0) (p6)), (.dat 4 ((p7 : List GStream).map Qae)), (I (p8))]]
def Qye (p9 : (List (List GStream))) : Slot := .own 1 ((p9 : List (List GStream)).map Qao)
def Q9s (p10 : (List GLost)) : Slot := .own 4 ((p10 : List GLost).map Qbd)
def Qyd (p11 : (List Int)) : Slot := .own 1 ((p11 : List Int).map Qaj)
def Q8h (p1 : GStream) (x7 : Int) : AV := .agg [(I (p1.Mass)), (I (w64 (p1.Heat - x7))), (I (p1.Silica)), (I (p1.Gas))]
def Qyf (p1 : GStream) (x7 : Int) : AV := .dat 4 (([(⟨p1.Mass, w64 (p1.Heat - x7), p1.Silica, p1.Gas⟩ : GStream)] : List GStream).map Qae)
theorem Qmq (N : Nat) (p0 : Int) (p1 : GStream) (p2 : (List GRow)) (p3 : (List GElement)) (p4 : Nat) (p5 : Nat) (p6 : Nat) (p7 : (List GStream)) (p8 : Int) (p9 : (List (List GStream))) (p10 : (List GLost)) (p11 : (List Int)) (r : ((List GStream) × (List GLost))) (h : Qie N p0 p1 p2 p3 p4 p5 p6 p7 p8 p9 p10 p11 = some r) : Spec Try.prog 76 [(.ref 0 7 (0) 0), (I (p0)), (.agg [(I (p1.Mass)), (I (p1.Heat)), (I (p1.Silica)), (I (p1.Gas))])] [(Qz2 p2 p3 p4 p5 p6 p7 p8), (Qye p9), (Q9s p10), (Qyd p11)] (.dat 4 ((r.1 : List GStream).map Qae)) [(Qz2 p2 p3 p4 p5 p6 p7 p8), (Qye p9), (.own 4 ((r.2 : List GLost).map Qbd)), (Qyd p11)] := by
  refine Qak Try.func76 rfl 4 (nle rfl) (fun X φ0 w0 hφ0 hd0 => ?_)
  unfold Qie at h
  refine Qbp ?_
  refine wx tbk [] trivial ?_
  obtain ⟨x3, hg4, h⟩ := bno h
  obtain ⟨hi5, hj6⟩ := gsm hg4
  obtain ⟨x7, hl8, h⟩ := bno h
  refine wxd tbk [(1, rb [(.tmp 8, .ref 0 7 0 0)] [(0, (Qz2 p2 p3 p4 p5 p6 p7 p8))] (.ref 0 7 0 0)), (6, rp [(.tmp 12, (.dat 7 ((p3 : List GElement).map Qac))), (.tmp 13, I p0)] (.dptr (Qac (x3)) 0)), (11, rp [(.tmp 16, I x3.Amount), (.tmp 18, I p1.Heat)] (I ((if p1.Heat < x3.Amount then p1.Heat else x3.Amount)))), (12, rp [(.tmp 19, (I ((if p1.Heat < x3.Amount then p1.Heat else x3.Amount))))] (I x7))] ⟨Qbf rfl, aid rfl Try.underlying40 ti76 rfl rfl hi5 (mgt Qac hj6) rfl, Qrk rfl, Qgj hl8 (aas rfl), trivial⟩ ?_
  obtain ⟨hi9, h⟩ := cko h
  obtain ⟨hi9a, hi9b⟩ := Qcy hi9
  obtain ⟨x10, hg11, h⟩ := bno h
  refine wx tbk [(1, rb [(.tmp 20, .ref 0 7 0 0)] [(0, (Qz2 p2 p3 p4 p5 p6 p7 p8))] (.ref 0 7 0 0)), (7, rb [(.tmp 24, (.own 2 4 (0) (p5))), (.tmp 25, I p0)] [(2, (Q9s p10))] (.ref 2 4 (p0.toNat) 0)), (9, ⟨[(.tmp 28, (.ref 2 4 (p0.toNat) 0)), (.tmp 26, I x7)], [(2, (Q9s p10))], .any, [(2, (.own 4 ((p10.set p0.toNat (⟨x7, x10.Silica, x10.Gas, x10.Scale⟩ : GLost) : List GLost).map Qbd)))], false⟩)] ⟨Qbf rfl, aio rfl Try.underlying32 ti50 (odt hi9a) (odt hi9b) (Nat.zero_add _), ast rfl ti3 (by rfl) (mgt Qbd hg11) (nle rfl) (Qfs Qbd rfl), trivial⟩ ?_
  refine wx tbk [] trivial ?_
  refine wx tbk [(1, rp [(.tmp 34, (Q8h p1 x7))] (Qyf p1 x7))] ⟨Qb1 (vs := [(Q8h p1 x7)]) rfl Try.underlying45 ti48 tz48 rfl (by decide) rfl (by decide) (by rfl) (by rfl) (by rfl) rfl, trivial⟩ ?_
  refine wmr (mto (n := 36) (l' := [(6, (Qyf p1 x7))]) (own' := [(Qz2 p2 p3 p4 p5 p6 p7 p8), (Qye p9), (.own 4 (((p10.set p0.toNat (⟨x7, x10.Silica, x10.Gas, x10.Scale⟩ : GLost)) : List GLost).map Qbd)), (Qyd p11)]) [(6, (Qyf p1 x7))] [0, 1, 2, 3] [(Qz2 p2 p3 p4 p5 p6 p7 p8), (Qye p9), (.own 4 ((p10.set p0.toNat (⟨x7, x10.Silica, x10.Gas, x10.Scale⟩ : GLost) : List GLost).map Qbd)), (Qyd p11)] hφ0 (pc (.rn (.plain _ (nld Qai _))) pn) (qc (spb (lc (.rn (.plain _ (nld Qah _))) (lc (.rn (.plain _ (nld Qaa _))) (lc (.rn (Qaz rfl)) (lc (.rn (Qaz rfl)) (lc (.rn (Qaz rfl)) (lc (.rn (.plain _ (nld Qai _))) (lc rwl ln)))))))) (qc (spr Qat) (qc (spr Qa9) (qc (spr Qab) qn))))) ?_
  refine Qad ?_
  obtain rfl := osi h
  exact ⟨_, Mor.rfl, Qcz (vs := [(Qyf p1 x7)]) ⟨rot (by kernel_rfl), trivial⟩ rfl (NLt.of0 (nld Qai _)) (by kernel_rfl) (Qal (Qa4 (nlc (NLt.of0 (nld Qah _)) (nlc (NLt.of0 (nld Qaa _)) (nlc (NLt.own _ _ _ _ (by decide)) (nlc (NLt.own _ _ _ _ (by decide)) (nlc (NLt.own _ _ _ _ (by decide)) (nlc (NLt.of0 (nld Qai _)) (nlc (NLt.of0 nll) nl0)))))))) (Qal (Qb0 Qat _) (Qal (Qb0 Qa9 _) (Qal (Qb0 Qab _) Qbn))))⟩
def Qi9 (N : Nat) (p0 : (List GRow)) (p1 : Int) : Option Bool :=
  (Qc4 N p1 0 (w64 ((p0.length : Int) - 1))).bind fun x2 =>
  some x2
theorem Qm4 (N : Nat) (p0 : (List GRow)) (p1 : Int) (r : Bool) (h : Qi9 N p0 p1 = some r) : Spec Try.prog 42 [(.dat 5 (p0.map Qa3)), (I p1)] [] (B r) [] := by
  refine Qak Try.func42 rfl 0 (nle rfl) (fun X φ0 w0 hφ0 hd0 => ?_)
  unfold Qi9 at h
  refine wx tbk [] trivial ?_
  obtain ⟨x2, hf1, h⟩ := bno h
  refine wx tbk [(2, rp [(.tmp 6, (.dat 5 ((p0 : List GRow).map Qa3)))] (I ((p0.length : Int)))), (4, rp [fu 45, (.tmp 5, I p1), ci 0, (.tmp 8, (I (w64 ((p0.length : Int) - 1))))] (B x2))] ⟨alm (c := Qa3) (l := p0) (aln rfl Try.underlying39 rfl), apc (first := []) (cap := []) (vs := [I p1, I 0, (I (w64 ((p0.length : Int) - 1)))]) rfl Qdr (Qa1 N p1 0 (w64 ((p0.length : Int) - 1)) _ hf1) rfl rfl (nlc nll (nlc nll (nlc nll nl0))) nll rfl, trivial⟩ ?_
  refine Qad ?_
  obtain rfl := osi h
  exact fend ⟨[B x2], ⟨rot (by kernel_rfl), trivial⟩, rfl⟩ nll
def Qju (_N : Nat) (p0 : (List GRow)) (p1 : Int) : Option GFlash :=
  (getI p0 p1).bind fun x1 =>
  some (⟨x1⟩ : GFlash)
def Q9p (x1 : GRow) : AV := .agg [(I (x1.T)), (I (x1.P)), (I (x1.Liquid)), (I (x1.Vapour)), (I (x1.Silica))]
theorem Qnv (N : Nat) (p0 : (List GRow)) (p1 : Int) (r : GFlash) (h : Qju N p0 p1 = some r) : Spec Try.prog 43 [(.dat 5 (p0.map Qa3)), (I p1)] [] (.agg (Qt1 r)) [] := by
  refine Qak Try.func43 rfl 0 (nle rfl) (fun X φ0 w0 hφ0 hd0 => ?_)
  unfold Qju at h
  refine wx tbk [] trivial ?_
  obtain ⟨x1, hg2, h⟩ := bno h
  obtain ⟨hi3, hj4⟩ := gsm hg2
  refine wx tbk [(2, rp [(.tmp 5, (.dat 5 ((p0 : List GRow).map Qa3))), (.tmp 6, I p1)] (.dptr (Qa3 (x1)) 0)), (4, mv 8 (Q9p x1))] ⟨aid rfl Try.underlying39 Qrv rfl rfl hi3 (mgt Qa3 hj4) rfl, Qa2 (vs := [(Q9p x1)]) rfl Ze9 Zed rfl (by rfl) rfl, trivial⟩ ?_
  refine Qad ?_
  obtain rfl := osi h
  exact fend ⟨[(Q9p x1)], ⟨Qch (n := 0) (m := 5) (j := 0) (i := 0) (xs := [[I x1.T, I x1.P, I x1.Liquid, I x1.Vapour, I x1.Silica]]) (by kernel_rfl) (by kernel_rfl) Zef (by decide) rfl (nle rfl) rfl, trivial⟩, rfl⟩ (NLt.agg _ (nlc nll (nlc nll (nlc nll (nlc nll (nlc nll nl0))))))
def Qht (_N : Nat) (p0 : GFlash) (p1 : GStream) : Option Int :=
  (some (w64 (p1.Heat - (w64 (p1.Mass * p0.Row.Liquid))))).bind fun x1 =>
  bif (decide (x1 ≤ 0)) then
   some 0
  else
   bif (decide (p1.Heat ≥ (w64 (p1.Mass * p0.Row.Vapour)))) then
    some p1.Mass
   else
    chk ((w64 (p0.Row.Vapour - p0.Row.Liquid)) != 0) <|
    (some (w64 (x1.tdiv (w64 (p0.Row.Vapour - p0.Row.Liquid))))).bind fun x6 =>
    some x6
theorem Qlt (N : Nat) (p0 : GFlash) (p1 : GStream) (r : Int) (h : Qht N p0 p1 = some r) : Spec Try.prog 65 [(.agg (Qt1 p0)), (.agg (Qae p1))] [] (I r) [] := by
  refine Qak Try.func65 rfl 0 (nle rfl) (fun X φ0 w0 hφ0 hd0 => ?_)
  unfold Qht at h
  refine wx tbk [] trivial ?_
  obtain ⟨x1, hl2, h⟩ := bno h
  refine wx tbk [(9, rp [(.tmp 14, (I (w64 (p1.Heat - (w64 (p1.Mass * p0.Row.Liquid))))))] (I x1))] ⟨Qgj hl2 (aas rfl), trivial⟩ ?_
  refine wsq ?_
  refine Qan ?_
  refine wx tbk [] trivial ?_
  rcases bft ((decide (x1 ≤ 0))) with hc3 | hc3
  ·replace h := Qaw hc3 h
   refine wft hc3 (by kernel_rfl) ?_
   refine wx tbk [] trivial ?_
   refine Qad ?_
   refine Qas ?_
   refine Qaf ?_
   obtain rfl := osi h
   exact fend ⟨[I 0], ⟨rot (by kernel_rfl), trivial⟩, rfl⟩ nll
  ·replace h := Qax hc3 h
   refine wfn hc3 (by kernel_rfl) ?_
   refine wx tbk [] trivial ?_
   rcases bft ((decide (p1.Heat ≥ (w64 (p1.Mass * p0.Row.Vapour))))) with hc4 | hc4
   ·replace h := Qaw hc4 h
    refine wft hc4 (by kernel_rfl) ?_
    refine wx tbk [] trivial ?_
    refine Qad ?_
    refine Qas ?_
    refine Qaf ?_
    obtain rfl := osi h
    exact fend ⟨[I p1.Mass], ⟨rot (by kernel_rfl), trivial⟩, rfl⟩ nll
   ·replace h := Qax hc4 h
    refine wfn hc4 (by kernel_rfl) ?_
    refine Qap ?_
    refine bln ?_
    refine thn ?_
    obtain ⟨hz5, h⟩ := cko h
    obtain ⟨x6, hl7, h⟩ := bno h
    refine wx tbk [(8, rp [(.tmp 30, I x1), (.tmp 37, (I (w64 (p0.Row.Vapour - p0.Row.Liquid))))] (I (w64 (x1.tdiv (w64 (p0.Row.Vapour - p0.Row.Liquid)))))), (9, rp [(.tmp 38, (I (w64 (x1.tdiv (w64 (p0.Row.Vapour - p0.Row.Liquid))))))] (I x6))] ⟨Ql8 rfl (Qo4 hz5), Qgj hl7 (aas rfl), trivial⟩ ?_
    refine Qad ?_
    obtain rfl := osi h
    exact fend ⟨[I x6], ⟨rot (by kernel_rfl), trivial⟩, rfl⟩ nll
def Qjr (N : Nat) (p0 : GFlash) (p1 : GStream) : Option GParts :=
  (Qht N (⟨(⟨p0.Row.T, p0.Row.P, p0.Row.Liquid, p0.Row.Vapour, p0.Row.Silica⟩ : GRow)⟩ : GFlash) p1).bind fun x2 =>
  Qbz (fun ⟨y3, y4, y5, y6, y7, _, y9⟩ =>
    (some (if (w64 (y6 * p0.Row.Silica)) < p1.Silica then w64 (y6 * p0.Row.Silica) else p1.Silica)).bind fun x11 =>
    bif (decide (y6 > 0)) then
     (some (if (w64 (y7 - (w64 (y6 * p0.Row.Liquid)))) > 0 then w64 (y7 - (w64 (y6 * p0.Row.Liquid))) else 0)).bind fun x14 =>
     some (⟨(⟨y3, y4, 0, y5⟩ : GStream), (⟨y6, y7, x11, y9⟩ : GStream), x14, w64 (p1.Silica - x11)⟩ : GParts)
    else
     some (⟨(⟨y3, y4, 0, y5⟩ : GStream), (⟨y6, y7, x11, y9⟩ : GStream), 0, w64 (p1.Silica - x11)⟩ : GParts)) fun k10 : Int × Int × Int × Int × Int × Int × Int → Option GParts =>
  bif (x2 == 0) then
   k10 (0, 0, 0, p1.Mass, p1.Heat, p1.Silica, p1.Gas)
  else
   bif (x2 == p1.Mass) then
    k10 (x2, p1.Heat, p1.Gas, 0, 0, 0, 0)
   else
    k10 (x2, w64 (x2 * p0.Row.Vapour), p1.Gas, w64 (p1.Mass - x2), w64 (p1.Heat - (w64 (x2 * p0.Row.Vapour))), 0, 0)
def Zdv (p0 : GFlash) : AV := .agg [(I (p0.Row.T)), (I (p0.Row.P)), (I (p0.Row.Liquid)), (I (p0.Row.Vapour)), (I (p0.Row.Silica))]
def Zdu (p1 : GStream) : AV := .agg [(I (p1.Mass)), (I (p1.Heat)), (I (p1.Silica)), (I (p1.Gas))]
def Q5x (p0 : GFlash) : Slot := .own 5 [[(I (p0.Row.T)), (I (p0.Row.P)), (I (p0.Row.Liquid)), (I (p0.Row.Vapour)), (I (p0.Row.Silica))]]
def Q5w (p1 : GStream) : Slot := .own 4 [[(I (p1.Mass)), (I (p1.Heat)), (I (p1.Silica)), (I (p1.Gas))]]
theorem Qnu (N : Nat) (p0 : GFlash) (p1 : GStream) (r : GParts) (h : Qjr N p0 p1 = some r) : Spec Try.prog 44 [(.agg (Qt1 p0)), (.agg (Qae p1))] [] (.agg (Qzn r)) [] := by
  refine Qak Try.func44 rfl 0 (nle rfl) (fun X φ0 w0 hφ0 hd0 => ?_)
  unfold Qjr at h
  refine wx tbk [] trivial ?_
  obtain ⟨x2, hf1, h⟩ := bno h
  refine wx tbk [(2, rp [fu 65, (.tmp 7, (Zdv p0)), (.tmp 8, (Zdu p1))] (I x2))] ⟨apc (first := []) (cap := []) (vs := [(Zdv p0), (Zdu p1)]) rfl Zci (Qlt N (⟨(⟨p0.Row.T, p0.Row.P, p0.Row.Liquid, p0.Row.Vapour, p0.Row.Silica⟩ : GRow)⟩ : GFlash) p1 _ hf1) rfl rfl (nlc (NLt.agg _ (nlc nll (nlc nll (nlc nll (nlc nll (nlc nll nl0)))))) (nlc (NLt.agg _ (nlc nll (nlc nll (nlc nll (nlc nll nl0))))) nl0)) nll rfl, trivial⟩ ?_
  obtain ⟨k10, hk_k10, h⟩ := jko h
  refine wjn (τ := Int × Int × Int × Int × Int × Int × Int) (fun t => k10 t = some r) (fun ⟨y3, y4, y5, y6, y7, y8, y9⟩ => ⟨mk 87 [(2, .ref 0 5 0 0), (3, .ref 1 4 0 0), (4, .ref 2 10 0 0)], [(Q5x p0), (Q5w p1), (.own 10 [[I y3, I y4, I 0, I y5, I y6, I y7, I y8, I y9, I 0, I 0]])]⟩) (fun t h => ?_) ?_
  ·subst hk_k10
   obtain ⟨y3, y4, y5, y6, y7, y8, y9⟩ := t
   obtain ⟨x11, hl12, h⟩ := bno h
   refine wx tbk [(9, rp [(.tmp 52, I p1.Silica), (.tmp 59, (I (w64 (y6 * p0.Row.Silica))))] (I x11))] ⟨Qgj hl12 (Qrk rfl), trivial⟩ ?_
   refine wxd tbk [] trivial ?_
   refine wsq ?_
   refine wx tbk [] trivial ?_
   rcases bft ((decide (y6 > 0))) with hc13 | hc13
   ·replace h := Qaw hc13 h
    refine wft hc13 (by kernel_rfl) ?_
    obtain ⟨x14, hl15, h⟩ := bno h
    refine wx1 tbk [(11, rp [ci 0, (.tmp 83, (I (w64 (y7 - (w64 (y6 * p0.Row.Liquid))))))] (I x14))] ⟨Qgj hl15 (Ql9 rfl), trivial⟩ ?_
    refine thn ?_
    refine wx tbk [] trivial ?_
    refine Qad ?_
    obtain rfl := osi h
    exact fend ⟨[(.agg [I y3, I y4, I 0, I y5, I y6, I y7, I x11, I y9, I x14, (I (w64 (p1.Silica - x11)))])], ⟨Qch (n := 2) (m := 10) (j := 0) (i := 0) (xs := [[I y3, I y4, I 0, I y5, I y6, I y7, I x11, I y9, I x14, (I (w64 (p1.Silica - x11)))]]) (by kernel_rfl) (by kernel_rfl) ti79 (by decide) rfl (nle rfl) rfl, trivial⟩, rfl⟩ (NLt.agg _ (nlc nll (nlc nll (nlc nll (nlc nll (nlc nll (nlc nll (nlc nll (nlc nll (nlc nll (nlc nll nl0)))))))))))
   ·replace h := Qax hc13 h
    refine wfn hc13 (by kernel_rfl) ?_
    refine Qap ?_
    refine thn ?_
    refine wx tbk [] trivial ?_
    refine Qad ?_
    obtain rfl := osi h
    exact fend ⟨[(.agg [I y3, I y4, I 0, I y5, I y6, I y7, I x11, I y9, I 0, (I (w64 (p1.Silica - x11)))])], ⟨Qch (n := 2) (m := 10) (j := 0) (i := 0) (xs := [[I y3, I y4, I 0, I y5, I y6, I y7, I x11, I y9, I 0, (I (w64 (p1.Silica - x11)))]]) (by kernel_rfl) (by kernel_rfl) ti79 (by decide) rfl (nle rfl) rfl, trivial⟩, rfl⟩ (NLt.agg _ (nlc nll (nlc nll (nlc nll (nlc nll (nlc nll (nlc nll (nlc nll (nlc nll (nlc nll (nlc nll nl0)))))))))))
  ·skip
   refine Qan ?_
   refine wx tbk [] trivial ?_
   rcases bft ((x2 == 0)) with hc16 | hc16
   ·replace h := Qaw hc16 h
    refine wft hc16 (by kernel_rfl) ?_
    refine wx1 tbk [] trivial ?_
    refine bln ?_
    refine thn ?_
    exact ⟨(0, 0, 0, p1.Mass, p1.Heat, p1.Silica, p1.Gas), h, (mto (n := 87) [(2, .ref 0 5 0 0), (3, .ref 1 4 0 0), (4, .ref 2 10 0 0)] [0, 1, 2] [(Q5x p0), (Q5w p1), (.own 10 [[I 0, I 0, I 0, I 0, I p1.Mass, I p1.Heat, I p1.Silica, I p1.Gas, I 0, I 0]])] hφ0 (pc (.rn (rqr rfl)) (pc (.rn (rqr rfl)) (pc (.rn (rqr rfl)) pn))) (qc (spb (lc rwl (lc rwl (lc rwl (lc rwl (lc rwl ln)))))) (qc (spb (lc rwl (lc rwl (lc rwl (lc rwl ln))))) (qc (spb (lc rwl (lc rwl (lc rwl (lc rwl (lc rwl (lc rwl (lc rwl (lc rwl (lc rwl (lc rwl ln))))))))))) qn))))⟩
   ·replace h := Qax hc16 h
    refine wfn hc16 (by kernel_rfl) ?_
    refine wx tbk [] trivial ?_
    rcases bft ((x2 == p1.Mass)) with hc17 | hc17
    ·replace h := Qaw hc17 h
     refine wft hc17 (by kernel_rfl) ?_
     refine wx1 tbk [(5, rp [(.tmp 44, I x2), (.tmp 46, I p1.Heat), (.tmp 48, I p1.Gas)] (.agg [I x2, I p1.Heat, I 0, I p1.Gas]))] ⟨Qa2 (vs := [I x2, I p1.Heat, I p1.Gas]) rfl ts48 tz48 rfl (by rfl) rfl, trivial⟩ ?_
     refine bln ?_
     refine thn ?_
     exact ⟨(x2, p1.Heat, p1.Gas, 0, 0, 0, 0), h, (mto (n := 87) [(2, .ref 0 5 0 0), (3, .ref 1 4 0 0), (4, .ref 2 10 0 0)] [0, 1, 2] [(Q5x p0), (Q5w p1), (.own 10 [[I x2, I p1.Heat, I 0, I p1.Gas, I 0, I 0, I 0, I 0, I 0, I 0]])] hφ0 (pc (.rn (rqr rfl)) (pc (.rn (rqr rfl)) (pc (.rn (rqr rfl)) pn))) (qc (spb (lc rwl (lc rwl (lc rwl (lc rwl (lc rwl ln)))))) (qc (spb (lc rwl (lc rwl (lc rwl (lc rwl ln))))) (qc (spb (lc rwl (lc rwl (lc rwl (lc rwl (lc rwl (lc rwl (lc rwl (lc rwl (lc rwl (lc rwl ln))))))))))) qn))))⟩
    ·replace h := Qax hc17 h
     refine wfn hc17 (by kernel_rfl) ?_
     refine wx tbk [(8, rp [(.tmp 10, I x2), (.tmp 15, (I (w64 (x2 * p0.Row.Vapour)))), (.tmp 17, I p1.Gas)] (.agg [I x2, (I (w64 (x2 * p0.Row.Vapour))), I 0, I p1.Gas]))] ⟨Qa2 (vs := [I x2, (I (w64 (x2 * p0.Row.Vapour))), I p1.Gas]) rfl ts48 tz48 rfl (by rfl) rfl, trivial⟩ ?_
     refine wx1 tbk [(12, rp [(.tmp 23, (I (w64 (p1.Mass - x2)))), (.tmp 31, (I (w64 (p1.Heat - (w64 (x2 * p0.Row.Vapour))))))] (.agg [(I (w64 (p1.Mass - x2))), (I (w64 (p1.Heat - (w64 (x2 * p0.Row.Vapour))))), I 0, I 0]))] ⟨Qa2 (vs := [(I (w64 (p1.Mass - x2))), (I (w64 (p1.Heat - (w64 (x2 * p0.Row.Vapour)))))]) rfl ts48 tz48 rfl (by rfl) rfl, trivial⟩ ?_
     refine bln ?_
     refine thn ?_
     exact ⟨(x2, w64 (x2 * p0.Row.Vapour), p1.Gas, w64 (p1.Mass - x2), w64 (p1.Heat - (w64 (x2 * p0.Row.Vapour))), 0, 0), h, (mto (n := 87) [(2, .ref 0 5 0 0), (3, .ref 1 4 0 0), (4, .ref 2 10 0 0)] [0, 1, 2] [(Q5x p0), (Q5w p1), (.own 10 [[I x2, (I (w64 (x2 * p0.Row.Vapour))), I 0, I p1.Gas, (I (w64 (p1.Mass - x2))), (I (w64 (p1.Heat - (w64 (x2 * p0.Row.Vapour))))), I 0, I 0, I 0, I 0]])] hφ0 (pc (.rn (rqr rfl)) (pc (.rn (rqr rfl)) (pc (.rn (rqr rfl)) pn))) (qc (spb (lc rwl (lc rwl (lc rwl (lc rwl (lc rwl ln)))))) (qc (spb (lc rwl (lc rwl (lc rwl (lc rwl ln))))) (qc (spb (lc rwl (lc rwl (lc rwl (lc rwl (lc rwl (lc rwl (lc rwl (lc rwl (lc rwl (lc rwl ln))))))))))) qn))))⟩
def Qlw (N : Nat) (p0 : (List GRow)) (p1 : Int) (p2 : GStream) : Option (GParts × Int) :=
  (Qeu N p0).bind fun x2 =>
  bif (!x2) then
   some ((⟨(⟨0, 0, 0, 0⟩ : GStream), (⟨0, 0, 0, 0⟩ : GStream), 0, 0⟩ : GParts), 1)
  else
   (Qi9 N p0 p1).bind fun x5 =>
   bif (!x5) then
    some ((⟨(⟨0, 0, 0, 0⟩ : GStream), (⟨0, 0, 0, 0⟩ : GStream), 0, 0⟩ : GParts), 2)
   else
    (Qfd N p2).bind fun x8 =>
    bif (!x8) then
     some ((⟨(⟨0, 0, 0, 0⟩ : GStream), (⟨0, 0, 0, 0⟩ : GStream), 0, 0⟩ : GParts), 1)
    else
     (Qju N p0 p1).bind fun x11 =>
     (Qjr N (⟨(⟨x11.Row.T, x11.Row.P, x11.Row.Liquid, x11.Row.Vapour, x11.Row.Silica⟩ : GRow)⟩ : GFlash) p2).bind fun x13 =>
     some ((⟨(⟨x13.Steam.Mass, x13.Steam.Heat, x13.Steam.Silica, x13.Steam.Gas⟩ : GStream), (⟨x13.Water.Mass, x13.Water.Heat, x13.Water.Silica, x13.Water.Gas⟩ : GStream), x13.Rest, x13.Scale⟩ : GParts), 0)
def Qz0 (p0 : (List GRow)) : AV := .dat 5 ((p0 : List GRow).map Qa3)
def Qzz : AV := .agg [(I (0)), (I (0)), (I (0)), (I (0)), (I (0)), (I (0)), (I (0)), (I (0)), (I (0)), (I (0))]
def Q5y (p2 : GStream) : AV := .agg [(I (p2.Mass)), (I (p2.Heat)), (I (p2.Silica)), (I (p2.Gas))]
def Q9q (x11 : GFlash) : AV := .agg [(I (x11.Row.T)), (I (x11.Row.P)), (I (x11.Row.Liquid)), (I (x11.Row.Vapour)), (I (x11.Row.Silica))]
def Zdw (x13 : GParts) : AV := .agg [(I (x13.Steam.Mass)), (I (x13.Steam.Heat)), (I (x13.Steam.Silica)), (I (x13.Steam.Gas)), (I (x13.Water.Mass)), (I (x13.Water.Heat)), (I (x13.Water.Silica)), (I (x13.Water.Gas)), (I (x13.Rest)), (I (x13.Scale))]
theorem Qqk (N : Nat) (p0 : (List GRow)) (p1 : Int) (p2 : GStream) (r : (GParts × Int)) (h : Qlw N p0 p1 p2 = some r) : Spec Try.prog 25 [(.dat 5 (p0.map Qa3)), (I p1), (.agg (Qae p2))] [] (.tup [(.agg (Qzn r.1)), (I r.2)]) [] := by
  refine Qak Try.func25 rfl 0 (nle rfl) (fun X φ0 w0 hφ0 hd0 => ?_)
  unfold Qlw at h
  refine wx tbk [] trivial ?_
  refine wsq ?_
  refine Qan ?_
  obtain ⟨x2, hf1, h⟩ := bno h
  refine wx tbk [(1, rp [fu 41, (.tmp 9, (Qz0 p0))] (B x2))] ⟨apc (first := []) (cap := []) (vs := [(Qz0 p0)]) rfl Q4o (Qio N p0 _ hf1) rfl rfl (nlc (nld Qah _) nl0) nll rfl, trivial⟩ ?_
  rcases bft ((!x2)) with hc3 | hc3
  ·replace h := Qaw hc3 h
   refine wft hc3 (by kernel_rfl) ?_
   refine wx tbk [(0, rp [] Qzz)] ⟨Qa2 (vs := []) rfl ts79 tz79 rfl (by rfl) rfl, trivial⟩ ?_
   refine Qad ?_
   refine Qas ?_
   refine Qaf ?_
   obtain rfl := osi h
   exact fend ⟨[Qzz, I 1], ⟨Qch (n := 1) (m := 10) (j := 0) (i := 0) (xs := [[I 0, I 0, I 0, I 0, I 0, I 0, I 0, I 0, I 0, I 0]]) (by kernel_rfl) (by kernel_rfl) ti79 (by decide) rfl (nle rfl) rfl, rot (by kernel_rfl), trivial⟩, rfl⟩ (NLt.tup _ (nlc (NLt.agg _ (nlc nll (nlc nll (nlc nll (nlc nll (nlc nll (nlc nll (nlc nll (nlc nll (nlc nll (nlc nll nl0))))))))))) (nlc nll nl0)))
  ·replace h := Qax hc3 h
   refine wfn hc3 (by kernel_rfl) ?_
   obtain ⟨x5, hf4, h⟩ := bno h
   refine wx tbk [(2, rp [fu 42, (.tmp 14, (Qz0 p0)), (.tmp 15, I p1)] (B x5))] ⟨apc (first := []) (cap := []) (vs := [(Qz0 p0), I p1]) rfl Zcw (Qm4 N p0 p1 _ hf4) rfl rfl (nlc (nld Qah _) (nlc nll nl0)) nll rfl, trivial⟩ ?_
   rcases bft ((!x5)) with hc6 | hc6
   ·replace h := Qaw hc6 h
    refine wft hc6 (by kernel_rfl) ?_
    refine wx tbk [(0, rp [] Qzz)] ⟨Qa2 (vs := []) rfl ts79 tz79 rfl (by rfl) rfl, trivial⟩ ?_
    refine Qad ?_
    refine Qas ?_
    refine Qaf ?_
    obtain rfl := osi h
    exact fend ⟨[Qzz, I 2], ⟨Qch (n := 1) (m := 10) (j := 0) (i := 0) (xs := [[I 0, I 0, I 0, I 0, I 0, I 0, I 0, I 0, I 0, I 0]]) (by kernel_rfl) (by kernel_rfl) ti79 (by decide) rfl (nle rfl) rfl, rot (by kernel_rfl), trivial⟩, rfl⟩ (NLt.tup _ (nlc (NLt.agg _ (nlc nll (nlc nll (nlc nll (nlc nll (nlc nll (nlc nll (nlc nll (nlc nll (nlc nll (nlc nll nl0))))))))))) (nlc nll nl0)))
   ·replace h := Qax hc6 h
    refine wfn hc6 (by kernel_rfl) ?_
    obtain ⟨x8, hf7, h⟩ := bno h
    refine wx tbk [(1, rp [fu 34, (.tmp 20, (Q5y p2))] (B x8))] ⟨apc (first := []) (cap := []) (vs := [(Q5y p2)]) rfl Qo1 (Qdn N p2 _ hf7) rfl rfl (nlc (NLt.agg _ (nlc nll (nlc nll (nlc nll (nlc nll nl0))))) nl0) nll rfl, trivial⟩ ?_
    rcases bft ((!x8)) with hc9 | hc9
    ·replace h := Qaw hc9 h
     refine wft hc9 (by kernel_rfl) ?_
     refine wx tbk [(0, rp [] Qzz)] ⟨Qa2 (vs := []) rfl ts79 tz79 rfl (by rfl) rfl, trivial⟩ ?_
     refine Qad ?_
     refine Qas ?_
     refine Qaf ?_
     obtain rfl := osi h
     exact fend ⟨[Qzz, I 1], ⟨Qch (n := 1) (m := 10) (j := 0) (i := 0) (xs := [[I 0, I 0, I 0, I 0, I 0, I 0, I 0, I 0, I 0, I 0]]) (by kernel_rfl) (by kernel_rfl) ti79 (by decide) rfl (nle rfl) rfl, rot (by kernel_rfl), trivial⟩, rfl⟩ (NLt.tup _ (nlc (NLt.agg _ (nlc nll (nlc nll (nlc nll (nlc nll (nlc nll (nlc nll (nlc nll (nlc nll (nlc nll (nlc nll nl0))))))))))) (nlc nll nl0)))
    ·replace h := Qax hc9 h
     refine wfn hc9 (by kernel_rfl) ?_
     refine Qap ?_
     refine bln ?_
     refine thn ?_
     obtain ⟨x11, hf10, h⟩ := bno h
     obtain ⟨x13, hf12, h⟩ := bno h
     refine wxd tbk [(2, rp [fu 43, (.tmp 24, (Qz0 p0)), (.tmp 25, I p1)] (Q9q x11)), (4, rp [fu 44, (.tmp 26, (Q9q x11)), (.tmp 27, (Q5y p2))] (Zdw x13))] ⟨apc (first := []) (cap := []) (vs := [(Qz0 p0), I p1]) rfl Zcv (Qnv N p0 p1 _ hf10) rfl rfl (nlc (nld Qah _) (nlc nll nl0)) (NLt.agg _ (nlc nll (nlc nll (nlc nll (nlc nll (nlc nll nl0)))))) rfl, apc (first := []) (cap := []) (vs := [(Q9q x11), (Q5y p2)]) rfl Zcu (Qnu N (⟨(⟨x11.Row.T, x11.Row.P, x11.Row.Liquid, x11.Row.Vapour, x11.Row.Silica⟩ : GRow)⟩ : GFlash) p2 _ hf12) rfl rfl (nlc (NLt.agg _ (nlc nll (nlc nll (nlc nll (nlc nll (nlc nll nl0)))))) (nlc (NLt.agg _ (nlc nll (nlc nll (nlc nll (nlc nll nl0))))) nl0)) (NLt.agg _ (nlc nll (nlc nll (nlc nll (nlc nll (nlc nll (nlc nll (nlc nll (nlc nll (nlc nll (nlc nll nl0))))))))))) rfl, trivial⟩ ?_
     refine Qad ?_
     obtain rfl := osi h
     exact fend ⟨[(Zdw x13), I 0], ⟨Qch (n := 1) (m := 10) (j := 0) (i := 0) (xs := [[I x13.Steam.Mass, I x13.Steam.Heat, I x13.Steam.Silica, I x13.Steam.Gas, I x13.Water.Mass, I x13.Water.Heat, I x13.Water.Silica, I x13.Water.Gas, I x13.Rest, I x13.Scale]]) (by kernel_rfl) (by kernel_rfl) ti79 (by decide) rfl (nle rfl) rfl, rot (by kernel_rfl), trivial⟩, rfl⟩ (NLt.tup _ (nlc (NLt.agg _ (nlc nll (nlc nll (nlc nll (nlc nll (nlc nll (nlc nll (nlc nll (nlc nll (nlc nll (nlc nll nl0))))))))))) (nlc nll nl0)))
def Qg1 (N : Nat) (p0 : Int) (p1 : GStream) (p2 : (List Int)) (_p3 : (List GRow)) (_p4 : (List GElement)) (_p5 : Nat) (p6 : Nat) (_p7 : Nat) (_p8 : (List GStream)) (_p9 : Int) (_p10 : (List (List GStream))) (p11 : (List GLost)) (_p12 : (List Int)) : Option ((List GStream) × (List GLost)) :=
  (Qlv N p1 p2).bind fun x4 =>
  chk (decide (0 ≤ p0) && decide (p0.toNat < p6)) <|
  (p11[p0.toNat]?).bind fun x6 =>
  chk (decide (0 ≤ p0) && decide (p0.toNat < p6)) <|
  ((p11.set p0.toNat (⟨x4.2.1.Heat, x6.Silica, x6.Gas, x6.Scale⟩ : GLost))[p0.toNat]?).bind fun x9 =>
  chk (decide (0 ≤ p0) && decide (p0.toNat < p6)) <|
  (((p11.set p0.toNat (⟨x4.2.1.Heat, x6.Silica, x6.Gas, x6.Scale⟩ : GLost)).set p0.toNat (⟨x9.Heat, x4.2.1.Silica, x9.Gas, x9.Scale⟩ : GLost))[p0.toNat]?).bind fun x12 =>
  some (x4.1, ((p11.set p0.toNat (⟨x4.2.1.Heat, x6.Silica, x6.Gas, x6.Scale⟩ : GLost)).set p0.toNat (⟨x9.Heat, x4.2.1.Silica, x9.Gas, x9.Scale⟩ : GLost)).set p0.toNat (⟨x12.Heat, x12.Silica, x4.2.1.Gas, x12.Scale⟩ : GLost))
def Q9o (p1 : GStream) : AV := .agg [(I (p1.Mass)), (I (p1.Heat)), (I (p1.Silica)), (I (p1.Gas))]
def Q9n (p2 : (List Int)) : AV := .dat 1 ((p2 : List Int).map Qaj)
def Qp8 (p3 : (List GRow)) (p4 : (List GElement)) (p5 : Nat) (p6 : Nat) (p7 : Nat) (p8 : (List GStream)) (p9 : Int) : Slot := .own 7 [[(.dat 5 ((p3 : List GRow).map Qa3)), (.dat 7 ((p4 : List GElement).map Qac)), (.own 1 1 (0) (p5)), (.own 2 4 (0) (p6)), (.own 3 1 (0) (p7)), (.dat 4 ((p8 : List GStream).map Qae)), (I (p9))]]
def Qx5 (p10 : (List (List GStream))) : Slot := .own 1 ((p10 : List (List GStream)).map Qao)
def Q19 (p11 : (List GLost)) : Slot := .own 4 ((p11 : List GLost).map Qbd)
def Qx4 (p12 : (List Int)) : Slot := .own 1 ((p12 : List Int).map Qaj)
def Qx6 (x4 : ((List GStream) × GLoss × Int)) : AV := .dat 4 ((x4.1 : List GStream).map Qae)
def Q18 (p11 : (List GLost)) (p0 : Int) (x4 : ((List GStream) × GLoss × Int)) (x6 : GLost) : Slot := .own 4 ((p11.set p0.toNat (⟨x4.2.1.Heat, x6.Silica, x6.Gas, x6.Scale⟩ : GLost) : List GLost).map Qbd)
def Q17 (p11 : (List GLost)) (p0 : Int) (x4 : ((List GStream) × GLoss × Int)) (x6 : GLost) (x9 : GLost) : Slot := .own 4 (((p11.set p0.toNat (⟨x4.2.1.Heat, x6.Silica, x6.Gas, x6.Scale⟩ : GLost)).set p0.toNat (⟨x9.Heat, x4.2.1.Silica, x9.Gas, x9.Scale⟩ : GLost) : List GLost).map Qbd)
def Q8e (p11 : (List GLost)) (p0 : Int) (x4 : ((List GStream) × GLoss × Int)) (x6 : GLost) (x9 : GLost) (x12 : GLost) : Slot := .own 4 ((((p11.set p0.toNat (⟨x4.2.1.Heat, x6.Silica, x6.Gas, x6.Scale⟩ : GLost)).set p0.toNat (⟨x9.Heat, x4.2.1.Silica, x9.Gas, x9.Scale⟩ : GLost)).set p0.toNat (⟨x12.Heat, x12.Silica, x4.2.1.Gas, x12.Scale⟩ : GLost) : List GLost).map Qbd)
theorem Qi1 (N : Nat) (p0 : Int) (p1 : GStream) (p2 : (List Int)) (p3 : (List GRow)) (p4 : (List GElement)) (p5 : Nat) (p6 : Nat) (p7 : Nat) (p8 : (List GStream)) (p9 : Int) (p10 : (List (List GStream))) (p11 : (List GLost)) (p12 : (List Int)) (r : ((List GStream) × (List GLost))) (h : Qg1 N p0 p1 p2 p3 p4 p5 p6 p7 p8 p9 p10 p11 p12 = some r) : Spec Try.prog 92 [(.ref 0 7 (0) 0), (I (p0)), (Q9o p1), (Q9n p2)] [(Qp8 p3 p4 p5 p6 p7 p8 p9), (Qx5 p10), (Q19 p11), (Qx4 p12)] (.dat 4 ((r.1 : List GStream).map Qae)) [(Qp8 p3 p4 p5 p6 p7 p8 p9), (Qx5 p10), (.own 4 ((r.2 : List GLost).map Qbd)), (Qx4 p12)] := by
  refine Qak Try.func92 rfl 4 (nle rfl) (fun X φ0 w0 hφ0 hd0 => ?_)
  unfold Qg1 at h
  refine Qbp ?_
  refine wx tbk [] trivial ?_
  obtain ⟨x4, hf3, h⟩ := bno h
  refine wx tbk [(2, rp [fu 96, (.tmp 13, (Q9o p1)), (.tmp 14, (Q9n p2))] (.tup [(Qx6 x4), (.agg [I x4.2.1.Heat, I x4.2.1.Silica, I x4.2.1.Gas]), I x4.2.2]))] ⟨apc (first := []) (cap := []) (vs := [(Q9o p1), (Q9n p2)]) rfl Zbw (Qqj N p1 p2 _ hf3) rfl rfl (nlc (NLt.agg _ (nlc nll (nlc nll (nlc nll (nlc nll nl0))))) (nlc (nld Qab _) nl0)) (NLt.tup _ (nlc (nld Qai _) (nlc (NLt.agg _ (nlc nll (nlc nll (nlc nll nl0)))) (nlc nll nl0)))) rfl, trivial⟩ ?_
  obtain ⟨hi5, h⟩ := cko h
  obtain ⟨hi5a, hi5b⟩ := Qcy hi5
  obtain ⟨x6, hg7, h⟩ := bno h
  obtain ⟨hi8, h⟩ := cko h
  obtain ⟨hi8a, hi8b⟩ := Qcy hi8
  obtain ⟨x9, hg10, h⟩ := bno h
  obtain ⟨hi11, h⟩ := cko h
  obtain ⟨hi11a, hi11b⟩ := Qcy hi11
  obtain ⟨x12, hg13, h⟩ := bno h
  refine wxd tbk [(1, rb [(.tmp 19, .ref 0 7 0 0)] [(0, (Qp8 p3 p4 p5 p6 p7 p8 p9))] (.ref 0 7 0 0)), (7, rb [(.tmp 25, .ref 0 7 0 0)] [(0, (Qp8 p3 p4 p5 p6 p7 p8 p9))] (.ref 0 7 0 0)), (13, rb [(.tmp 31, .ref 0 7 0 0)] [(0, (Qp8 p3 p4 p5 p6 p7 p8 p9))] (.ref 0 7 0 0)), (24, rb [(.tmp 23, (.own 2 4 (0) (p6))), (.tmp 24, I p0)] [(2, (Q19 p11))] (.ref 2 4 (p0.toNat) 0)), (26, ⟨[(.tmp 44, (.ref 2 4 (p0.toNat) 0)), (.tmp 38, I x4.2.1.Heat)], [(2, (Q19 p11))], .any, [(2, (Q18 p11 p0 x4 x6))], false⟩), (27, rb [(.tmp 29, (.own 2 4 (0) (p6))), (.tmp 30, I p0)] [(2, (Q18 p11 p0 x4 x6))] (.ref 2 4 (p0.toNat) 0)), (29, ⟨[(.tmp 46, (.ref 2 4 (p0.toNat) 1)), (.tmp 40, I x4.2.1.Silica)], [(2, (Q18 p11 p0 x4 x6))], .any, [(2, (Q17 p11 p0 x4 x6 x9))], false⟩), (30, rb [(.tmp 35, (.own 2 4 (0) (p6))), (.tmp 36, I p0)] [(2, (Q17 p11 p0 x4 x6 x9))] (.ref 2 4 (p0.toNat) 0)), (32, ⟨[(.tmp 48, (.ref 2 4 (p0.toNat) 2)), (.tmp 42, I x4.2.1.Gas)], [(2, (Q17 p11 p0 x4 x6 x9))], .any, [(2, (Q8e p11 p0 x4 x6 x9 x12))], false⟩)] ⟨Qbf rfl, Qbf rfl, Qbf rfl, aio rfl Try.underlying32 ti50 (odt hi5a) (odt hi5b) (Nat.zero_add _), ast rfl ti3 (by rfl) (mgt Qbd hg7) (nle rfl) (Qfs Qbd rfl), aio rfl Try.underlying32 ti50 (odt hi8a) (odt hi8b) (Nat.zero_add _), ast rfl ti3 (by rfl) (mgt Qbd hg10) (nle rfl) (Qfs Qbd rfl), aio rfl Try.underlying32 ti50 (odt hi11a) (odt hi11b) (Nat.zero_add _), ast rfl ti3 (by rfl) (mgt Qbd hg13) (nle rfl) (Qfs Qbd rfl), trivial⟩ ?_
  refine wx tbk [] trivial ?_
  refine wmr (mto (n := 50) (l' := [(8, (Qx6 x4))]) (own' := [(Qp8 p3 p4 p5 p6 p7 p8 p9), (Qx5 p10), (.own 4 (((((p11.set p0.toNat (⟨x4.2.1.Heat, x6.Silica, x6.Gas, x6.Scale⟩ : GLost)).set p0.toNat (⟨x9.Heat, x4.2.1.Silica, x9.Gas, x9.Scale⟩ : GLost)).set p0.toNat (⟨x12.Heat, x12.Silica, x4.2.1.Gas, x12.Scale⟩ : GLost)) : List GLost).map Qbd)), (Qx4 p12)]) [(8, (Qx6 x4))] [0, 1, 2, 3] [(Qp8 p3 p4 p5 p6 p7 p8 p9), (Qx5 p10), (Q8e p11 p0 x4 x6 x9 x12), (Qx4 p12)] hφ0 (pc (.rn (.plain _ (nld Qai _))) pn) (qc (spb (lc (.rn (.plain _ (nld Qah _))) (lc (.rn (.plain _ (nld Qaa _))) (lc (.rn (Qaz rfl)) (lc (.rn (Qaz rfl)) (lc (.rn (Qaz rfl)) (lc (.rn (.plain _ (nld Qai _))) (lc rwl ln)))))))) (qc (spr Qat) (qc (spr Qa9) (qc (spr Qab) qn))))) ?_
  refine Qad ?_
  obtain rfl := osi h
  exact ⟨_, Mor.rfl, Qcz (vs := [(Qx6 x4)]) ⟨rot (by kernel_rfl), trivial⟩ rfl (NLt.of0 (nld Qai _)) (by kernel_rfl) (Qal (Qa4 (nlc (NLt.of0 (nld Qah _)) (nlc (NLt.of0 (nld Qaa _)) (nlc (NLt.own _ _ _ _ (by decide)) (nlc (NLt.own _ _ _ _ (by decide)) (nlc (NLt.own _ _ _ _ (by decide)) (nlc (NLt.of0 (nld Qai _)) (nlc (NLt.of0 nll) nl0)))))))) (Qal (Qb0 Qat _) (Qal (Qb0 Qa9 _) (Qal (Qb0 Qab _) Qbn))))⟩
def Qg4 (N : Nat) (p0 : Int) (p1 : GStream) (p2 : (List GRow)) (p3 : (List GElement)) (p4 : Nat) (p5 : Nat) (p6 : Nat) (p7 : (List GStream)) (p8 : Int) (p9 : (List (List GStream))) (p10 : (List GLost)) (p11 : (List Int)) : Option ((List GStream) × Int × (List GLost) × (List Int)) :=
  (getI p3 p0).bind fun x5 =>
  (Qlw N p2 x5.Level p1).bind fun x10 =>
  chk (decide (0 ≤ p0) && decide (p0.toNat < p5)) <|
  (p10[p0.toNat]?).bind fun x12 =>
  chk (decide (0 ≤ p0) && decide (p0.toNat < p6)) <|
  (p11[p0.toNat]?).bind fun x15 =>
  chk (decide (0 ≤ p0) && decide (p0.toNat < p6)) <|
  (p11[p0.toNat]?).bind fun _ =>
  bif (x5.Amount == 0) then
   some ([(⟨x10.1.Steam.Mass, x10.1.Steam.Heat, x10.1.Steam.Silica, x10.1.Steam.Gas⟩ : GStream), (⟨x10.1.Water.Mass, x10.1.Water.Heat, x10.1.Water.Silica, x10.1.Water.Gas⟩ : GStream)], w64 (p8 + x10.1.Steam.Mass), p10.set p0.toNat (⟨x12.Heat, x12.Silica, x12.Gas, x10.1.Scale⟩ : GLost), p11.set p0.toNat (w64 (x15 + x10.1.Scale)))
  else
   (Qg1 N p0 (⟨x10.1.Water.Mass, x10.1.Water.Heat, x10.1.Water.Silica, x10.1.Water.Gas⟩ : GStream) ([w64 (1000 - x5.Amount), x5.Amount]) p2 p3 p4 p5 p6 p7 (w64 (p8 + x10.1.Steam.Mass)) p9 (p10.set p0.toNat (⟨x12.Heat, x12.Silica, x12.Gas, x10.1.Scale⟩ : GLost)) (p11.set p0.toNat (w64 (x15 + x10.1.Scale)))).bind fun x22 =>
   (getI x22.1 1).bind fun x23 =>
   (Qjz N ([(⟨x10.1.Steam.Mass, x10.1.Steam.Heat, x10.1.Steam.Silica, x10.1.Steam.Gas⟩ : GStream), x23])).bind fun x28 =>
   (getI x22.1 0).bind fun x29 =>
   some ([x28, x29], w64 (p8 + x10.1.Steam.Mass), x22.2, p11.set p0.toNat (w64 (x15 + x10.1.Scale)))
def Q9r (p1 : GStream) : AV := .agg [(I (p1.Mass)), (I (p1.Heat)), (I (p1.Silica)), (I (p1.Gas))]
def Qwc (p2 : (List GRow)) : AV := .dat 5 ((p2 : List GRow).map Qa3)
def Qz1 (p3 : (List GElement)) : AV := .dat 7 ((p3 : List GElement).map Qac)
def Q2e (p7 : (List GStream)) : AV := .dat 4 ((p7 : List GStream).map Qae)
def Qwb (p2 : (List GRow)) (p3 : (List GElement)) (p4 : Nat) (p5 : Nat) (p6 : Nat) (p7 : (List GStream)) (p8 : Int) : Slot := .own 7 [[(Qwc p2), (Qz1 p3), (.own 1 1 (0) (p4)), (.own 2 4 (0) (p5)), (.own 3 1 (0) (p6)), (Q2e p7), (I (p8))]]
def Qmu (p9 : (List (List GStream))) : Slot := .own 1 ((p9 : List (List GStream)).map Qao)
def Q2f (p10 : (List GLost)) : Slot := .own 4 ((p10 : List GLost).map Qbd)
def Qua (p11 : (List Int)) : Slot := .own 1 ((p11 : List Int).map Qaj)
def Qyc (p10 : (List GLost)) (p0 : Int) (x12 : GLost) (x10 : (GParts × Int)) : Slot := .own 4 ((p10.set p0.toNat (⟨x12.Heat, x12.Silica, x12.Gas, x10.1.Scale⟩ : GLost) : List GLost).map Qbd)
def Qp9 (p11 : (List Int)) (p0 : Int) (x15 : Int) (x10 : (GParts × Int)) : Slot := .own 1 ((p11.set p0.toNat (w64 (x15 + x10.1.Scale)) : List Int).map Qaj)
def Qyb (x10 : (GParts × Int)) : AV := .agg [(I (x10.1.Steam.Mass)), (I (x10.1.Steam.Heat)), (I (x10.1.Steam.Silica)), (I (x10.1.Steam.Gas))]
def Q2d (x10 : (GParts × Int)) : AV := .agg [(I (x10.1.Water.Mass)), (I (x10.1.Water.Heat)), (I (x10.1.Water.Silica)), (I (x10.1.Water.Gas))]
def Qya (x10 : (GParts × Int)) : AV := .dat 4 (([(⟨x10.1.Steam.Mass, x10.1.Steam.Heat, x10.1.Steam.Silica, x10.1.Steam.Gas⟩ : GStream), (⟨x10.1.Water.Mass, x10.1.Water.Heat, x10.1.Water.Silica, x10.1.Water.Gas⟩ : GStream)] : List GStream).map Qae)
def Qr7 (p2 : (List GRow)) (p3 : (List GElement)) (p4 : Nat) (p5 : Nat) (p6 : Nat) (p7 : (List GStream)) (p8 : Int) (x10 : (GParts × Int)) : Slot := .own 7 [[(Qwc p2), (Qz1 p3), (.own 1 1 (0) (p4)), (.own 2 4 (0) (p5)), (.own 3 1 (0) (p6)), (Q2e p7), (I (w64 (p8 + x10.1.Steam.Mass)))]]
def Q2c (x5 : GElement) : AV := .dat 1 (([w64 (1000 - x5.Amount), x5.Amount] : List Int).map Qaj)
def Qx8 (x22 : ((List GStream) × (List GLost))) : AV := .dat 4 ((x22.1 : List GStream).map Qae)
def Qx9 (x22 : ((List GStream) × (List GLost))) : Slot := .own 4 ((x22.2 : List GLost).map Qbd)
def Q8g (x23 : GStream) : AV := .agg [(I (x23.Mass)), (I (x23.Heat)), (I (x23.Silica)), (I (x23.Gas))]
def Q2b (x10 : (GParts × Int)) (x23 : GStream) : AV := .dat 4 (([(⟨x10.1.Steam.Mass, x10.1.Steam.Heat, x10.1.Steam.Silica, x10.1.Steam.Gas⟩ : GStream), x23] : List GStream).map Qae)
def Q2a (x28 : GStream) : AV := .agg [(I (x28.Mass)), (I (x28.Heat)), (I (x28.Silica)), (I (x28.Gas))]
def Q8f (x29 : GStream) : AV := .agg [(I (x29.Mass)), (I (x29.Heat)), (I (x29.Silica)), (I (x29.Gas))]
def Qx7 (x28 : GStream) (x29 : GStream) : AV := .dat 4 (([x28, x29] : List GStream).map Qae)
theorem Qkr (N : Nat) (p0 : Int) (p1 : GStream) (p2 : (List GRow)) (p3 : (List GElement)) (p4 : Nat) (p5 : Nat) (p6 : Nat) (p7 : (List GStream)) (p8 : Int) (p9 : (List (List GStream))) (p10 : (List GLost)) (p11 : (List Int)) (r : ((List GStream) × Int × (List GLost) × (List Int))) (h : Qg4 N p0 p1 p2 p3 p4 p5 p6 p7 p8 p9 p10 p11 = some r) : Spec Try.prog 77 [(.ref 0 7 (0) 0), (I (p0)), (Q9r p1)] [(Qwb p2 p3 p4 p5 p6 p7 p8), (Qmu p9), (Q2f p10), (Qua p11)] (.dat 4 ((r.1 : List GStream).map Qae)) [(.own 7 [[(Qwc p2), (Qz1 p3), (.own 1 1 (0) (p4)), (.own 2 4 (0) (p5)), (.own 3 1 (0) (p6)), (Q2e p7), (I (r.2.1))]]), (Qmu p9), (.own 4 ((r.2.2.1 : List GLost).map Qbd)), (.own 1 ((r.2.2.2 : List Int).map Qaj))] := by
  refine Qak Try.func77 rfl 4 (nle rfl) (fun X φ0 w0 hφ0 hd0 => ?_)
  unfold Qg4 at h
  refine Qbp ?_
  refine wx tbk [] trivial ?_
  obtain ⟨x5, hg6, h⟩ := bno h
  obtain ⟨hi7, hj8⟩ := gsm hg6
  refine wx tbk [(1, rb [(.tmp 11, .ref 0 7 0 0)] [(0, (Qwb p2 p3 p4 p5 p6 p7 p8))] (.ref 0 7 0 0)), (6, rp [(.tmp 15, (Qz1 p3)), (.tmp 16, I p0)] (.dptr (Qac (x5)) 0))] ⟨Qbf rfl, aid rfl Try.underlying40 ti76 rfl rfl hi7 (mgt Qac hj8) rfl, trivial⟩ ?_
  obtain ⟨x10, hf9, h⟩ := bno h
  refine wxd tbk [(1, rb [(.tmp 20, .ref 0 7 0 0)] [(0, (Qwb p2 p3 p4 p5 p6 p7 p8))] (.ref 0 7 0 0)), (8, rp [fu 25, (.tmp 24, (Qwc p2)), (.tmp 26, I x5.Level), (.tmp 27, (Q9r p1))] (.tup [(.agg [I x10.1.Steam.Mass, I x10.1.Steam.Heat, I x10.1.Steam.Silica, I x10.1.Steam.Gas, I x10.1.Water.Mass, I x10.1.Water.Heat, I x10.1.Water.Silica, I x10.1.Water.Gas, I x10.1.Rest, I x10.1.Scale]), I x10.2]))] ⟨Qbf rfl, apc (first := []) (cap := []) (vs := [(Qwc p2), I x5.Level, (Q9r p1)]) rfl Zc1 (Qqk N p2 x5.Level p1 _ hf9) rfl rfl (nlc (nld Qah _) (nlc nll (nlc (NLt.agg _ (nlc nll (nlc nll (nlc nll (nlc nll nl0))))) nl0))) (NLt.tup _ (nlc (NLt.agg _ (nlc nll (nlc nll (nlc nll (nlc nll (nlc nll (nlc nll (nlc nll (nlc nll (nlc nll (nlc nll nl0))))))))))) (nlc nll nl0))) rfl, trivial⟩ ?_
  obtain ⟨hi11, h⟩ := cko h
  obtain ⟨hi11a, hi11b⟩ := Qcy hi11
  obtain ⟨x12, hg13, h⟩ := bno h
  refine wxd tbk [(1, rb [(.tmp 31, .ref 0 7 0 0)] [(0, (Qwb p2 p3 p4 p5 p6 p7 p8))] (.ref 0 7 0 0)), (8, rb [(.tmp 35, (.own 2 4 (0) (p5))), (.tmp 36, I p0)] [(2, (Q2f p10))] (.ref 2 4 (p0.toNat) 0)), (10, ⟨[(.tmp 40, (.ref 2 4 (p0.toNat) 3)), (.tmp 38, I x10.1.Scale)], [(2, (Q2f p10))], .any, [(2, (Qyc p10 p0 x12 x10))], false⟩)] ⟨Qbf rfl, aio rfl Try.underlying32 ti50 (odt hi11a) (odt hi11b) (Nat.zero_add _), ast rfl ti3 (by rfl) (mgt Qbd hg13) (nle rfl) (Qfs Qbd rfl), trivial⟩ ?_
  obtain ⟨hi14, h⟩ := cko h
  obtain ⟨hi14a, hi14b⟩ := Qcy hi14
  obtain ⟨x15, hg16, h⟩ := bno h
  obtain ⟨hi17, h⟩ := cko h
  obtain ⟨hi17a, hi17b⟩ := Qcy hi17
  obtain ⟨x18, hg19, h⟩ := bno h
  refine wxd tbk [(1, rb [(.tmp 41, .ref 0 7 0 0)] [(0, (Qwb p2 p3 p4 p5 p6 p7 p8))] (.ref 0 7 0 0)), (6, rb [(.tmp 45, (.own 3 1 (0) (p6))), (.tmp 46, I p0)] [(3, (Qua p11))] (.ref 3 1 (p0.toNat) 0)), (7, rb [(.tmp 47, (.ref 3 1 (p0.toNat) 0))] [(3, (Qua p11))] (I x15)), (11, rb [(.tmp 45, (.own 3 1 (0) (p6))), (.tmp 46, I p0)] [(3, (Qua p11))] (.ref 3 1 (p0.toNat) 0)), (12, ⟨[(.tmp 52, (.ref 3 1 (p0.toNat) 0)), (.tmp 51, (I (w64 (x15 + x10.1.Scale))))], [(3, (Qua p11))], .any, [(3, (Qp9 p11 p0 x15 x10))], false⟩)] ⟨Qbf rfl, aio rfl Try.underlying27 ti3 (odt hi14a) (odt hi14b) (Nat.zero_add _), ald rfl ti3 (by decide) (mgt Qaj hg16) (nle rfl) rfl, aio rfl Try.underlying27 ti3 (odt hi17a) (odt hi17b) (Nat.zero_add _), ast rfl ti3 (by rfl) (mgt Qaj hg19) (nle rfl) (Qfs Qaj rfl), trivial⟩ ?_
  refine wxd tbk [(1, rb [(.tmp 53, .ref 0 7 0 0)] [(0, (Qwb p2 p3 p4 p5 p6 p7 p8))] (.ref 0 7 0 0)), (8, rb [(.tmp 53, .ref 0 7 0 0)] [(0, (Qwb p2 p3 p4 p5 p6 p7 p8))] (.ref 0 7 0 0))] ⟨Qbf rfl, Qbf rfl, trivial⟩ ?_
  refine wsq ?_
  refine wx tbk [] trivial ?_
  rcases bft ((x5.Amount == 0)) with hc20 | hc20
  ·replace h := Qaw hc20 h
   refine wft hc20 (by kernel_rfl) ?_
   refine wx tbk [(4, rp [(.tmp 67, (Qyb x10)), (.tmp 69, (Q2d x10))] (Qya x10))] ⟨Qb1 (vs := [(Qyb x10), (Q2d x10)]) rfl Try.underlying45 ti48 tz48 rfl (by decide) rfl (by decide) (by rfl) (by rfl) (by rfl) rfl, trivial⟩ ?_
   refine wmr (mto (n := 93) (l' := [(6, (Qya x10))]) (own' := [(.own 7 [[(Qwc p2), (Qz1 p3), (.own 1 1 (0) (p4)), (.own 2 4 (0) (p5)), (.own 3 1 (0) (p6)), (Q2e p7), (I ((w64 (p8 + x10.1.Steam.Mass))))]]), (Qmu p9), (.own 4 (((p10.set p0.toNat (⟨x12.Heat, x12.Silica, x12.Gas, x10.1.Scale⟩ : GLost)) : List GLost).map Qbd)), (.own 1 (((p11.set p0.toNat (w64 (x15 + x10.1.Scale))) : List Int).map Qaj))]) [(6, (Qya x10))] [0, 1, 2, 3] [(Qr7 p2 p3 p4 p5 p6 p7 p8 x10), (Qmu p9), (Qyc p10 p0 x12 x10), (Qp9 p11 p0 x15 x10)] hφ0 (pc (.rn (.plain _ (nld Qai _))) pn) (qc (spb (lc (.rn (.plain _ (nld Qah _))) (lc (.rn (.plain _ (nld Qaa _))) (lc (.rn (Qaz rfl)) (lc (.rn (Qaz rfl)) (lc (.rn (Qaz rfl)) (lc (.rn (.plain _ (nld Qai _))) (lc rwl ln)))))))) (qc (spr Qat) (qc (spr Qa9) (qc (spr Qab) qn))))) ?_
   refine Qad ?_
   refine Qaf ?_
   obtain rfl := osi h
   exact ⟨_, Mor.rfl, Qcz (vs := [(Qya x10)]) ⟨rot (by kernel_rfl), trivial⟩ rfl (NLt.of0 (nld Qai _)) (by kernel_rfl) (Qal (Qa4 (nlc (NLt.of0 (nld Qah _)) (nlc (NLt.of0 (nld Qaa _)) (nlc (NLt.own _ _ _ _ (by decide)) (nlc (NLt.own _ _ _ _ (by decide)) (nlc (NLt.own _ _ _ _ (by decide)) (nlc (NLt.of0 (nld Qai _)) (nlc (NLt.of0 nll) nl0)))))))) (Qal (Qb0 Qat _) (Qal (Qb0 Qa9 _) (Qal (Qb0 Qab _) Qbn))))⟩
  ·replace h := Qax hc20 h
   refine wfn hc20 (by kernel_rfl) ?_
   refine Qap ?_
   refine thn ?_
   obtain ⟨x22, hf21, h⟩ := bno h
   refine wx tbk [(9, rp [(.tmp 77, (I (w64 (1000 - x5.Amount)))), (.tmp 79, I x5.Amount)] (Q2c x5)), (10, ⟨[fu 92, (.tmp 71, .ref 0 7 0 0), (.tmp 72, I p0), (.tmp 74, (Q2d x10)), (.tmp 80, (Q2c x5))], [(0, (Qr7 p2 p3 p4 p5 p6 p7 p8 x10)), (1, (Qmu p9)), (2, (Qyc p10 p0 x12 x10)), (3, (Qp9 p11 p0 x15 x10))], (Qx8 x22), [(0, (Qr7 p2 p3 p4 p5 p6 p7 p8 x10)), (1, (Qmu p9)), (2, (Qx9 x22)), (3, (Qp9 p11 p0 x15 x10))], false⟩)] ⟨Qb1 (vs := [(I (w64 (1000 - x5.Amount))), I x5.Amount]) rfl Try.underlying27 ti3 tz3 rfl (by decide) rfl (by decide) (by rfl) (by rfl) (by rfl) rfl, Qar (first := []) (cap := []) (vs := [.ref 0 7 0 0, I p0, (.agg [(I ((⟨x10.1.Water.Mass, x10.1.Water.Heat, x10.1.Water.Silica, x10.1.Water.Gas⟩ : GStream).Mass)), (I ((⟨x10.1.Water.Mass, x10.1.Water.Heat, x10.1.Water.Silica, x10.1.Water.Gas⟩ : GStream).Heat)), (I ((⟨x10.1.Water.Mass, x10.1.Water.Heat, x10.1.Water.Silica, x10.1.Water.Gas⟩ : GStream).Silica)), (I ((⟨x10.1.Water.Mass, x10.1.Water.Heat, x10.1.Water.Silica, x10.1.Water.Gas⟩ : GStream).Gas))]), (Q2c x5)]) (σr := [(Qr7 p2 p3 p4 p5 p6 p7 p8 x10), (Qmu p9), (Qyc p10 p0 x12 x10), (Qp9 p11 p0 x15 x10)]) (σr' := [(Qr7 p2 p3 p4 p5 p6 p7 p8 x10), (Qmu p9), (Qx9 x22), (Qp9 p11 p0 x15 x10)]) (res' := (Qx8 x22)) [0, 1, 2, 3] rfl Q4j (Qi1 N p0 (⟨x10.1.Water.Mass, x10.1.Water.Heat, x10.1.Water.Silica, x10.1.Water.Gas⟩ : GStream) ([w64 (1000 - x5.Amount), x5.Amount]) p2 p3 p4 p5 p6 p7 (w64 (p8 + x10.1.Steam.Mass)) p9 (p10.set p0.toNat (⟨x12.Heat, x12.Silica, x12.Gas, x10.1.Scale⟩ : GLost)) (p11.set p0.toNat (w64 (x15 + x10.1.Scale))) _ hf21) rfl (Qbm (rnc (Qa0 rfl) (rnc (.plain _ nll) (rnc (.plain _ (NLt.agg _ (nlc nll (nlc nll (nlc nll (nlc nll nl0)))))) (rnc (.plain _ (nld Qab _)) rn0))))) (slc (Qag (rnc (.plain _ (nld Qah _)) (rnc (.plain _ (nld Qaa _)) (rnc (Qcg rfl) (rnc (Qcg rfl) (rnc (Qcg rfl) (rnc (.plain _ (nld Qai _)) (rnc (.plain _ nll) rn0)))))))) (slc (Qa8 Qat) (slc (Qa8 Qa9) (slc (Qa8 Qab) Qaq)))) (slc (Qag (rnc (.plain _ (nld Qah _)) (rnc (.plain _ (nld Qaa _)) (rnc (Qdh rfl) (rnc (Qdh rfl) (rnc (Qdh rfl) (rnc (.plain _ (nld Qai _)) (rnc (.plain _ nll) rn0)))))))) (slc (Qa8 Qat) (slc (Qa8 Qa9) (slc (Qa8 Qab) Qaq)))) (.plain _ (nld Qai _)) rfl rfl rfl, trivial⟩ ?_
   obtain ⟨x23, hg24, h⟩ := bno h
   obtain ⟨hi25, hj26⟩ := gsm hg24
   obtain ⟨x28, hf27, h⟩ := bno h
   obtain ⟨x29, hg30, h⟩ := bno h
   obtain ⟨hi31, hj32⟩ := gsm hg30
   refine wxd tbk [(3, rp [(.tmp 84, (Qx8 x22)), ci 1] (.dptr (Qae (x23)) 0)), (5, rp [(.tmp 83, (Qyb x10)), (.tmp 86, (Q8g x23))] (Q2b x10 x23)), (6, rp [fu 31, (.tmp 87, (Q2b x10 x23))] (Q2a x28)), (8, rp [(.tmp 89, (Qx8 x22)), ci 0] (.dptr (Qae (x29)) 0)), (10, rp [(.tmp 88, (Q2a x28)), (.tmp 91, (Q8f x29))] (Qx7 x28 x29))] ⟨aid rfl Try.underlying45 ti48 rfl rfl hi25 (mgt Qae hj26) rfl, Qb1 (vs := [(Qyb x10), (Q8g x23)]) rfl Try.underlying45 ti48 tz48 rfl (by decide) rfl (by decide) (by rfl) (by rfl) (by rfl) rfl, apc (first := []) (cap := []) (vs := [(Q2b x10 x23)]) rfl Qxc (Qkn N ([(⟨x10.1.Steam.Mass, x10.1.Steam.Heat, x10.1.Steam.Silica, x10.1.Steam.Gas⟩ : GStream), x23]) _ hf27) rfl rfl (nlc (nld Qai _) nl0) (NLt.agg _ (nlc nll (nlc nll (nlc nll (nlc nll nl0))))) rfl, aid rfl Try.underlying45 ti48 rfl rfl hi31 (mgt Qae hj32) rfl, Qb1 (vs := [(Q2a x28), (Q8f x29)]) rfl Try.underlying45 ti48 tz48 rfl (by decide) rfl (by decide) (by rfl) (by rfl) (by rfl) rfl, trivial⟩ ?_
   refine wmr (mto (n := 93) (l' := [(6, (Qx7 x28 x29))]) (own' := [(.own 7 [[(Qwc p2), (Qz1 p3), (.own 1 1 (0) (p4)), (.own 2 4 (0) (p5)), (.own 3 1 (0) (p6)), (Q2e p7), (I ((w64 (p8 + x10.1.Steam.Mass))))]]), (Qmu p9), (Qx9 x22), (.own 1 (((p11.set p0.toNat (w64 (x15 + x10.1.Scale))) : List Int).map Qaj))]) [(6, (Qx7 x28 x29))] [0, 1, 2, 3] [(Qr7 p2 p3 p4 p5 p6 p7 p8 x10), (Qmu p9), (Qx9 x22), (Qp9 p11 p0 x15 x10)] hφ0 (pc (.rn (.plain _ (nld Qai _))) pn) (qc (spb (lc (.rn (.plain _ (nld Qah _))) (lc (.rn (.plain _ (nld Qaa _))) (lc (.rn (Qaz rfl)) (lc (.rn (Qaz rfl)) (lc (.rn (Qaz rfl)) (lc (.rn (.plain _ (nld Qai _))) (lc rwl ln)))))))) (qc (spr Qat) (qc (spr Qa9) (qc (spr Qab) qn))))) ?_
   refine Qad ?_
   obtain rfl := osi h
   exact ⟨_, Mor.rfl, Qcz (vs := [(Qx7 x28 x29)]) ⟨rot (by kernel_rfl), trivial⟩ rfl (NLt.of0 (nld Qai _)) (by kernel_rfl) (Qal (Qa4 (nlc (NLt.of0 (nld Qah _)) (nlc (NLt.of0 (nld Qaa _)) (nlc (NLt.own _ _ _ _ (by decide)) (nlc (NLt.own _ _ _ _ (by decide)) (nlc (NLt.own _ _ _ _ (by decide)) (nlc (NLt.of0 (nld Qai _)) (nlc (NLt.of0 nll) nl0)))))))) (Qal (Qb0 Qat _) (Qal (Qb0 Qa9 _) (Qal (Qb0 Qab _) Qbn))))⟩
def Qh4 (N : Nat) (p0 : Int) (p1 : GStream) (p2 : (List GRow)) (p3 : (List GElement)) (p4 : Nat) (p5 : Nat) (p6 : Nat) (p7 : (List GStream)) (p8 : Int) (p9 : (List (List GStream))) (p10 : (List GLost)) (p11 : (List Int)) : Option ((List GStream) × (List GLost)) :=
  (getI p3 p0).bind fun x3 =>
  (Qg1 N p0 p1 x3.Weights p2 p3 p4 p5 p6 p7 p8 p9 p10 p11).bind fun x8 =>
  some (x8.1, x8.2)
def Q9m (p1 : GStream) : AV := .agg [(I (p1.Mass)), (I (p1.Heat)), (I (p1.Silica)), (I (p1.Gas))]
def Qs4 (p2 : (List GRow)) (p3 : (List GElement)) (p4 : Nat) (p5 : Nat) (p6 : Nat) (p7 : (List GStream)) (p8 : Int) : Slot := .own 7 [[(.dat 5 ((p2 : List GRow).map Qa3)), (.dat 7 ((p3 : List GElement).map Qac)), (.own 1 1 (0) (p4)), (.own 2 4 (0) (p5)), (.own 3 1 (0) (p6)), (.dat 4 ((p7 : List GStream).map Qae)), (I (p8))]]
def Qt8 (p9 : (List (List GStream))) : Slot := .own 1 ((p9 : List (List GStream)).map Qao)
def Q9l (p10 : (List GLost)) : Slot := .own 4 ((p10 : List GLost).map Qbd)
def Qt7 (p11 : (List Int)) : Slot := .own 1 ((p11 : List Int).map Qaj)
def Qt9 (x8 : ((List GStream) × (List GLost))) : AV := .dat 4 ((x8.1 : List GStream).map Qae)
def Qx3 (x8 : ((List GStream) × (List GLost))) : Slot := .own 4 ((x8.2 : List GLost).map Qbd)
theorem Ql1 (N : Nat) (p0 : Int) (p1 : GStream) (p2 : (List GRow)) (p3 : (List GElement)) (p4 : Nat) (p5 : Nat) (p6 : Nat) (p7 : (List GStream)) (p8 : Int) (p9 : (List (List GStream))) (p10 : (List GLost)) (p11 : (List Int)) (r : ((List GStream) × (List GLost))) (h : Qh4 N p0 p1 p2 p3 p4 p5 p6 p7 p8 p9 p10 p11 = some r) : Spec Try.prog 78 [(.ref 0 7 (0) 0), (I (p0)), (Q9m p1)] [(Qs4 p2 p3 p4 p5 p6 p7 p8), (Qt8 p9), (Q9l p10), (Qt7 p11)] (.dat 4 ((r.1 : List GStream).map Qae)) [(Qs4 p2 p3 p4 p5 p6 p7 p8), (Qt8 p9), (.own 4 ((r.2 : List GLost).map Qbd)), (Qt7 p11)] := by
  refine Qak Try.func78 rfl 4 (nle rfl) (fun X φ0 w0 hφ0 hd0 => ?_)
  unfold Qh4 at h
  refine Qbp ?_
  refine wx tbk [] trivial ?_
  obtain ⟨x3, hg4, h⟩ := bno h
  obtain ⟨hi5, hj6⟩ := gsm hg4
  obtain ⟨x8, hf7, h⟩ := bno h
  refine wxd tbk [(4, rb [(.tmp 10, .ref 0 7 0 0)] [(0, (Qs4 p2 p3 p4 p5 p6 p7 p8))] (.ref 0 7 0 0)), (9, rp [(.tmp 14, (.dat 7 ((p3 : List GElement).map Qac))), (.tmp 15, I p0)] (.dptr (Qac (x3)) 0)), (12, ⟨[fu 92, (.tmp 7, .ref 0 7 0 0), (.tmp 8, I p0), (.tmp 9, (Q9m p1)), (.tmp 18, (.dat 1 ((x3.Weights : List Int).map Qaj)))], [(0, (Qs4 p2 p3 p4 p5 p6 p7 p8)), (1, (Qt8 p9)), (2, (Q9l p10)), (3, (Qt7 p11))], (Qt9 x8), [(0, (Qs4 p2 p3 p4 p5 p6 p7 p8)), (1, (Qt8 p9)), (2, (Qx3 x8)), (3, (Qt7 p11))], false⟩)] ⟨Qbf rfl, aid rfl Try.underlying40 ti76 rfl rfl hi5 (mgt Qac hj6) rfl, Qar (first := []) (cap := []) (vs := [.ref 0 7 0 0, I p0, (Q9m p1), (.dat 1 ((x3.Weights : List Int).map Qaj))]) (σr := [(Qs4 p2 p3 p4 p5 p6 p7 p8), (Qt8 p9), (Q9l p10), (Qt7 p11)]) (σr' := [(Qs4 p2 p3 p4 p5 p6 p7 p8), (Qt8 p9), (Qx3 x8), (Qt7 p11)]) (res' := (Qt9 x8)) [0, 1, 2, 3] rfl Q4j (Qi1 N p0 p1 x3.Weights p2 p3 p4 p5 p6 p7 p8 p9 p10 p11 _ hf7) rfl (Qbm (rnc (Qa0 rfl) (rnc (.plain _ nll) (rnc (.plain _ (NLt.agg _ (nlc nll (nlc nll (nlc nll (nlc nll nl0)))))) (rnc (.plain _ (nld Qab _)) rn0))))) (slc (Qag (rnc (.plain _ (nld Qah _)) (rnc (.plain _ (nld Qaa _)) (rnc (Qcg rfl) (rnc (Qcg rfl) (rnc (Qcg rfl) (rnc (.plain _ (nld Qai _)) (rnc (.plain _ nll) rn0)))))))) (slc (Qa8 Qat) (slc (Qa8 Qa9) (slc (Qa8 Qab) Qaq)))) (slc (Qag (rnc (.plain _ (nld Qah _)) (rnc (.plain _ (nld Qaa _)) (rnc (Qdh rfl) (rnc (Qdh rfl) (rnc (Qdh rfl) (rnc (.plain _ (nld Qai _)) (rnc (.plain _ nll) rn0)))))))) (slc (Qa8 Qat) (slc (Qa8 Qa9) (slc (Qa8 Qab) Qaq)))) (.plain _ (nld Qai _)) rfl rfl rfl, trivial⟩ ?_
  refine wmr (mto (n := 20) (l' := [(6, (Qt9 x8))]) (own' := [(Qs4 p2 p3 p4 p5 p6 p7 p8), (Qt8 p9), (Qx3 x8), (Qt7 p11)]) [(6, (Qt9 x8))] [0, 1, 2, 3] [(Qs4 p2 p3 p4 p5 p6 p7 p8), (Qt8 p9), (Qx3 x8), (Qt7 p11)] hφ0 (pc (.rn (.plain _ (nld Qai _))) pn) (qc (spb (lc (.rn (.plain _ (nld Qah _))) (lc (.rn (.plain _ (nld Qaa _))) (lc (.rn (Qaz rfl)) (lc (.rn (Qaz rfl)) (lc (.rn (Qaz rfl)) (lc (.rn (.plain _ (nld Qai _))) (lc rwl ln)))))))) (qc (spr Qat) (qc (spr Qa9) (qc (spr Qab) qn))))) ?_
  refine Qad ?_
  obtain rfl := osi h
  exact ⟨_, Mor.rfl, Qcz (vs := [(Qt9 x8)]) ⟨rot (by kernel_rfl), trivial⟩ rfl (NLt.of0 (nld Qai _)) (by kernel_rfl) (Qal (Qa4 (nlc (NLt.of0 (nld Qah _)) (nlc (NLt.of0 (nld Qaa _)) (nlc (NLt.own _ _ _ _ (by decide)) (nlc (NLt.own _ _ _ _ (by decide)) (nlc (NLt.own _ _ _ _ (by decide)) (nlc (NLt.of0 (nld Qai _)) (nlc (NLt.of0 nll) nl0)))))))) (Qal (Qb0 Qat _) (Qal (Qb0 Qa9 _) (Qal (Qb0 Qab _) Qbn))))⟩
def Qe1 (N : Nat) (p0 : Int) (p1 : Int) (p2 : (List GRow)) (p3 : (List GElement)) (p4 : Nat) (p5 : Nat) (p6 : Nat) (p7 : (List GStream)) (p8 : Int) (p9 : (List (List GStream))) (p10 : (List GLost)) (p11 : (List Int)) : Option ((Int × (List (List GStream)) × (List GLost) × (List Int)) ⊕ Int) :=
  (Qid N p0 p2 p3 p4 p5 p6 p7 p8 p9 p10 p11).bind fun _ =>
  chk (decide (p4 ≤ p9.length)) <|
  chk (decide (p5 ≤ p10.length)) <|
  chk (decide (p6 ≤ p11.length)) <|
  (Qeq N p2 p3 (p9.take p4) (p10.take p5) (p11.take p6) p7 p8 p0).bind fun x12 =>
  (Qjz N x12).bind fun x14 =>
  Qbz (fun _ =>
    (getI p3 p0).bind fun x16 =>
    bif (x16.Kind == 0) then
     none
    else
     bif (x16.Kind == 1) then
      (Qgd N p0 x14 p2 p3 p4 p5 p6 p7 p8 p9 p10 p11).bind fun x23 =>
      chk (decide (0 ≤ p0) && decide (p0.toNat < p4)) <|
      (p9[p0.toNat]?).bind fun _ =>
      some (.inl (p8, p9.set p0.toNat x23, p10, p11))
     else
      bif (x16.Kind == 2) then
       (Qgd N p0 x14 p2 p3 p4 p5 p6 p7 p8 p9 p10 p11).bind fun x29 =>
       chk (decide (0 ≤ p0) && decide (p0.toNat < p4)) <|
       (p9[p0.toNat]?).bind fun _ =>
       some (.inl (p8, p9.set p0.toNat x29, p10, p11))
      else
       bif (x16.Kind == 3) then
        (Qie N p0 x14 p2 p3 p4 p5 p6 p7 p8 p9 p10 p11).bind fun x35 =>
        chk (decide (0 ≤ p0) && decide (p0.toNat < p4)) <|
        (p9[p0.toNat]?).bind fun _ =>
        some (.inl (p8, p9.set p0.toNat x35.1, x35.2, p11))
       else
        bif (x16.Kind == 4) then
         (Qg4 N p0 x14 p2 p3 p4 p5 p6 p7 p8 p9 p10 p11).bind fun x41 =>
         chk (decide (0 ≤ p0) && decide (p0.toNat < p4)) <|
         (p9[p0.toNat]?).bind fun _ =>
         some (.inl (x41.2.1, p9.set p0.toNat x41.1, x41.2.2.1, x41.2.2.2))
        else
         bif (x16.Kind == 5) then
          (Qh4 N p0 x14 p2 p3 p4 p5 p6 p7 p8 p9 p10 p11).bind fun x47 =>
          chk (decide (0 ≤ p0) && decide (p0.toNat < p4)) <|
          (p9[p0.toNat]?).bind fun _ =>
          some (.inl (p8, p9.set p0.toNat x47.1, x47.2, p11))
         else
          bif (x16.Kind == 6) then
           (Qgd N p0 x14 p2 p3 p4 p5 p6 p7 p8 p9 p10 p11).bind fun x53 =>
           chk (decide (0 ≤ p0) && decide (p0.toNat < p4)) <|
           (p9[p0.toNat]?).bind fun _ =>
           some (.inl (p8, p9.set p0.toNat x53, p10, p11))
          else
           none) fun k15 : Unit → Option ((Int × (List (List GStream)) × (List GLost) × (List Int)) ⊕ Int) =>
  bif (decide (x14.Mass > p1)) then
   some (.inr p0)
  else
   k15 ()
def Qen (p2 : (List GRow)) : AV := .dat 5 ((p2 : List GRow).map Qa3)
def Qdo (p3 : (List GElement)) : AV := .dat 7 ((p3 : List GElement).map Qac)
def Qem (p7 : (List GStream)) : AV := .dat 4 ((p7 : List GStream).map Qae)
def Qf7 (p2 : (List GRow)) (p3 : (List GElement)) (p4 : Nat) (p5 : Nat) (p6 : Nat) (p7 : (List GStream)) (p8 : Int) : Slot := .own 7 [[(Qen p2), (Qdo p3), (.own 1 1 (0) (p4)), (.own 2 4 (0) (p5)), (.own 3 1 (0) (p6)), (Qem p7), (I (p8))]]
def Qfo (p9 : (List (List GStream))) : Slot := .own 1 ((p9 : List (List GStream)).map Qao)
def Qg7 (p10 : (List GLost)) : Slot := .own 4 ((p10 : List GLost).map Qbd)
def Qf6 (p11 : (List Int)) : Slot := .own 1 ((p11 : List Int).map Qaj)
def Q9x : AV := .fn (.func 90) [] [(.ref 4 1 (0) 0), (.ref 5 1 (0) 0)]
def Q9y : Slot := .own 1 [[(.ref 0 7 (0) 0)]]
def Q2m (x12 : (List GStream)) : AV := .acc 6 48 4 ((x12 : List GStream).map Qae)
def Qhs (x14 : GStream) : AV := .agg [(I (x14.Mass)), (I (x14.Heat)), (I (x14.Silica)), (I (x14.Gas))]
def Qpb (x14 : GStream) : Slot := .own 4 [[(I (x14.Mass)), (I (x14.Heat)), (I (x14.Silica)), (I (x14.Gas))]]
def Qlh : Slot := .own 7 [[(.lit .nilFunc), (.fn (.func 75) [] []), (.fn (.func 75) [] []), (.fn (.func 76) [] []), (.fn (.func 77) [] []), (.fn (.func 78) [] []), (.fn (.func 75) [] [])]]
def Q2l (x23 : (List GStream)) : AV := .dat 4 ((x23 : List GStream).map Qae)
def Q2k (x29 : (List GStream)) : AV := .dat 4 ((x29 : List GStream).map Qae)
def Qym (x35 : ((List GStream) × (List GLost))) : Slot := .own 4 ((x35.2 : List GLost).map Qbd)
def Qyl (p2 : (List GRow)) (p3 : (List GElement)) (p4 : Nat) (p5 : Nat) (p6 : Nat) (p7 : (List GStream)) (x41 : ((List GStream) × Int × (List GLost) × (List Int))) : Slot := .own 7 [[(Qen p2), (Qdo p3), (.own 1 1 (0) (p4)), (.own 2 4 (0) (p5)), (.own 3 1 (0) (p6)), (Qem p7), (I (x41.2.1))]]
def Qyk (x41 : ((List GStream) × Int × (List GLost) × (List Int))) : Slot := .own 4 ((x41.2.2.1 : List GLost).map Qbd)
def Qyj (x41 : ((List GStream) × Int × (List GLost) × (List Int))) : Slot := .own 1 ((x41.2.2.2 : List Int).map Qaj)
def Qyi (x47 : ((List GStream) × (List GLost))) : Slot := .own 4 ((x47.2 : List GLost).map Qbd)
def Q2j (x53 : (List GStream)) : AV := .dat 4 ((x53 : List GStream).map Qae)
theorem Qh5 (N : Nat) (p0 : Int) (p1 : Int) (p2 : (List GRow)) (p3 : (List GElement)) (p4 : Nat) (p5 : Nat) (p6 : Nat) (p7 : (List GStream)) (p8 : Int) (p9 : (List (List GStream))) (p10 : (List GLost)) (p11 : (List Int)) (r : ((Int × (List (List GStream)) × (List GLost) × (List Int)) ⊕ Int)) (h : Qe1 N p0 p1 p2 p3 p4 p5 p6 p7 p8 p9 p10 p11 = some r) : Ze1 Try.prog 52 [(.ref 0 7 (0) 0), (I (p0)), (I (p1))] [(Qf7 p2 p3 p4 p5 p6 p7 p8), (Qfo p9), (Qg7 p10), (Qf6 p11)]  ((Sum.elim (fun r => .ret (.tup []) [(.own 7 [[(.dat 5 ((p2 : List GRow).map Qa3)), (.dat 7 ((p3 : List GElement).map Qac)), (.own 1 1 (0) (p4)), (.own 2 4 (0) (p5)), (.own 3 1 (0) (p6)), (.dat 4 ((p7 : List GStream).map Qae)), (I (r.1))]]), (.own 1 ((r.2.1 : List (List GStream)).map Qao)), (.own 4 ((r.2.2.1 : List GLost).map Qbd)), (.own 1 ((r.2.2.2 : List Int).map Qaj))]) (fun r => .pan (.iface 120 (.agg #[(.int .i64 (r))]))) : ((Int × (List (List GStream)) × (List GLost) × (List Int)) ⊕ Int) → Out) r) := by
  refine Qux Try.func52 rfl 4 (nle rfl) (fun X φ0 w0 hφ0 hd0 => ?_)
  unfold Qe1 at h
  obtain ⟨x7, hf6, h⟩ := bno h
  obtain ⟨hz8, h⟩ := cko h
  obtain ⟨hz9, h⟩ := cko h
  obtain ⟨hz10, h⟩ := cko h
  obtain ⟨x12, hf11, h⟩ := bno h
  obtain ⟨x14, hf13, h⟩ := bno h
  refine wx tbk [(2, ⟨[fu 74, (.tmp 8, .ref 0 7 0 0), (.tmp 9, I p0)], [(0, (Qf7 p2 p3 p4 p5 p6 p7 p8)), (1, (Qfo p9)), (2, (Qg7 p10)), (3, (Qf6 p11)), (4, .unused), (5, .unused)], Q9x, [(0, (Qf7 p2 p3 p4 p5 p6 p7 p8)), (1, (Qfo p9)), (2, (Qg7 p10)), (3, (Qf6 p11)), (4, Q9y), (5, .own 1 [[I p0]])], false⟩), (3, ⟨[fu 73, (.tmp 10, Q9x)], [(4, Q9y), (0, (Qf7 p2 p3 p4 p5 p6 p7 p8)), (1, (Qfo p9)), (2, (Qg7 p10)), (3, (Qf6 p11)), (5, .own 1 [[I p0]]), (6, .unused)], (Q2m x12), [(6, .tok)], false⟩), (4, rp [fu 31, (.tmp 11, (Q2m x12))] (Qhs x14))] ⟨Qar (first := []) (cap := []) (vs := [.ref 0 7 0 0, I p0]) (σr := [(Qf7 p2 p3 p4 p5 p6 p7 p8), (Qfo p9), (Qg7 p10), (Qf6 p11)]) (σr' := [(Qf7 p2 p3 p4 p5 p6 p7 p8), (Qfo p9), (Qg7 p10), (Qf6 p11), Q9y, (.own 1 [[I p0]])]) (res' := Q9x) [0, 1, 2, 3, 4, 5] rfl Zcd (Qmp N p0 p2 p3 p4 p5 p6 p7 p8 p9 p10 p11 _ hf6) rfl (Qbm (rnc (Qa0 rfl) (rnc (.plain _ nll) rn0))) (slc (Qag (rnc (.plain _ (nld Qah _)) (rnc (.plain _ (nld Qaa _)) (rnc (Qcg rfl) (rnc (Qcg rfl) (rnc (Qcg rfl) (rnc (.plain _ (nld Qai _)) (rnc (.plain _ nll) rn0)))))))) (slc (Qa8 Qat) (slc (Qa8 Qa9) (slc (Qa8 Qab) Qaq)))) (slc (Qag (rnc (.plain _ (nld Qah _)) (rnc (.plain _ (nld Qaa _)) (rnc (Qdh rfl) (rnc (Qdh rfl) (rnc (Qdh rfl) (rnc (.plain _ (nld Qai _)) (rnc (.plain _ nll) rn0)))))))) (slc (Qa8 Qat) (slc (Qa8 Qa9) (slc (Qa8 Qab) (slc (Qag (rnc (Qbb rfl) rn0)) (slc (Qag (rnc (.plain _ nll) rn0)) Qaq)))))) (Qav rn0 (rnc (Qbb rfl) (rnc (Qbb rfl) rn0))) rfl rfl rfl, Qjj (rd' := [fu 73, (.tmp 10, (.fn (.func 90) [] [(.dptr [(.dptr [(Qen p2), (Qdo p3), (.dat 1 ((p9.take p4 : List (List GStream)).map Qao)), (.dat 4 ((p10.take p5 : List GLost).map Qbd)), (.dat 1 ((p11.take p6 : List Int).map Qaj)), (Qem p7), I p8] 0)] 0), (.dptr [I p0] 0)]))]) [(4, 1, [[.ref 0 7 0 0]]), (0, 7, [[(Qen p2), (Qdo p3), (.own 1 1 (0) (p4)), (.own 2 4 (0) (p5)), (.own 3 1 (0) (p6)), (Qem p7), I p8]]), (1, 1, (p9 : List (List GStream)).map Qao), (2, 4, (p10 : List GLost).map Qbd), (3, 1, (p11 : List Int).map Qaj), (5, 1, [[I p0]])] ⟨rfl, .same _, rfl, (Q7o trivial ⟨(Qob 0 rfl (lc (Qob 1 rfl (lc (.same _) (lc (.same _) (lc (Qxf 2 rfl hz8) (lc (Qxf 3 rfl hz9) (lc (Qxf 4 rfl hz10) (lc (.same _) (lc (.same _) ln)))))))) ln)), (Qob 5 rfl (lc (.same _) ln)), trivial⟩), trivial⟩ (by rfl) (.acc _ _ _ _ (nin rfl) (by simp) (Q69 Qw4 _)) (Q61 .tok Qtf) (Qar (first := []) (cap := []) (vs := [(.fn (.func 90) [] [(.dptr [(.dptr [(Qen p2), (Qdo p3), (.dat 1 ((p9.take p4 : List (List GStream)).map Qao)), (.dat 4 ((p10.take p5 : List GLost).map Qbd)), (.dat 1 ((p11.take p6 : List Int).map Qaj)), (Qem p7), I p8] 0)] 0), (.dptr [I p0] 0)])]) (σr := []) (σr' := [.tok]) (res' := (Q2m x12)) [6] rfl Zce (Qh1 N p2 p3 (p9.take p4) (p10.take p5) (p11.take p6) p7 p8 p0 _ hf11) rfl (Qbm (rnc (.plain _ (NLt.fn _ _ _ nl0 (nlc (NLt.dptr _ _ (nlc (NLt.dptr _ _ (nlc (nld Qah _) (nlc (nld Qaa _) (nlc (nld Qat _) (nlc (nld Qa9 _) (nlc (nld Qab _) (nlc (nld Qai _) (nlc nll nl0)))))))) nl0)) (nlc (NLt.dptr _ _ (nlc nll nl0)) nl0)))) rn0)) Qaq (slc .tok Qaq) (Q3i rfl (Qbo Qai _)) rfl rfl rfl), awk (rd' := (.func 31, (.fn (.func 31) [] [])) :: [(.tmp 11, (.dat 4 ((x12 : List GStream).map Qae)))]) ⟨rfl, lrf, rfl, Less.acc, trivial⟩ (apc (first := []) (cap := []) (vs := [(.dat 4 ((x12 : List GStream).map Qae))]) rfl Qxc (Qkn N x12 _ hf13) rfl rfl (nlc (nld Qai _) nl0) (NLt.agg _ (nlc nll (nlc nll (nlc nll (nlc nll nl0))))) rfl), trivial⟩ ?_
  obtain ⟨k15, hk_k15, h⟩ := jko h
  refine wjn (τ := Unit) (fun t => k15 t = some r) (fun _ => ⟨mk 43 [(0, .ref 0 7 0 0), (1, I p0), (6, .ref 4 4 0 0)], [(Qf7 p2 p3 p4 p5 p6 p7 p8), (Qfo p9), (Qg7 p10), (Qf6 p11), (Qpb x14)]⟩) (fun t h => ?_) ?_
  ·subst hk_k15
   refine wx tbk [(0, rp [fu 75, fu 75, fu 76, fu 77, fu 78, fu 75] (.agg [(.lit .nilFunc), (.fn (.func 75) [] []), (.fn (.func 75) [] []), (.fn (.func 76) [] []), (.fn (.func 77) [] []), (.fn (.func 78) [] []), (.fn (.func 75) [] [])]))] ⟨Qpl (vs := [(.fn (.func 75) [] []), (.fn (.func 75) [] []), (.fn (.func 76) [] []), (.fn (.func 77) [] []), (.fn (.func 78) [] []), (.fn (.func 75) [] [])]) rfl Try.underlying144 Qns Zeb rfl (by rfl) rfl, trivial⟩ ?_
   obtain ⟨x16, hg17, h⟩ := bno h
   obtain ⟨hi18, hj19⟩ := gsm hg17
   rcases bft ((x16.Kind == 0)) with hb20 | hb20
   ·replace h := Qaw hb20 h
    cases h
   ·replace h := Qax hb20 h
    rcases bft ((x16.Kind == 1)) with hb21 | hb21
    ·replace h := Qaw hb21 h
     obtain ⟨x23, hf22, h⟩ := bno h
     obtain ⟨hi24, h⟩ := cko h
     obtain ⟨hi24a, hi24b⟩ := Qcy hi24
     obtain ⟨x25, hg26, h⟩ := bno h
     refine Qk1 [mv 0 (.ref 0 7 0 0), ⟨[(.tmp 21, .ref 0 7 0 0)], [], .ref 0 7 0 0, [], false⟩, ⟨[(.tmp 22, .ref 0 7 0 0)], [], .ref 0 7 0 2, [], false⟩, ⟨[(.tmp 23, .ref 0 7 0 2)], [], .ref 0 7 0 2, [], false⟩, ⟨[(.tmp 24, .ref 0 7 0 2)], [], (.own 1 1 (0) (p4)), [], false⟩, mv 1 (I p0), mv 0 (.ref 0 7 0 0), ⟨[(.tmp 27, .ref 0 7 0 0)], [], .ref 0 7 0 0, [], false⟩, ⟨[(.tmp 28, .ref 0 7 0 0)], [], .ref 0 7 0 0, [], false⟩, ⟨[(.tmp 29, .ref 0 7 0 0)], [], .ref 0 7 0 1, [], false⟩, ⟨[(.tmp 30, .ref 0 7 0 1)], [], (Qdo p3), [], false⟩, mv 1 (I p0), rp [(.tmp 31, (Qdo p3)), (.tmp 32, I p0)] (.dptr (Qac (x16)) 0), mv 33 (.dptr (Qac (x16)) 0), rp [(.tmp 34, (.dptr (Qac (x16)) 0))] (K .u8 (x16.Kind)), rb [(.tmp 7, .ref 5 7 0 0), (.tmp 35, (K .u8 (x16.Kind)))] [(5, Qlh)] (.ref 5 7 0 1), rb [(.tmp 36, .ref 5 7 0 1)] [(5, Qlh)] (.fn (.func 75) [] []), mv 0 (.ref 0 7 0 0), mv 1 (I p0), rb [(.tmp 6, .ref 4 4 0 0)] [(4, (Qpb x14))] (Qhs x14), ⟨[(.tmp 37, (.fn (.func 75) [] [])), (.tmp 38, .ref 0 7 0 0), (.tmp 39, I p0), (.tmp 40, (Qhs x14))], [(0, (Qf7 p2 p3 p4 p5 p6 p7 p8)), (1, (Qfo p9)), (2, (Qg7 p10)), (3, (Qf6 p11))], (Q2l x23), [(0, (Qf7 p2 p3 p4 p5 p6 p7 p8)), (1, (Qfo p9)), (2, (Qg7 p10)), (3, (Qf6 p11))], false⟩, rb [(.tmp 25, (.own 1 1 (0) (p4))), (.tmp 26, I p0)] [(1, (Qfo p9))] (.ref 1 1 (p0.toNat) 0), ⟨[(.tmp 42, (.ref 1 1 (p0.toNat) 0)), (.tmp 41, (Q2l x23))], [(1, (Qfo p9))], .any, [(1, (.own 1 ((p9.set p0.toNat x23 : List (List GStream)).map Qao)))], false⟩] ?_ ?_
     ·exact ⟨fun _ => .hard (amv rfl), fun _ => .soft 0 (.own 7 [[(Qen p2), (Qdo p3), (.own 1 1 (0) (p4)), (.own 2 4 (0) (p5)), (.own 3 1 (0) (p6)), (Qem p7), I p8]]) (Qbf rfl) (SImp.box ⟨lrf, lrf, lrf, lrf, lrf, lrf, lrf, trivial⟩) ⟨trivial, trivial, trivial, trivial, trivial, trivial, trivial, trivial, trivial, trivial, trivial, trivial, trivial, trivial, trivial, trivial, trivial, trivial, trivial, trivial, ⟨(SImp.box ⟨lrf, lrf, lrf, lrf, lrf, lrf, lrf, trivial⟩), trivial, trivial, trivial, trivial⟩, trivial, ⟨trivial, trivial⟩, trivial⟩, fun _ => .soft 0 (.own 7 [[(Qen p2), (Qdo p3), (.own 1 1 (0) (p4)), (.own 2 4 (0) (p5)), (.own 3 1 (0) (p6)), (Qem p7), I p8]]) (afa rfl Try.underlying93 rfl rfl ti34 (by decide) rfl) (SImp.box ⟨lrf, lrf, lrf, lrf, lrf, lrf, lrf, trivial⟩) ⟨trivial, trivial, trivial, trivial, trivial, trivial, trivial, trivial, trivial, trivial, trivial, trivial, trivial, trivial, trivial, trivial, trivial, trivial, trivial, trivial, ⟨(SImp.box ⟨lrf, lrf, lrf, lrf, lrf, lrf, lrf, trivial⟩), trivial, trivial, trivial, trivial⟩, trivial, ⟨trivial, trivial⟩, trivial⟩, fun _ => .soft 0 (.own 7 [[(Qen p2), (Qdo p3), (.own 1 1 (0) (p4)), (.own 2 4 (0) (p5)), (.own 3 1 (0) (p6)), (Qem p7), I p8]]) (afa rfl Try.underlying34 rfl rfl ti31 (by decide) rfl) (SImp.box ⟨lrf, lrf, lrf, lrf, lrf, lrf, lrf, trivial⟩) ⟨trivial, trivial, trivial, trivial, trivial, trivial, trivial, trivial, trivial, trivial, trivial, trivial, trivial, trivial, trivial, trivial, trivial, trivial, trivial, trivial, ⟨(SImp.box ⟨lrf, lrf, lrf, lrf, lrf, lrf, lrf, trivial⟩), trivial, trivial, trivial, trivial⟩, trivial, ⟨trivial, trivial⟩, trivial⟩, fun _ => .soft 0 (.own 7 [[(Qen p2), (Qdo p3), (.own 1 1 (0) (p4)), (.own 2 4 (0) (p5)), (.own 3 1 (0) (p6)), (Qem p7), I p8]]) (ald rfl ti31 (by decide) rfl (nle rfl) rfl) (SImp.box ⟨lrf, lrf, lrf, lrf, lrf, lrf, lrf, trivial⟩) ⟨trivial, trivial, trivial, trivial, trivial, trivial, trivial, trivial, trivial, trivial, trivial, trivial, trivial, trivial, trivial, trivial, trivial, trivial, trivial, trivial, ⟨(SImp.box ⟨lrf, lrf, lrf, lrf, lrf, lrf, lrf, trivial⟩), trivial, trivial, trivial, trivial⟩, trivial, ⟨trivial, trivial⟩, trivial⟩, fun _ => .hard (amv rfl), fun _ => .hard (amv rfl), fun _ => .soft 0 (.own 7 [[(Qen p2), (Qdo p3), (.own 1 1 (0) (p4)), (.own 2 4 (0) (p5)), (.own 3 1 (0) (p6)), (Qem p7), I p8]]) (Qbf rfl) (SImp.box ⟨lrf, lrf, lrf, lrf, lrf, lrf, lrf, trivial⟩) ⟨trivial, trivial, trivial, trivial, trivial, trivial, trivial, trivial, trivial, trivial, trivial, trivial, trivial, trivial, trivial, trivial, trivial, trivial, trivial, trivial, ⟨(SImp.box ⟨lrf, lrf, lrf, lrf, lrf, lrf, lrf, trivial⟩), trivial, trivial, trivial, trivial⟩, trivial, ⟨trivial, trivial⟩, trivial⟩, fun _ => .soft 0 (.own 7 [[(Qen p2), (Qdo p3), (.own 1 1 (0) (p4)), (.own 2 4 (0) (p5)), (.own 3 1 (0) (p6)), (Qem p7), I p8]]) (afa rfl Try.underlying93 rfl rfl ti42 (by decide) rfl) (SImp.box ⟨lrf, lrf, lrf, lrf, lrf, lrf, lrf, trivial⟩) ⟨trivial, trivial, trivial, trivial, trivial, trivial, trivial, trivial, trivial, trivial, trivial, trivial, trivial, trivial, trivial, trivial, trivial, trivial, trivial, trivial, ⟨(SImp.box ⟨lrf, lrf, lrf, lrf, lrf, lrf, lrf, trivial⟩), trivial, trivial, trivial, trivial⟩, trivial, ⟨trivial, trivial⟩, trivial⟩, fun _ => .soft 0 (.own 7 [[(Qen p2), (Qdo p3), (.own 1 1 (0) (p4)), (.own 2 4 (0) (p5)), (.own 3 1 (0) (p6)), (Qem p7), I p8]]) (afa rfl Try.underlying42 rfl rfl ti40 (by decide) rfl) (SImp.box ⟨lrf, lrf, lrf, lrf, lrf, lrf, lrf, trivial⟩) ⟨trivial, trivial, trivial, trivial, trivial, trivial, trivial, trivial, trivial, trivial, trivial, trivial, trivial, trivial, trivial, trivial, trivial, trivial, trivial, trivial, ⟨(SImp.box ⟨lrf, lrf, lrf, lrf, lrf, lrf, lrf, trivial⟩), trivial, trivial, trivial, trivial⟩, trivial, ⟨trivial, trivial⟩, trivial⟩, fun _ => .soft 0 (.own 7 [[(Qen p2), (Qdo p3), (.own 1 1 (0) (p4)), (.own 2 4 (0) (p5)), (.own 3 1 (0) (p6)), (Qem p7), I p8]]) (ald rfl ti40 (by decide) rfl (nle rfl) rfl) (SImp.box ⟨lrf, lrf, lrf, lrf, lrf, lrf, lrf, trivial⟩) ⟨trivial, trivial, trivial, trivial, trivial, trivial, trivial, trivial, trivial, trivial, trivial, trivial, trivial, trivial, trivial, trivial, trivial, trivial, trivial, trivial, ⟨(SImp.box ⟨lrf, lrf, lrf, lrf, lrf, lrf, lrf, trivial⟩), trivial, trivial, trivial, trivial⟩, trivial, ⟨trivial, trivial⟩, trivial⟩, fun _ => .hard (amv rfl), fun _ => .hard (aid rfl Try.underlying40 ti76 rfl rfl hi18 (mgt Qac hj19) rfl), fun _ => .hard (afd rfl Try.underlying76 rfl rfl ti5 (by decide) rfl), fun _ => .hard (ald_ rfl ti5 (by decide) (nle rfl) rfl), fun _ => .hard (Qjm hb21 (Qjn rfl Try.underlying144 Qns (by decide) (by decide) rfl)), fun _ => .hard (ald rfl Qns (by decide) rfl (nle rfl) rfl), fun _ => .hard (amv rfl), fun _ => .hard (amv rfl), fun _ => .hard (ald rfl ti48 (by decide) rfl (nle rfl) rfl), fun _ => .hard (Qar (first := []) (cap := []) (vs := [.ref 0 7 0 0, I p0, (Qhs x14)]) (σr := [(Qf7 p2 p3 p4 p5 p6 p7 p8), (Qfo p9), (Qg7 p10), (Qf6 p11)]) (σr' := [(Qf7 p2 p3 p4 p5 p6 p7 p8), (Qfo p9), (Qg7 p10), (Qf6 p11)]) (res' := (Q2l x23)) [0, 1, 2, 3] rfl Qw8 (Qhd N p0 x14 p2 p3 p4 p5 p6 p7 p8 p9 p10 p11 _ hf22) rfl (Qbm (rnc (Qa0 rfl) (rnc (.plain _ nll) (rnc (.plain _ (NLt.agg _ (nlc nll (nlc nll (nlc nll (nlc nll nl0)))))) rn0)))) (slc (Qag (rnc (.plain _ (nld Qah _)) (rnc (.plain _ (nld Qaa _)) (rnc (Qcg rfl) (rnc (Qcg rfl) (rnc (Qcg rfl) (rnc (.plain _ (nld Qai _)) (rnc (.plain _ nll) rn0)))))))) (slc (Qa8 Qat) (slc (Qa8 Qa9) (slc (Qa8 Qab) Qaq)))) (slc (Qag (rnc (.plain _ (nld Qah _)) (rnc (.plain _ (nld Qaa _)) (rnc (Qdh rfl) (rnc (Qdh rfl) (rnc (Qdh rfl) (rnc (.plain _ (nld Qai _)) (rnc (.plain _ nll) rn0)))))))) (slc (Qa8 Qat) (slc (Qa8 Qa9) (slc (Qa8 Qab) Qaq)))) (.plain _ (nld Qai _)) rfl rfl rfl), fun _ => .hard (aio rfl Try.underlying31 ti45 (odt hi24a) (odt hi24b) (Nat.zero_add _)), fun _ => .hard (ast rfl ti45 (by rfl) (mgt Qao hg26) (nle rfl) (Qfs Qao rfl)), trivial⟩
     obtain rfl := osi h
     exact ⟨_, (mto (n := 43) (l' := []) (own' := [(Qf7 p2 p3 p4 p5 p6 p7 p8), (.own 1 (((p9.set p0.toNat x23) : List (List GStream)).map Qao)), (Qg7 p10), (Qf6 p11)]) [] [0, 1, 2, 3] [(Qf7 p2 p3 p4 p5 p6 p7 p8), (.own 1 ((p9.set p0.toNat x23 : List (List GStream)).map Qao)), (Qg7 p10), (Qf6 p11)] hφ0 pn (qc (spb (lc (.rn (.plain _ (nld Qah _))) (lc (.rn (.plain _ (nld Qaa _))) (lc (.rn (Qaz rfl)) (lc (.rn (Qaz rfl)) (lc (.rn (Qaz rfl)) (lc (.rn (.plain _ (nld Qai _))) (lc rwl ln)))))))) (qc (spr Qat) (qc (spr Qa9) (qc (spr Qab) qn))))), Qke (vs := []) trivial rfl (NLt.tup _ nl0) (by kernel_rfl) (Qal (Qa4 (nlc (NLt.of0 (nld Qah _)) (nlc (NLt.of0 (nld Qaa _)) (nlc (NLt.own _ _ _ _ (by decide)) (nlc (NLt.own _ _ _ _ (by decide)) (nlc (NLt.own _ _ _ _ (by decide)) (nlc (NLt.of0 (nld Qai _)) (nlc (NLt.of0 nll) nl0)))))))) (Qal (Qb0 Qat _) (Qal (Qb0 Qa9 _) (Qal (Qb0 Qab _) Qbn))))⟩
    ·replace h := Qax hb21 h
     rcases bft ((x16.Kind == 2)) with hb27 | hb27
     ·replace h := Qaw hb27 h
      obtain ⟨x29, hf28, h⟩ := bno h
      obtain ⟨hi30, h⟩ := cko h
      obtain ⟨hi30a, hi30b⟩ := Qcy hi30
      obtain ⟨x31, hg32, h⟩ := bno h
      refine Qk1 [mv 0 (.ref 0 7 0 0), ⟨[(.tmp 21, .ref 0 7 0 0)], [], .ref 0 7 0 0, [], false⟩, ⟨[(.tmp 22, .ref 0 7 0 0)], [], .ref 0 7 0 2, [], false⟩, ⟨[(.tmp 23, .ref 0 7 0 2)], [], .ref 0 7 0 2, [], false⟩, ⟨[(.tmp 24, .ref 0 7 0 2)], [], (.own 1 1 (0) (p4)), [], false⟩, mv 1 (I p0), mv 0 (.ref 0 7 0 0), ⟨[(.tmp 27, .ref 0 7 0 0)], [], .ref 0 7 0 0, [], false⟩, ⟨[(.tmp 28, .ref 0 7 0 0)], [], .ref 0 7 0 0, [], false⟩, ⟨[(.tmp 29, .ref 0 7 0 0)], [], .ref 0 7 0 1, [], false⟩, ⟨[(.tmp 30, .ref 0 7 0 1)], [], (Qdo p3), [], false⟩, mv 1 (I p0), rp [(.tmp 31, (Qdo p3)), (.tmp 32, I p0)] (.dptr (Qac (x16)) 0), mv 33 (.dptr (Qac (x16)) 0), rp [(.tmp 34, (.dptr (Qac (x16)) 0))] (K .u8 (x16.Kind)), rb [(.tmp 7, .ref 5 7 0 0), (.tmp 35, (K .u8 (x16.Kind)))] [(5, Qlh)] (.ref 5 7 0 2), rb [(.tmp 36, .ref 5 7 0 2)] [(5, Qlh)] (.fn (.func 75) [] []), mv 0 (.ref 0 7 0 0), mv 1 (I p0), rb [(.tmp 6, .ref 4 4 0 0)] [(4, (Qpb x14))] (Qhs x14), ⟨[(.tmp 37, (.fn (.func 75) [] [])), (.tmp 38, .ref 0 7 0 0), (.tmp 39, I p0), (.tmp 40, (Qhs x14))], [(0, (Qf7 p2 p3 p4 p5 p6 p7 p8)), (1, (Qfo p9)), (2, (Qg7 p10)), (3, (Qf6 p11))], (Q2k x29), [(0, (Qf7 p2 p3 p4 p5 p6 p7 p8)), (1, (Qfo p9)), (2, (Qg7 p10)), (3, (Qf6 p11))], false⟩, rb [(.tmp 25, (.own 1 1 (0) (p4))), (.tmp 26, I p0)] [(1, (Qfo p9))] (.ref 1 1 (p0.toNat) 0), ⟨[(.tmp 42, (.ref 1 1 (p0.toNat) 0)), (.tmp 41, (Q2k x29))], [(1, (Qfo p9))], .any, [(1, (.own 1 ((p9.set p0.toNat x29 : List (List GStream)).map Qao)))], false⟩] ?_ ?_
      ·exact ⟨fun _ => .hard (amv rfl), fun _ => .soft 0 (.own 7 [[(Qen p2), (Qdo p3), (.own 1 1 (0) (p4)), (.own 2 4 (0) (p5)), (.own 3 1 (0) (p6)), (Qem p7), I p8]]) (Qbf rfl) (SImp.box ⟨lrf, lrf, lrf, lrf, lrf, lrf, lrf, trivial⟩) ⟨trivial, trivial, trivial, trivial, trivial, trivial, trivial, trivial, trivial, trivial, trivial, trivial, trivial, trivial, trivial, trivial, trivial, trivial, trivial, trivial, ⟨(SImp.box ⟨lrf, lrf, lrf, lrf, lrf, lrf, lrf, trivial⟩), trivial, trivial, trivial, trivial⟩, trivial, ⟨trivial, trivial⟩, trivial⟩, fun _ => .soft 0 (.own 7 [[(Qen p2), (Qdo p3), (.own 1 1 (0) (p4)), (.own 2 4 (0) (p5)), (.own 3 1 (0) (p6)), (Qem p7), I p8]]) (afa rfl Try.underlying93 rfl rfl ti34 (by decide) rfl) (SImp.box ⟨lrf, lrf, lrf, lrf, lrf, lrf, lrf, trivial⟩) ⟨trivial, trivial, trivial, trivial, trivial, trivial, trivial, trivial, trivial, trivial, trivial, trivial, trivial, trivial, trivial, trivial, trivial, trivial, trivial, trivial, ⟨(SImp.box ⟨lrf, lrf, lrf, lrf, lrf, lrf, lrf, trivial⟩), trivial, trivial, trivial, trivial⟩, trivial, ⟨trivial, trivial⟩, trivial⟩, fun _ => .soft 0 (.own 7 [[(Qen p2), (Qdo p3), (.own 1 1 (0) (p4)), (.own 2 4 (0) (p5)), (.own 3 1 (0) (p6)), (Qem p7), I p8]]) (afa rfl Try.underlying34 rfl rfl ti31 (by decide) rfl) (SImp.box ⟨lrf, lrf, lrf, lrf, lrf, lrf, lrf, trivial⟩) ⟨trivial, trivial, trivial, trivial, trivial, trivial, trivial, trivial, trivial, trivial, trivial, trivial, trivial, trivial, trivial, trivial, trivial, trivial, trivial, trivial, ⟨(SImp.box ⟨lrf, lrf, lrf, lrf, lrf, lrf, lrf, trivial⟩), trivial, trivial, trivial, trivial⟩, trivial, ⟨trivial, trivial⟩, trivial⟩, fun _ => .soft 0 (.own 7 [[(Qen p2), (Qdo p3), (.own 1 1 (0) (p4)), (.own 2 4 (0) (p5)), (.own 3 1 (0) (p6)), (Qem p7), I p8]]) (ald rfl ti31 (by decide) rfl (nle rfl) rfl) (SImp.box ⟨lrf, lrf, lrf, lrf, lrf, lrf, lrf, trivial⟩) ⟨trivial, trivial, trivial, trivial, trivial, trivial, trivial, trivial, trivial, trivial, trivial, trivial, trivial, trivial, trivial, trivial, trivial, trivial, trivial, trivial, ⟨(SImp.box ⟨lrf, lrf, lrf, lrf, lrf, lrf, lrf, trivial⟩), trivial, trivial, trivial, trivial⟩, trivial, ⟨trivial, trivial⟩, trivial⟩, fun _ => .hard (amv rfl), fun _ => .hard (amv rfl), fun _ => .soft 0 (.own 7 [[(Qen p2), (Qdo p3), (.own 1 1 (0) (p4)), (.own 2 4 (0) (p5)), (.own 3 1 (0) (p6)), (Qem p7), I p8]]) (Qbf rfl) (SImp.box ⟨lrf, lrf, lrf, lrf, lrf, lrf, lrf, trivial⟩) ⟨trivial, trivial, trivial, trivial, trivial, trivial, trivial, trivial, trivial, trivial, trivial, trivial, trivial, trivial, trivial, trivial, trivial, trivial, trivial, trivial, ⟨(SImp.box ⟨lrf, lrf, lrf, lrf, lrf, lrf, lrf, trivial⟩), trivial, trivial, trivial, trivial⟩, trivial, ⟨trivial, trivial⟩, trivial⟩, fun _ => .soft 0 (.own 7 [[(Qen p2), (Qdo p3), (.own 1 1 (0) (p4)), (.own 2 4 (0) (p5)), (.own 3 1 (0) (p6)), (Qem p7), I p8]]) (afa rfl Try.underlying93 rfl rfl ti42 (by decide) rfl) (SImp.box ⟨lrf, lrf, lrf, lrf, lrf, lrf, lrf, trivial⟩) ⟨trivial, trivial, trivial, trivial, trivial, trivial, trivial, trivial, trivial, trivial, trivial, trivial, trivial, trivial, trivial, trivial, trivial, trivial, trivial, trivial, ⟨(SImp.box ⟨lrf, lrf, lrf, lrf, lrf, lrf, lrf, trivial⟩), trivial, trivial, trivial, trivial⟩, trivial, ⟨trivial, trivial⟩, trivial⟩, fun _ => .soft 0 (.own 7 [[(Qen p2), (Qdo p3), (.own 1 1 (0) (p4)), (.own 2 4 (0) (p5)), (.own 3 1 (0) (p6)), (Qem p7), I p8]]) (afa rfl Try.underlying42 rfl rfl ti40 (by decide) rfl) (SImp.box ⟨lrf, lrf, lrf, lrf, lrf, lrf, lrf, trivial⟩) ⟨trivial, trivial, trivial, trivial, trivial, trivial, trivial, trivial, trivial, trivial, trivial, trivial, trivial, trivial, trivial, trivial, trivial, trivial, trivial, trivial, ⟨(SImp.box ⟨lrf, lrf, lrf, lrf, lrf, lrf, lrf, trivial⟩), trivial, trivial, trivial, trivial⟩, trivial, ⟨trivial, trivial⟩, trivial⟩, fun _ => .soft 0 (.own 7 [[(Qen p2), (Qdo p3), (.own 1 1 (0) (p4)), (.own 2 4 (0) (p5)), (.own 3 1 (0) (p6)), (Qem p7), I p8]]) (ald rfl ti40 (by decide) rfl (nle rfl) rfl) (SImp.box ⟨lrf, lrf, lrf, lrf, lrf, lrf, lrf, trivial⟩) ⟨trivial, trivial, trivial, trivial, trivial, trivial, trivial, trivial, trivial, trivial, trivial, trivial, trivial, trivial, trivial, trivial, trivial, trivial, trivial, trivial, ⟨(SImp.box ⟨lrf, lrf, lrf, lrf, lrf, lrf, lrf, trivial⟩), trivial, trivial, trivial, trivial⟩, trivial, ⟨trivial, trivial⟩, trivial⟩, fun _ => .hard (amv rfl), fun _ => .hard (aid rfl Try.underlying40 ti76 rfl rfl hi18 (mgt Qac hj19) rfl), fun _ => .hard (afd rfl Try.underlying76 rfl rfl ti5 (by decide) rfl), fun _ => .hard (ald_ rfl ti5 (by decide) (nle rfl) rfl), fun _ => .hard (Qjm hb27 (Qjn rfl Try.underlying144 Qns (by decide) (by decide) rfl)), fun _ => .hard (ald rfl Qns (by decide) rfl (nle rfl) rfl), fun _ => .hard (amv rfl), fun _ => .hard (amv rfl), fun _ => .hard (ald rfl ti48 (by decide) rfl (nle rfl) rfl), fun _ => .hard (Qar (first := []) (cap := []) (vs := [.ref 0 7 0 0, I p0, (Qhs x14)]) (σr := [(Qf7 p2 p3 p4 p5 p6 p7 p8), (Qfo p9), (Qg7 p10), (Qf6 p11)]) (σr' := [(Qf7 p2 p3 p4 p5 p6 p7 p8), (Qfo p9), (Qg7 p10), (Qf6 p11)]) (res' := (Q2k x29)) [0, 1, 2, 3] rfl Qw8 (Qhd N p0 x14 p2 p3 p4 p5 p6 p7 p8 p9 p10 p11 _ hf28) rfl (Qbm (rnc (Qa0 rfl) (rnc (.plain _ nll) (rnc (.plain _ (NLt.agg _ (nlc nll (nlc nll (nlc nll (nlc nll nl0)))))) rn0)))) (slc (Qag (rnc (.plain _ (nld Qah _)) (rnc (.plain _ (nld Qaa _)) (rnc (Qcg rfl) (rnc (Qcg rfl) (rnc (Qcg rfl) (rnc (.plain _ (nld Qai _)) (rnc (.plain _ nll) rn0)))))))) (slc (Qa8 Qat) (slc (Qa8 Qa9) (slc (Qa8 Qab) Qaq)))) (slc (Qag (rnc (.plain _ (nld Qah _)) (rnc (.plain _ (nld Qaa _)) (rnc (Qdh rfl) (rnc (Qdh rfl) (rnc (Qdh rfl) (rnc (.plain _ (nld Qai _)) (rnc (.plain _ nll) rn0)))))))) (slc (Qa8 Qat) (slc (Qa8 Qa9) (slc (Qa8 Qab) Qaq)))) (.plain _ (nld Qai _)) rfl rfl rfl), fun _ => .hard (aio rfl Try.underlying31 ti45 (odt hi30a) (odt hi30b) (Nat.zero_add _)), fun _ => .hard (ast rfl ti45 (by rfl) (mgt Qao hg32) (nle rfl) (Qfs Qao rfl)), trivial⟩
      obtain rfl := osi h
      exact ⟨_, (mto (n := 43) (l' := []) (own' := [(Qf7 p2 p3 p4 p5 p6 p7 p8), (.own 1 (((p9.set p0.toNat x29) : List (List GStream)).map Qao)), (Qg7 p10), (Qf6 p11)]) [] [0, 1, 2, 3] [(Qf7 p2 p3 p4 p5 p6 p7 p8), (.own 1 ((p9.set p0.toNat x29 : List (List GStream)).map Qao)), (Qg7 p10), (Qf6 p11)] hφ0 pn (qc (spb (lc (.rn (.plain _ (nld Qah _))) (lc (.rn (.plain _ (nld Qaa _))) (lc (.rn (Qaz rfl)) (lc (.rn (Qaz rfl)) (lc (.rn (Qaz rfl)) (lc (.rn (.plain _ (nld Qai _))) (lc rwl ln)))))))) (qc (spr Qat) (qc (spr Qa9) (qc (spr Qab) qn))))), Qke (vs := []) trivial rfl (NLt.tup _ nl0) (by kernel_rfl) (Qal (Qa4 (nlc (NLt.of0 (nld Qah _)) (nlc (NLt.of0 (nld Qaa _)) (nlc (NLt.own _ _ _ _ (by decide)) (nlc (NLt.own _ _ _ _ (by decide)) (nlc (NLt.own _ _ _ _ (by decide)) (nlc (NLt.of0 (nld Qai _)) (nlc (NLt.of0 nll) nl0)))))))) (Qal (Qb0 Qat _) (Qal (Qb0 Qa9 _) (Qal (Qb0 Qab _) Qbn))))⟩
     ·replace h := Qax hb27 h
      rcases bft ((x16.Kind == 3)) with hb33 | hb33
      ·replace h := Qaw hb33 h
       obtain ⟨x35, hf34, h⟩ := bno h
       obtain ⟨hi36, h⟩ := cko h
       obtain ⟨hi36a, hi36b⟩ := Qcy hi36
       obtain ⟨x37, hg38, h⟩ := bno h
       refine Qk1 [mv 0 (.ref 0 7 0 0), ⟨[(.tmp 21, .ref 0 7 0 0)], [], .ref 0 7 0 0, [], false⟩, ⟨[(.tmp 22, .ref 0 7 0 0)], [], .ref 0 7 0 2, [], false⟩, ⟨[(.tmp 23, .ref 0 7 0 2)], [], .ref 0 7 0 2, [], false⟩, ⟨[(.tmp 24, .ref 0 7 0 2)], [], (.own 1 1 (0) (p4)), [], false⟩, mv 1 (I p0), mv 0 (.ref 0 7 0 0), ⟨[(.tmp 27, .ref 0 7 0 0)], [], .ref 0 7 0 0, [], false⟩, ⟨[(.tmp 28, .ref 0 7 0 0)], [], .ref 0 7 0 0, [], false⟩, ⟨[(.tmp 29, .ref 0 7 0 0)], [], .ref 0 7 0 1, [], false⟩, ⟨[(.tmp 30, .ref 0 7 0 1)], [], (Qdo p3), [], false⟩, mv 1 (I p0), rp [(.tmp 31, (Qdo p3)), (.tmp 32, I p0)] (.dptr (Qac (x16)) 0), mv 33 (.dptr (Qac (x16)) 0), rp [(.tmp 34, (.dptr (Qac (x16)) 0))] (K .u8 (x16.Kind)), rb [(.tmp 7, .ref 5 7 0 0), (.tmp 35, (K .u8 (x16.Kind)))] [(5, Qlh)] (.ref 5 7 0 3), rb [(.tmp 36, .ref 5 7 0 3)] [(5, Qlh)] (.fn (.func 76) [] []), mv 0 (.ref 0 7 0 0), mv 1 (I p0), rb [(.tmp 6, .ref 4 4 0 0)] [(4, (Qpb x14))] (Qhs x14), ⟨[(.tmp 37, (.fn (.func 76) [] [])), (.tmp 38, .ref 0 7 0 0), (.tmp 39, I p0), (.tmp 40, (Qhs x14))], [(0, (Qf7 p2 p3 p4 p5 p6 p7 p8)), (1, (Qfo p9)), (2, (Qg7 p10)), (3, (Qf6 p11))], (.dat 4 ((x35.1 : List GStream).map Qae)), [(0, (Qf7 p2 p3 p4 p5 p6 p7 p8)), (1, (Qfo p9)), (2, (Qym x35)), (3, (Qf6 p11))], false⟩, rb [(.tmp 25, (.own 1 1 (0) (p4))), (.tmp 26, I p0)] [(1, (Qfo p9))] (.ref 1 1 (p0.toNat) 0), ⟨[(.tmp 42, (.ref 1 1 (p0.toNat) 0)), (.tmp 41, (.dat 4 ((x35.1 : List GStream).map Qae)))], [(1, (Qfo p9))], .any, [(1, (.own 1 ((p9.set p0.toNat x35.1 : List (List GStream)).map Qao)))], false⟩] ?_ ?_
       ·exact ⟨fun _ => .hard (amv rfl), fun _ => .soft 0 (.own 7 [[(Qen p2), (Qdo p3), (.own 1 1 (0) (p4)), (.own 2 4 (0) (p5)), (.own 3 1 (0) (p6)), (Qem p7), I p8]]) (Qbf rfl) (SImp.box ⟨lrf, lrf, lrf, lrf, lrf, lrf, lrf, trivial⟩) ⟨trivial, trivial, trivial, trivial, trivial, trivial, trivial, trivial, trivial, trivial, trivial, trivial, trivial, trivial, trivial, trivial, trivial, trivial, trivial, trivial, ⟨(SImp.box ⟨lrf, lrf, lrf, lrf, lrf, lrf, lrf, trivial⟩), trivial, trivial, trivial, trivial⟩, trivial, ⟨trivial, trivial⟩, trivial⟩, fun _ => .soft 0 (.own 7 [[(Qen p2), (Qdo p3), (.own 1 1 (0) (p4)), (.own 2 4 (0) (p5)), (.own 3 1 (0) (p6)), (Qem p7), I p8]]) (afa rfl Try.underlying93 rfl rfl ti34 (by decide) rfl) (SImp.box ⟨lrf, lrf, lrf, lrf, lrf, lrf, lrf, trivial⟩) ⟨trivial, trivial, trivial, trivial, trivial, trivial, trivial, trivial, trivial, trivial, trivial, trivial, trivial, trivial, trivial, trivial, trivial, trivial, trivial, trivial, ⟨(SImp.box ⟨lrf, lrf, lrf, lrf, lrf, lrf, lrf, trivial⟩), trivial, trivial, trivial, trivial⟩, trivial, ⟨trivial, trivial⟩, trivial⟩, fun _ => .soft 0 (.own 7 [[(Qen p2), (Qdo p3), (.own 1 1 (0) (p4)), (.own 2 4 (0) (p5)), (.own 3 1 (0) (p6)), (Qem p7), I p8]]) (afa rfl Try.underlying34 rfl rfl ti31 (by decide) rfl) (SImp.box ⟨lrf, lrf, lrf, lrf, lrf, lrf, lrf, trivial⟩) ⟨trivial, trivial, trivial, trivial, trivial, trivial, trivial, trivial, trivial, trivial, trivial, trivial, trivial, trivial, trivial, trivial, trivial, trivial, trivial, trivial, ⟨(SImp.box ⟨lrf, lrf, lrf, lrf, lrf, lrf, lrf, trivial⟩), trivial, trivial, trivial, trivial⟩, trivial, ⟨trivial, trivial⟩, trivial⟩, fun _ => .soft 0 (.own 7 [[(Qen p2), (Qdo p3), (.own 1 1 (0) (p4)), (.own 2 4 (0) (p5)), (.own 3 1 (0) (p6)), (Qem p7), I p8]]) (ald rfl ti31 (by decide) rfl (nle rfl) rfl) (SImp.box ⟨lrf, lrf, lrf, lrf, lrf, lrf, lrf, trivial⟩) ⟨trivial, trivial, trivial, trivial, trivial, trivial, trivial, trivial, trivial, trivial, trivial, trivial, trivial, trivial, trivial, trivial, trivial, trivial, trivial, trivial, ⟨(SImp.box ⟨lrf, lrf, lrf, lrf, lrf, lrf, lrf, trivial⟩), trivial, trivial, trivial, trivial⟩, trivial, ⟨trivial, trivial⟩, trivial⟩, fun _ => .hard (amv rfl), fun _ => .hard (amv rfl), fun _ => .soft 0 (.own 7 [[(Qen p2), (Qdo p3), (.own 1 1 (0) (p4)), (.own 2 4 (0) (p5)), (.own 3 1 (0) (p6)), (Qem p7), I p8]]) (Qbf rfl) (SImp.box ⟨lrf, lrf, lrf, lrf, lrf, lrf, lrf, trivial⟩) ⟨trivial, trivial, trivial, trivial, trivial, trivial, trivial, trivial, trivial, trivial, trivial, trivial, trivial, trivial, trivial, trivial, trivial, trivial, trivial, trivial, ⟨(SImp.box ⟨lrf, lrf, lrf, lrf, lrf, lrf, lrf, trivial⟩), trivial, trivial, trivial, trivial⟩, trivial, ⟨trivial, trivial⟩, trivial⟩, fun _ => .soft 0 (.own 7 [[(Qen p2), (Qdo p3), (.own 1 1 (0) (p4)), (.own 2 4 (0) (p5)), (.own 3 1 (0) (p6)), (Qem p7), I p8]]) (afa rfl Try.underlying93 rfl rfl ti42 (by decide) rfl) (SImp.box ⟨lrf, lrf, lrf, lrf, lrf, lrf, lrf, trivial⟩) ⟨trivial, trivial, trivial, trivial, trivial, trivial, trivial, trivial, trivial, trivial, trivial, trivial, trivial, trivial, trivial, trivial, trivial, trivial, trivial, trivial, ⟨(SImp.box ⟨lrf, lrf, lrf, lrf, lrf, lrf, lrf, trivial⟩), trivial, trivial, trivial, trivial⟩, trivial, ⟨trivial, trivial⟩, trivial⟩, fun _ => .soft 0 (.own 7 [[(Qen p2), (Qdo p3), (.own 1 1 (0) (p4)), (.own 2 4 (0) (p5)), (.own 3 1 (0) (p6)), (Qem p7), I p8]]) (afa rfl Try.underlying42 rfl rfl ti40 (by decide) rfl) (SImp.box ⟨lrf, lrf, lrf, lrf, lrf, lrf, lrf, trivial⟩) ⟨trivial, trivial, trivial, trivial, trivial, trivial, trivial, trivial, trivial, trivial, trivial, trivial, trivial, trivial, trivial, trivial, trivial, trivial, trivial, trivial, ⟨(SImp.box ⟨lrf, lrf, lrf, lrf, lrf, lrf, lrf, trivial⟩), trivial, trivial, trivial, trivial⟩, trivial, ⟨trivial, trivial⟩, trivial⟩, fun _ => .soft 0 (.own 7 [[(Qen p2), (Qdo p3), (.own 1 1 (0) (p4)), (.own 2 4 (0) (p5)), (.own 3 1 (0) (p6)), (Qem p7), I p8]]) (ald rfl ti40 (by decide) rfl (nle rfl) rfl) (SImp.box ⟨lrf, lrf, lrf, lrf, lrf, lrf, lrf, trivial⟩) ⟨trivial, trivial, trivial, trivial, trivial, trivial, trivial, trivial, trivial, trivial, trivial, trivial, trivial, trivial, trivial, trivial, trivial, trivial, trivial, trivial, ⟨(SImp.box ⟨lrf, lrf, lrf, lrf, lrf, lrf, lrf, trivial⟩), trivial, trivial, trivial, trivial⟩, trivial, ⟨trivial, trivial⟩, trivial⟩, fun _ => .hard (amv rfl), fun _ => .hard (aid rfl Try.underlying40 ti76 rfl rfl hi18 (mgt Qac hj19) rfl), fun _ => .hard (afd rfl Try.underlying76 rfl rfl ti5 (by decide) rfl), fun _ => .hard (ald_ rfl ti5 (by decide) (nle rfl) rfl), fun _ => .hard (Qjm hb33 (Qjn rfl Try.underlying144 Qns (by decide) (by decide) rfl)), fun _ => .hard (ald rfl Qns (by decide) rfl (nle rfl) rfl), fun _ => .hard (amv rfl), fun _ => .hard (amv rfl), fun _ => .hard (ald rfl ti48 (by decide) rfl (nle rfl) rfl), fun _ => .hard (Qar (first := []) (cap := []) (vs := [.ref 0 7 0 0, I p0, (Qhs x14)]) (σr := [(Qf7 p2 p3 p4 p5 p6 p7 p8), (Qfo p9), (Qg7 p10), (Qf6 p11)]) (σr' := [(Qf7 p2 p3 p4 p5 p6 p7 p8), (Qfo p9), (Qym x35), (Qf6 p11)]) (res' := (.dat 4 ((x35.1 : List GStream).map Qae))) [0, 1, 2, 3] rfl Zcc (Qmq N p0 x14 p2 p3 p4 p5 p6 p7 p8 p9 p10 p11 _ hf34) rfl (Qbm (rnc (Qa0 rfl) (rnc (.plain _ nll) (rnc (.plain _ (NLt.agg _ (nlc nll (nlc nll (nlc nll (nlc nll nl0)))))) rn0)))) (slc (Qag (rnc (.plain _ (nld Qah _)) (rnc (.plain _ (nld Qaa _)) (rnc (Qcg rfl) (rnc (Qcg rfl) (rnc (Qcg rfl) (rnc (.plain _ (nld Qai _)) (rnc (.plain _ nll) rn0)))))))) (slc (Qa8 Qat) (slc (Qa8 Qa9) (slc (Qa8 Qab) Qaq)))) (slc (Qag (rnc (.plain _ (nld Qah _)) (rnc (.plain _ (nld Qaa _)) (rnc (Qdh rfl) (rnc (Qdh rfl) (rnc (Qdh rfl) (rnc (.plain _ (nld Qai _)) (rnc (.plain _ nll) rn0)))))))) (slc (Qa8 Qat) (slc (Qa8 Qa9) (slc (Qa8 Qab) Qaq)))) (.plain _ (nld Qai _)) rfl rfl rfl), fun _ => .hard (aio rfl Try.underlying31 ti45 (odt hi36a) (odt hi36b) (Nat.zero_add _)), fun _ => .hard (ast rfl ti45 (by rfl) (mgt Qao hg38) (nle rfl) (Qfs Qao rfl)), trivial⟩
       obtain rfl := osi h
       exact ⟨_, (mto (n := 43) (l' := []) (own' := [(Qf7 p2 p3 p4 p5 p6 p7 p8), (.own 1 (((p9.set p0.toNat x35.1) : List (List GStream)).map Qao)), (Qym x35), (Qf6 p11)]) [] [0, 1, 2, 3] [(Qf7 p2 p3 p4 p5 p6 p7 p8), (.own 1 ((p9.set p0.toNat x35.1 : List (List GStream)).map Qao)), (Qym x35), (Qf6 p11)] hφ0 pn (qc (spb (lc (.rn (.plain _ (nld Qah _))) (lc (.rn (.plain _ (nld Qaa _))) (lc (.rn (Qaz rfl)) (lc (.rn (Qaz rfl)) (lc (.rn (Qaz rfl)) (lc (.rn (.plain _ (nld Qai _))) (lc rwl ln)))))))) (qc (spr Qat) (qc (spr Qa9) (qc (spr Qab) qn))))), Qke (vs := []) trivial rfl (NLt.tup _ nl0) (by kernel_rfl) (Qal (Qa4 (nlc (NLt.of0 (nld Qah _)) (nlc (NLt.of0 (nld Qaa _)) (nlc (NLt.own _ _ _ _ (by decide)) (nlc (NLt.own _ _ _ _ (by decide)) (nlc (NLt.own _ _ _ _ (by decide)) (nlc (NLt.of0 (nld Qai _)) (nlc (NLt.of0 nll) nl0)))))))) (Qal (Qb0 Qat _) (Qal (Qb0 Qa9 _) (Qal (Qb0 Qab _) Qbn))))⟩
      ·replace h := Qax hb33 h
       rcases bft ((x16.Kind == 4)) with hb39 | hb39
       ·replace h := Qaw hb39 h
        obtain ⟨x41, hf40, h⟩ := bno h
        obtain ⟨hi42, h⟩ := cko h
        obtain ⟨hi42a, hi42b⟩ := Qcy hi42
        obtain ⟨x43, hg44, h⟩ := bno h
        refine Qk1 [mv 0 (.ref 0 7 0 0), ⟨[(.tmp 21, .ref 0 7 0 0)], [], .ref 0 7 0 0, [], false⟩, ⟨[(.tmp 22, .ref 0 7 0 0)], [], .ref 0 7 0 2, [], false⟩, ⟨[(.tmp 23, .ref 0 7 0 2)], [], .ref 0 7 0 2, [], false⟩, ⟨[(.tmp 24, .ref 0 7 0 2)], [], (.own 1 1 (0) (p4)), [], false⟩, mv 1 (I p0), mv 0 (.ref 0 7 0 0), ⟨[(.tmp 27, .ref 0 7 0 0)], [], .ref 0 7 0 0, [], false⟩, ⟨[(.tmp 28, .ref 0 7 0 0)], [], .ref 0 7 0 0, [], false⟩, ⟨[(.tmp 29, .ref 0 7 0 0)], [], .ref 0 7 0 1, [], false⟩, ⟨[(.tmp 30, .ref 0 7 0 1)], [], (Qdo p3), [], false⟩, mv 1 (I p0), rp [(.tmp 31, (Qdo p3)), (.tmp 32, I p0)] (.dptr (Qac (x16)) 0), mv 33 (.dptr (Qac (x16)) 0), rp [(.tmp 34, (.dptr (Qac (x16)) 0))] (K .u8 (x16.Kind)), rb [(.tmp 7, .ref 5 7 0 0), (.tmp 35, (K .u8 (x16.Kind)))] [(5, Qlh)] (.ref 5 7 0 4), rb [(.tmp 36, .ref 5 7 0 4)] [(5, Qlh)] (.fn (.func 77) [] []), mv 0 (.ref 0 7 0 0), mv 1 (I p0), rb [(.tmp 6, .ref 4 4 0 0)] [(4, (Qpb x14))] (Qhs x14), ⟨[(.tmp 37, (.fn (.func 77) [] [])), (.tmp 38, .ref 0 7 0 0), (.tmp 39, I p0), (.tmp 40, (Qhs x14))], [(0, (Qf7 p2 p3 p4 p5 p6 p7 p8)), (1, (Qfo p9)), (2, (Qg7 p10)), (3, (Qf6 p11))], (.dat 4 ((x41.1 : List GStream).map Qae)), [(0, (Qyl p2 p3 p4 p5 p6 p7 x41)), (1, (Qfo p9)), (2, (Qyk x41)), (3, (Qyj x41))], false⟩, rb [(.tmp 25, (.own 1 1 (0) (p4))), (.tmp 26, I p0)] [(1, (Qfo p9))] (.ref 1 1 (p0.toNat) 0), ⟨[(.tmp 42, (.ref 1 1 (p0.toNat) 0)), (.tmp 41, (.dat 4 ((x41.1 : List GStream).map Qae)))], [(1, (Qfo p9))], .any, [(1, (.own 1 ((p9.set p0.toNat x41.1 : List (List GStream)).map Qao)))], false⟩] ?_ ?_
        ·exact ⟨fun _ => .hard (amv rfl), fun _ => .soft 0 (.own 7 [[(Qen p2), (Qdo p3), (.own 1 1 (0) (p4)), (.own 2 4 (0) (p5)), (.own 3 1 (0) (p6)), (Qem p7), .any]]) (Qbf rfl) (SImp.box ⟨lrf, lrf, lrf, lrf, lrf, lrf, Less.any, trivial⟩) ⟨trivial, trivial, trivial, trivial, trivial, trivial, trivial, trivial, trivial, trivial, trivial, trivial, trivial, trivial, trivial, trivial, trivial, trivial, trivial, trivial, ⟨(SImp.box ⟨lrf, lrf, lrf, lrf, lrf, lrf, Less.any, trivial⟩), trivial, trivial, trivial, trivial⟩, trivial, ⟨trivial, trivial⟩, trivial⟩, fun _ => .soft 0 (.own 7 [[(Qen p2), (Qdo p3), (.own 1 1 (0) (p4)), (.own 2 4 (0) (p5)), (.own 3 1 (0) (p6)), (Qem p7), .any]]) (afa rfl Try.underlying93 rfl rfl ti34 (by decide) rfl) (SImp.box ⟨lrf, lrf, lrf, lrf, lrf, lrf, Less.any, trivial⟩) ⟨trivial, trivial, trivial, trivial, trivial, trivial, trivial, trivial, trivial, trivial, trivial, trivial, trivial, trivial, trivial, trivial, trivial, trivial, trivial, trivial, ⟨(SImp.box ⟨lrf, lrf, lrf, lrf, lrf, lrf, Less.any, trivial⟩), trivial, trivial, trivial, trivial⟩, trivial, ⟨trivial, trivial⟩, trivial⟩, fun _ => .soft 0 (.own 7 [[(Qen p2), (Qdo p3), (.own 1 1 (0) (p4)), (.own 2 4 (0) (p5)), (.own 3 1 (0) (p6)), (Qem p7), .any]]) (afa rfl Try.underlying34 rfl rfl ti31 (by decide) rfl) (SImp.box ⟨lrf, lrf, lrf, lrf, lrf, lrf, Less.any, trivial⟩) ⟨trivial, trivial, trivial, trivial, trivial, trivial, trivial, trivial, trivial, trivial, trivial, trivial, trivial, trivial, trivial, trivial, trivial, trivial, trivial, trivial, ⟨(SImp.box ⟨lrf, lrf, lrf, lrf, lrf, lrf, Less.any, trivial⟩), trivial, trivial, trivial, trivial⟩, trivial, ⟨trivial, trivial⟩, trivial⟩, fun _ => .soft 0 (.own 7 [[(Qen p2), (Qdo p3), (.own 1 1 (0) (p4)), (.own 2 4 (0) (p5)), (.own 3 1 (0) (p6)), (Qem p7), .any]]) (ald rfl ti31 (by decide) rfl (nle rfl) rfl) (SImp.box ⟨lrf, lrf, lrf, lrf, lrf, lrf, Less.any, trivial⟩) ⟨trivial, trivial, trivial, trivial, trivial, trivial, trivial, trivial, trivial, trivial, trivial, trivial, trivial, trivial, trivial, trivial, trivial, trivial, trivial, trivial, ⟨(SImp.box ⟨lrf, lrf, lrf, lrf, lrf, lrf, Less.any, trivial⟩), trivial, trivial, trivial, trivial⟩, trivial, ⟨trivial, trivial⟩, trivial⟩, fun _ => .hard (amv rfl), fun _ => .hard (amv rfl), fun _ => .soft 0 (.own 7 [[(Qen p2), (Qdo p3), (.own 1 1 (0) (p4)), (.own 2 4 (0) (p5)), (.own 3 1 (0) (p6)), (Qem p7), .any]]) (Qbf rfl) (SImp.box ⟨lrf, lrf, lrf, lrf, lrf, lrf, Less.any, trivial⟩) ⟨trivial, trivial, trivial, trivial, trivial, trivial, trivial, trivial, trivial, trivial, trivial, trivial, trivial, trivial, trivial, trivial, trivial, trivial, trivial, trivial, ⟨(SImp.box ⟨lrf, lrf, lrf, lrf, lrf, lrf, Less.any, trivial⟩), trivial, trivial, trivial, trivial⟩, trivial, ⟨trivial, trivial⟩, trivial⟩, fun _ => .soft 0 (.own 7 [[(Qen p2), (Qdo p3), (.own 1 1 (0) (p4)), (.own 2 4 (0) (p5)), (.own 3 1 (0) (p6)), (Qem p7), .any]]) (afa rfl Try.underlying93 rfl rfl ti42 (by decide) rfl) (SImp.box ⟨lrf, lrf, lrf, lrf, lrf, lrf, Less.any, trivial⟩) ⟨trivial, trivial, trivial, trivial, trivial, trivial, trivial, trivial, trivial, trivial, trivial, trivial, trivial, trivial, trivial, trivial, trivial, trivial, trivial, trivial, ⟨(SImp.box ⟨lrf, lrf, lrf, lrf, lrf, lrf, Less.any, trivial⟩), trivial, trivial, trivial, trivial⟩, trivial, ⟨trivial, trivial⟩, trivial⟩, fun _ => .soft 0 (.own 7 [[(Qen p2), (Qdo p3), (.own 1 1 (0) (p4)), (.own 2 4 (0) (p5)), (.own 3 1 (0) (p6)), (Qem p7), .any]]) (afa rfl Try.underlying42 rfl rfl ti40 (by decide) rfl) (SImp.box ⟨lrf, lrf, lrf, lrf, lrf, lrf, Less.any, trivial⟩) ⟨trivial, trivial, trivial, trivial, trivial, trivial, trivial, trivial, trivial, trivial, trivial, trivial, trivial, trivial, trivial, trivial, trivial, trivial, trivial, trivial, ⟨(SImp.box ⟨lrf, lrf, lrf, lrf, lrf, lrf, Less.any, trivial⟩), trivial, trivial, trivial, trivial⟩, trivial, ⟨trivial, trivial⟩, trivial⟩, fun _ => .soft 0 (.own 7 [[(Qen p2), (Qdo p3), (.own 1 1 (0) (p4)), (.own 2 4 (0) (p5)), (.own 3 1 (0) (p6)), (Qem p7), .any]]) (ald rfl ti40 (by decide) rfl (nle rfl) rfl) (SImp.box ⟨lrf, lrf, lrf, lrf, lrf, lrf, Less.any, trivial⟩) ⟨trivial, trivial, trivial, trivial, trivial, trivial, trivial, trivial, trivial, trivial, trivial, trivial, trivial, trivial, trivial, trivial, trivial, trivial, trivial, trivial, ⟨(SImp.box ⟨lrf, lrf, lrf, lrf, lrf, lrf, Less.any, trivial⟩), trivial, trivial, trivial, trivial⟩, trivial, ⟨trivial, trivial⟩, trivial⟩, fun _ => .hard (amv rfl), fun _ => .hard (aid rfl Try.underlying40 ti76 rfl rfl hi18 (mgt Qac hj19) rfl), fun _ => .hard (afd rfl Try.underlying76 rfl rfl ti5 (by decide) rfl), fun _ => .hard (ald_ rfl ti5 (by decide) (nle rfl) rfl), fun _ => .hard (Qjm hb39 (Qjn rfl Try.underlying144 Qns (by decide) (by decide) rfl)), fun _ => .hard (ald rfl Qns (by decide) rfl (nle rfl) rfl), fun _ => .hard (amv rfl), fun _ => .hard (amv rfl), fun _ => .hard (ald rfl ti48 (by decide) rfl (nle rfl) rfl), fun _ => .hard (Qar (first := []) (cap := []) (vs := [.ref 0 7 0 0, I p0, (Qhs x14)]) (σr := [(Qf7 p2 p3 p4 p5 p6 p7 p8), (Qfo p9), (Qg7 p10), (Qf6 p11)]) (σr' := [(Qyl p2 p3 p4 p5 p6 p7 x41), (Qfo p9), (Qyk x41), (Qyj x41)]) (res' := (.dat 4 ((x41.1 : List GStream).map Qae))) [0, 1, 2, 3] rfl Zcb (Qkr N p0 x14 p2 p3 p4 p5 p6 p7 p8 p9 p10 p11 _ hf40) rfl (Qbm (rnc (Qa0 rfl) (rnc (.plain _ nll) (rnc (.plain _ (NLt.agg _ (nlc nll (nlc nll (nlc nll (nlc nll nl0)))))) rn0)))) (slc (Qag (rnc (.plain _ (nld Qah _)) (rnc (.plain _ (nld Qaa _)) (rnc (Qcg rfl) (rnc (Qcg rfl) (rnc (Qcg rfl) (rnc (.plain _ (nld Qai _)) (rnc (.plain _ nll) rn0)))))))) (slc (Qa8 Qat) (slc (Qa8 Qa9) (slc (Qa8 Qab) Qaq)))) (slc (Qag (rnc (.plain _ (nld Qah _)) (rnc (.plain _ (nld Qaa _)) (rnc (Qdh rfl) (rnc (Qdh rfl) (rnc (Qdh rfl) (rnc (.plain _ (nld Qai _)) (rnc (.plain _ nll) rn0)))))))) (slc (Qa8 Qat) (slc (Qa8 Qa9) (slc (Qa8 Qab) Qaq)))) (.plain _ (nld Qai _)) rfl rfl rfl), fun _ => .hard (aio rfl Try.underlying31 ti45 (odt hi42a) (odt hi42b) (Nat.zero_add _)), fun _ => .hard (ast rfl ti45 (by rfl) (mgt Qao hg44) (nle rfl) (Qfs Qao rfl)), trivial⟩
        obtain rfl := osi h
        exact ⟨_, (mto (n := 43) (l' := []) (own' := [(Qyl p2 p3 p4 p5 p6 p7 x41), (.own 1 (((p9.set p0.toNat x41.1) : List (List GStream)).map Qao)), (Qyk x41), (Qyj x41)]) [] [0, 1, 2, 3] [(Qyl p2 p3 p4 p5 p6 p7 x41), (.own 1 ((p9.set p0.toNat x41.1 : List (List GStream)).map Qao)), (Qyk x41), (Qyj x41)] hφ0 pn (qc (spb (lc (.rn (.plain _ (nld Qah _))) (lc (.rn (.plain _ (nld Qaa _))) (lc (.rn (Qaz rfl)) (lc (.rn (Qaz rfl)) (lc (.rn (Qaz rfl)) (lc (.rn (.plain _ (nld Qai _))) (lc rwl ln)))))))) (qc (spr Qat) (qc (spr Qa9) (qc (spr Qab) qn))))), Qke (vs := []) trivial rfl (NLt.tup _ nl0) (by kernel_rfl) (Qal (Qa4 (nlc (NLt.of0 (nld Qah _)) (nlc (NLt.of0 (nld Qaa _)) (nlc (NLt.own _ _ _ _ (by decide)) (nlc (NLt.own _ _ _ _ (by decide)) (nlc (NLt.own _ _ _ _ (by decide)) (nlc (NLt.of0 (nld Qai _)) (nlc (NLt.of0 nll) nl0)))))))) (Qal (Qb0 Qat _) (Qal (Qb0 Qa9 _) (Qal (Qb0 Qab _) Qbn))))⟩
       ·replace h := Qax hb39 h
        rcases bft ((x16.Kind == 5)) with hb45 | hb45
        ·replace h := Qaw hb45 h
         obtain ⟨x47, hf46, h⟩ := bno h
         obtain ⟨hi48, h⟩ := cko h
         obtain ⟨hi48a, hi48b⟩ := Qcy hi48
         obtain ⟨x49, hg50, h⟩ := bno h
         refine Qk1 [mv 0 (.ref 0 7 0 0), ⟨[(.tmp 21, .ref 0 7 0 0)], [], .ref 0 7 0 0, [], false⟩, ⟨[(.tmp 22, .ref 0 7 0 0)], [], .ref 0 7 0 2, [], false⟩, ⟨[(.tmp 23, .ref 0 7 0 2)], [], .ref 0 7 0 2, [], false⟩, ⟨[(.tmp 24, .ref 0 7 0 2)], [], (.own 1 1 (0) (p4)), [], false⟩, mv 1 (I p0), mv 0 (.ref 0 7 0 0), ⟨[(.tmp 27, .ref 0 7 0 0)], [], .ref 0 7 0 0, [], false⟩, ⟨[(.tmp 28, .ref 0 7 0 0)], [], .ref 0 7 0 0, [], false⟩, ⟨[(.tmp 29, .ref 0 7 0 0)], [], .ref 0 7 0 1, [], false⟩, ⟨[(.tmp 30, .ref 0 7 0 1)], [], (Qdo p3), [], false⟩, mv 1 (I p0), rp [(.tmp 31, (Qdo p3)), (.tmp 32, I p0)] (.dptr (Qac (x16)) 0), mv 33 (.dptr (Qac (x16)) 0), rp [(.tmp 34, (.dptr (Qac (x16)) 0))] (K .u8 (x16.Kind)), rb [(.tmp 7, .ref 5 7 0 0), (.tmp 35, (K .u8 (x16.Kind)))] [(5, Qlh)] (.ref 5 7 0 5), rb [(.tmp 36, .ref 5 7 0 5)] [(5, Qlh)] (.fn (.func 78) [] []), mv 0 (.ref 0 7 0 0), mv 1 (I p0), rb [(.tmp 6, .ref 4 4 0 0)] [(4, (Qpb x14))] (Qhs x14), ⟨[(.tmp 37, (.fn (.func 78) [] [])), (.tmp 38, .ref 0 7 0 0), (.tmp 39, I p0), (.tmp 40, (Qhs x14))], [(0, (Qf7 p2 p3 p4 p5 p6 p7 p8)), (1, (Qfo p9)), (2, (Qg7 p10)), (3, (Qf6 p11))], (.dat 4 ((x47.1 : List GStream).map Qae)), [(0, (Qf7 p2 p3 p4 p5 p6 p7 p8)), (1, (Qfo p9)), (2, (Qyi x47)), (3, (Qf6 p11))], false⟩, rb [(.tmp 25, (.own 1 1 (0) (p4))), (.tmp 26, I p0)] [(1, (Qfo p9))] (.ref 1 1 (p0.toNat) 0), ⟨[(.tmp 42, (.ref 1 1 (p0.toNat) 0)), (.tmp 41, (.dat 4 ((x47.1 : List GStream).map Qae)))], [(1, (Qfo p9))], .any, [(1, (.own 1 ((p9.set p0.toNat x47.1 : List (List GStream)).map Qao)))], false⟩] ?_ ?_
         ·exact ⟨fun _ => .hard (amv rfl), fun _ => .soft 0 (.own 7 [[(Qen p2), (Qdo p3), (.own 1 1 (0) (p4)), (.own 2 4 (0) (p5)), (.own 3 1 (0) (p6)), (Qem p7), I p8]]) (Qbf rfl) (SImp.box ⟨lrf, lrf, lrf, lrf, lrf, lrf, lrf, trivial⟩) ⟨trivial, trivial, trivial, trivial, trivial, trivial, trivial, trivial, trivial, trivial, trivial, trivial, trivial, trivial, trivial, trivial, trivial, trivial, trivial, trivial, ⟨(SImp.box ⟨lrf, lrf, lrf, lrf, lrf, lrf, lrf, trivial⟩), trivial, trivial, trivial, trivial⟩, trivial, ⟨trivial, trivial⟩, trivial⟩, fun _ => .soft 0 (.own 7 [[(Qen p2), (Qdo p3), (.own 1 1 (0) (p4)), (.own 2 4 (0) (p5)), (.own 3 1 (0) (p6)), (Qem p7), I p8]]) (afa rfl Try.underlying93 rfl rfl ti34 (by decide) rfl) (SImp.box ⟨lrf, lrf, lrf, lrf, lrf, lrf, lrf, trivial⟩) ⟨trivial, trivial, trivial, trivial, trivial, trivial, trivial, trivial, trivial, trivial, trivial, trivial, trivial, trivial, trivial, trivial, trivial, trivial, trivial, trivial, ⟨(SImp.box ⟨lrf, lrf, lrf, lrf, lrf, lrf, lrf, trivial⟩), trivial, trivial, trivial, trivial⟩, trivial, ⟨trivial, trivial⟩, trivial⟩, fun _ => .soft 0 (.own 7 [[(Qen p2), (Qdo p3), (.own 1 1 (0) (p4)), (.own 2 4 (0) (p5)), (.own 3 1 (0) (p6)), (Qem p7), I p8]]) (afa rfl Try.underlying34 rfl rfl ti31 (by decide) rfl) (SImp.box ⟨lrf, lrf, lrf, lrf, lrf, lrf, lrf, trivial⟩) ⟨trivial, trivial, trivial, trivial, trivial, trivial, trivial, trivial, trivial, trivial, trivial, trivial, trivial, trivial, trivial, trivial, trivial, trivial, trivial, trivial, ⟨(SImp.box ⟨lrf, lrf, lrf, lrf, lrf, lrf, lrf, trivial⟩), trivial, trivial, trivial, trivial⟩, trivial, ⟨trivial, trivial⟩, trivial⟩, fun _ => .soft 0 (.own 7 [[(Qen p2), (Qdo p3), (.own 1 1 (0) (p4)), (.own 2 4 (0) (p5)), (.own 3 1 (0) (p6)), (Qem p7), I p8]]) (ald rfl ti31 (by decide) rfl (nle rfl) rfl) (SImp.box ⟨lrf, lrf, lrf, lrf, lrf, lrf, lrf, trivial⟩) ⟨trivial, trivial, trivial, trivial, trivial, trivial, trivial, trivial, trivial, trivial, trivial, trivial, trivial, trivial, trivial, trivial, trivial, trivial, trivial, trivial, ⟨(SImp.box ⟨lrf, lrf, lrf, lrf, lrf, lrf, lrf, trivial⟩), trivial, trivial, trivial, trivial⟩, trivial, ⟨trivial, trivial⟩, trivial⟩, fun _ => .hard (amv rfl), fun _ => .hard (amv rfl), fun _ => .soft 0 (.own 7 [[(Qen p2), (Qdo p3), (.own 1 1 (0) (p4)), (.own 2 4 (0) (p5)), (.own 3 1 (0) (p6)), (Qem p7), I p8]]) (Qbf rfl) (SImp.box ⟨lrf, lrf, lrf, lrf, lrf, lrf, lrf, trivial⟩) ⟨trivial, trivial, trivial, trivial, trivial, trivial, trivial, trivial, trivial, trivial, trivial, trivial, trivial, trivial, trivial, trivial, trivial, trivial, trivial, trivial, ⟨(SImp.box ⟨lrf, lrf, lrf, lrf, lrf, lrf, lrf, trivial⟩), trivial, trivial, trivial, trivial⟩, trivial, ⟨trivial, trivial⟩, trivial⟩, fun _ => .soft 0 (.own 7 [[(Qen p2), (Qdo p3), (.own 1 1 (0) (p4)), (.own 2 4 (0) (p5)), (.own 3 1 (0) (p6)), (Qem p7), I p8]]) (afa rfl Try.underlying93 rfl rfl ti42 (by decide) rfl) (SImp.box ⟨lrf, lrf, lrf, lrf, lrf, lrf, lrf, trivial⟩) ⟨trivial, trivial, trivial, trivial, trivial, trivial, trivial, trivial, trivial, trivial, trivial, trivial, trivial, trivial, trivial, trivial, trivial, trivial, trivial, trivial, ⟨(SImp.box ⟨lrf, lrf, lrf, lrf, lrf, lrf, lrf, trivial⟩), trivial, trivial, trivial, trivial⟩, trivial, ⟨trivial, trivial⟩, trivial⟩, fun _ => .soft 0 (.own 7 [[(Qen p2), (Qdo p3), (.own 1 1 (0) (p4)), (.own 2 4 (0) (p5)), (.own 3 1 (0) (p6)), (Qem p7), I p8]]) (afa rfl Try.underlying42 rfl rfl ti40 (by decide) rfl) (SImp.box ⟨lrf, lrf, lrf, lrf, lrf, lrf, lrf, trivial⟩) ⟨trivial, trivial, trivial, trivial, trivial, trivial, trivial, trivial, trivial, trivial, trivial, trivial, trivial, trivial, trivial, trivial, trivial, trivial, trivial, trivial, ⟨(SImp.box ⟨lrf, lrf, lrf, lrf, lrf, lrf, lrf, trivial⟩), trivial, trivial, trivial, trivial⟩, trivial, ⟨trivial, trivial⟩, trivial⟩, fun _ => .soft 0 (.own 7 [[(Qen p2), (Qdo p3), (.own 1 1 (0) (p4)), (.own 2 4 (0) (p5)), (.own 3 1 (0) (p6)), (Qem p7), I p8]]) (ald rfl ti40 (by decide) rfl (nle rfl) rfl) (SImp.box ⟨lrf, lrf, lrf, lrf, lrf, lrf, lrf, trivial⟩) ⟨trivial, trivial, trivial, trivial, trivial, trivial, trivial, trivial, trivial, trivial, trivial, trivial, trivial, trivial, trivial, trivial, trivial, trivial, trivial, trivial, ⟨(SImp.box ⟨lrf, lrf, lrf, lrf, lrf, lrf, lrf, trivial⟩), trivial, trivial, trivial, trivial⟩, trivial, ⟨trivial, trivial⟩, trivial⟩, fun _ => .hard (amv rfl), fun _ => .hard (aid rfl Try.underlying40 ti76 rfl rfl hi18 (mgt Qac hj19) rfl), fun _ => .hard (afd rfl Try.underlying76 rfl rfl ti5 (by decide) rfl), fun _ => .hard (ald_ rfl ti5 (by decide) (nle rfl) rfl), fun _ => .hard (Qjm hb45 (Qjn rfl Try.underlying144 Qns (by decide) (by decide) rfl)), fun _ => .hard (ald rfl Qns (by decide) rfl (nle rfl) rfl), fun _ => .hard (amv rfl), fun _ => .hard (amv rfl), fun _ => .hard (ald rfl ti48 (by decide) rfl (nle rfl) rfl), fun _ => .hard (Qar (first := []) (cap := []) (vs := [.ref 0 7 0 0, I p0, (Qhs x14)]) (σr := [(Qf7 p2 p3 p4 p5 p6 p7 p8), (Qfo p9), (Qg7 p10), (Qf6 p11)]) (σr' := [(Qf7 p2 p3 p4 p5 p6 p7 p8), (Qfo p9), (Qyi x47), (Qf6 p11)]) (res' := (.dat 4 ((x47.1 : List GStream).map Qae))) [0, 1, 2, 3] rfl Zca (Ql1 N p0 x14 p2 p3 p4 p5 p6 p7 p8 p9 p10 p11 _ hf46) rfl (Qbm (rnc (Qa0 rfl) (rnc (.plain _ nll) (rnc (.plain _ (NLt.agg _ (nlc nll (nlc nll (nlc nll (nlc nll nl0)))))) rn0)))) (slc (Qag (rnc (.plain _ (nld Qah _)) (rnc (.plain _ (nld Qaa _)) (rnc (Qcg rfl) (rnc (Qcg rfl) (rnc (Qcg rfl) (rnc (.plain _ (nld Qai _)) (rnc (.plain _ nll) rn0)))))))) (slc (Qa8 Qat) (slc (Qa8 Qa9) (slc (Qa8 Qab) Qaq)))) (slc (Qag (rnc (.plain _ (nld Qah _)) (rnc (.plain _ (nld Qaa _)) (rnc (Qdh rfl) (rnc (Qdh rfl) (rnc (Qdh rfl) (rnc (.plain _ (nld Qai _)) (rnc (.plain _ nll) rn0)))))))) (slc (Qa8 Qat) (slc (Qa8 Qa9) (slc (Qa8 Qab) Qaq)))) (.plain _ (nld Qai _)) rfl rfl rfl), fun _ => .hard (aio rfl Try.underlying31 ti45 (odt hi48a) (odt hi48b) (Nat.zero_add _)), fun _ => .hard (ast rfl ti45 (by rfl) (mgt Qao hg50) (nle rfl) (Qfs Qao rfl)), trivial⟩
         obtain rfl := osi h
         exact ⟨_, (mto (n := 43) (l' := []) (own' := [(Qf7 p2 p3 p4 p5 p6 p7 p8), (.own 1 (((p9.set p0.toNat x47.1) : List (List GStream)).map Qao)), (Qyi x47), (Qf6 p11)]) [] [0, 1, 2, 3] [(Qf7 p2 p3 p4 p5 p6 p7 p8), (.own 1 ((p9.set p0.toNat x47.1 : List (List GStream)).map Qao)), (Qyi x47), (Qf6 p11)] hφ0 pn (qc (spb (lc (.rn (.plain _ (nld Qah _))) (lc (.rn (.plain _ (nld Qaa _))) (lc (.rn (Qaz rfl)) (lc (.rn (Qaz rfl)) (lc (.rn (Qaz rfl)) (lc (.rn (.plain _ (nld Qai _))) (lc rwl ln)))))))) (qc (spr Qat) (qc (spr Qa9) (qc (spr Qab) qn))))), Qke (vs := []) trivial rfl (NLt.tup _ nl0) (by kernel_rfl) (Qal (Qa4 (nlc (NLt.of0 (nld Qah _)) (nlc (NLt.of0 (nld Qaa _)) (nlc (NLt.own _ _ _ _ (by decide)) (nlc (NLt.own _ _ _ _ (by decide)) (nlc (NLt.own _ _ _ _ (by decide)) (nlc (NLt.of0 (nld Qai _)) (nlc (NLt.of0 nll) nl0)))))))) (Qal (Qb0 Qat _) (Qal (Qb0 Qa9 _) (Qal (Qb0 Qab _) Qbn))))⟩
        ·replace h := Qax hb45 h
         rcases bft ((x16.Kind == 6)) with hb51 | hb51
         ·replace h := Qaw hb51 h
          obtain ⟨x53, hf52, h⟩ := bno h
          obtain ⟨hi54, h⟩ := cko h
          obtain ⟨hi54a, hi54b⟩ := Qcy hi54
          obtain ⟨x55, hg56, h⟩ := bno h
          refine Qk1 [mv 0 (.ref 0 7 0 0), ⟨[(.tmp 21, .ref 0 7 0 0)], [], .ref 0 7 0 0, [], false⟩, ⟨[(.tmp 22, .ref 0 7 0 0)], [], .ref 0 7 0 2, [], false⟩, ⟨[(.tmp 23, .ref 0 7 0 2)], [], .ref 0 7 0 2, [], false⟩, ⟨[(.tmp 24, .ref 0 7 0 2)], [], (.own 1 1 (0) (p4)), [], false⟩, mv 1 (I p0), mv 0 (.ref 0 7 0 0), ⟨[(.tmp 27, .ref 0 7 0 0)], [], .ref 0 7 0 0, [], false⟩, ⟨[(.tmp 28, .ref 0 7 0 0)], [], .ref 0 7 0 0, [], false⟩, ⟨[(.tmp 29, .ref 0 7 0 0)], [], .ref 0 7 0 1, [], false⟩, ⟨[(.tmp 30, .ref 0 7 0 1)], [], (Qdo p3), [], false⟩, mv 1 (I p0), rp [(.tmp 31, (Qdo p3)), (.tmp 32, I p0)] (.dptr (Qac (x16)) 0), mv 33 (.dptr (Qac (x16)) 0), rp [(.tmp 34, (.dptr (Qac (x16)) 0))] (K .u8 (x16.Kind)), rb [(.tmp 7, .ref 5 7 0 0), (.tmp 35, (K .u8 (x16.Kind)))] [(5, Qlh)] (.ref 5 7 0 6), rb [(.tmp 36, .ref 5 7 0 6)] [(5, Qlh)] (.fn (.func 75) [] []), mv 0 (.ref 0 7 0 0), mv 1 (I p0), rb [(.tmp 6, .ref 4 4 0 0)] [(4, (Qpb x14))] (Qhs x14), ⟨[(.tmp 37, (.fn (.func 75) [] [])), (.tmp 38, .ref 0 7 0 0), (.tmp 39, I p0), (.tmp 40, (Qhs x14))], [(0, (Qf7 p2 p3 p4 p5 p6 p7 p8)), (1, (Qfo p9)), (2, (Qg7 p10)), (3, (Qf6 p11))], (Q2j x53), [(0, (Qf7 p2 p3 p4 p5 p6 p7 p8)), (1, (Qfo p9)), (2, (Qg7 p10)), (3, (Qf6 p11))], false⟩, rb [(.tmp 25, (.own 1 1 (0) (p4))), (.tmp 26, I p0)] [(1, (Qfo p9))] (.ref 1 1 (p0.toNat) 0), ⟨[(.tmp 42, (.ref 1 1 (p0.toNat) 0)), (.tmp 41, (Q2j x53))], [(1, (Qfo p9))], .any, [(1, (.own 1 ((p9.set p0.toNat x53 : List (List GStream)).map Qao)))], false⟩] ?_ ?_
          ·exact ⟨fun _ => .hard (amv rfl), fun _ => .soft 0 (.own 7 [[(Qen p2), (Qdo p3), (.own 1 1 (0) (p4)), (.own 2 4 (0) (p5)), (.own 3 1 (0) (p6)), (Qem p7), I p8]]) (Qbf rfl) (SImp.box ⟨lrf, lrf, lrf, lrf, lrf, lrf, lrf, trivial⟩) ⟨trivial, trivial, trivial, trivial, trivial, trivial, trivial, trivial, trivial, trivial, trivial, trivial, trivial, trivial, trivial, trivial, trivial, trivial, trivial, trivial, ⟨(SImp.box ⟨lrf, lrf, lrf, lrf, lrf, lrf, lrf, trivial⟩), trivial, trivial, trivial, trivial⟩, trivial, ⟨trivial, trivial⟩, trivial⟩, fun _ => .soft 0 (.own 7 [[(Qen p2), (Qdo p3), (.own 1 1 (0) (p4)), (.own 2 4 (0) (p5)), (.own 3 1 (0) (p6)), (Qem p7), I p8]]) (afa rfl Try.underlying93 rfl rfl ti34 (by decide) rfl) (SImp.box ⟨lrf, lrf, lrf, lrf, lrf, lrf, lrf, trivial⟩) ⟨trivial, trivial, trivial, trivial, trivial, trivial, trivial, trivial, trivial, trivial, trivial, trivial, trivial, trivial, trivial, trivial, trivial, trivial, trivial, trivial, ⟨(SImp.box ⟨lrf, lrf, lrf, lrf, lrf, lrf, lrf, trivial⟩), trivial, trivial, trivial, trivial⟩, trivial, ⟨trivial, trivial⟩, trivial⟩, fun _ => .soft 0 (.own 7 [[(Qen p2), (Qdo p3), (.own 1 1 (0) (p4)), (.own 2 4 (0) (p5)), (.own 3 1 (0) (p6)), (Qem p7), I p8]]) (afa rfl Try.underlying34 rfl rfl ti31 (by decide) rfl) (SImp.box ⟨lrf, lrf, lrf, lrf, lrf, lrf, lrf, trivial⟩) ⟨trivial, trivial, trivial, trivial, trivial, trivial, trivial, trivial, trivial, trivial, trivial, trivial, trivial, trivial, trivial, trivial, trivial, trivial, trivial, trivial, ⟨(SImp.box ⟨lrf, lrf, lrf, lrf, lrf, lrf, lrf, trivial⟩), trivial, trivial, trivial, trivial⟩, trivial, ⟨trivial, trivial⟩, trivial⟩, fun _ => .soft 0 (.own 7 [[(Qen p2), (Qdo p3), (.own 1 1 (0) (p4)), (.own 2 4 (0) (p5)), (.own 3 1 (0) (p6)), (Qem p7), I p8]]) (ald rfl ti31 (by decide) rfl (nle rfl) rfl) (SImp.box ⟨lrf, lrf, lrf, lrf, lrf, lrf, lrf, trivial⟩) ⟨trivial, trivial, trivial, trivial, trivial, trivial, trivial, trivial, trivial, trivial, trivial, trivial, trivial, trivial, trivial, trivial, trivial, trivial, trivial, trivial, ⟨(SImp.box ⟨lrf, lrf, lrf, lrf, lrf, lrf, lrf, trivial⟩), trivial, trivial, trivial, trivial⟩, trivial, ⟨trivial, trivial⟩, trivial⟩, fun _ => .hard (amv rfl), fun _ => .hard (amv rfl), fun _ => .soft 0 (.own 7 [[(Qen p2), (Qdo p3), (.own 1 1 (0) (p4)), (.own 2 4 (0) (p5)), (.own 3 1 (0) (p6)), (Qem p7), I p8]]) (Qbf rfl) (SImp.box ⟨lrf, lrf, lrf, lrf, lrf, lrf, lrf, trivial⟩) ⟨trivial, trivial, trivial, trivial, trivial, trivial, trivial, trivial, trivial, trivial, trivial, trivial, trivial, trivial, trivial, trivial, trivial, trivial, trivial, trivial, ⟨(SImp.box ⟨lrf, lrf, lrf, lrf, lrf, lrf, lrf, trivial⟩), trivial, trivial, trivial, trivial⟩, trivial, ⟨trivial, trivial⟩, trivial⟩, fun _ => .soft 0 (.own 7 [[(Qen p2), (Qdo p3), (.own 1 1 (0) (p4)), (.own 2 4 (0) (p5)), (.own 3 1 (0) (p6)), (Qem p7), I p8]]) (afa rfl Try.underlying93 rfl rfl ti42 (by decide) rfl) (SImp.box ⟨lrf, lrf, lrf, lrf, lrf, lrf, lrf, trivial⟩) ⟨trivial, trivial, trivial, trivial, trivial, trivial, trivial, trivial, trivial, trivial, trivial, trivial, trivial, trivial, trivial, trivial, trivial, trivial, trivial, trivial, ⟨(SImp.box ⟨lrf, lrf, lrf, lrf, lrf, lrf, lrf, trivial⟩), trivial, trivial, trivial, trivial⟩, trivial, ⟨trivial, trivial⟩, trivial⟩, fun _ => .soft 0 (.own 7 [[(Qen p2), (Qdo p3), (.own 1 1 (0) (p4)), (.own 2 4 (0) (p5)), (.own 3 1 (0) (p6)), (Qem p7), I p8]]) (afa rfl Try.underlying42 rfl rfl ti40 (by decide) rfl) (SImp.box ⟨lrf, lrf, lrf, lrf, lrf, lrf, lrf, trivial⟩) ⟨trivial, trivial, trivial, trivial, trivial, trivial, trivial, trivial, trivial, trivial, trivial, trivial, trivial, trivial, trivial, trivial, trivial, trivial, trivial, trivial, ⟨(SImp.box ⟨lrf, lrf, lrf, lrf, lrf, lrf, lrf, trivial⟩), trivial, trivial, trivial, trivial⟩, trivial, ⟨trivial, trivial⟩, trivial⟩, fun _ => .soft 0 (.own 7 [[(Qen p2), (Qdo p3), (.own 1 1 (0) (p4)), (.own 2 4 (0) (p5)), (.own 3 1 (0) (p6)), (Qem p7), I p8]]) (ald rfl ti40 (by decide) rfl (nle rfl) rfl) (SImp.box ⟨lrf, lrf, lrf, lrf, lrf, lrf, lrf, trivial⟩) ⟨trivial, trivial, trivial, trivial, trivial, trivial, trivial, trivial, trivial, trivial, trivial, trivial, trivial, trivial, trivial, trivial, trivial, trivial, trivial, trivial, ⟨(SImp.box ⟨lrf, lrf, lrf, lrf, lrf, lrf, lrf, trivial⟩), trivial, trivial, trivial, trivial⟩, trivial, ⟨trivial, trivial⟩, trivial⟩, fun _ => .hard (amv rfl), fun _ => .hard (aid rfl Try.underlying40 ti76 rfl rfl hi18 (mgt Qac hj19) rfl), fun _ => .hard (afd rfl Try.underlying76 rfl rfl ti5 (by decide) rfl), fun _ => .hard (ald_ rfl ti5 (by decide) (nle rfl) rfl), fun _ => .hard (Qjm hb51 (Qjn rfl Try.underlying144 Qns (by decide) (by decide) rfl)), fun _ => .hard (ald rfl Qns (by decide) rfl (nle rfl) rfl), fun _ => .hard (amv rfl), fun _ => .hard (amv rfl), fun _ => .hard (ald rfl ti48 (by decide) rfl (nle rfl) rfl), fun _ => .hard (Qar (first := []) (cap := []) (vs := [.ref 0 7 0 0, I p0, (Qhs x14)]) (σr := [(Qf7 p2 p3 p4 p5 p6 p7 p8), (Qfo p9), (Qg7 p10), (Qf6 p11)]) (σr' := [(Qf7 p2 p3 p4 p5 p6 p7 p8), (Qfo p9), (Qg7 p10), (Qf6 p11)]) (res' := (Q2j x53)) [0, 1, 2, 3] rfl Qw8 (Qhd N p0 x14 p2 p3 p4 p5 p6 p7 p8 p9 p10 p11 _ hf52) rfl (Qbm (rnc (Qa0 rfl) (rnc (.plain _ nll) (rnc (.plain _ (NLt.agg _ (nlc nll (nlc nll (nlc nll (nlc nll nl0)))))) rn0)))) (slc (Qag (rnc (.plain _ (nld Qah _)) (rnc (.plain _ (nld Qaa _)) (rnc (Qcg rfl) (rnc (Qcg rfl) (rnc (Qcg rfl) (rnc (.plain _ (nld Qai _)) (rnc (.plain _ nll) rn0)))))))) (slc (Qa8 Qat) (slc (Qa8 Qa9) (slc (Qa8 Qab) Qaq)))) (slc (Qag (rnc (.plain _ (nld Qah _)) (rnc (.plain _ (nld Qaa _)) (rnc (Qdh rfl) (rnc (Qdh rfl) (rnc (Qdh rfl) (rnc (.plain _ (nld Qai _)) (rnc (.plain _ nll) rn0)))))))) (slc (Qa8 Qat) (slc (Qa8 Qa9) (slc (Qa8 Qab) Qaq)))) (.plain _ (nld Qai _)) rfl rfl rfl), fun _ => .hard (aio rfl Try.underlying31 ti45 (odt hi54a) (odt hi54b) (Nat.zero_add _)), fun _ => .hard (ast rfl ti45 (by rfl) (mgt Qao hg56) (nle rfl) (Qfs Qao rfl)), trivial⟩
          obtain rfl := osi h
          exact ⟨_, (mto (n := 43) (l' := []) (own' := [(Qf7 p2 p3 p4 p5 p6 p7 p8), (.own 1 (((p9.set p0.toNat x53) : List (List GStream)).map Qao)), (Qg7 p10), (Qf6 p11)]) [] [0, 1, 2, 3] [(Qf7 p2 p3 p4 p5 p6 p7 p8), (.own 1 ((p9.set p0.toNat x53 : List (List GStream)).map Qao)), (Qg7 p10), (Qf6 p11)] hφ0 pn (qc (spb (lc (.rn (.plain _ (nld Qah _))) (lc (.rn (.plain _ (nld Qaa _))) (lc (.rn (Qaz rfl)) (lc (.rn (Qaz rfl)) (lc (.rn (Qaz rfl)) (lc (.rn (.plain _ (nld Qai _))) (lc rwl ln)))))))) (qc (spr Qat) (qc (spr Qa9) (qc (spr Qab) qn))))), Qke (vs := []) trivial rfl (NLt.tup _ nl0) (by kernel_rfl) (Qal (Qa4 (nlc (NLt.of0 (nld Qah _)) (nlc (NLt.of0 (nld Qaa _)) (nlc (NLt.own _ _ _ _ (by decide)) (nlc (NLt.own _ _ _ _ (by decide)) (nlc (NLt.own _ _ _ _ (by decide)) (nlc (NLt.of0 (nld Qai _)) (nlc (NLt.of0 nll) nl0)))))))) (Qal (Qb0 Qat _) (Qal (Qb0 Qa9 _) (Qal (Qb0 Qab _) Qbn))))⟩
         ·replace h := Qax hb51 h
          cases h
  ·skip
   refine wx tbk [] trivial ?_
   rcases bft ((decide (x14.Mass > p1))) with hc57 | hc57
   ·replace h := Qaw hc57 h
    refine wft hc57 (by kernel_rfl) ?_
    refine Q7s 3 [mv 1 (I p0), rp [(.tmp 17, I p0)] (.agg [I p0]), rp [(.tmp 18, (.agg [I p0]))] (.lit (.iface 120 (.agg #[(.int .i64 (p0))]))), ⟨[(.tmp 19, (.lit (.iface 120 (.agg #[(.int .i64 (p0))]))))], [], .any, [], false⟩] (by exact ⟨by kernel_rfl, by kernel_rfl⟩) rfl (by kernel_rfl) rfl (Qww rfl) (⟨fun _ _ => amv rfl, fun _ _ => Qa2 (vs := [I p0]) rfl Ze8 Zec rfl (by rfl) rfl, fun _ _ => awk (rd' := [(.tmp 18, .lit (.agg #[(.int .i64 (p0))]))]) ⟨rfl, (Less.lits [(.int .i64 (p0))]), trivial⟩ (Qxs rfl Try.underlying120), fun _ h => absurd rfl h, trivial⟩) ?_
    obtain rfl := osi h
    exact rfl
   ·replace h := Qax hc57 h
    refine wfn hc57 (by kernel_rfl) ?_
    refine Qap ?_
    refine thn ?_
    exact ⟨(), h, (mto (n := 43) [(0, .ref 0 7 0 0), (1, I p0), (6, .ref 7 4 0 0)] [0, 1, 2, 3, 7] [(Qf7 p2 p3 p4 p5 p6 p7 p8), (Qfo p9), (Qg7 p10), (Qf6 p11), (Qpb x14)] hφ0 (pc (.rn (rqr rfl)) (pc rwl (pc (.rn (rqr rfl)) pn))) (qc (spb (lc (.rn (.plain _ (nld Qah _))) (lc (.rn (.plain _ (nld Qaa _))) (lc (.rn (Qaz rfl)) (lc (.rn (Qaz rfl)) (lc (.rn (Qaz rfl)) (lc (.rn (.plain _ (nld Qai _))) (lc rwl ln)))))))) (qc (spr Qat) (qc (spr Qa9) (qc (spr Qab) (qc (spb (lc rwl (lc rwl (lc rwl (lc rwl ln))))) qn))))))⟩
theorem Qkt (N : Nat) (p0 : Int) (p1 : Int) (p2 : (List GRow)) (p3 : (List GElement)) (p4 : Nat) (p5 : Nat) (p6 : Nat) (p7 : (List GStream)) (p8 : Int) (p9 : (List (List GStream))) (p10 : (List GLost)) (p11 : (List Int)) (r : (Int × (List (List GStream)) × (List GLost) × (List Int))) (h : Qe1 N p0 p1 p2 p3 p4 p5 p6 p7 p8 p9 p10 p11 = some (.inl r)) : Spec Try.prog 52 [.ref 0 7 0 0, I p0, I p1] [(Qf7 p2 p3 p4 p5 p6 p7 p8), (Qfo p9), (Qg7 p10), (Qf6 p11)] (.tup []) [(.own 7 [[(.dat 5 ((p2 : List GRow).map Qa3)), (.dat 7 ((p3 : List GElement).map Qac)), (.own 1 1 (0) (p4)), (.own 2 4 (0) (p5)), (.own 3 1 (0) (p6)), (.dat 4 ((p7 : List GStream).map Qae)), I r.1]]), (.own 1 ((r.2.1 : List (List GStream)).map Qao)), (.own 4 ((r.2.2.1 : List GLost).map Qbd)), (.own 1 ((r.2.2.2 : List Int).map Qaj))] := Qh5 N p0 p1 p2 p3 p4 p5 p6 p7 p8 p9 p10 p11 _ h
theorem Qks (N : Nat) (p0 : Int) (p1 : Int) (p2 : (List GRow)) (p3 : (List GElement)) (p4 : Nat) (p5 : Nat) (p6 : Nat) (p7 : (List GStream)) (p8 : Int) (p9 : (List (List GStream))) (p10 : (List GLost)) (p11 : (List Int)) (r : Int) (h : Qe1 N p0 p1 p2 p3 p4 p5 p6 p7 p8 p9 p10 p11 = some (.inr r)) : Q73 Try.prog 52 [.ref 0 7 0 0, I p0, I p1] [(Qf7 p2 p3 p4 p5 p6 p7 p8), (Qfo p9), (Qg7 p10), (Qf6 p11)] (.iface 120 (.agg #[(.int .i64 (r))])) := Qh5 N p0 p1 p2 p3 p4 p5 p6 p7 p8 p9 p10 p11 _ h
def Zdt : Slot := .own 1 [[(.lit (.pointer none))]]
theorem Qn1 (v0 : Int) : DPan Try.prog 51 [1, 1] (.iface 120 (.agg #[(.int .i64 (v0))])) [[(.lit (.pointer none))], [(I (v0))]] := by
  refine Qph (t := 5) (args := [.ref 0 1 0 0, .ref 1 1 0 0]) Try.func51 rfl (fun _ _ => rfl) (by kernel_rfl) Zbf 2 (nle rfl) (fun X φ0 w0 hφ0 => ?_)
  refine Qbp ?_
  refine Qan ?_
  refine wx tbk [(0, rp [(.tmp 5, (.lit (.iface 120 (.agg #[(.int .i64 (v0))])))), (.const .nilIface, (.lit .nilIface))] (B false))] ⟨Qxr rfl Try.underlying20, trivial⟩ ?_
  refine Qgt (by kernel_rfl) ?_
  refine wx tbk [(0, rp [(.tmp 5, (.lit (.iface 120 (.agg #[(.int .i64 (v0))]))))] (.tup [(.agg [I v0]), B true]))] ⟨Qxn (r := .lit (.tuple #[(.agg #[(.int .i64 (v0))]), (.bool true)])) (Less.trans Q37 (Less.tup ⟨Q38 (l := [(.int .i64 (v0))]), lrf, trivial⟩)) (Qt4 rfl Try.underlying120), trivial⟩ ?_
  refine Qbk (by kernel_rfl) ?_
  refine wx tbk [] trivial ?_
  refine wy1 tbk [] trivial ?_
  refine bln ?_
  exact ⟨_, (mto (n := 13) (l' := []) (own' := [Zdt, (.own 1 [[I v0]])]) [] [0, 1] [Zdt, (.own 1 [[I v0]])] hφ0 pn (qc (spb (lc rwl ln)) (qc (spb (lc rwl ln)) qn))), Qcz (vs := []) trivial rfl (NLt.tup _ nl0) (by kernel_rfl) (Qal (Qa4 (nlt0 (nlc nll nl0))) (Qal (Qa4 (nlt0 (nlc nll nl0))) Qbn))⟩
end Go.Proofs.Ytmbhnllcfmiajaa
