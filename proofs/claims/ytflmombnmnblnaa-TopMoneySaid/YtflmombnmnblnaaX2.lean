/-
  Functions of the program: what they compute, as plain functions, and that they do. No conditions.
-/
import Derived.Test.YtflmombnmnblnaaX1
namespace Go.Proofs.Ytflmombnmnblnaa
set_option maxRecDepth 100000
set_option maxHeartbeats 4000000
open Go.RowKit
def Qdf (_N : Nat) (p0 : Int) (p1 : Int) (p2 : Int) : Option Bool :=
  bif (decide (p1 ≤ p0)) then
   some (decide (p0 ≤ p2))
  else
   some false
theorem Qcb (N : Nat) (p0 : Int) (p1 : Int) (p2 : Int) (r : Bool) (h : Qdf N p0 p1 p2 = some r) : Spec Try.prog 67 [(I p0), (I p1), (I p2)] [] (B r) [] := by
  refine Qah Try.func67 rfl 0 (nle rfl) (fun X φ0 w0 hφ0 hd0 => ?_)
  unfold Qdf at h
  refine wx tbk [] trivial ?_
  rcases bft ((decide (p1 ≤ p0))) with hb1 | hb1
  ·replace h := Qaw hb1 h
   refine wx tbk [(3, rp [(.tmp 9, (B ((decide (p1 ≤ p0)))))] (B true))] ⟨asb hb1 (amv rfl), trivial⟩ ?_
   refine Qae ?_
   obtain rfl := osi h
   exact fend ⟨[(B ((decide (p0 ≤ p2))))], ⟨rot (by kernel_rfl), trivial⟩, rfl⟩ nll
  ·replace h := Qax hb1 h
   refine wx tbk [(3, rp [(.tmp 9, (B ((decide (p1 ≤ p0)))))] (B false))] ⟨asb hb1 (amv rfl), trivial⟩ ?_
   refine Qae ?_
   obtain rfl := osi h
   exact fend ⟨[B false], ⟨rot (by kernel_rfl), trivial⟩, rfl⟩ nll
def Qel (N : Nat) (p0 : Int) : Option Bool :=
  (Qdf N p0 0 1000000000000).bind fun x2 =>
  some x2
theorem Qg5 (N : Nat) (p0 : Int) (r : Bool) (h : Qel N p0 = some r) : Spec Try.prog 66 [(I p0)] [] (B r) [] := by
  refine Qah Try.func66 rfl 0 (nle rfl) (fun X φ0 w0 hφ0 hd0 => ?_)
  unfold Qel at h
  refine wx tbk [] trivial ?_
  obtain ⟨x2, hf1, h⟩ := bno h
  refine wx tbk [(1, rp [fu 67, (.tmp 3, I p0), ci 0, ci 1000000000000] (B x2))] ⟨apc (first := []) (cap := []) (vs := [I p0, I 0, I 1000000000000]) rfl Qge (Qcb N p0 0 1000000000000 _ hf1) rfl rfl (nlc nll (nlc nll (nlc nll nl0))) nll rfl, trivial⟩ ?_
  refine Qae ?_
  obtain rfl := osi h
  exact fend ⟨[B x2], ⟨rot (by kernel_rfl), trivial⟩, rfl⟩ nll
def Qd0 (N : Nat) (p0 : Int) : Option Bool :=
  (Qel N p0).bind fun x3 =>
  some (!x3)
def z15_0 : Slot := .own 1 [[(.fn (.func 66) [] [])]]
theorem Qg8 (N : Nat) (p0 : Int) (r : Bool) (h : Qd0 N p0 = some r) : Spec Try.prog 118 [(I (p0)), (.ref 0 1 (0) 0)] [z15_0] (B (r)) [z15_0] := by
  refine Qah Try.func118 rfl 1 (nle rfl) (fun X φ0 w0 hφ0 hd0 => ?_)
  unfold Qd0 at h
  refine Qcf ?_
  refine wx tbk [] trivial ?_
  obtain ⟨x3, hf2, h⟩ := bno h
  refine wx tbk [(2, rp [(.tmp 4, (.fn (.func 66) [] [])), (.tmp 5, I p0)] (B x3))] ⟨apc (first := []) (cap := []) (vs := [I p0]) rfl enter66 (Qg5 N p0 _ hf2) rfl rfl (nlc nll nl0) nll rfl, trivial⟩ ?_
  refine wmr (mto (n := 8) (l' := [(3, (B ((!x3))))]) (own' := [z15_0]) [(3, (B ((!x3))))] [0] [z15_0] hφ0 (pc rwl pn) (qc (spb (lc (.rn (Qal rn0 rn0)) ln)) qn)) ?_
  refine Qae ?_
  obtain rfl := osi h
  exact ⟨_, Mor.rfl, Qcm (vs := [(B ((!x3)))]) ⟨rot (by kernel_rfl), trivial⟩ rfl (NLt.of0 nll) (by kernel_rfl) (Qan (Qa4 (nlc (NLt.of0 (NLt.fn _ _ _ nl0 nl0)) nl0)) Qbl)⟩
def Qa3 (N : Nat) (p0 : (List Int)) (k2 : Unit → Option Int) : Nat → Int → Option Int
  | 0, _ => none
  | n5 + 1, y3 =>
    bif (decide (y3 < (p0.length : Int))) then
     (getI p0 y3).bind fun x7 =>
     (Qd0 N x7).bind fun x12 =>
     bif x12 then
      some y3
     else
      Qa3 N p0 k2 n5 (w64 (y3 + 1))
    else
     k2 ()
def Qc0 (N : Nat) (p0 : (List Int)) : Option Int :=
  Qcg (fun _ =>
    some (-1)) fun k2 : Unit → Option Int =>
  Qa3 N p0 k2 N 0
def z14_0 (p0 : (List Int)) : AV := .dat 1 ((p0 : List Int).map Qab)
def z14_1 : AV := .fn (.func 118) [] [(.ref 0 1 (0) 0)]
def Qhj : Slot := .own 1 [[(.fn (.func 66) [] [])]]
theorem Qfe (N : Nat) (p0 : (List Int)) (r : Int) (h : Qc0 N p0 = some r) : Spec Try.prog 48 [(z14_0 p0), z14_1] [Qhj] (I (r)) [Qhj] := by
  refine Qah Try.func48 rfl 1 (nle rfl) (fun X φ0 w0 hφ0 hd0 => ?_)
  unfold Qc0 at h
  refine Qcf ?_
  refine wx tbk [] trivial ?_
  obtain ⟨k2, hk_k2, h⟩ := jko h
  refine wjn (τ := Unit) (fun t => k2 t = some r) (fun _ => ⟨mk 19 [], [Qhj]⟩) (fun t h => ?_) ?_
  ·subst hk_k2
   refine wx tbk [] trivial ?_
   refine wmr (mto (n := 19) (l' := [(4, (I ((-1))))]) (own' := [Qhj]) [(4, (I ((-1))))] [0] [Qhj] hφ0 (pc rwl pn) (qc (spb (lc (.rn (Qal rn0 rn0)) ln)) qn)) ?_
   refine Qae ?_
   obtain rfl := osi h
   exact ⟨_, Mor.rfl, Qcm (vs := [(I ((-1)))]) ⟨rot (by kernel_rfl), trivial⟩ rfl (NLt.of0 nll) (by kernel_rfl) (Qan (Qa4 (nlc (NLt.of0 (NLt.fn _ _ _ nl0 nl0)) nl0)) Qbl)⟩
  ·skip
   refine wx tbk [(1, rp [(.tmp 6, (z14_0 p0))] (I ((p0.length : Int))))] ⟨alm (c := Qab) (l := p0) (aln rfl Try.underlying22 rfl), trivial⟩ ?_
   refine Qag ?_
   refine wmr (mto (n := 19) (l' := [(0, (z14_0 p0)), (1, z14_1), (7, (I ((p0.length : Int)))), (8, I 0)]) (own' := [Qhj]) [(0, (z14_0 p0)), (1, z14_1), (7, (I ((p0.length : Int)))), (8, I 0)] [0] [Qhj] hφ0 (pc (.rn (.plain _ (nld Qac _))) (pc (.rn (Qal rn0 (rnc (rqr rfl) rn0))) (pc rwl (pc rwl pn)))) (qc (spb (lc (.rn (Qal rn0 rn0)) ln)) qn)) ?_
   refine Qca (τ := Int) (fun n t => Qa3 N p0 k2 n t = some r) (fun y3 => ⟨mk 19 [(0, (z14_0 p0)), (1, z14_1), (7, (I ((p0.length : Int)))), (8, I y3)], [Qhj]⟩) (fun t h => by rw [Qa3] at h; cases h) (fun n5 ih y3 h => ?_) N (0) h
   rw [Qa3] at h
   skip
   refine wx tbk [] trivial ?_
   refine wsq ?_
   rcases bft ((decide (y3 < (p0.length : Int)))) with hc6 | hc6
   ·replace h := Qaw hc6 h
    refine wft hc6 (by kernel_rfl) ?_
    refine Qak ?_
    refine thn ?_
    refine wsq ?_
    refine Qag ?_
    refine wx tbk [] trivial ?_
    obtain ⟨x7, hg8, h⟩ := bno h
    obtain ⟨hi9, hj10⟩ := gsm hg8
    obtain ⟨x12, hf11, h⟩ := bno h
    refine wx tbk [(3, rp [(.tmp 12, (z14_0 p0)), (.tmp 13, I y3)] (.dptr (Qab (x7)) 0)), (5, ⟨[(.tmp 11, z14_1), (.tmp 15, I x7)], [(0, Qhj)], B x12, [(0, Qhj)], false⟩)] ⟨aid rfl Try.underlying22 ti3 rfl rfl hi9 (mgt Qab hj10) rfl, Qaq (first := []) (cap := [.ref 0 1 0 0]) (vs := [I x7]) (σr := [Qhj]) (σr' := [Qhj]) (res' := (B x12)) [0] rfl enter118 (Qg8 N x7 _ hf11) rfl (Qcu (rnc (.plain _ nll) (rnc (Qba rfl) rn0))) (slc (Qaj (rnc (.plain _ (NLt.fn _ _ _ nl0 nl0)) rn0)) Qap) (slc (Qaj (rnc (.plain _ (NLt.fn _ _ _ nl0 nl0)) rn0)) Qap) (.plain _ nll) rfl rfl rfl, trivial⟩ ?_
    rcases bft (x12) with hc13 | hc13
    ·replace h := Qaw hc13 h
     refine wft hc13 (by kernel_rfl) ?_
     refine wx tbk [] trivial ?_
     refine wmr (mto (n := 19) (l' := [(4, I y3)]) (own' := [Qhj]) [(4, I y3)] [0] [Qhj] hφ0 (pc rwl pn) (qc (spb (lc (.rn (Qal rn0 rn0)) ln)) qn)) ?_
     refine Qae ?_
     refine Qao ?_
     refine Qaf ?_
     refine Qaf ?_
     refine Qao ?_
     refine Qaf ?_
     obtain rfl := osi h
     exact ⟨_, Mor.rfl, Qcm (vs := [I y3]) ⟨rot (by kernel_rfl), trivial⟩ rfl (NLt.of0 nll) (by kernel_rfl) (Qan (Qa4 (nlc (NLt.of0 (NLt.fn _ _ _ nl0 nl0)) nl0)) Qbl)⟩
    ·replace h := Qax hc13 h
     refine wfn hc13 (by kernel_rfl) ?_
     refine Qak ?_
     refine bln ?_
     refine thn ?_
     refine wx1 tbk [] trivial ?_
     refine thn ?_
     exact arm (mto (n := 19) [(0, (z14_0 p0)), (1, z14_1), (7, (I ((p0.length : Int)))), (8, (I (w64 (y3 + 1))))] [0] [Qhj] hφ0 (pc (.rn (.plain _ (nld Qac _))) (pc (.rn (Qal rn0 (rnc (rqr rfl) rn0))) (pc rwl (pc rwl pn)))) (qc (spb (lc (.rn (Qal rn0 rn0)) ln)) qn)) (ih (w64 (y3 + 1)) h)
   ·replace h := Qax hc6 h
    refine wfn hc6 (by kernel_rfl) ?_
    refine Qbk ?_
    refine Qav ?_
    refine Qav ?_
    refine Qbj rfl ?_
    refine thn ?_
    exact ⟨(), h, (mto (n := 19) [] [0] [Qhj] hφ0 pn (qc (spb (lc (.rn (Qal rn0 rn0)) ln)) qn))⟩
def Qck (N : Nat) (p0 : (List Int)) : Option Bool :=
  (Qc0 N p0).bind fun x3 =>
  some (decide (x3 ≥ 0))
def z13_0 (p0 : (List Int)) : AV := .dat 1 ((p0 : List Int).map Qab)
def z13_1 : AV := .fn (.func 118) [] [(.ref 0 1 (0) 0)]
def z13_2 : Slot := .own 1 [[(.fn (.func 66) [] [])]]
theorem Qes (N : Nat) (p0 : (List Int)) (r : Bool) (h : Qck N p0 = some r) : Spec Try.prog 117 [(z13_0 p0), z13_1] [z13_2] (B (r)) [z13_2] := by
  refine Qah Try.func117 rfl 1 (nle rfl) (fun X φ0 w0 hφ0 hd0 => ?_)
  unfold Qck at h
  refine Qcf ?_
  refine wx tbk [] trivial ?_
  obtain ⟨x3, hf2, h⟩ := bno h
  refine wx tbk [(2, ⟨[fu 48, (.tmp 5, (z13_0 p0)), (.tmp 6, z13_1)], [(0, z13_2)], I x3, [(0, z13_2)], false⟩)] ⟨Qaq (first := []) (cap := []) (vs := [(z13_0 p0), z13_1]) (σr := [z13_2]) (σr' := [z13_2]) (res' := (I x3)) [0] rfl enter48 (Qfe N p0 _ hf2) rfl (Qcu (rnc (.plain _ (nld Qac _)) (rnc (Qal rn0 (rnc (Qba rfl) rn0)) rn0))) (slc (Qaj (rnc (.plain _ (NLt.fn _ _ _ nl0 nl0)) rn0)) Qap) (slc (Qaj (rnc (.plain _ (NLt.fn _ _ _ nl0 nl0)) rn0)) Qap) (.plain _ nll) rfl rfl rfl, trivial⟩ ?_
  refine wmr (mto (n := 9) (l' := [(4, (B ((decide (x3 ≥ 0)))))]) (own' := [z13_2]) [(4, (B ((decide (x3 ≥ 0)))))] [0] [z13_2] hφ0 (pc rwl pn) (qc (spb (lc (.rn (Qal rn0 rn0)) ln)) qn)) ?_
  refine Qae ?_
  obtain rfl := osi h
  exact ⟨_, Mor.rfl, Qcm (vs := [(B ((decide (x3 ≥ 0))))]) ⟨rot (by kernel_rfl), trivial⟩ rfl (NLt.of0 nll) (by kernel_rfl) (Qan (Qa4 (nlc (NLt.of0 (NLt.fn _ _ _ nl0 nl0)) nl0)) Qbl)⟩
def Qdm (N : Nat) (p0 : (List Int)) : Option Bool :=
  (Qck N p0).bind fun x2 =>
  some (!x2)
def z12_1 (p0 : (List Int)) : AV := .dat 1 ((p0 : List Int).map Qab)
def z12_2 : AV := .fn (.func 118) [] [(.ref 0 1 (0) 0)]
def z12_0 : Slot := .own 1 [[(.fn (.func 66) [] [])]]
theorem Qeh (N : Nat) (p0 : (List Int)) (r : Bool) (h : Qdm N p0 = some r) : Spec Try.prog 68 [(z12_1 p0), (.fn (.func 66) [] [])] [] (B (r)) [] := by
  refine Qah Try.func68 rfl 0 (nle rfl) (fun X φ0 w0 hφ0 hd0 => ?_)
  unfold Qdm at h
  refine wx tbk [] trivial ?_
  obtain ⟨x2, hf1, h⟩ := bno h
  refine wx tbk [(1, rp [(.tmp 3, .ref 0 1 0 0)] z12_2), (2, ⟨[fu 117, (.tmp 5, (z12_1 p0)), (.tmp 6, z12_2)], [(0, z12_0)], B x2, [(0, z12_0)], false⟩)] ⟨Qep (fs := []) (cs := [.ref 0 1 0 0]) rfl rfl rfl rfl, Qaq (first := []) (cap := []) (vs := [(z12_1 p0), z12_2]) (σr := [z12_0]) (σr' := [z12_0]) (res' := (B x2)) [0] rfl Qlc (Qes N p0 _ hf1) rfl (Qcu (rnc (.plain _ (nld Qac _)) (rnc (Qal rn0 (rnc (Qba rfl) rn0)) rn0))) (slc (Qaj (rnc (.plain _ (NLt.fn _ _ _ nl0 nl0)) rn0)) Qap) (slc (Qaj (rnc (.plain _ (NLt.fn _ _ _ nl0 nl0)) rn0)) Qap) (.plain _ nll) rfl rfl rfl, trivial⟩ ?_
  refine Qae ?_
  obtain rfl := osi h
  exact fend ⟨[(B ((!x2)))], ⟨rot (by kernel_rfl), trivial⟩, rfl⟩ nll
def Qdb (N : Nat) (p0 : (List Int)) (k2 : Int → Option Int) : Nat → Int → Int → Option Int
  | 0, _, _ => none
  | n7 + 1, y3, y4 =>
    bif (decide (y4 < (p0.length : Int))) then
     (getI p0 y4).bind fun x9 =>
     Qdb N p0 k2 n7 (w64 (y3 + x9)) (w64 (y4 + 1))
    else
     k2 (y3)
def Qem (N : Nat) (p0 : (List Int)) : Option Int :=
  Qcg (fun y1 =>
    some y1) fun k2 : Int → Option Int =>
  Qdb N p0 k2 N 0 0
def z16_0 (p0 : (List Int)) : AV := .dat 1 ((p0 : List Int).map Qab)
theorem Qfn (N : Nat) (p0 : (List Int)) (r : Int) (h : Qem N p0 = some r) : Spec Try.prog 69 [(.dat 1 (p0.map Qab))] [] (I r) [] := by
  refine Qah Try.func69 rfl 0 (nle rfl) (fun X φ0 w0 hφ0 hd0 => ?_)
  unfold Qem at h
  refine wx tbk [] trivial ?_
  obtain ⟨k2, hk_k2, h⟩ := jko h
  refine wjn (τ := Int) (fun t => k2 t = some r) (fun y1 => ⟨mk 16 [(2, I y1)], []⟩) (fun y1 h => ?_) ?_
  ·subst hk_k2
   refine wx tbk [] trivial ?_
   refine Qae ?_
   obtain rfl := osi h
   exact fend ⟨[I y1], ⟨rot (by kernel_rfl), trivial⟩, rfl⟩ nll
  ·skip
   refine wx tbk [(1, rp [(.tmp 5, (z16_0 p0))] (I ((p0.length : Int))))] ⟨alm (c := Qab) (l := p0) (aln rfl Try.underlying22 rfl), trivial⟩ ?_
   refine Qag ?_
   refine wmr (mto (n := 16) (l' := [(2, I 0), (5, (z16_0 p0)), (6, (I ((p0.length : Int)))), (7, I 0)]) (own' := []) [(2, I 0), (5, (z16_0 p0)), (6, (I ((p0.length : Int)))), (7, I 0)] [] [] hφ0 (pc rwl (pc (.rn (.plain _ (nld Qac _))) (pc rwl (pc rwl pn)))) qn) ?_
   refine Qca (τ := Int × Int) (fun n t => Qdb N p0 k2 n t.1 t.2 = some r) (fun ⟨y3, y4⟩ => ⟨mk 16 [(2, I y3), (5, (z16_0 p0)), (6, (I ((p0.length : Int)))), (7, I y4)], []⟩) (fun t h => by rw [Qdb] at h; cases h) (fun n7 ih t h => ?_) N (0, 0) h
   obtain ⟨y3, y4⟩ := t
   rw [Qdb] at h
   skip
   refine wx tbk [] trivial ?_
   refine wsq ?_
   rcases bft ((decide (y4 < (p0.length : Int)))) with hc8 | hc8
   ·replace h := Qaw hc8 h
    refine wft hc8 (by kernel_rfl) ?_
    refine Qak ?_
    refine thn ?_
    refine wsq ?_
    refine Qag ?_
    obtain ⟨x9, hg10, h⟩ := bno h
    obtain ⟨hi11, hj12⟩ := gsm hg10
    refine wx tbk [(0, rp [(.tmp 5, (z16_0 p0)), (.tmp 7, I y4)] (.dptr (Qab (x9)) 0))] ⟨aid rfl Try.underlying22 ti3 rfl rfl hi11 (mgt Qab hj12) rfl, trivial⟩ ?_
    refine wx1 tbk [] trivial ?_
    refine bln ?_
    refine thn ?_
    refine wx1 tbk [] trivial ?_
    refine thn ?_
    exact arm (mto (n := 16) [(2, (I (w64 (y3 + x9)))), (5, (z16_0 p0)), (6, (I ((p0.length : Int)))), (7, (I (w64 (y4 + 1))))] [] [] hφ0 (pc rwl (pc (.rn (.plain _ (nld Qac _))) (pc rwl (pc rwl pn)))) qn) (ih (w64 (y3 + x9), w64 (y4 + 1)) h)
   ·replace h := Qax hc8 h
    refine wfn hc8 (by kernel_rfl) ?_
    refine Qbk ?_
    refine Qav ?_
    refine Qav ?_
    refine Qbj rfl ?_
    refine thn ?_
    exact ⟨(y3), h, (mto (n := 16) [(2, I y3)] [] [] hφ0 (pc rwl pn) qn)⟩
def Qce (N : Nat) (p0 : Int) (p1 : Int) (p2 : Int) (k3 : Int × Int → Option GPortion) : Nat → Int → Int → Int → Option GPortion
  | 0, _, _, _ => none
  | n10 + 1, y4, y5, y6 =>
    bif (decide (y4 ≥ 0)) then
     Qcg (fun y12 =>
       chk (p2 != 0) <|
       chk (p2 != 0) <|
       Qce N p0 p1 p2 k3 n10 (w64 (y4 - 1)) (w64 ((w64 (2 * y5)) + (w64 (y12.tdiv p2)))) (y12.tmod p2)) fun k13 : Int → Option GPortion =>
     chk (decide (0 ≤ y4)) <|
     bif ((andI .i64 (p0 / 2 ^ min y4.toNat 64) 1) == 1) then
      k13 (w64 ((w64 (2 * y6)) + p1))
     else
      k13 (w64 (2 * y6))
    else
     k3 (y5, y6)
def Qf1 (N : Nat) (p0 : Int) (p1 : Int) (p2 : Int) : Option GPortion :=
  Qcg (fun ⟨y1, y2⟩ =>
    some (⟨y1, y2⟩ : GPortion)) fun k3 : Int × Int → Option GPortion =>
  Qce N p0 p1 p2 k3 N 39 0 0
theorem Qj0 (N : Nat) (p0 : Int) (p1 : Int) (p2 : Int) (r : GPortion) (h : Qf1 N p0 p1 p2 = some r) : Spec Try.prog 70 [(I p0), (I p1), (I p2)] [] (.agg (Qay r)) [] := by
  refine Qah Try.func70 rfl 0 (nle rfl) (fun X φ0 w0 hφ0 hd0 => ?_)
  unfold Qf1 at h
  refine wx tbk [] trivial ?_
  obtain ⟨k3, hk_k3, h⟩ := jko h
  refine wjn (τ := Int × Int) (fun t => k3 t = some r) (fun ⟨y1, y2⟩ => ⟨mk 44 [(6, .ref 0 2 0 0)], [(.own 2 [[I y1, I y2]])]⟩) (fun t h => ?_) ?_
  ·subst hk_k3
   obtain ⟨y1, y2⟩ := t
   refine wx tbk [] trivial ?_
   refine Qae ?_
   obtain rfl := osi h
   exact fend ⟨[(.agg [I y1, I y2])], ⟨resOK_cell (n := 0) (m := 2) (j := 0) (i := 0) (xs := [[I y1, I y2]]) (by kernel_rfl) (by kernel_rfl) ti161 (by decide) rfl (nle rfl) rfl, trivial⟩, rfl⟩ (NLt.agg _ (nlc nll (nlc nll nl0)))
  ·skip
   refine wx tbk [] trivial ?_
   refine Qag ?_
   refine wmr (mto (n := 44) (l' := [(0, I p0), (1, I p1), (2, I p2), (6, .ref 0 2 0 0), (7, I 39)]) (own' := [(.own 2 [[I 0, I 0]])]) [(0, I p0), (1, I p1), (2, I p2), (6, .ref 0 2 0 0), (7, I 39)] [0] [(.own 2 [[I 0, I 0]])] hφ0 (pc rwl (pc rwl (pc rwl (pc (.rn (rqr rfl)) (pc rwl pn))))) (qc (spb (lc rwl (lc rwl ln))) qn)) ?_
   refine Qca (τ := Int × Int × Int) (fun n t => Qce N p0 p1 p2 k3 n t.1 t.2.1 t.2.2 = some r) (fun ⟨y4, y5, y6⟩ => ⟨mk 44 [(0, I p0), (1, I p1), (2, I p2), (6, .ref 0 2 0 0), (7, I y4)], [(.own 2 [[I y5, I y6]])]⟩) (fun t h => by rw [Qce] at h; cases h) (fun n10 ih t h => ?_) N (39, 0, 0) h
   obtain ⟨y4, y5, y6⟩ := t
   rw [Qce] at h
   skip
   refine wsq ?_
   refine wx tbk [] trivial ?_
   rcases bft ((decide (y4 ≥ 0))) with hc11 | hc11
   ·replace h := Qaw hc11 h
    refine wft hc11 (by kernel_rfl) ?_
    refine Qak ?_
    refine thn ?_
    refine wsq ?_
    refine Qag ?_
    refine wx tbk [] trivial ?_
    obtain ⟨k13, hk_k13, h⟩ := jko h
    refine wjn (τ := Int) (fun t => k13 t = some r) (fun y12 => ⟨mk 44 [(0, I p0), (1, I p1), (2, I p2), (6, .ref 0 2 0 0), (7, I y4)], [(.own 2 [[(I (w64 (2 * y5))), I y12]])]⟩) (fun y12 h => ?_) ?_
    ·subst hk_k13
     obtain ⟨hz14, h⟩ := cko h
     refine wxd tbk [(5, rp [(.tmp 33, I y12), (.tmp 34, I p2)] (I (w64 (y12.tdiv p2))))] ⟨Qib rfl (bne_out hz14), trivial⟩ ?_
     obtain ⟨hz15, h⟩ := cko h
     refine wx1 tbk [(3, rp [(.tmp 39, I y12), (.tmp 40, I p2)] (I (y12.tmod p2)))] ⟨astep_rem rfl (bne_out hz15), trivial⟩ ?_
     refine bln ?_
     refine thn ?_
     refine wx1 tbk [] trivial ?_
     refine thn ?_
     exact arm (mto (n := 44) [(0, I p0), (1, I p1), (2, I p2), (6, .ref 0 2 0 0), (7, (I (w64 (y4 - 1))))] [0] [(.own 2 [[(I (w64 ((w64 (2 * y5)) + (w64 (y12.tdiv p2))))), I (y12.tmod p2)]])] hφ0 (pc rwl (pc rwl (pc rwl (pc (.rn (rqr rfl)) (pc rwl pn))))) (qc (spb (lc rwl (lc rwl ln))) qn)) (ih (w64 (y4 - 1), w64 ((w64 (2 * y5)) + (w64 (y12.tdiv p2))), y12.tmod p2) h)
    ·skip
     obtain ⟨hz16, h⟩ := cko h
     refine wx tbk [(2, rp [(.tmp 20, I p0), (.tmp 21, I y4)] (I (p0 / 2 ^ min y4.toNat 64))), (3, rp [(.tmp 22, I (p0 / 2 ^ min y4.toNat 64)), ci 1] (I (andI .i64 (p0 / 2 ^ min y4.toNat 64) 1)))] ⟨Qf7 rfl (of_decide_eq_true hz16) rfl, astep_and rfl, trivial⟩ ?_
     rcases bft (((andI .i64 (p0 / 2 ^ min y4.toNat 64) 1) == 1)) with hc17 | hc17
     ·replace h := Qaw hc17 h
      refine wft hc17 (by kernel_rfl) ?_
      refine wx1 tbk [] trivial ?_
      refine thn ?_
      exact ⟨(w64 ((w64 (2 * y6)) + p1)), h, (mto (n := 44) [(0, I p0), (1, I p1), (2, I p2), (6, .ref 0 2 0 0), (7, I y4)] [0] [(.own 2 [[(I (w64 (2 * y5))), (I (w64 ((w64 (2 * y6)) + p1)))]])] hφ0 (pc rwl (pc rwl (pc rwl (pc (.rn (rqr rfl)) (pc rwl pn))))) (qc (spb (lc rwl (lc rwl ln))) qn))⟩
     ·replace h := Qax hc17 h
      refine wfn hc17 (by kernel_rfl) ?_
      refine Qak ?_
      refine thn ?_
      exact ⟨(w64 (2 * y6)), h, (mto (n := 44) [(0, I p0), (1, I p1), (2, I p2), (6, .ref 0 2 0 0), (7, I y4)] [0] [(.own 2 [[(I (w64 (2 * y5))), (I (w64 (2 * y6)))]])] hφ0 (pc rwl (pc rwl (pc rwl (pc (.rn (rqr rfl)) (pc rwl pn))))) (qc (spb (lc rwl (lc rwl ln))) qn))⟩
   ·replace h := Qax hc11 h
    refine wfn hc11 (by kernel_rfl) ?_
    refine Qbk ?_
    refine Qav ?_
    refine Qav ?_
    refine Qbj rfl ?_
    refine thn ?_
    exact ⟨(y5, y6), h, (mto (n := 44) [(6, .ref 0 2 0 0)] [0] [(.own 2 [[I y5, I y6]])] hφ0 (pc (.rn (rqr rfl)) pn) (qc (spb (lc rwl (lc rwl ln))) qn))⟩
def Qea (_N : Nat) (p0 : GPortion) : Option Int :=
  some p0.left
theorem Qgj (N : Nat) (p0 : GPortion) (r : Int) (h : Qea N p0 = some r) : Spec Try.prog 72 [(.agg (Qay p0))] [] (I r) [] := by
  refine Qah Try.func72 rfl 0 (nle rfl) (fun X φ0 w0 hφ0 hd0 => ?_)
  unfold Qea at h
  refine wx tbk [] trivial ?_
  refine wx tbk [] trivial ?_
  refine Qae ?_
  obtain rfl := osi h
  exact fend ⟨[I p0.left], ⟨rot (by kernel_rfl), trivial⟩, rfl⟩ nll
def Qa0 (N : Nat) (p0 : Int) (p1 : Int) (p2 : (List GPortion)) : Option Int :=
  (getI p2 p0).bind fun x2 =>
  (Qea N x2).bind fun x7 =>
  (getI p2 p1).bind fun x8 =>
  (Qea N x8).bind fun x13 =>
  bif (decide (x7 > x13)) then
   some (-1)
  else
   bif (decide (x7 < x13)) then
    some 1
   else
    some 0
def z22_0 : Slot := .own 1 [[(.fn (.func 72) [] [])]]
def Qjy (p2 : (List GPortion)) : AV := .dat 2 ((p2 : List GPortion).map Qay)
theorem Qbz (N : Nat) (p0 : Int) (p1 : Int) (p2 : (List GPortion)) (r : Int) (h : Qa0 N p0 p1 p2 = some r) : Spec Try.prog 120 [(I (p0)), (I (p1)), (.ref 0 1 (0) 0), (.ref 1 1 (0) 0)] [z22_0, (.own 1 [[(Qjy p2)]])] (I (r)) [z22_0, (.own 1 [[(Qjy p2)]])] := by
  refine Qah Try.func120 rfl 2 (nle rfl) (fun X φ0 w0 hφ0 hd0 => ?_)
  unfold Qa0 at h
  refine Qcf ?_
  refine wx tbk [] trivial ?_
  refine wsq ?_
  obtain ⟨x2, hg3, h⟩ := bno h
  obtain ⟨hi4, hj5⟩ := gsm hg3
  obtain ⟨x7, hf6, h⟩ := bno h
  obtain ⟨x8, hg9, h⟩ := bno h
  obtain ⟨hi10, hj11⟩ := gsm hg9
  obtain ⟨x13, hf12, h⟩ := bno h
  refine wxd tbk [(3, rp [(.tmp 10, (Qjy p2)), (.tmp 11, I p0)] (.dptr (Qay (x2)) 0)), (5, rp [(.tmp 9, (.fn (.func 72) [] [])), (.tmp 13, (.agg [I x2.n, I x2.left]))] (I x7)), (9, rp [(.tmp 16, (Qjy p2)), (.tmp 17, I p1)] (.dptr (Qay (x8)) 0)), (11, rp [(.tmp 15, (.fn (.func 72) [] [])), (.tmp 19, (.agg [I x8.n, I x8.left]))] (I x13))] ⟨aid rfl Try.underlying159 ti161 rfl rfl hi4 (mgt Qay hj5) rfl, apc (first := []) (cap := []) (vs := [(.agg [I x2.n, I x2.left])]) rfl enter72 (Qgj N x2 _ hf6) rfl rfl (nlc (NLt.agg _ (nlc nll (nlc nll nl0))) nl0) nll rfl, aid rfl Try.underlying159 ti161 rfl rfl hi10 (mgt Qay hj11) rfl, apc (first := []) (cap := []) (vs := [(.agg [I x8.n, I x8.left])]) rfl enter72 (Qgj N x8 _ hf12) rfl rfl (nlc (NLt.agg _ (nlc nll (nlc nll nl0))) nl0) nll rfl, trivial⟩ ?_
  refine Qag ?_
  refine wx tbk [] trivial ?_
  rcases bft ((decide (x7 > x13))) with hc14 | hc14
  ·replace h := Qaw hc14 h
   refine wft hc14 (by kernel_rfl) ?_
   refine wx tbk [] trivial ?_
   refine wmr (mto (n := 29) (l' := [(6, (I ((-1))))]) (own' := [z22_0, (.own 1 [[(Qjy p2)]])]) [(6, (I ((-1))))] [0, 1] [z22_0, (.own 1 [[(Qjy p2)]])] hφ0 (pc rwl pn) (qc (spb (lc (.rn (Qal rn0 rn0)) ln)) (qc (spb (lc (.rn (.plain _ (nld Qaa _))) ln)) qn))) ?_
   refine Qae ?_
   refine Qao ?_
   refine Qaf ?_
   obtain rfl := osi h
   exact ⟨_, Mor.rfl, Qcm (vs := [(I ((-1)))]) ⟨rot (by kernel_rfl), trivial⟩ rfl (NLt.of0 nll) (by kernel_rfl) (Qan (Qa4 (nlc (NLt.of0 (NLt.fn _ _ _ nl0 nl0)) nl0)) (Qan (Qa4 (nlc (NLt.of0 (nld Qaa _)) nl0)) Qbl))⟩
  ·replace h := Qax hc14 h
   refine wfn hc14 (by kernel_rfl) ?_
   refine wx tbk [] trivial ?_
   rcases bft ((decide (x7 < x13))) with hc15 | hc15
   ·replace h := Qaw hc15 h
    refine wft hc15 (by kernel_rfl) ?_
    refine wx tbk [] trivial ?_
    refine wmr (mto (n := 29) (l' := [(6, I 1)]) (own' := [z22_0, (.own 1 [[(Qjy p2)]])]) [(6, I 1)] [0, 1] [z22_0, (.own 1 [[(Qjy p2)]])] hφ0 (pc rwl pn) (qc (spb (lc (.rn (Qal rn0 rn0)) ln)) (qc (spb (lc (.rn (.plain _ (nld Qaa _))) ln)) qn))) ?_
    refine Qae ?_
    refine Qao ?_
    refine Qaf ?_
    obtain rfl := osi h
    exact ⟨_, Mor.rfl, Qcm (vs := [I 1]) ⟨rot (by kernel_rfl), trivial⟩ rfl (NLt.of0 nll) (by kernel_rfl) (Qan (Qa4 (nlc (NLt.of0 (NLt.fn _ _ _ nl0 nl0)) nl0)) (Qan (Qa4 (nlc (NLt.of0 (nld Qaa _)) nl0)) Qbl))⟩
   ·replace h := Qax hc15 h
    refine wfn hc15 (by kernel_rfl) ?_
    refine Qak ?_
    refine bln ?_
    refine thn ?_
    refine wx tbk [] trivial ?_
    refine wmr (mto (n := 29) (l' := [(6, I 0)]) (own' := [z22_0, (.own 1 [[(Qjy p2)]])]) [(6, I 0)] [0, 1] [z22_0, (.own 1 [[(Qjy p2)]])] hφ0 (pc rwl pn) (qc (spb (lc (.rn (Qal rn0 rn0)) ln)) (qc (spb (lc (.rn (.plain _ (nld Qaa _))) ln)) qn))) ?_
    refine Qae ?_
    obtain rfl := osi h
    exact ⟨_, Mor.rfl, Qcm (vs := [I 0]) ⟨rot (by kernel_rfl), trivial⟩ rfl (NLt.of0 nll) (by kernel_rfl) (Qan (Qa4 (nlc (NLt.of0 (NLt.fn _ _ _ nl0 nl0)) nl0)) (Qan (Qa4 (nlc (NLt.of0 (nld Qaa _)) nl0)) Qbl))⟩
def Qat (N : Nat) (p0 : Nat) (p1 : Int) (p4 : (List GPortion)) (k9 : (List Int) → Option (List Int)) : Nat → Int → (List Int) → Option (List Int)
  | 0, _, _ => none
  | n14 + 1, y10, y11 =>
    Qcg (fun _ =>
      chk (decide (0 ≤ w64 (y10 - 1)) && decide ((w64 (y10 - 1)).toNat < p0)) <|
      (y11[(w64 (y10 - 1)).toNat]?).bind fun x17 =>
      chk (decide (0 ≤ y10) && decide (y10.toNat < p0)) <|
      (y11[y10.toNat]?).bind fun x20 =>
      chk (decide (0 ≤ y10) && decide (y10.toNat < p0)) <|
      (y11[y10.toNat]?).bind fun _ =>
      chk (decide (0 ≤ w64 (y10 - 1)) && decide ((w64 (y10 - 1)).toNat < p0)) <|
      ((y11.set y10.toNat x17)[(w64 (y10 - 1)).toNat]?).bind fun _ =>
      Qat N p0 p1 p4 k9 n14 (w64 (y10 - 1)) ((y11.set y10.toNat x17).set ((w64 (y10 - 1)).toNat) x20)) fun k15 : Unit → Option (List Int) =>
    bif (decide (y10 > p1)) then
     chk (decide (0 ≤ y10) && decide (y10.toNat < p0)) <|
     (y11[y10.toNat]?).bind fun x30 =>
     chk (decide (0 ≤ w64 (y10 - 1)) && decide ((w64 (y10 - 1)).toNat < p0)) <|
     (y11[(w64 (y10 - 1)).toNat]?).bind fun x33 =>
     (Qa0 N x30 x33 p4).bind fun x36 =>
     bif (decide (x36 < 0)) then
      k15 ()
     else
      k9 (y11)
    else
     k9 (y11)
def Qau (N : Nat) (p0 : Nat) (p1 : Int) (p2 : Int) (p4 : (List GPortion)) : Nat → Int → (List Int) → Option (List Int)
  | 0, _, _ => none
  | n6 + 1, y2, y3 =>
    bif (decide (y2 < p2)) then
     Qcg (fun y8 =>
       Qau N p0 p1 p2 p4 n6 (w64 (y2 + 1)) y8) fun k9 : (List Int) → Option (List Int) =>
     Qat N p0 p1 p4 k9 N y2 y3
    else
     some y3
def Qbi (N : Nat) (p0 : Nat) (p1 : Int) (p2 : Int) (p3 : (List Int)) (p4 : (List GPortion)) : Option (List Int) :=
  Qau N p0 p1 p2 p4 N (w64 (p1 + 1)) p3
def Qho : AV := .fn (.func 120) [] [(.ref 1 1 (0) 0), (.ref 2 1 (0) 0)]
def z21_1 (p3 : (List Int)) : Slot := .own 1 ((p3 : List Int).map Qab)
def Qgd : Slot := .own 1 [[(.fn (.func 72) [] [])]]
def Qgc (p4 : (List GPortion)) : AV := .dat 2 ((p4 : List GPortion).map Qay)
def z21_6 (y3 : (List Int)) : Slot := .own 1 ((y3 : List Int).map Qab)
def Qfv (y11 : (List Int)) : Slot := .own 1 ((y11 : List Int).map Qab)
theorem Qdd (N : Nat) (p0 : Nat) (p1 : Int) (p2 : Int) (p3 : (List Int)) (p4 : (List GPortion)) (r : (List Int)) (h : Qbi N p0 p1 p2 p3 p4 = some r) : Spec Try.prog 215 [(.own 0 1 (0) (p0)), (I (p1)), (I (p2)), Qho] [(z21_1 p3), Qgd, (.own 1 [[(Qgc p4)]])] (.tup []) [(.own 1 ((r : List Int).map Qab)), Qgd, (.own 1 [[(Qgc p4)]])] := by
  refine Qah Try.func215 rfl 3 (nle rfl) (fun X φ0 w0 hφ0 hd0 => ?_)
  unfold Qbi at h
  refine Qcf ?_
  refine wx tbk [] trivial ?_
  refine Qag ?_
  refine wmr (mto (n := 53) (l' := [(0, (.own 0 1 (0) (p0))), (1, I p1), (2, I p2), (3, Qho), (8, (I ((w64 (p1 + 1)))))]) (own' := [(z21_1 p3), Qgd, (.own 1 [[(Qgc p4)]])]) [(0, (.own 0 1 (0) (p0))), (1, I p1), (2, I p2), (3, Qho), (8, (I (w64 (p1 + 1))))] [0, 1, 2] [(z21_1 p3), Qgd, (.own 1 [[(Qgc p4)]])] hφ0 (pc (.rn (Qas rfl)) (pc rwl (pc rwl (pc (.rn (Qal rn0 (rnc (rqr rfl) (rnc (rqr rfl) rn0)))) (pc rwl pn))))) (qc (spr Qac) (qc (spb (lc (.rn (Qal rn0 rn0)) ln)) (qc (spb (lc (.rn (.plain _ (nld Qaa _))) ln)) qn)))) ?_
  refine Qca (τ := Int × (List Int)) (fun n t => Qau N p0 p1 p2 p4 n t.1 t.2 = some r) (fun ⟨y2, y3⟩ => ⟨mk 53 [(0, (.own 0 1 (0) (p0))), (1, I p1), (2, I p2), (3, Qho), (8, I y2)], [(z21_6 y3), Qgd, (.own 1 [[(Qgc p4)]])]⟩) (fun t h => by rw [Qau] at h; cases h) (fun n6 ih t h => ?_) N (w64 (p1 + 1), p3) h
  obtain ⟨y2, y3⟩ := t
  rw [Qau] at h
  skip
  refine wsq ?_
  refine wx tbk [] trivial ?_
  rcases bft ((decide (y2 < p2))) with hc7 | hc7
  ·replace h := Qaw hc7 h
   refine wft hc7 (by kernel_rfl) ?_
   refine Qak ?_
   refine thn ?_
   obtain ⟨k9, hk_k9, h⟩ := jko h
   refine wjn (τ := (List Int)) (fun t => k9 t = some r) (fun y8 => ⟨mk 53 [(0, (.own 0 1 (0) (p0))), (1, I p1), (2, I p2), (3, Qho), (8, I y2)], [(.own 1 ((y8 : List Int).map Qab)), Qgd, (.own 1 [[(Qgc p4)]])]⟩) (fun y8 h => ?_) ?_
   ·subst hk_k9
    refine wx1 tbk [] trivial ?_
    refine thn ?_
    exact arm (mto (n := 53) [(0, (.own 0 1 (0) (p0))), (1, I p1), (2, I p2), (3, Qho), (8, (I (w64 (y2 + 1))))] [0, 1, 2] [(.own 1 ((y8 : List Int).map Qab)), Qgd, (.own 1 [[(Qgc p4)]])] hφ0 (pc (.rn (Qas rfl)) (pc rwl (pc rwl (pc (.rn (Qal rn0 (rnc (rqr rfl) (rnc (rqr rfl) rn0)))) (pc rwl pn))))) (qc (spr Qac) (qc (spb (lc (.rn (Qal rn0 rn0)) ln)) (qc (spb (lc (.rn (.plain _ (nld Qaa _))) ln)) qn)))) (ih (w64 (y2 + 1), y8) h)
   ·skip
    refine Qag ?_
    refine wx tbk [] trivial ?_
    refine Qag ?_
    refine wmr (mto (n := 53) (l' := [(0, (.own 0 1 (0) (p0))), (1, I p1), (2, I p2), (3, Qho), (8, I y2), (9, I y2)]) (own' := [(z21_6 y3), Qgd, (.own 1 [[(Qgc p4)]])]) [(0, (.own 0 1 (0) (p0))), (1, I p1), (2, I p2), (3, Qho), (8, I y2), (9, I y2)] [0, 1, 2] [(z21_6 y3), Qgd, (.own 1 [[(Qgc p4)]])] hφ0 (pc (.rn (Qas rfl)) (pc rwl (pc rwl (pc (.rn (Qal rn0 (rnc (rqr rfl) (rnc (rqr rfl) rn0)))) (pc rwl (pc rwl pn)))))) (qc (spr Qac) (qc (spb (lc (.rn (Qal rn0 rn0)) ln)) (qc (spb (lc (.rn (.plain _ (nld Qaa _))) ln)) qn)))) ?_
    refine Qca (τ := Int × (List Int)) (fun n t => Qat N p0 p1 p4 k9 n t.1 t.2 = some r) (fun ⟨y10, y11⟩ => ⟨mk 53 [(0, (.own 0 1 (0) (p0))), (1, I p1), (2, I p2), (3, Qho), (8, I y2), (9, I y10)], [(Qfv y11), Qgd, (.own 1 [[(Qgc p4)]])]⟩) (fun t h => by rw [Qat] at h; cases h) (fun n14 ih t h => ?_) N (y2, y3) h
    obtain ⟨y10, y11⟩ := t
    rw [Qat] at h
    skip
    obtain ⟨k15, hk_k15, h⟩ := jko h
    refine wjn (τ := Unit) (fun t => k15 t = some r) (fun _ => ⟨mk 53 [(0, (.own 0 1 (0) (p0))), (1, I p1), (2, I p2), (3, Qho), (8, I y2), (9, I y10)], [(Qfv y11), Qgd, (.own 1 [[(Qgc p4)]])]⟩) (fun t h => ?_) ?_
    ·subst hk_k15
     refine wsq ?_
     refine Qag ?_
     obtain ⟨hi16, h⟩ := cko h
     obtain ⟨hi16a, hi16b⟩ := Qb4 hi16
     obtain ⟨x17, hg18, h⟩ := bno h
     obtain ⟨hi19, h⟩ := cko h
     obtain ⟨hi19a, hi19b⟩ := Qb4 hi19
     obtain ⟨x20, hg21, h⟩ := bno h
     obtain ⟨hi22, h⟩ := cko h
     obtain ⟨hi22a, hi22b⟩ := Qb4 hi22
     obtain ⟨x23, hg24, h⟩ := bno h
     obtain ⟨hi25, h⟩ := cko h
     obtain ⟨hi25a, hi25b⟩ := Qb4 hi25
     obtain ⟨x26, hg27, h⟩ := bno h
     refine wy1 tbk [(8, rb [(.tmp 42, (.own 0 1 (0) (p0))), (.tmp 44, (I (w64 (y10 - 1))))] [(0, (Qfv y11))] (.ref 0 1 ((w64 (y10 - 1)).toNat) 0)), (9, rb [(.tmp 45, (.ref 0 1 ((w64 (y10 - 1)).toNat) 0))] [(0, (Qfv y11))] (I x17)), (12, rb [(.tmp 47, (.own 0 1 (0) (p0))), (.tmp 48, I y10)] [(0, (Qfv y11))] (.ref 0 1 (y10.toNat) 0)), (13, rb [(.tmp 49, (.ref 0 1 (y10.toNat) 0))] [(0, (Qfv y11))] (I x20)), (14, rb [(.tmp 37, (.own 0 1 (0) (p0))), (.tmp 38, I y10)] [(0, (Qfv y11))] (.ref 0 1 (y10.toNat) 0)), (15, ⟨[(.tmp 51, (.ref 0 1 (y10.toNat) 0)), (.tmp 46, I x17)], [(0, (Qfv y11))], .any, [(0, (.own 1 ((y11.set y10.toNat x17 : List Int).map Qab)))], false⟩), (16, rb [(.tmp 39, (.own 0 1 (0) (p0))), (.tmp 41, (I (w64 (y10 - 1))))] [(0, (.own 1 ((y11.set y10.toNat x17 : List Int).map Qab)))] (.ref 0 1 ((w64 (y10 - 1)).toNat) 0)), (17, ⟨[(.tmp 52, (.ref 0 1 ((w64 (y10 - 1)).toNat) 0)), (.tmp 50, I x20)], [(0, (.own 1 ((y11.set y10.toNat x17 : List Int).map Qab)))], .any, [(0, (.own 1 (((y11.set y10.toNat x17).set ((w64 (y10 - 1)).toNat) x20 : List Int).map Qab)))], false⟩)] ⟨aio rfl Try.underlying22 ti3 (odt hi16a) (odt hi16b) (Nat.zero_add _), ald rfl ti3 (by decide) (mgt Qab hg18) (nle rfl) rfl, aio rfl Try.underlying22 ti3 (odt hi19a) (odt hi19b) (Nat.zero_add _), ald rfl ti3 (by decide) (mgt Qab hg21) (nle rfl) rfl, aio rfl Try.underlying22 ti3 (odt hi22a) (odt hi22b) (Nat.zero_add _), ast rfl ti3 (by rfl) (mgt Qab hg24) (nle rfl) (Qe5 Qab rfl), aio rfl Try.underlying22 ti3 (odt hi25a) (odt hi25b) (Nat.zero_add _), ast rfl ti3 (by rfl) (mgt Qab hg27) (nle rfl) (Qe5 Qab rfl), trivial⟩ ?_
     refine bln ?_
     refine thn ?_
     refine wx1 tbk [] trivial ?_
     refine thn ?_
     exact arm (mto (n := 53) [(0, (.own 0 1 (0) (p0))), (1, I p1), (2, I p2), (3, Qho), (8, I y2), (9, (I (w64 (y10 - 1))))] [0, 1, 2] [(.own 1 (((y11.set y10.toNat x17).set ((w64 (y10 - 1)).toNat) x20 : List Int).map Qab)), Qgd, (.own 1 [[(Qgc p4)]])] hφ0 (pc (.rn (Qas rfl)) (pc rwl (pc rwl (pc (.rn (Qal rn0 (rnc (rqr rfl) (rnc (rqr rfl) rn0)))) (pc rwl (pc rwl pn)))))) (qc (spr Qac) (qc (spb (lc (.rn (Qal rn0 rn0)) ln)) (qc (spb (lc (.rn (.plain _ (nld Qaa _))) ln)) qn)))) (ih (w64 (y10 - 1), (y11.set y10.toNat x17).set ((w64 (y10 - 1)).toNat) x20) h)
    ·skip
     rcases bft ((decide (y10 > p1))) with hb28 | hb28
     ·replace h := Qaw hb28 h
      obtain ⟨hi29, h⟩ := cko h
      obtain ⟨hi29a, hi29b⟩ := Qb4 hi29
      obtain ⟨x30, hg31, h⟩ := bno h
      obtain ⟨hi32, h⟩ := cko h
      obtain ⟨hi32a, hi32b⟩ := Qb4 hi32
      obtain ⟨x33, hg34, h⟩ := bno h
      obtain ⟨x36, hf35, h⟩ := bno h
      refine wxd tbk [(3, rp [(.tmp 20, (B ((decide (y10 > p1)))))] (B true)), (7, rb [(.tmp 21, B true), (.tmp 23, (.own 0 1 (0) (p0))), (.tmp 24, I y10)] [(0, (Qfv y11))] (.ref 0 1 (y10.toNat) 0)), (8, rb [(.tmp 21, B true), (.tmp 25, (.ref 0 1 (y10.toNat) 0))] [(0, (Qfv y11))] (I x30)), (12, rb [(.tmp 21, B true), (.tmp 27, (.own 0 1 (0) (p0))), (.tmp 29, (I (w64 (y10 - 1))))] [(0, (Qfv y11))] (.ref 0 1 ((w64 (y10 - 1)).toNat) 0)), (13, rb [(.tmp 21, B true), (.tmp 30, (.ref 0 1 ((w64 (y10 - 1)).toNat) 0))] [(0, (Qfv y11))] (I x33)), (14, ⟨[(.tmp 21, B true), (.tmp 22, Qho), (.tmp 26, I x30), (.tmp 31, I x33)], [(1, Qgd), (2, (.own 1 [[(Qgc p4)]]))], I x36, [(1, Qgd), (2, (.own 1 [[(Qgc p4)]]))], false⟩)] ⟨asb hb28 (amv rfl), ag_ (aio rfl Try.underlying22 ti3 (odt hi29a) (odt hi29b) (Nat.zero_add _)), ag_ (ald rfl ti3 (by decide) (mgt Qab hg31) (nle rfl) rfl), ag_ (aio rfl Try.underlying22 ti3 (odt hi32a) (odt hi32b) (Nat.zero_add _)), ag_ (ald rfl ti3 (by decide) (mgt Qab hg34) (nle rfl) rfl), ag_ (Qaq (first := []) (cap := [.ref 1 1 0 0, .ref 2 1 0 0]) (vs := [I x30, I x33]) (σr := [Qgd, (.own 1 [[(Qgc p4)]])]) (σr' := [Qgd, (.own 1 [[(Qgc p4)]])]) (res' := (I x36)) [1, 2] rfl Qiy (Qbz N x30 x33 p4 _ hf35) rfl (Qcu (rnc (.plain _ nll) (rnc (.plain _ nll) (rnc (Qba rfl) (rnc (Qba rfl) rn0))))) (slc (Qaj (rnc (.plain _ (NLt.fn _ _ _ nl0 nl0)) rn0)) (slc (Qaj (rnc (.plain _ (nld Qaa _)) rn0)) Qap)) (slc (Qaj (rnc (.plain _ (NLt.fn _ _ _ nl0 nl0)) rn0)) (slc (Qaj (rnc (.plain _ (nld Qaa _)) rn0)) Qap)) (.plain _ nll) rfl rfl rfl), trivial⟩ ?_
      rcases bft ((decide (x36 < 0))) with hc37 | hc37
      ·replace h := Qaw hc37 h
       refine wft hc37 (by kernel_rfl) ?_
       refine Qak ?_
       refine thn ?_
       exact ⟨(), h, (mto (n := 53) [(0, (.own 0 1 (0) (p0))), (1, I p1), (2, I p2), (3, Qho), (8, I y2), (9, I y10)] [0, 1, 2] [(Qfv y11), Qgd, (.own 1 [[(Qgc p4)]])] hφ0 (pc (.rn (Qas rfl)) (pc rwl (pc rwl (pc (.rn (Qal rn0 (rnc (rqr rfl) (rnc (rqr rfl) rn0)))) (pc rwl (pc rwl pn)))))) (qc (spr Qac) (qc (spb (lc (.rn (Qal rn0 rn0)) ln)) (qc (spb (lc (.rn (.plain _ (nld Qaa _))) ln)) qn))))⟩
      ·replace h := Qax hc37 h
       refine wfn hc37 (by kernel_rfl) ?_
       refine Qbk ?_
       refine Qav ?_
       refine Qav ?_
       refine Qbj rfl ?_
       refine bln ?_
       refine thn ?_
       exact ⟨(y11), h, (mto (n := 53) [(0, (.own 0 1 (0) (p0))), (1, I p1), (2, I p2), (3, Qho), (8, I y2)] [0, 1, 2] [(Qfv y11), Qgd, (.own 1 [[(Qgc p4)]])] hφ0 (pc (.rn (Qas rfl)) (pc rwl (pc rwl (pc (.rn (Qal rn0 (rnc (rqr rfl) (rnc (rqr rfl) rn0)))) (pc rwl pn))))) (qc (spr Qac) (qc (spb (lc (.rn (Qal rn0 rn0)) ln)) (qc (spb (lc (.rn (.plain _ (nld Qaa _))) ln)) qn))))⟩
     ·replace h := Qax hb28 h
      refine wxd tbk [(3, rp [(.tmp 20, (B ((decide (y10 > p1)))))] (B false))] ⟨asb hb28 (amv rfl), trivial⟩ ?_
      refine Qeb (by kernel_rfl) ?_
      refine Qbk ?_
      refine Qav ?_
      refine Qav ?_
      refine Qbj rfl ?_
      refine bln ?_
      refine thn ?_
      exact ⟨(y11), h, (mto (n := 53) [(0, (.own 0 1 (0) (p0))), (1, I p1), (2, I p2), (3, Qho), (8, I y2)] [0, 1, 2] [(Qfv y11), Qgd, (.own 1 [[(Qgc p4)]])] hφ0 (pc (.rn (Qas rfl)) (pc rwl (pc rwl (pc (.rn (Qal rn0 (rnc (rqr rfl) (rnc (rqr rfl) rn0)))) (pc rwl pn))))) (qc (spr Qac) (qc (spb (lc (.rn (Qal rn0 rn0)) ln)) (qc (spb (lc (.rn (.plain _ (nld Qaa _))) ln)) qn))))⟩
  ·replace h := Qax hc7 h
   refine wfn hc7 (by kernel_rfl) ?_
   refine Qbk ?_
   refine Qav ?_
   refine Qav ?_
   refine Qbj rfl ?_
   obtain rfl := osi h
   exact ⟨_, (mto (n := 53) (l' := []) (own' := [(z21_6 y3), Qgd, (.own 1 [[(Qgc p4)]])]) [] [0, 1, 2] [(z21_6 y3), Qgd, (.own 1 [[(Qgc p4)]])] hφ0 pn (qc (spr Qac) (qc (spb (lc (.rn (Qal rn0 rn0)) ln)) (qc (spb (lc (.rn (.plain _ (nld Qaa _))) ln)) qn)))), Qcm (vs := []) trivial rfl (NLt.tup _ nl0) (by kernel_rfl) (Qan (Qe4 Qac _) (Qan (Qa4 (nlc (NLt.of0 (NLt.fn _ _ _ nl0 nl0)) nl0)) (Qan (Qa4 (nlc (NLt.of0 (nld Qaa _)) nl0)) Qbl)))⟩
def Qbd (N : Nat) (p0 : Nat) (p1 : Int) (p2 : Int) (p3 : Int) : Nat → Int → (List Int) → Option (List Int)
  | 0, _, _ => none
  | n6 + 1, y2, y3 =>
    bif (decide (y2 < p3)) then
     chk (decide (0 ≤ w64 (p2 + y2)) && decide ((w64 (p2 + y2)).toNat < p0)) <|
     (y3[(w64 (p2 + y2)).toNat]?).bind fun x9 =>
     chk (decide (0 ≤ w64 (p1 + y2)) && decide ((w64 (p1 + y2)).toNat < p0)) <|
     (y3[(w64 (p1 + y2)).toNat]?).bind fun x12 =>
     chk (decide (0 ≤ w64 (p1 + y2)) && decide ((w64 (p1 + y2)).toNat < p0)) <|
     (y3[(w64 (p1 + y2)).toNat]?).bind fun _ =>
     chk (decide (0 ≤ w64 (p2 + y2)) && decide ((w64 (p2 + y2)).toNat < p0)) <|
     ((y3.set ((w64 (p1 + y2)).toNat) x9)[(w64 (p2 + y2)).toNat]?).bind fun _ =>
     Qbd N p0 p1 p2 p3 n6 (w64 (y2 + 1)) ((y3.set ((w64 (p1 + y2)).toNat) x9).set ((w64 (p2 + y2)).toNat) x12)
    else
     some y3
def Qbt (N : Nat) (p0 : Nat) (p1 : Int) (p2 : Int) (p3 : Int) (p4 : (List Int)) (_p5 : (List GPortion)) : Option (List Int) :=
  Qbd N p0 p1 p2 p3 N 0 p4
def z26_0 (p4 : (List Int)) : Slot := .own 1 ((p4 : List Int).map Qab)
def z26_6 : Slot := .own 1 [[(.fn (.func 72) [] [])]]
def z26_7 (p5 : (List GPortion)) : AV := .dat 2 ((p5 : List GPortion).map Qay)
def Qhz (y3 : (List Int)) : Slot := .own 1 ((y3 : List Int).map Qab)
def z26_16 (y3 : (List Int)) (p1 : Int) (y2 : Int) (x9 : Int) : Slot := .own 1 ((y3.set ((w64 (p1 + y2)).toNat) x9 : List Int).map Qab)
theorem Qcy (N : Nat) (p0 : Nat) (p1 : Int) (p2 : Int) (p3 : Int) (p4 : (List Int)) (p5 : (List GPortion)) (r : (List Int)) (h : Qbt N p0 p1 p2 p3 p4 p5 = some r) : Spec Try.prog 242 [(.own 0 1 (0) (p0)), (I (p1)), (I (p2)), (I (p3)), (.fn (.func 120) [] [(.ref 1 1 (0) 0), (.ref 2 1 (0) 0)])] [(z26_0 p4), z26_6, (.own 1 [[(z26_7 p5)]])] (.tup []) [(.own 1 ((r : List Int).map Qab)), z26_6, (.own 1 [[(z26_7 p5)]])] := by
  refine Qah Try.func242 rfl 3 (nle rfl) (fun X φ0 w0 hφ0 hd0 => ?_)
  unfold Qbt at h
  refine Qcf ?_
  refine wx tbk [] trivial ?_
  refine Qag ?_
  refine wmr (mto (n := 38) (l' := [(0, (.own 0 1 (0) (p0))), (1, I p1), (2, I p2), (3, I p3), (10, I 0)]) (own' := [(z26_0 p4), z26_6, (.own 1 [[(z26_7 p5)]])]) [(0, (.own 0 1 (0) (p0))), (1, I p1), (2, I p2), (3, I p3), (10, I 0)] [0, 1, 2] [(z26_0 p4), z26_6, (.own 1 [[(z26_7 p5)]])] hφ0 (pc (.rn (Qas rfl)) (pc rwl (pc rwl (pc rwl (pc rwl pn))))) (qc (spr Qac) (qc (spb (lc (.rn (Qal rn0 rn0)) ln)) (qc (spb (lc (.rn (.plain _ (nld Qaa _))) ln)) qn)))) ?_
  refine Qca (τ := Int × (List Int)) (fun n t => Qbd N p0 p1 p2 p3 n t.1 t.2 = some r) (fun ⟨y2, y3⟩ => ⟨mk 38 [(0, (.own 0 1 (0) (p0))), (1, I p1), (2, I p2), (3, I p3), (10, I y2)], [(Qhz y3), z26_6, (.own 1 [[(z26_7 p5)]])]⟩) (fun t h => by rw [Qbd] at h; cases h) (fun n6 ih t h => ?_) N (0, p4) h
  obtain ⟨y2, y3⟩ := t
  rw [Qbd] at h
  skip
  refine wsq ?_
  refine wx tbk [] trivial ?_
  rcases bft ((decide (y2 < p3))) with hc7 | hc7
  ·replace h := Qaw hc7 h
   refine wft hc7 (by kernel_rfl) ?_
   refine Qak ?_
   refine thn ?_
   refine wsq ?_
   refine Qag ?_
   obtain ⟨hi8, h⟩ := cko h
   obtain ⟨hi8a, hi8b⟩ := Qb4 hi8
   obtain ⟨x9, hg10, h⟩ := bno h
   obtain ⟨hi11, h⟩ := cko h
   obtain ⟨hi11a, hi11b⟩ := Qb4 hi11
   obtain ⟨x12, hg13, h⟩ := bno h
   obtain ⟨hi14, h⟩ := cko h
   obtain ⟨hi14a, hi14b⟩ := Qb4 hi14
   obtain ⟨x15, hg16, h⟩ := bno h
   obtain ⟨hi17, h⟩ := cko h
   obtain ⟨hi17a, hi17b⟩ := Qb4 hi17
   obtain ⟨x18, hg19, h⟩ := bno h
   refine wy1 tbk [(12, rb [(.tmp 24, (.own 0 1 (0) (p0))), (.tmp 27, (I (w64 (p2 + y2))))] [(0, (Qhz y3))] (.ref 0 1 ((w64 (p2 + y2)).toNat) 0)), (13, rb [(.tmp 28, (.ref 0 1 ((w64 (p2 + y2)).toNat) 0))] [(0, (Qhz y3))] (I x9)), (18, rb [(.tmp 30, (.own 0 1 (0) (p0))), (.tmp 33, (I (w64 (p1 + y2))))] [(0, (Qhz y3))] (.ref 0 1 ((w64 (p1 + y2)).toNat) 0)), (19, rb [(.tmp 34, (.ref 0 1 ((w64 (p1 + y2)).toNat) 0))] [(0, (Qhz y3))] (I x12)), (20, rb [(.tmp 16, (.own 0 1 (0) (p0))), (.tmp 19, (I (w64 (p1 + y2))))] [(0, (Qhz y3))] (.ref 0 1 ((w64 (p1 + y2)).toNat) 0)), (21, ⟨[(.tmp 36, (.ref 0 1 ((w64 (p1 + y2)).toNat) 0)), (.tmp 29, I x9)], [(0, (Qhz y3))], .any, [(0, (z26_16 y3 p1 y2 x9))], false⟩), (22, rb [(.tmp 20, (.own 0 1 (0) (p0))), (.tmp 23, (I (w64 (p2 + y2))))] [(0, (z26_16 y3 p1 y2 x9))] (.ref 0 1 ((w64 (p2 + y2)).toNat) 0)), (23, ⟨[(.tmp 37, (.ref 0 1 ((w64 (p2 + y2)).toNat) 0)), (.tmp 35, I x12)], [(0, (z26_16 y3 p1 y2 x9))], .any, [(0, (.own 1 (((y3.set ((w64 (p1 + y2)).toNat) x9).set ((w64 (p2 + y2)).toNat) x12 : List Int).map Qab)))], false⟩)] ⟨aio rfl Try.underlying22 ti3 (odt hi8a) (odt hi8b) (Nat.zero_add _), ald rfl ti3 (by decide) (mgt Qab hg10) (nle rfl) rfl, aio rfl Try.underlying22 ti3 (odt hi11a) (odt hi11b) (Nat.zero_add _), ald rfl ti3 (by decide) (mgt Qab hg13) (nle rfl) rfl, aio rfl Try.underlying22 ti3 (odt hi14a) (odt hi14b) (Nat.zero_add _), ast rfl ti3 (by rfl) (mgt Qab hg16) (nle rfl) (Qe5 Qab rfl), aio rfl Try.underlying22 ti3 (odt hi17a) (odt hi17b) (Nat.zero_add _), ast rfl ti3 (by rfl) (mgt Qab hg19) (nle rfl) (Qe5 Qab rfl), trivial⟩ ?_
   refine bln ?_
   refine thn ?_
   refine wx1 tbk [] trivial ?_
   refine thn ?_
   exact arm (mto (n := 38) [(0, (.own 0 1 (0) (p0))), (1, I p1), (2, I p2), (3, I p3), (10, (I (w64 (y2 + 1))))] [0, 1, 2] [(.own 1 (((y3.set ((w64 (p1 + y2)).toNat) x9).set ((w64 (p2 + y2)).toNat) x12 : List Int).map Qab)), z26_6, (.own 1 [[(z26_7 p5)]])] hφ0 (pc (.rn (Qas rfl)) (pc rwl (pc rwl (pc rwl (pc rwl pn))))) (qc (spr Qac) (qc (spb (lc (.rn (Qal rn0 rn0)) ln)) (qc (spb (lc (.rn (.plain _ (nld Qaa _))) ln)) qn)))) (ih (w64 (y2 + 1), (y3.set ((w64 (p1 + y2)).toNat) x9).set ((w64 (p2 + y2)).toNat) x12) h)
  ·replace h := Qax hc7 h
   refine wfn hc7 (by kernel_rfl) ?_
   refine Qbk ?_
   refine Qav ?_
   refine Qav ?_
   refine Qbj rfl ?_
   obtain rfl := osi h
   exact ⟨_, (mto (n := 38) (l' := []) (own' := [(Qhz y3), z26_6, (.own 1 [[(z26_7 p5)]])]) [] [0, 1, 2] [(Qhz y3), z26_6, (.own 1 [[(z26_7 p5)]])] hφ0 pn (qc (spr Qac) (qc (spb (lc (.rn (Qal rn0 rn0)) ln)) (qc (spb (lc (.rn (.plain _ (nld Qaa _))) ln)) qn)))), Qcm (vs := []) trivial rfl (NLt.tup _ nl0) (by kernel_rfl) (Qan (Qe4 Qac _) (Qan (Qa4 (nlc (NLt.of0 (NLt.fn _ _ _ nl0 nl0)) nl0)) (Qan (Qa4 (nlc (NLt.of0 (nld Qaa _)) nl0)) Qbl)))⟩
def Qa9 (N : Nat) (p0 : Nat) (p2 : Int) (k4 : Int × (List Int) → Option (List Int)) (p5 : (List GPortion)) : Nat → Int → Int → (List Int) → Option (List Int)
  | 0, _, _, _ => none
  | n13 + 1, y7, y8, y9 =>
    bif (y7 != y8) then
     bif (decide (y7 > y8)) then
      (Qbt N p0 (w64 (p2 - y7)) p2 y8 y9 p5).bind fun x17 =>
      Qa9 N p0 p2 k4 p5 n13 (w64 (y7 - y8)) y8 x17
     else
      (Qbt N p0 (w64 (p2 - y7)) (w64 ((w64 (p2 + y8)) - y7)) y7 y9 p5).bind fun x19 =>
      Qa9 N p0 p2 k4 p5 n13 y7 (w64 (y8 - y7)) x19
    else
     k4 (y7, y9)
def Qdh (N : Nat) (p0 : Nat) (p1 : Int) (p2 : Int) (p3 : Int) (p4 : (List Int)) (p5 : (List GPortion)) : Option (List Int) :=
  Qcg (fun ⟨y2, y3⟩ =>
    (Qbt N p0 (w64 (p2 - y2)) p2 y2 y3 p5).bind fun x6 =>
    some x6) fun k4 : Int × (List Int) → Option (List Int) =>
  Qa9 N p0 p2 k4 p5 N (w64 (p2 - p1)) (w64 (p3 - p2)) p4
def Qh0 : AV := .fn (.func 120) [] [(.ref 1 1 (0) 0), (.ref 2 1 (0) 0)]
def z25_1 (p4 : (List Int)) : Slot := .own 1 ((p4 : List Int).map Qab)
def Qfu : Slot := .own 1 [[(.fn (.func 72) [] [])]]
def Qft (p5 : (List GPortion)) : AV := .dat 2 ((p5 : List GPortion).map Qay)
def z25_6 (y3 : (List Int)) : Slot := .own 1 ((y3 : List Int).map Qab)
def z25_20 (x6 : (List Int)) : Slot := .own 1 ((x6 : List Int).map Qab)
def Qj3 (y9 : (List Int)) : Slot := .own 1 ((y9 : List Int).map Qab)
theorem Qfb (N : Nat) (p0 : Nat) (p1 : Int) (p2 : Int) (p3 : Int) (p4 : (List Int)) (p5 : (List GPortion)) (r : (List Int)) (h : Qdh N p0 p1 p2 p3 p4 p5 = some r) : Spec Try.prog 234 [(.own 0 1 (0) (p0)), (I (p1)), (I (p2)), (I (p3)), Qh0] [(z25_1 p4), Qfu, (.own 1 [[(Qft p5)]])] (.tup []) [(.own 1 ((r : List Int).map Qab)), Qfu, (.own 1 [[(Qft p5)]])] := by
  refine Qah Try.func234 rfl 3 (nle rfl) (fun X φ0 w0 hφ0 hd0 => ?_)
  unfold Qdh at h
  refine Qcf ?_
  refine wx tbk [] trivial ?_
  refine wx tbk [] trivial ?_
  obtain ⟨k4, hk_k4, h⟩ := jko h
  refine wjn (τ := Int × (List Int)) (fun t => k4 t = some r) (fun ⟨y2, y3⟩ => ⟨mk 58 [(0, (.own 0 1 (0) (p0))), (2, I p2), (4, Qh0), (10, I y2)], [(z25_6 y3), Qfu, (.own 1 [[(Qft p5)]])]⟩) (fun t h => ?_) ?_
  ·subst hk_k4
   obtain ⟨y2, y3⟩ := t
   obtain ⟨x6, hf5, h⟩ := bno h
   refine wx1 tbk [(7, ⟨[fu 242, (.tmp 50, (.own 0 1 (0) (p0))), (.tmp 53, (I (w64 (p2 - y2)))), (.tmp 54, I p2), (.tmp 55, I y2), (.tmp 56, Qh0)], [(0, (z25_6 y3)), (1, Qfu), (2, (.own 1 [[(Qft p5)]]))], (.tup []), [(0, (z25_20 x6)), (1, Qfu), (2, (.own 1 [[(Qft p5)]]))], false⟩)] ⟨Qaq (first := []) (cap := []) (vs := [(.own 0 1 (0) (p0)), (I (w64 (p2 - y2))), I p2, I y2, Qh0]) (σr := [(z25_6 y3), Qfu, (.own 1 [[(Qft p5)]])]) (σr' := [(z25_20 x6), Qfu, (.own 1 [[(Qft p5)]])]) (res' := (.tup [])) [0, 1, 2] rfl Qla (Qcy N p0 (w64 (p2 - y2)) p2 y2 y3 p5 _ hf5) rfl (Qcu (rnc (Qe6 rfl) (rnc (.plain _ nll) (rnc (.plain _ nll) (rnc (.plain _ nll) (rnc (Qal rn0 (rnc (Qba rfl) (rnc (Qba rfl) rn0))) rn0)))))) (slc (Qc6 Qac) (slc (Qaj (rnc (.plain _ (NLt.fn _ _ _ nl0 nl0)) rn0)) (slc (Qaj (rnc (.plain _ (nld Qaa _)) rn0)) Qap))) (slc (Qc6 Qac) (slc (Qaj (rnc (.plain _ (NLt.fn _ _ _ nl0 nl0)) rn0)) (slc (Qaj (rnc (.plain _ (nld Qaa _)) rn0)) Qap))) (.plain _ (NLt.tup _ nl0)) rfl rfl rfl, trivial⟩ ?_
   obtain rfl := osi h
   exact ⟨_, (mto (n := 58) (l' := []) (own' := [(z25_20 x6), Qfu, (.own 1 [[(Qft p5)]])]) [] [0, 1, 2] [(z25_20 x6), Qfu, (.own 1 [[(Qft p5)]])] hφ0 pn (qc (spr Qac) (qc (spb (lc (.rn (Qal rn0 rn0)) ln)) (qc (spb (lc (.rn (.plain _ (nld Qaa _))) ln)) qn)))), Qcm (vs := []) trivial rfl (NLt.tup _ nl0) (by kernel_rfl) (Qan (Qe4 Qac _) (Qan (Qa4 (nlc (NLt.of0 (NLt.fn _ _ _ nl0 nl0)) nl0)) (Qan (Qa4 (nlc (NLt.of0 (nld Qaa _)) nl0)) Qbl)))⟩
  ·skip
   refine Qag ?_
   refine wmr (mto (n := 58) (l' := [(0, (.own 0 1 (0) (p0))), (2, I p2), (4, Qh0), (10, (I ((w64 (p2 - p1))))), (11, (I ((w64 (p3 - p2)))))]) (own' := [(z25_1 p4), Qfu, (.own 1 [[(Qft p5)]])]) [(0, (.own 0 1 (0) (p0))), (2, I p2), (4, Qh0), (10, (I (w64 (p2 - p1)))), (11, (I (w64 (p3 - p2))))] [0, 1, 2] [(z25_1 p4), Qfu, (.own 1 [[(Qft p5)]])] hφ0 (pc (.rn (Qas rfl)) (pc rwl (pc (.rn (Qal rn0 (rnc (rqr rfl) (rnc (rqr rfl) rn0)))) (pc rwl (pc rwl pn))))) (qc (spr Qac) (qc (spb (lc (.rn (Qal rn0 rn0)) ln)) (qc (spb (lc (.rn (.plain _ (nld Qaa _))) ln)) qn)))) ?_
   refine Qca (τ := Int × Int × (List Int)) (fun n t => Qa9 N p0 p2 k4 p5 n t.1 t.2.1 t.2.2 = some r) (fun ⟨y7, y8, y9⟩ => ⟨mk 58 [(0, (.own 0 1 (0) (p0))), (2, I p2), (4, Qh0), (10, I y7), (11, I y8)], [(Qj3 y9), Qfu, (.own 1 [[(Qft p5)]])]⟩) (fun t h => by rw [Qa9] at h; cases h) (fun n13 ih t h => ?_) N (w64 (p2 - p1), w64 (p3 - p2), p4) h
   obtain ⟨y7, y8, y9⟩ := t
   rw [Qa9] at h
   skip
   refine wsq ?_
   refine wx tbk [] trivial ?_
   rcases bft ((y7 != y8)) with hc14 | hc14
   ·replace h := Qaw hc14 h
    refine wft hc14 (by kernel_rfl) ?_
    refine Qak ?_
    refine thn ?_
    refine Qag ?_
    refine wx tbk [] trivial ?_
    rcases bft ((decide (y7 > y8))) with hc15 | hc15
    ·replace h := Qaw hc15 h
     refine wft hc15 (by kernel_rfl) ?_
     obtain ⟨x17, hf16, h⟩ := bno h
     refine wx tbk [(7, ⟨[fu 242, (.tmp 24, (.own 0 1 (0) (p0))), (.tmp 27, (I (w64 (p2 - y7)))), (.tmp 28, I p2), (.tmp 29, I y8), (.tmp 30, Qh0)], [(0, (Qj3 y9)), (1, Qfu), (2, (.own 1 [[(Qft p5)]]))], (.tup []), [(0, (.own 1 ((x17 : List Int).map Qab))), (1, Qfu), (2, (.own 1 [[(Qft p5)]]))], false⟩)] ⟨Qaq (first := []) (cap := []) (vs := [(.own 0 1 (0) (p0)), (I (w64 (p2 - y7))), I p2, I y8, Qh0]) (σr := [(Qj3 y9), Qfu, (.own 1 [[(Qft p5)]])]) (σr' := [(.own 1 ((x17 : List Int).map Qab)), Qfu, (.own 1 [[(Qft p5)]])]) (res' := (.tup [])) [0, 1, 2] rfl Qla (Qcy N p0 (w64 (p2 - y7)) p2 y8 y9 p5 _ hf16) rfl (Qcu (rnc (Qe6 rfl) (rnc (.plain _ nll) (rnc (.plain _ nll) (rnc (.plain _ nll) (rnc (Qal rn0 (rnc (Qba rfl) (rnc (Qba rfl) rn0))) rn0)))))) (slc (Qc6 Qac) (slc (Qaj (rnc (.plain _ (NLt.fn _ _ _ nl0 nl0)) rn0)) (slc (Qaj (rnc (.plain _ (nld Qaa _)) rn0)) Qap))) (slc (Qc6 Qac) (slc (Qaj (rnc (.plain _ (NLt.fn _ _ _ nl0 nl0)) rn0)) (slc (Qaj (rnc (.plain _ (nld Qaa _)) rn0)) Qap))) (.plain _ (NLt.tup _ nl0)) rfl rfl rfl, trivial⟩ ?_
     refine wx1 tbk [] trivial ?_
     refine bln ?_
     refine thn ?_
     exact arm (mto (n := 58) [(0, (.own 0 1 (0) (p0))), (2, I p2), (4, Qh0), (10, (I (w64 (y7 - y8)))), (11, I y8)] [0, 1, 2] [(.own 1 ((x17 : List Int).map Qab)), Qfu, (.own 1 [[(Qft p5)]])] hφ0 (pc (.rn (Qas rfl)) (pc rwl (pc (.rn (Qal rn0 (rnc (rqr rfl) (rnc (rqr rfl) rn0)))) (pc rwl (pc rwl pn))))) (qc (spr Qac) (qc (spb (lc (.rn (Qal rn0 rn0)) ln)) (qc (spb (lc (.rn (.plain _ (nld Qaa _))) ln)) qn)))) (ih (w64 (y7 - y8), y8, x17) h)
    ·replace h := Qax hc15 h
     refine wfn hc15 (by kernel_rfl) ?_
     obtain ⟨x19, hf18, h⟩ := bno h
     refine wx tbk [(11, ⟨[fu 242, (.tmp 35, (.own 0 1 (0) (p0))), (.tmp 38, (I (w64 (p2 - y7)))), (.tmp 43, (I (w64 ((w64 (p2 + y8)) - y7)))), (.tmp 44, I y7), (.tmp 45, Qh0)], [(0, (Qj3 y9)), (1, Qfu), (2, (.own 1 [[(Qft p5)]]))], (.tup []), [(0, (.own 1 ((x19 : List Int).map Qab))), (1, Qfu), (2, (.own 1 [[(Qft p5)]]))], false⟩)] ⟨Qaq (first := []) (cap := []) (vs := [(.own 0 1 (0) (p0)), (I (w64 (p2 - y7))), (I (w64 ((w64 (p2 + y8)) - y7))), I y7, Qh0]) (σr := [(Qj3 y9), Qfu, (.own 1 [[(Qft p5)]])]) (σr' := [(.own 1 ((x19 : List Int).map Qab)), Qfu, (.own 1 [[(Qft p5)]])]) (res' := (.tup [])) [0, 1, 2] rfl Qla (Qcy N p0 (w64 (p2 - y7)) (w64 ((w64 (p2 + y8)) - y7)) y7 y9 p5 _ hf18) rfl (Qcu (rnc (Qe6 rfl) (rnc (.plain _ nll) (rnc (.plain _ nll) (rnc (.plain _ nll) (rnc (Qal rn0 (rnc (Qba rfl) (rnc (Qba rfl) rn0))) rn0)))))) (slc (Qc6 Qac) (slc (Qaj (rnc (.plain _ (NLt.fn _ _ _ nl0 nl0)) rn0)) (slc (Qaj (rnc (.plain _ (nld Qaa _)) rn0)) Qap))) (slc (Qc6 Qac) (slc (Qaj (rnc (.plain _ (NLt.fn _ _ _ nl0 nl0)) rn0)) (slc (Qaj (rnc (.plain _ (nld Qaa _)) rn0)) Qap))) (.plain _ (NLt.tup _ nl0)) rfl rfl rfl, trivial⟩ ?_
     refine wx1 tbk [] trivial ?_
     refine bln ?_
     refine thn ?_
     exact arm (mto (n := 58) [(0, (.own 0 1 (0) (p0))), (2, I p2), (4, Qh0), (10, I y7), (11, (I (w64 (y8 - y7))))] [0, 1, 2] [(.own 1 ((x19 : List Int).map Qab)), Qfu, (.own 1 [[(Qft p5)]])] hφ0 (pc (.rn (Qas rfl)) (pc rwl (pc (.rn (Qal rn0 (rnc (rqr rfl) (rnc (rqr rfl) rn0)))) (pc rwl (pc rwl pn))))) (qc (spr Qac) (qc (spb (lc (.rn (Qal rn0 rn0)) ln)) (qc (spb (lc (.rn (.plain _ (nld Qaa _))) ln)) qn)))) (ih (y7, w64 (y8 - y7), x19) h)
   ·replace h := Qax hc14 h
    refine wfn hc14 (by kernel_rfl) ?_
    refine Qbk ?_
    refine Qav ?_
    refine Qav ?_
    refine Qbj rfl ?_
    refine thn ?_
    exact ⟨(y7, y9), h, (mto (n := 58) [(0, (.own 0 1 (0) (p0))), (2, I p2), (4, Qh0), (10, I y7)] [0, 1, 2] [(Qj3 y9), Qfu, (.own 1 [[(Qft p5)]])] hφ0 (pc (.rn (Qas rfl)) (pc rwl (pc (.rn (Qal rn0 (rnc (rqr rfl) (rnc (rqr rfl) rn0)))) (pc rwl pn)))) (qc (spr Qac) (qc (spb (lc (.rn (Qal rn0 rn0)) ln)) (qc (spb (lc (.rn (.plain _ (nld Qaa _))) ln)) qn))))⟩
def Qa7 (N : Nat) (p0 : Nat) (p4 : (List Int)) (p5 : (List GPortion)) (x10 : Int) (k13 : Int → Option (List Int)) : Nat → Int → Int → Option (List Int)
  | 0, _, _ => none
  | n36 + 1, y32, y33 =>
    bif (decide (y32 < y33)) then
     (some (w64 ((IntKind.wrap .u64 (w64 (y32 + y33))) / 2))).bind fun x38 =>
     chk (decide (0 ≤ w64 (x10 - x38)) && decide ((w64 (x10 - x38)).toNat < p0)) <|
     (p4[(w64 (x10 - x38)).toNat]?).bind fun x41 =>
     chk (decide (0 ≤ x38) && decide (x38.toNat < p0)) <|
     (p4[x38.toNat]?).bind fun x44 =>
     (Qa0 N x41 x44 p5).bind fun x47 =>
     bif (!(decide (x47 < 0))) then
      Qa7 N p0 p4 p5 x10 k13 n36 (w64 (x38 + 1)) y33
     else
      Qa7 N p0 p4 p5 x10 k13 n36 y32 x38
    else
     k13 (y32)
def Qbf (N : Nat) (p0 : Nat) (y53 : Int) (k56 : (List Int) → Option (List Int)) : Nat → Int → (List Int) → Option (List Int)
  | 0, _, _ => none
  | n61 + 1, y57, y58 =>
    bif (decide (y57 > y53)) then
     chk (decide (0 ≤ w64 (y57 - 1)) && decide ((w64 (y57 - 1)).toNat < p0)) <|
     (y58[(w64 (y57 - 1)).toNat]?).bind fun x64 =>
     chk (decide (0 ≤ y57) && decide (y57.toNat < p0)) <|
     (y58[y57.toNat]?).bind fun x67 =>
     chk (decide (0 ≤ y57) && decide (y57.toNat < p0)) <|
     (y58[y57.toNat]?).bind fun _ =>
     chk (decide (0 ≤ w64 (y57 - 1)) && decide ((w64 (y57 - 1)).toNat < p0)) <|
     ((y58.set y57.toNat x64)[(w64 (y57 - 1)).toNat]?).bind fun _ =>
     Qbf N p0 y53 k56 n61 (w64 (y57 - 1)) ((y58.set y57.toNat x64).set ((w64 (y57 - 1)).toNat) x67)
    else
     k56 (y58)
def Qa6 (N : Nat) (p0 : Nat) (p2 : Int) (p4 : (List Int)) (p5 : (List GPortion)) (k54 : Int → Option (List Int)) : Nat → Int → Int → Option (List Int)
  | 0, _, _ => none
  | n79 + 1, y75, y76 =>
    bif (decide (y75 < y76)) then
     (some (w64 ((IntKind.wrap .u64 (w64 (y75 + y76))) / 2))).bind fun x81 =>
     chk (decide (0 ≤ p2) && decide (p2.toNat < p0)) <|
     (p4[p2.toNat]?).bind fun x84 =>
     chk (decide (0 ≤ x81) && decide (x81.toNat < p0)) <|
     (p4[x81.toNat]?).bind fun x87 =>
     (Qa0 N x84 x87 p5).bind fun x90 =>
     bif (!(decide (x90 < 0))) then
      Qa6 N p0 p2 p4 p5 k54 n79 (w64 (x81 + 1)) y76
     else
      Qa6 N p0 p2 p4 p5 k54 n79 y75 x81
    else
     k54 (y75)
def Qbe (N : Nat) (p0 : Nat) (y93 : Int) (k96 : (List Int) → Option (List Int)) : Nat → Int → (List Int) → Option (List Int)
  | 0, _, _ => none
  | n101 + 1, y97, y98 =>
    bif (decide (y97 < (w64 (y93 - 1)))) then
     chk (decide (0 ≤ w64 (y97 + 1)) && decide ((w64 (y97 + 1)).toNat < p0)) <|
     (y98[(w64 (y97 + 1)).toNat]?).bind fun x104 =>
     chk (decide (0 ≤ y97) && decide (y97.toNat < p0)) <|
     (y98[y97.toNat]?).bind fun x107 =>
     chk (decide (0 ≤ y97) && decide (y97.toNat < p0)) <|
     (y98[y97.toNat]?).bind fun _ =>
     chk (decide (0 ≤ w64 (y97 + 1)) && decide ((w64 (y97 + 1)).toNat < p0)) <|
     ((y98.set y97.toNat x104)[(w64 (y97 + 1)).toNat]?).bind fun _ =>
     Qbe N p0 y93 k96 n101 (w64 (y97 + 1)) ((y98.set y97.toNat x104).set ((w64 (y97 + 1)).toNat) x107)
    else
     k96 (y98)
def Qa5 (N : Nat) (p0 : Nat) (p1 : Int) (p4 : (List Int)) (p5 : (List GPortion)) (k94 : Int → Option (List Int)) : Nat → Int → Int → Option (List Int)
  | 0, _, _ => none
  | n119 + 1, y115, y116 =>
    bif (decide (y115 < y116)) then
     (some (w64 ((IntKind.wrap .u64 (w64 (y115 + y116))) / 2))).bind fun x121 =>
     chk (decide (0 ≤ x121) && decide (x121.toNat < p0)) <|
     (p4[x121.toNat]?).bind fun x124 =>
     chk (decide (0 ≤ p1) && decide (p1.toNat < p0)) <|
     (p4[p1.toNat]?).bind fun x127 =>
     (Qa0 N x124 x127 p5).bind fun x130 =>
     bif (decide (x130 < 0)) then
      Qa5 N p0 p1 p4 p5 k94 n119 (w64 (x121 + 1)) y116
     else
      Qa5 N p0 p1 p4 p5 k94 n119 y115 x121
    else
     k94 (y115)
def Qcw (N : Nat) (rec_ : Nat → Int → Int → Int → (List Int) → (List GPortion) → Option (List Int)) (p0 : Nat) (p1 : Int) (p2 : Int) (p3 : Int) (p4 : (List Int)) (p5 : (List GPortion)) : Option (List Int) :=
  Qcg (fun _ =>
    Qcg (fun _ =>
      (some (w64 ((IntKind.wrap .u64 (w64 (p1 + p3))) / 2))).bind fun x5 =>
      Qcg (fun ⟨y7, y8⟩ =>
        (some (w64 ((w64 (x5 + p2)) - 1))).bind fun x10 =>
        Qcg (fun y12 =>
          (some (w64 ((w64 (x5 + p2)) - y12))).bind fun x14 =>
          Qcg (fun y16 =>
            Qcg (fun y18 =>
              bif (decide (x5 < x14)) then
               bif (decide (x14 < p3)) then
                (rec_ p0 x5 x14 p3 y18 p5).bind fun x23 =>
                some x23
               else
                some y18
              else
               some y18) fun k19 : (List Int) → Option (List Int) =>
            bif (decide (p1 < y12)) then
             bif (decide (y12 < x5)) then
              (rec_ p0 p1 y12 x5 y16 p5).bind fun x27 =>
              k19 (x27)
             else
              k19 (y16)
            else
             k19 (y16)) fun k17 : (List Int) → Option (List Int) =>
          bif (decide (y12 < p2)) then
           bif (decide (p2 < x14)) then
            (Qdh N p0 y12 p2 x14 p4 p5).bind fun x31 =>
            k17 (x31)
           else
            k17 (p4)
          else
           k17 (p4)) fun k13 : Int → Option (List Int) =>
        Qa7 N p0 p4 p5 x10 k13 N y7 y8) fun k9 : Int × Int → Option (List Int) =>
      bif (decide (p2 > x5)) then
       (some (w64 ((w64 (x5 + p2)) - p3))).bind fun x50 =>
       k9 (x50, x5)
      else
       k9 (p1, p2)) fun k4 : Unit → Option (List Int) =>
    bif ((w64 (p3 - p2)) == 1) then
     Qcg (fun y53 =>
       Qcg (fun y55 =>
         some y55) fun k56 : (List Int) → Option (List Int) =>
       Qbf N p0 y53 k56 N p2 p4) fun k54 : Int → Option (List Int) =>
     Qa6 N p0 p2 p4 p5 k54 N p1 p2
    else
     k4 ()) fun k3 : Unit → Option (List Int) =>
  bif ((w64 (p2 - p1)) == 1) then
   Qcg (fun y93 =>
     Qcg (fun y95 =>
       some y95) fun k96 : (List Int) → Option (List Int) =>
     Qbe N p0 y93 k96 N p1 p4) fun k94 : Int → Option (List Int) =>
   Qa5 N p0 p1 p4 p5 k94 N p2 p3
  else
   k3 ()
def Qbw : Nat → Nat → Int → Int → Int → (List Int) → (List GPortion) → Option (List Int)
  | 0, _, _, _, _, _, _ => none
  | N + 1, p0, p1, p2, p3, p4, p5 => Qcw N (Qbw N) p0 p1 p2 p3 p4 p5
def Qdo : AV := .fn (.func 120) [] [(.ref 1 1 (0) 0), (.ref 2 1 (0) 0)]
def Qde (p4 : (List Int)) : Slot := .own 1 ((p4 : List Int).map Qab)
def Qbr : Slot := .own 1 [[(.fn (.func 72) [] [])]]
def Qbq (p5 : (List GPortion)) : AV := .dat 2 ((p5 : List GPortion).map Qay)
def Qi1 (y16 : (List Int)) : Slot := .own 1 ((y16 : List Int).map Qab)
def Qhn (y18 : (List Int)) : Slot := .own 1 ((y18 : List Int).map Qab)
def Qkr (x23 : (List Int)) : Slot := .own 1 ((x23 : List Int).map Qab)
def Qg3 (y58 : (List Int)) : Slot := .own 1 ((y58 : List Int).map Qab)
def Qg2 (y98 : (List Int)) : Slot := .own 1 ((y98 : List Int).map Qab)
theorem Qdn : ∀ (N : Nat) (p0 : Nat) (p1 : Int) (p2 : Int) (p3 : Int) (p4 : (List Int)) (p5 : (List GPortion)) (r : (List Int)) (_ : Qbw N p0 p1 p2 p3 p4 p5 = some r), Spec Try.prog 216 [(.own 0 1 (0) (p0)), (I (p1)), (I (p2)), (I (p3)), Qdo] [(Qde p4), Qbr, (.own 1 [[(Qbq p5)]])] (.tup []) [(.own 1 ((r : List Int).map Qab)), Qbr, (.own 1 [[(Qbq p5)]])] := by
  intro N
  induction N with
  | zero => intro p0 p1 p2 p3 p4 p5 r h; exact nomatch (show (none : Option (List Int)) = some r from h)
  | succ N ihX =>
  intro p0 p1 p2 p3 p4 p5 r h
  replace h : Qcw N (Qbw N) p0 p1 p2 p3 p4 p5 = some r := h
  refine Qah Try.func216 rfl 3 (nle rfl) (fun X φ0 w0 hφ0 hd0 => ?_)
  unfold Qcw at h
  refine Qcf ?_
  obtain ⟨k3, hk_k3, h⟩ := jko h
  refine wjn (τ := Unit) (fun t => k3 t = some r) (fun _ => ⟨mk 220 [(0, (.own 0 1 (0) (p0))), (1, I p1), (2, I p2), (3, I p3), (4, Qdo)], [(Qde p4), Qbr, (.own 1 [[(Qbq p5)]])]⟩) (fun t h => ?_) ?_
  ·subst hk_k3
   obtain ⟨k4, hk_k4, h⟩ := jko h
   refine wjn (τ := Unit) (fun t => k4 t = some r) (fun _ => ⟨mk 220 [(0, (.own 0 1 (0) (p0))), (1, I p1), (2, I p2), (3, I p3), (4, Qdo)], [(Qde p4), Qbr, (.own 1 [[(Qbq p5)]])]⟩) (fun t h => ?_) ?_
   ·subst hk_k4
    obtain ⟨x5, hl6, h⟩ := bno h
    refine wx tbk [(3, rp [(.tmp 131, (I (w64 (p1 + p3))))] (K .u64 (IntKind.wrap .u64 (w64 (p1 + p3))))), (4, rp [(.tmp 132, (K .u64 (IntKind.wrap .u64 (w64 (p1 + p3))))), (.const (.int .u64 1), (K .u64 (1)))] (K .u64 ((IntKind.wrap .u64 (w64 (p1 + p3))) / 2))), (5, rp [(.tmp 133, (K .u64 ((IntKind.wrap .u64 (w64 (p1 + p3))) / 2)))] (I (w64 ((IntKind.wrap .u64 (w64 (p1 + p3))) / 2)))), (6, rp [(.tmp 134, (I (w64 ((IntKind.wrap .u64 (w64 (p1 + p3))) / 2))))] (I x5))] ⟨acv rfl (by rw [Try.underlying3]; rfl) Try.underlying76, Qf7 rfl (by decide) (by decide), acv rfl (by rw [Try.underlying76]; rfl) Try.underlying3, Qez hl6 (aas rfl), trivial⟩ ?_
    refine wx tbk [] trivial ?_
    refine wx tbk [] trivial ?_
    obtain ⟨k9, hk_k9, h⟩ := jko h
    refine wjn (τ := Int × Int) (fun t => k9 t = some r) (fun ⟨y7, y8⟩ => ⟨mk 220 [(0, (.own 0 1 (0) (p0))), (1, I p1), (2, I p2), (3, I p3), (4, Qdo), (18, I x5), (19, (I (w64 (x5 + p2)))), (20, I y7), (21, I y8)], [(Qde p4), Qbr, (.own 1 [[(Qbq p5)]])]⟩) (fun t h => ?_) ?_
    ·subst hk_k9
     obtain ⟨y7, y8⟩ := t
     obtain ⟨x10, hl11, h⟩ := bno h
     refine wx tbk [(2, rp [(.tmp 148, (I (w64 ((w64 (x5 + p2)) - 1))))] (I x10))] ⟨Qez hl11 (aas rfl), trivial⟩ ?_
     obtain ⟨k13, hk_k13, h⟩ := jko h
     refine wjn (τ := Int) (fun t => k13 t = some r) (fun y12 => ⟨mk 220 [(0, (.own 0 1 (0) (p0))), (1, I p1), (2, I p2), (3, I p3), (4, Qdo), (18, I x5), (19, (I (w64 (x5 + p2)))), (20, I y12)], [(Qde p4), Qbr, (.own 1 [[(Qbq p5)]])]⟩) (fun y12 h => ?_) ?_
     ·subst hk_k13
      obtain ⟨x14, hl15, h⟩ := bno h
      refine wx tbk [(3, rp [(.tmp 177, (I (w64 ((w64 (x5 + p2)) - y12))))] (I x14))] ⟨Qez hl15 (aas rfl), trivial⟩ ?_
      obtain ⟨k17, hk_k17, h⟩ := jko h
      refine wjn (τ := (List Int)) (fun t => k17 t = some r) (fun y16 => ⟨mk 220 [(0, (.own 0 1 (0) (p0))), (1, I p1), (3, I p3), (4, Qdo), (18, I x5), (20, I y12), (24, I x14)], [(Qi1 y16), Qbr, (.own 1 [[(Qbq p5)]])]⟩) (fun y16 h => ?_) ?_
      ·subst hk_k17
       obtain ⟨k19, hk_k19, h⟩ := jko h
       refine wjn (τ := (List Int)) (fun t => k19 t = some r) (fun y18 => ⟨mk 220 [(0, (.own 0 1 (0) (p0))), (3, I p3), (4, Qdo), (18, I x5), (24, I x14)], [(Qhn y18), Qbr, (.own 1 [[(Qbq p5)]])]⟩) (fun y18 h => ?_) ?_
       ·subst hk_k19
        rcases bft ((decide (x5 < x14))) with hb20 | hb20
        ·replace h := Qaw hb20 h
         refine wx tbk [(3, rp [(.tmp 208, (B ((decide (x5 < x14)))))] (B true))] ⟨asb hb20 (amv rfl), trivial⟩ ?_
         rcases bft ((decide (x14 < p3))) with hc21 | hc21
         ·replace h := Qaw hc21 h
          refine wft hc21 (by kernel_rfl) ?_
          obtain ⟨x23, hf22, h⟩ := bno h
          refine wx1 tbk [(5, ⟨[fu 216, (.tmp 214, (.own 0 1 (0) (p0))), (.tmp 215, I x5), (.tmp 216, I x14), (.tmp 217, I p3), (.tmp 218, Qdo)], [(0, (Qhn y18)), (1, Qbr), (2, (.own 1 [[(Qbq p5)]]))], (.tup []), [(0, (Qkr x23)), (1, Qbr), (2, (.own 1 [[(Qbq p5)]]))], false⟩)] ⟨Qaq (first := []) (cap := []) (vs := [(.own 0 1 (0) (p0)), I x5, I x14, I p3, Qdo]) (σr := [(Qhn y18), Qbr, (.own 1 [[(Qbq p5)]])]) (σr' := [(Qkr x23), Qbr, (.own 1 [[(Qbq p5)]])]) (res' := (.tup [])) [0, 1, 2] rfl Qix (ihX p0 x5 x14 p3 y18 p5 _ hf22) rfl (Qcu (rnc (Qe6 rfl) (rnc (.plain _ nll) (rnc (.plain _ nll) (rnc (.plain _ nll) (rnc (Qal rn0 (rnc (Qba rfl) (rnc (Qba rfl) rn0))) rn0)))))) (slc (Qc6 Qac) (slc (Qaj (rnc (.plain _ (NLt.fn _ _ _ nl0 nl0)) rn0)) (slc (Qaj (rnc (.plain _ (nld Qaa _)) rn0)) Qap))) (slc (Qc6 Qac) (slc (Qaj (rnc (.plain _ (NLt.fn _ _ _ nl0 nl0)) rn0)) (slc (Qaj (rnc (.plain _ (nld Qaa _)) rn0)) Qap))) (.plain _ (NLt.tup _ nl0)) rfl rfl rfl, trivial⟩ ?_
          obtain rfl := osi h
          exact ⟨_, (mto (n := 220) (l' := []) (own' := [(Qkr x23), Qbr, (.own 1 [[(Qbq p5)]])]) [] [0, 1, 2] [(Qkr x23), Qbr, (.own 1 [[(Qbq p5)]])] hφ0 pn (qc (spr Qac) (qc (spb (lc (.rn (Qal rn0 rn0)) ln)) (qc (spb (lc (.rn (.plain _ (nld Qaa _))) ln)) qn)))), Qcm (vs := []) trivial rfl (NLt.tup _ nl0) (by kernel_rfl) (Qan (Qe4 Qac _) (Qan (Qa4 (nlc (NLt.of0 (NLt.fn _ _ _ nl0 nl0)) nl0)) (Qan (Qa4 (nlc (NLt.of0 (nld Qaa _)) nl0)) Qbl)))⟩
         ·replace h := Qax hc21 h
          refine wfn hc21 (by kernel_rfl) ?_
          refine Qak ?_
          obtain rfl := osi h
          exact ⟨_, (mto (n := 220) (l' := []) (own' := [(Qhn y18), Qbr, (.own 1 [[(Qbq p5)]])]) [] [0, 1, 2] [(Qhn y18), Qbr, (.own 1 [[(Qbq p5)]])] hφ0 pn (qc (spr Qac) (qc (spb (lc (.rn (Qal rn0 rn0)) ln)) (qc (spb (lc (.rn (.plain _ (nld Qaa _))) ln)) qn)))), Qcm (vs := []) trivial rfl (NLt.tup _ nl0) (by kernel_rfl) (Qan (Qe4 Qac _) (Qan (Qa4 (nlc (NLt.of0 (NLt.fn _ _ _ nl0 nl0)) nl0)) (Qan (Qa4 (nlc (NLt.of0 (nld Qaa _)) nl0)) Qbl)))⟩
        ·replace h := Qax hb20 h
         refine wx tbk [(3, rp [(.tmp 208, (B ((decide (x5 < x14)))))] (B false))] ⟨asb hb20 (amv rfl), trivial⟩ ?_
         refine Qeb (by kernel_rfl) ?_
         refine Qak ?_
         obtain rfl := osi h
         exact ⟨_, (mto (n := 220) (l' := []) (own' := [(Qhn y18), Qbr, (.own 1 [[(Qbq p5)]])]) [] [0, 1, 2] [(Qhn y18), Qbr, (.own 1 [[(Qbq p5)]])] hφ0 pn (qc (spr Qac) (qc (spb (lc (.rn (Qal rn0 rn0)) ln)) (qc (spb (lc (.rn (.plain _ (nld Qaa _))) ln)) qn)))), Qcm (vs := []) trivial rfl (NLt.tup _ nl0) (by kernel_rfl) (Qan (Qe4 Qac _) (Qan (Qa4 (nlc (NLt.of0 (NLt.fn _ _ _ nl0 nl0)) nl0)) (Qan (Qa4 (nlc (NLt.of0 (nld Qaa _)) nl0)) Qbl)))⟩
       ·skip
        rcases bft ((decide (p1 < y12))) with hb24 | hb24
        ·replace h := Qaw hb24 h
         refine wx tbk [(3, rp [(.tmp 194, (B ((decide (p1 < y12)))))] (B true))] ⟨asb hb24 (amv rfl), trivial⟩ ?_
         rcases bft ((decide (y12 < x5))) with hc25 | hc25
         ·replace h := Qaw hc25 h
          refine wft hc25 (by kernel_rfl) ?_
          obtain ⟨x27, hf26, h⟩ := bno h
          refine wx1 tbk [(5, ⟨[fu 216, (.tmp 200, (.own 0 1 (0) (p0))), (.tmp 201, I p1), (.tmp 202, I y12), (.tmp 203, I x5), (.tmp 204, Qdo)], [(0, (Qi1 y16)), (1, Qbr), (2, (.own 1 [[(Qbq p5)]]))], (.tup []), [(0, (.own 1 ((x27 : List Int).map Qab))), (1, Qbr), (2, (.own 1 [[(Qbq p5)]]))], false⟩)] ⟨Qaq (first := []) (cap := []) (vs := [(.own 0 1 (0) (p0)), I p1, I y12, I x5, Qdo]) (σr := [(Qi1 y16), Qbr, (.own 1 [[(Qbq p5)]])]) (σr' := [(.own 1 ((x27 : List Int).map Qab)), Qbr, (.own 1 [[(Qbq p5)]])]) (res' := (.tup [])) [0, 1, 2] rfl Qix (ihX p0 p1 y12 x5 y16 p5 _ hf26) rfl (Qcu (rnc (Qe6 rfl) (rnc (.plain _ nll) (rnc (.plain _ nll) (rnc (.plain _ nll) (rnc (Qal rn0 (rnc (Qba rfl) (rnc (Qba rfl) rn0))) rn0)))))) (slc (Qc6 Qac) (slc (Qaj (rnc (.plain _ (NLt.fn _ _ _ nl0 nl0)) rn0)) (slc (Qaj (rnc (.plain _ (nld Qaa _)) rn0)) Qap))) (slc (Qc6 Qac) (slc (Qaj (rnc (.plain _ (NLt.fn _ _ _ nl0 nl0)) rn0)) (slc (Qaj (rnc (.plain _ (nld Qaa _)) rn0)) Qap))) (.plain _ (NLt.tup _ nl0)) rfl rfl rfl, trivial⟩ ?_
          refine thn ?_
          exact ⟨(x27), h, (mto (n := 220) [(0, (.own 0 1 (0) (p0))), (3, I p3), (4, Qdo), (18, I x5), (24, I x14)] [0, 1, 2] [(.own 1 ((x27 : List Int).map Qab)), Qbr, (.own 1 [[(Qbq p5)]])] hφ0 (pc (.rn (Qas rfl)) (pc rwl (pc (.rn (Qal rn0 (rnc (rqr rfl) (rnc (rqr rfl) rn0)))) (pc rwl (pc rwl pn))))) (qc (spr Qac) (qc (spb (lc (.rn (Qal rn0 rn0)) ln)) (qc (spb (lc (.rn (.plain _ (nld Qaa _))) ln)) qn))))⟩
         ·replace h := Qax hc25 h
          refine wfn hc25 (by kernel_rfl) ?_
          refine Qak ?_
          refine thn ?_
          exact ⟨(y16), h, (mto (n := 220) [(0, (.own 0 1 (0) (p0))), (3, I p3), (4, Qdo), (18, I x5), (24, I x14)] [0, 1, 2] [(Qi1 y16), Qbr, (.own 1 [[(Qbq p5)]])] hφ0 (pc (.rn (Qas rfl)) (pc rwl (pc (.rn (Qal rn0 (rnc (rqr rfl) (rnc (rqr rfl) rn0)))) (pc rwl (pc rwl pn))))) (qc (spr Qac) (qc (spb (lc (.rn (Qal rn0 rn0)) ln)) (qc (spb (lc (.rn (.plain _ (nld Qaa _))) ln)) qn))))⟩
        ·replace h := Qax hb24 h
         refine wx tbk [(3, rp [(.tmp 194, (B ((decide (p1 < y12)))))] (B false))] ⟨asb hb24 (amv rfl), trivial⟩ ?_
         refine Qeb (by kernel_rfl) ?_
         refine Qak ?_
         refine thn ?_
         exact ⟨(y16), h, (mto (n := 220) [(0, (.own 0 1 (0) (p0))), (3, I p3), (4, Qdo), (18, I x5), (24, I x14)] [0, 1, 2] [(Qi1 y16), Qbr, (.own 1 [[(Qbq p5)]])] hφ0 (pc (.rn (Qas rfl)) (pc rwl (pc (.rn (Qal rn0 (rnc (rqr rfl) (rnc (rqr rfl) rn0)))) (pc rwl (pc rwl pn))))) (qc (spr Qac) (qc (spb (lc (.rn (Qal rn0 rn0)) ln)) (qc (spb (lc (.rn (.plain _ (nld Qaa _))) ln)) qn))))⟩
      ·skip
       rcases bft ((decide (y12 < p2))) with hb28 | hb28
       ·replace h := Qaw hb28 h
        refine wx tbk [(3, rp [(.tmp 180, (B ((decide (y12 < p2)))))] (B true))] ⟨asb hb28 (amv rfl), trivial⟩ ?_
        rcases bft ((decide (p2 < x14))) with hc29 | hc29
        ·replace h := Qaw hc29 h
         refine wft hc29 (by kernel_rfl) ?_
         obtain ⟨x31, hf30, h⟩ := bno h
         refine wx1 tbk [(5, ⟨[fu 234, (.tmp 186, (.own 0 1 (0) (p0))), (.tmp 187, I y12), (.tmp 188, I p2), (.tmp 189, I x14), (.tmp 190, Qdo)], [(0, (Qde p4)), (1, Qbr), (2, (.own 1 [[(Qbq p5)]]))], (.tup []), [(0, (.own 1 ((x31 : List Int).map Qab))), (1, Qbr), (2, (.own 1 [[(Qbq p5)]]))], false⟩)] ⟨Qaq (first := []) (cap := []) (vs := [(.own 0 1 (0) (p0)), I y12, I p2, I x14, Qdo]) (σr := [(Qde p4), Qbr, (.own 1 [[(Qbq p5)]])]) (σr' := [(.own 1 ((x31 : List Int).map Qab)), Qbr, (.own 1 [[(Qbq p5)]])]) (res' := (.tup [])) [0, 1, 2] rfl enter234 (Qfb N p0 y12 p2 x14 p4 p5 _ hf30) rfl (Qcu (rnc (Qe6 rfl) (rnc (.plain _ nll) (rnc (.plain _ nll) (rnc (.plain _ nll) (rnc (Qal rn0 (rnc (Qba rfl) (rnc (Qba rfl) rn0))) rn0)))))) (slc (Qc6 Qac) (slc (Qaj (rnc (.plain _ (NLt.fn _ _ _ nl0 nl0)) rn0)) (slc (Qaj (rnc (.plain _ (nld Qaa _)) rn0)) Qap))) (slc (Qc6 Qac) (slc (Qaj (rnc (.plain _ (NLt.fn _ _ _ nl0 nl0)) rn0)) (slc (Qaj (rnc (.plain _ (nld Qaa _)) rn0)) Qap))) (.plain _ (NLt.tup _ nl0)) rfl rfl rfl, trivial⟩ ?_
         refine thn ?_
         exact ⟨(x31), h, (mto (n := 220) [(0, (.own 0 1 (0) (p0))), (1, I p1), (3, I p3), (4, Qdo), (18, I x5), (20, I y12), (24, I x14)] [0, 1, 2] [(.own 1 ((x31 : List Int).map Qab)), Qbr, (.own 1 [[(Qbq p5)]])] hφ0 (pc (.rn (Qas rfl)) (pc rwl (pc rwl (pc (.rn (Qal rn0 (rnc (rqr rfl) (rnc (rqr rfl) rn0)))) (pc rwl (pc rwl (pc rwl pn))))))) (qc (spr Qac) (qc (spb (lc (.rn (Qal rn0 rn0)) ln)) (qc (spb (lc (.rn (.plain _ (nld Qaa _))) ln)) qn))))⟩
        ·replace h := Qax hc29 h
         refine wfn hc29 (by kernel_rfl) ?_
         refine Qak ?_
         refine thn ?_
         exact ⟨(p4), h, (mto (n := 220) [(0, (.own 0 1 (0) (p0))), (1, I p1), (3, I p3), (4, Qdo), (18, I x5), (20, I y12), (24, I x14)] [0, 1, 2] [(Qde p4), Qbr, (.own 1 [[(Qbq p5)]])] hφ0 (pc (.rn (Qas rfl)) (pc rwl (pc rwl (pc (.rn (Qal rn0 (rnc (rqr rfl) (rnc (rqr rfl) rn0)))) (pc rwl (pc rwl (pc rwl pn))))))) (qc (spr Qac) (qc (spb (lc (.rn (Qal rn0 rn0)) ln)) (qc (spb (lc (.rn (.plain _ (nld Qaa _))) ln)) qn))))⟩
       ·replace h := Qax hb28 h
        refine wx tbk [(3, rp [(.tmp 180, (B ((decide (y12 < p2)))))] (B false))] ⟨asb hb28 (amv rfl), trivial⟩ ?_
        refine Qeb (by kernel_rfl) ?_
        refine Qak ?_
        refine thn ?_
        exact ⟨(p4), h, (mto (n := 220) [(0, (.own 0 1 (0) (p0))), (1, I p1), (3, I p3), (4, Qdo), (18, I x5), (20, I y12), (24, I x14)] [0, 1, 2] [(Qde p4), Qbr, (.own 1 [[(Qbq p5)]])] hφ0 (pc (.rn (Qas rfl)) (pc rwl (pc rwl (pc (.rn (Qal rn0 (rnc (rqr rfl) (rnc (rqr rfl) rn0)))) (pc rwl (pc rwl (pc rwl pn))))))) (qc (spr Qac) (qc (spb (lc (.rn (Qal rn0 rn0)) ln)) (qc (spb (lc (.rn (.plain _ (nld Qaa _))) ln)) qn))))⟩
     ·skip
      refine Qag ?_
      refine wmr (mto (n := 220) (l' := [(0, (.own 0 1 (0) (p0))), (1, I p1), (2, I p2), (3, I p3), (4, Qdo), (18, I x5), (19, (I (w64 (x5 + p2)))), (20, I y7), (21, I y8), (22, I x10)]) (own' := [(Qde p4), Qbr, (.own 1 [[(Qbq p5)]])]) [(0, (.own 0 1 (0) (p0))), (1, I p1), (2, I p2), (3, I p3), (4, Qdo), (18, I x5), (19, (I (w64 (x5 + p2)))), (20, I y7), (21, I y8), (22, I x10)] [0, 1, 2] [(Qde p4), Qbr, (.own 1 [[(Qbq p5)]])] hφ0 (pc (.rn (Qas rfl)) (pc rwl (pc rwl (pc rwl (pc (.rn (Qal rn0 (rnc (rqr rfl) (rnc (rqr rfl) rn0)))) (pc rwl (pc rwl (pc rwl (pc rwl (pc rwl pn)))))))))) (qc (spr Qac) (qc (spb (lc (.rn (Qal rn0 rn0)) ln)) (qc (spb (lc (.rn (.plain _ (nld Qaa _))) ln)) qn)))) ?_
      refine Qca (τ := Int × Int) (fun n t => Qa7 N p0 p4 p5 x10 k13 n t.1 t.2 = some r) (fun ⟨y32, y33⟩ => ⟨mk 220 [(0, (.own 0 1 (0) (p0))), (1, I p1), (2, I p2), (3, I p3), (4, Qdo), (18, I x5), (19, (I (w64 (x5 + p2)))), (20, I y32), (21, I y33), (22, I x10)], [(Qde p4), Qbr, (.own 1 [[(Qbq p5)]])]⟩) (fun t h => by rw [Qa7] at h; cases h) (fun n36 ih t h => ?_) N (y7, y8) h
      obtain ⟨y32, y33⟩ := t
      rw [Qa7] at h
      skip
      refine wsq ?_
      refine wx tbk [] trivial ?_
      rcases bft ((decide (y32 < y33))) with hc37 | hc37
      ·replace h := Qaw hc37 h
       refine wft hc37 (by kernel_rfl) ?_
       refine Qak ?_
       refine thn ?_
       refine Qag ?_
       obtain ⟨x38, hl39, h⟩ := bno h
       refine wx tbk [(3, rp [(.tmp 154, (I (w64 (y32 + y33))))] (K .u64 (IntKind.wrap .u64 (w64 (y32 + y33))))), (4, rp [(.tmp 155, (K .u64 (IntKind.wrap .u64 (w64 (y32 + y33))))), (.const (.int .u64 1), (K .u64 (1)))] (K .u64 ((IntKind.wrap .u64 (w64 (y32 + y33))) / 2))), (5, rp [(.tmp 156, (K .u64 ((IntKind.wrap .u64 (w64 (y32 + y33))) / 2)))] (I (w64 ((IntKind.wrap .u64 (w64 (y32 + y33))) / 2)))), (6, rp [(.tmp 157, (I (w64 ((IntKind.wrap .u64 (w64 (y32 + y33))) / 2))))] (I x38))] ⟨acv rfl (by rw [Try.underlying3]; rfl) Try.underlying76, Qf7 rfl (by decide) (by decide), acv rfl (by rw [Try.underlying76]; rfl) Try.underlying3, Qez hl39 (aas rfl), trivial⟩ ?_
       obtain ⟨hi40, h⟩ := cko h
       obtain ⟨hi40a, hi40b⟩ := Qb4 hi40
       obtain ⟨x41, hg42, h⟩ := bno h
       obtain ⟨hi43, h⟩ := cko h
       obtain ⟨hi43a, hi43b⟩ := Qb4 hi43
       obtain ⟨x44, hg45, h⟩ := bno h
       obtain ⟨x47, hf46, h⟩ := bno h
       refine wxd tbk [(5, rb [(.tmp 159, (.own 0 1 (0) (p0))), (.tmp 162, (I (w64 (x10 - x38))))] [(0, (Qde p4))] (.ref 0 1 ((w64 (x10 - x38)).toNat) 0)), (6, rb [(.tmp 163, (.ref 0 1 ((w64 (x10 - x38)).toNat) 0))] [(0, (Qde p4))] (I x41)), (9, rb [(.tmp 165, (.own 0 1 (0) (p0))), (.tmp 166, I x38)] [(0, (Qde p4))] (.ref 0 1 (x38.toNat) 0)), (10, rb [(.tmp 167, (.ref 0 1 (x38.toNat) 0))] [(0, (Qde p4))] (I x44)), (11, ⟨[(.tmp 158, Qdo), (.tmp 164, I x41), (.tmp 168, I x44)], [(1, Qbr), (2, (.own 1 [[(Qbq p5)]]))], I x47, [(1, Qbr), (2, (.own 1 [[(Qbq p5)]]))], false⟩)] ⟨aio rfl Try.underlying22 ti3 (odt hi40a) (odt hi40b) (Nat.zero_add _), ald rfl ti3 (by decide) (mgt Qab hg42) (nle rfl) rfl, aio rfl Try.underlying22 ti3 (odt hi43a) (odt hi43b) (Nat.zero_add _), ald rfl ti3 (by decide) (mgt Qab hg45) (nle rfl) rfl, Qaq (first := []) (cap := [.ref 1 1 0 0, .ref 2 1 0 0]) (vs := [I x41, I x44]) (σr := [Qbr, (.own 1 [[(Qbq p5)]])]) (σr' := [Qbr, (.own 1 [[(Qbq p5)]])]) (res' := (I x47)) [1, 2] rfl Qiy (Qbz N x41 x44 p5 _ hf46) rfl (Qcu (rnc (.plain _ nll) (rnc (.plain _ nll) (rnc (Qba rfl) (rnc (Qba rfl) rn0))))) (slc (Qaj (rnc (.plain _ (NLt.fn _ _ _ nl0 nl0)) rn0)) (slc (Qaj (rnc (.plain _ (nld Qaa _)) rn0)) Qap)) (slc (Qaj (rnc (.plain _ (NLt.fn _ _ _ nl0 nl0)) rn0)) (slc (Qaj (rnc (.plain _ (nld Qaa _)) rn0)) Qap)) (.plain _ nll) rfl rfl rfl, trivial⟩ ?_
       rcases bft ((!(decide (x47 < 0)))) with hc48 | hc48
       ·replace h := Qaw hc48 h
        refine wft hc48 (by kernel_rfl) ?_
        refine wx1 tbk [] trivial ?_
        refine bln ?_
        refine thn ?_
        exact arm (mto (n := 220) [(0, (.own 0 1 (0) (p0))), (1, I p1), (2, I p2), (3, I p3), (4, Qdo), (18, I x5), (19, (I (w64 (x5 + p2)))), (20, (I (w64 (x38 + 1)))), (21, I y33), (22, I x10)] [0, 1, 2] [(Qde p4), Qbr, (.own 1 [[(Qbq p5)]])] hφ0 (pc (.rn (Qas rfl)) (pc rwl (pc rwl (pc rwl (pc (.rn (Qal rn0 (rnc (rqr rfl) (rnc (rqr rfl) rn0)))) (pc rwl (pc rwl (pc rwl (pc rwl (pc rwl pn)))))))))) (qc (spr Qac) (qc (spb (lc (.rn (Qal rn0 rn0)) ln)) (qc (spb (lc (.rn (.plain _ (nld Qaa _))) ln)) qn)))) (ih (w64 (x38 + 1), y33) h)
       ·replace h := Qax hc48 h
        refine wfn hc48 (by kernel_rfl) ?_
        refine wx1 tbk [] trivial ?_
        refine bln ?_
        refine thn ?_
        exact arm (mto (n := 220) [(0, (.own 0 1 (0) (p0))), (1, I p1), (2, I p2), (3, I p3), (4, Qdo), (18, I x5), (19, (I (w64 (x5 + p2)))), (20, I y32), (21, I x38), (22, I x10)] [0, 1, 2] [(Qde p4), Qbr, (.own 1 [[(Qbq p5)]])] hφ0 (pc (.rn (Qas rfl)) (pc rwl (pc rwl (pc rwl (pc (.rn (Qal rn0 (rnc (rqr rfl) (rnc (rqr rfl) rn0)))) (pc rwl (pc rwl (pc rwl (pc rwl (pc rwl pn)))))))))) (qc (spr Qac) (qc (spb (lc (.rn (Qal rn0 rn0)) ln)) (qc (spb (lc (.rn (.plain _ (nld Qaa _))) ln)) qn)))) (ih (y32, x38) h)
      ·replace h := Qax hc37 h
       refine wfn hc37 (by kernel_rfl) ?_
       refine Qbk ?_
       refine Qav ?_
       refine Qav ?_
       refine Qbj rfl ?_
       refine thn ?_
       exact ⟨(y32), h, (mto (n := 220) [(0, (.own 0 1 (0) (p0))), (1, I p1), (2, I p2), (3, I p3), (4, Qdo), (18, I x5), (19, (I (w64 (x5 + p2)))), (20, I y32)] [0, 1, 2] [(Qde p4), Qbr, (.own 1 [[(Qbq p5)]])] hφ0 (pc (.rn (Qas rfl)) (pc rwl (pc rwl (pc rwl (pc (.rn (Qal rn0 (rnc (rqr rfl) (rnc (rqr rfl) rn0)))) (pc rwl (pc rwl (pc rwl pn)))))))) (qc (spr Qac) (qc (spb (lc (.rn (Qal rn0 rn0)) ln)) (qc (spb (lc (.rn (.plain _ (nld Qaa _))) ln)) qn))))⟩
    ·skip
     refine wx tbk [] trivial ?_
     rcases bft ((decide (p2 > x5))) with hc49 | hc49
     ·replace h := Qaw hc49 h
      refine wft hc49 (by kernel_rfl) ?_
      obtain ⟨x50, hl51, h⟩ := bno h
      refine wx tbk [(3, rp [(.tmp 143, (I (w64 ((w64 (x5 + p2)) - p3))))] (I x50))] ⟨Qez hl51 (aas rfl), trivial⟩ ?_
      refine wx1 tbk [] trivial ?_
      refine thn ?_
      exact ⟨(x50, x5), h, (mto (n := 220) [(0, (.own 0 1 (0) (p0))), (1, I p1), (2, I p2), (3, I p3), (4, Qdo), (18, I x5), (19, (I (w64 (x5 + p2)))), (20, I x50), (21, I x5)] [0, 1, 2] [(Qde p4), Qbr, (.own 1 [[(Qbq p5)]])] hφ0 (pc (.rn (Qas rfl)) (pc rwl (pc rwl (pc rwl (pc (.rn (Qal rn0 (rnc (rqr rfl) (rnc (rqr rfl) rn0)))) (pc rwl (pc rwl (pc rwl (pc rwl pn))))))))) (qc (spr Qac) (qc (spb (lc (.rn (Qal rn0 rn0)) ln)) (qc (spb (lc (.rn (.plain _ (nld Qaa _))) ln)) qn))))⟩
     ·replace h := Qax hc49 h
      refine wfn hc49 (by kernel_rfl) ?_
      refine wx tbk [] trivial ?_
      refine wx1 tbk [] trivial ?_
      refine thn ?_
      exact ⟨(p1, p2), h, (mto (n := 220) [(0, (.own 0 1 (0) (p0))), (1, I p1), (2, I p2), (3, I p3), (4, Qdo), (18, I x5), (19, (I (w64 (x5 + p2)))), (20, I p1), (21, I p2)] [0, 1, 2] [(Qde p4), Qbr, (.own 1 [[(Qbq p5)]])] hφ0 (pc (.rn (Qas rfl)) (pc rwl (pc rwl (pc rwl (pc (.rn (Qal rn0 (rnc (rqr rfl) (rnc (rqr rfl) rn0)))) (pc rwl (pc rwl (pc rwl (pc rwl pn))))))))) (qc (spr Qac) (qc (spb (lc (.rn (Qal rn0 rn0)) ln)) (qc (spb (lc (.rn (.plain _ (nld Qaa _))) ln)) qn))))⟩
   ·skip
    refine wx tbk [] trivial ?_
    rcases bft (((w64 (p3 - p2)) == 1)) with hc52 | hc52
    ·replace h := Qaw hc52 h
     refine wft hc52 (by kernel_rfl) ?_
     refine wx tbk [] trivial ?_
     refine wx tbk [] trivial ?_
     obtain ⟨k54, hk_k54, h⟩ := jko h
     refine wjn (τ := Int) (fun t => k54 t = some r) (fun y53 => ⟨mk 220 [(0, (.own 0 1 (0) (p0))), (2, I p2), (14, I y53)], [(Qde p4), Qbr, (.own 1 [[(Qbq p5)]])]⟩) (fun y53 h => ?_) ?_
     ·subst hk_k54
      obtain ⟨k56, hk_k56, h⟩ := jko h
      refine wjn (τ := (List Int)) (fun t => k56 t = some r) (fun y55 => ⟨mk 220 [], [(.own 1 ((y55 : List Int).map Qab)), Qbr, (.own 1 [[(Qbq p5)]])]⟩) (fun y55 h => ?_) ?_
      ·subst hk_k56
       refine wmr (mto (n := 220) (l' := []) (own' := [(.own 1 ((y55 : List Int).map Qab)), Qbr, (.own 1 [[(Qbq p5)]])]) [] [0, 1, 2] [(.own 1 ((y55 : List Int).map Qab)), Qbr, (.own 1 [[(Qbq p5)]])] hφ0 pn (qc (spr Qac) (qc (spb (lc (.rn (Qal rn0 rn0)) ln)) (qc (spb (lc (.rn (.plain _ (nld Qaa _))) ln)) qn)))) ?_
       refine Qae ?_
       refine Qaf ?_
       obtain rfl := osi h
       exact ⟨_, Mor.rfl, Qcm (vs := []) trivial rfl (NLt.tup _ nl0) (by kernel_rfl) (Qan (Qe4 Qac _) (Qan (Qa4 (nlc (NLt.of0 (NLt.fn _ _ _ nl0 nl0)) nl0)) (Qan (Qa4 (nlc (NLt.of0 (nld Qaa _)) nl0)) Qbl)))⟩
      ·skip
       refine wx tbk [] trivial ?_
       refine Qag ?_
       refine wmr (mto (n := 220) (l' := [(0, (.own 0 1 (0) (p0))), (14, I y53), (17, I p2)]) (own' := [(Qde p4), Qbr, (.own 1 [[(Qbq p5)]])]) [(0, (.own 0 1 (0) (p0))), (14, I y53), (17, I p2)] [0, 1, 2] [(Qde p4), Qbr, (.own 1 [[(Qbq p5)]])] hφ0 (pc (.rn (Qas rfl)) (pc rwl (pc rwl pn))) (qc (spr Qac) (qc (spb (lc (.rn (Qal rn0 rn0)) ln)) (qc (spb (lc (.rn (.plain _ (nld Qaa _))) ln)) qn)))) ?_
       refine Qca (τ := Int × (List Int)) (fun n t => Qbf N p0 y53 k56 n t.1 t.2 = some r) (fun ⟨y57, y58⟩ => ⟨mk 220 [(0, (.own 0 1 (0) (p0))), (14, I y53), (17, I y57)], [(Qg3 y58), Qbr, (.own 1 [[(Qbq p5)]])]⟩) (fun t h => by rw [Qbf] at h; cases h) (fun n61 ih t h => ?_) N (p2, p4) h
       obtain ⟨y57, y58⟩ := t
       rw [Qbf] at h
       skip
       refine wsq ?_
       refine wx tbk [] trivial ?_
       rcases bft ((decide (y57 > y53))) with hc62 | hc62
       ·replace h := Qaw hc62 h
        refine wft hc62 (by kernel_rfl) ?_
        refine Qak ?_
        refine thn ?_
        refine wsq ?_
        refine Qag ?_
        obtain ⟨hi63, h⟩ := cko h
        obtain ⟨hi63a, hi63b⟩ := Qb4 hi63
        obtain ⟨x64, hg65, h⟩ := bno h
        obtain ⟨hi66, h⟩ := cko h
        obtain ⟨hi66a, hi66b⟩ := Qb4 hi66
        obtain ⟨x67, hg68, h⟩ := bno h
        obtain ⟨hi69, h⟩ := cko h
        obtain ⟨hi69a, hi69b⟩ := Qb4 hi69
        obtain ⟨x70, hg71, h⟩ := bno h
        obtain ⟨hi72, h⟩ := cko h
        obtain ⟨hi72a, hi72b⟩ := Qb4 hi72
        obtain ⟨x73, hg74, h⟩ := bno h
        refine wy1 tbk [(8, rb [(.tmp 118, (.own 0 1 (0) (p0))), (.tmp 120, (I (w64 (y57 - 1))))] [(0, (Qg3 y58))] (.ref 0 1 ((w64 (y57 - 1)).toNat) 0)), (9, rb [(.tmp 121, (.ref 0 1 ((w64 (y57 - 1)).toNat) 0))] [(0, (Qg3 y58))] (I x64)), (12, rb [(.tmp 123, (.own 0 1 (0) (p0))), (.tmp 124, I y57)] [(0, (Qg3 y58))] (.ref 0 1 (y57.toNat) 0)), (13, rb [(.tmp 125, (.ref 0 1 (y57.toNat) 0))] [(0, (Qg3 y58))] (I x67)), (14, rb [(.tmp 113, (.own 0 1 (0) (p0))), (.tmp 114, I y57)] [(0, (Qg3 y58))] (.ref 0 1 (y57.toNat) 0)), (15, ⟨[(.tmp 127, (.ref 0 1 (y57.toNat) 0)), (.tmp 122, I x64)], [(0, (Qg3 y58))], .any, [(0, (.own 1 ((y58.set y57.toNat x64 : List Int).map Qab)))], false⟩), (16, rb [(.tmp 115, (.own 0 1 (0) (p0))), (.tmp 117, (I (w64 (y57 - 1))))] [(0, (.own 1 ((y58.set y57.toNat x64 : List Int).map Qab)))] (.ref 0 1 ((w64 (y57 - 1)).toNat) 0)), (17, ⟨[(.tmp 128, (.ref 0 1 ((w64 (y57 - 1)).toNat) 0)), (.tmp 126, I x67)], [(0, (.own 1 ((y58.set y57.toNat x64 : List Int).map Qab)))], .any, [(0, (.own 1 (((y58.set y57.toNat x64).set ((w64 (y57 - 1)).toNat) x67 : List Int).map Qab)))], false⟩)] ⟨aio rfl Try.underlying22 ti3 (odt hi63a) (odt hi63b) (Nat.zero_add _), ald rfl ti3 (by decide) (mgt Qab hg65) (nle rfl) rfl, aio rfl Try.underlying22 ti3 (odt hi66a) (odt hi66b) (Nat.zero_add _), ald rfl ti3 (by decide) (mgt Qab hg68) (nle rfl) rfl, aio rfl Try.underlying22 ti3 (odt hi69a) (odt hi69b) (Nat.zero_add _), ast rfl ti3 (by rfl) (mgt Qab hg71) (nle rfl) (Qe5 Qab rfl), aio rfl Try.underlying22 ti3 (odt hi72a) (odt hi72b) (Nat.zero_add _), ast rfl ti3 (by rfl) (mgt Qab hg74) (nle rfl) (Qe5 Qab rfl), trivial⟩ ?_
        refine bln ?_
        refine thn ?_
        refine wx1 tbk [] trivial ?_
        refine thn ?_
        exact arm (mto (n := 220) [(0, (.own 0 1 (0) (p0))), (14, I y53), (17, (I (w64 (y57 - 1))))] [0, 1, 2] [(.own 1 (((y58.set y57.toNat x64).set ((w64 (y57 - 1)).toNat) x67 : List Int).map Qab)), Qbr, (.own 1 [[(Qbq p5)]])] hφ0 (pc (.rn (Qas rfl)) (pc rwl (pc rwl pn))) (qc (spr Qac) (qc (spb (lc (.rn (Qal rn0 rn0)) ln)) (qc (spb (lc (.rn (.plain _ (nld Qaa _))) ln)) qn)))) (ih (w64 (y57 - 1), (y58.set y57.toNat x64).set ((w64 (y57 - 1)).toNat) x67) h)
       ·replace h := Qax hc62 h
        refine wfn hc62 (by kernel_rfl) ?_
        refine Qbk ?_
        refine Qav ?_
        refine Qav ?_
        refine Qbj rfl ?_
        refine thn ?_
        exact ⟨(y58), h, (mto (n := 220) [] [0, 1, 2] [(Qg3 y58), Qbr, (.own 1 [[(Qbq p5)]])] hφ0 pn (qc (spr Qac) (qc (spb (lc (.rn (Qal rn0 rn0)) ln)) (qc (spb (lc (.rn (.plain _ (nld Qaa _))) ln)) qn))))⟩
     ·skip
      refine Qag ?_
      refine wmr (mto (n := 220) (l' := [(0, (.own 0 1 (0) (p0))), (2, I p2), (4, Qdo), (14, I p1), (15, I p2)]) (own' := [(Qde p4), Qbr, (.own 1 [[(Qbq p5)]])]) [(0, (.own 0 1 (0) (p0))), (2, I p2), (4, Qdo), (14, I p1), (15, I p2)] [0, 1, 2] [(Qde p4), Qbr, (.own 1 [[(Qbq p5)]])] hφ0 (pc (.rn (Qas rfl)) (pc rwl (pc (.rn (Qal rn0 (rnc (rqr rfl) (rnc (rqr rfl) rn0)))) (pc rwl (pc rwl pn))))) (qc (spr Qac) (qc (spb (lc (.rn (Qal rn0 rn0)) ln)) (qc (spb (lc (.rn (.plain _ (nld Qaa _))) ln)) qn)))) ?_
      refine Qca (τ := Int × Int) (fun n t => Qa6 N p0 p2 p4 p5 k54 n t.1 t.2 = some r) (fun ⟨y75, y76⟩ => ⟨mk 220 [(0, (.own 0 1 (0) (p0))), (2, I p2), (4, Qdo), (14, I y75), (15, I y76)], [(Qde p4), Qbr, (.own 1 [[(Qbq p5)]])]⟩) (fun t h => by rw [Qa6] at h; cases h) (fun n79 ih t h => ?_) N (p1, p2) h
      obtain ⟨y75, y76⟩ := t
      rw [Qa6] at h
      skip
      refine wsq ?_
      refine wx tbk [] trivial ?_
      rcases bft ((decide (y75 < y76))) with hc80 | hc80
      ·replace h := Qaw hc80 h
       refine wft hc80 (by kernel_rfl) ?_
       refine Qak ?_
       refine thn ?_
       refine Qag ?_
       obtain ⟨x81, hl82, h⟩ := bno h
       refine wx tbk [(3, rp [(.tmp 88, (I (w64 (y75 + y76))))] (K .u64 (IntKind.wrap .u64 (w64 (y75 + y76))))), (4, rp [(.tmp 89, (K .u64 (IntKind.wrap .u64 (w64 (y75 + y76))))), (.const (.int .u64 1), (K .u64 (1)))] (K .u64 ((IntKind.wrap .u64 (w64 (y75 + y76))) / 2))), (5, rp [(.tmp 90, (K .u64 ((IntKind.wrap .u64 (w64 (y75 + y76))) / 2)))] (I (w64 ((IntKind.wrap .u64 (w64 (y75 + y76))) / 2)))), (6, rp [(.tmp 91, (I (w64 ((IntKind.wrap .u64 (w64 (y75 + y76))) / 2))))] (I x81))] ⟨acv rfl (by rw [Try.underlying3]; rfl) Try.underlying76, Qf7 rfl (by decide) (by decide), acv rfl (by rw [Try.underlying76]; rfl) Try.underlying3, Qez hl82 (aas rfl), trivial⟩ ?_
       obtain ⟨hi83, h⟩ := cko h
       obtain ⟨hi83a, hi83b⟩ := Qb4 hi83
       obtain ⟨x84, hg85, h⟩ := bno h
       obtain ⟨hi86, h⟩ := cko h
       obtain ⟨hi86a, hi86b⟩ := Qb4 hi86
       obtain ⟨x87, hg88, h⟩ := bno h
       obtain ⟨x90, hf89, h⟩ := bno h
       refine wxd tbk [(3, rb [(.tmp 93, (.own 0 1 (0) (p0))), (.tmp 94, I p2)] [(0, (Qde p4))] (.ref 0 1 (p2.toNat) 0)), (4, rb [(.tmp 95, (.ref 0 1 (p2.toNat) 0))] [(0, (Qde p4))] (I x84)), (7, rb [(.tmp 97, (.own 0 1 (0) (p0))), (.tmp 98, I x81)] [(0, (Qde p4))] (.ref 0 1 (x81.toNat) 0)), (8, rb [(.tmp 99, (.ref 0 1 (x81.toNat) 0))] [(0, (Qde p4))] (I x87)), (9, ⟨[(.tmp 92, Qdo), (.tmp 96, I x84), (.tmp 100, I x87)], [(1, Qbr), (2, (.own 1 [[(Qbq p5)]]))], I x90, [(1, Qbr), (2, (.own 1 [[(Qbq p5)]]))], false⟩)] ⟨aio rfl Try.underlying22 ti3 (odt hi83a) (odt hi83b) (Nat.zero_add _), ald rfl ti3 (by decide) (mgt Qab hg85) (nle rfl) rfl, aio rfl Try.underlying22 ti3 (odt hi86a) (odt hi86b) (Nat.zero_add _), ald rfl ti3 (by decide) (mgt Qab hg88) (nle rfl) rfl, Qaq (first := []) (cap := [.ref 1 1 0 0, .ref 2 1 0 0]) (vs := [I x84, I x87]) (σr := [Qbr, (.own 1 [[(Qbq p5)]])]) (σr' := [Qbr, (.own 1 [[(Qbq p5)]])]) (res' := (I x90)) [1, 2] rfl Qiy (Qbz N x84 x87 p5 _ hf89) rfl (Qcu (rnc (.plain _ nll) (rnc (.plain _ nll) (rnc (Qba rfl) (rnc (Qba rfl) rn0))))) (slc (Qaj (rnc (.plain _ (NLt.fn _ _ _ nl0 nl0)) rn0)) (slc (Qaj (rnc (.plain _ (nld Qaa _)) rn0)) Qap)) (slc (Qaj (rnc (.plain _ (NLt.fn _ _ _ nl0 nl0)) rn0)) (slc (Qaj (rnc (.plain _ (nld Qaa _)) rn0)) Qap)) (.plain _ nll) rfl rfl rfl, trivial⟩ ?_
       rcases bft ((!(decide (x90 < 0)))) with hc91 | hc91
       ·replace h := Qaw hc91 h
        refine wft hc91 (by kernel_rfl) ?_
        refine wx1 tbk [] trivial ?_
        refine bln ?_
        refine thn ?_
        exact arm (mto (n := 220) [(0, (.own 0 1 (0) (p0))), (2, I p2), (4, Qdo), (14, (I (w64 (x81 + 1)))), (15, I y76)] [0, 1, 2] [(Qde p4), Qbr, (.own 1 [[(Qbq p5)]])] hφ0 (pc (.rn (Qas rfl)) (pc rwl (pc (.rn (Qal rn0 (rnc (rqr rfl) (rnc (rqr rfl) rn0)))) (pc rwl (pc rwl pn))))) (qc (spr Qac) (qc (spb (lc (.rn (Qal rn0 rn0)) ln)) (qc (spb (lc (.rn (.plain _ (nld Qaa _))) ln)) qn)))) (ih (w64 (x81 + 1), y76) h)
       ·replace h := Qax hc91 h
        refine wfn hc91 (by kernel_rfl) ?_
        refine wx1 tbk [] trivial ?_
        refine bln ?_
        refine thn ?_
        exact arm (mto (n := 220) [(0, (.own 0 1 (0) (p0))), (2, I p2), (4, Qdo), (14, I y75), (15, I x81)] [0, 1, 2] [(Qde p4), Qbr, (.own 1 [[(Qbq p5)]])] hφ0 (pc (.rn (Qas rfl)) (pc rwl (pc (.rn (Qal rn0 (rnc (rqr rfl) (rnc (rqr rfl) rn0)))) (pc rwl (pc rwl pn))))) (qc (spr Qac) (qc (spb (lc (.rn (Qal rn0 rn0)) ln)) (qc (spb (lc (.rn (.plain _ (nld Qaa _))) ln)) qn)))) (ih (y75, x81) h)
      ·replace h := Qax hc80 h
       refine wfn hc80 (by kernel_rfl) ?_
       refine Qbk ?_
       refine Qav ?_
       refine Qav ?_
       refine Qbj rfl ?_
       refine thn ?_
       exact ⟨(y75), h, (mto (n := 220) [(0, (.own 0 1 (0) (p0))), (2, I p2), (14, I y75)] [0, 1, 2] [(Qde p4), Qbr, (.own 1 [[(Qbq p5)]])] hφ0 (pc (.rn (Qas rfl)) (pc rwl (pc rwl pn))) (qc (spr Qac) (qc (spb (lc (.rn (Qal rn0 rn0)) ln)) (qc (spb (lc (.rn (.plain _ (nld Qaa _))) ln)) qn))))⟩
    ·replace h := Qax hc52 h
     refine wfn hc52 (by kernel_rfl) ?_
     refine Qak ?_
     refine thn ?_
     exact ⟨(), h, (mto (n := 220) [(0, (.own 0 1 (0) (p0))), (1, I p1), (2, I p2), (3, I p3), (4, Qdo)] [0, 1, 2] [(Qde p4), Qbr, (.own 1 [[(Qbq p5)]])] hφ0 (pc (.rn (Qas rfl)) (pc rwl (pc rwl (pc rwl (pc (.rn (Qal rn0 (rnc (rqr rfl) (rnc (rqr rfl) rn0)))) pn))))) (qc (spr Qac) (qc (spb (lc (.rn (Qal rn0 rn0)) ln)) (qc (spb (lc (.rn (.plain _ (nld Qaa _))) ln)) qn))))⟩
  ·skip
   refine wx tbk [] trivial ?_
   rcases bft (((w64 (p2 - p1)) == 1)) with hc92 | hc92
   ·replace h := Qaw hc92 h
    refine wft hc92 (by kernel_rfl) ?_
    refine wx tbk [] trivial ?_
    refine wx tbk [] trivial ?_
    obtain ⟨k94, hk_k94, h⟩ := jko h
    refine wjn (τ := Int) (fun t => k94 t = some r) (fun y93 => ⟨mk 220 [(0, (.own 0 1 (0) (p0))), (1, I p1), (10, I y93)], [(Qde p4), Qbr, (.own 1 [[(Qbq p5)]])]⟩) (fun y93 h => ?_) ?_
    ·subst hk_k94
     obtain ⟨k96, hk_k96, h⟩ := jko h
     refine wjn (τ := (List Int)) (fun t => k96 t = some r) (fun y95 => ⟨mk 220 [], [(.own 1 ((y95 : List Int).map Qab)), Qbr, (.own 1 [[(Qbq p5)]])]⟩) (fun y95 h => ?_) ?_
     ·subst hk_k96
      refine wmr (mto (n := 220) (l' := []) (own' := [(.own 1 ((y95 : List Int).map Qab)), Qbr, (.own 1 [[(Qbq p5)]])]) [] [0, 1, 2] [(.own 1 ((y95 : List Int).map Qab)), Qbr, (.own 1 [[(Qbq p5)]])] hφ0 pn (qc (spr Qac) (qc (spb (lc (.rn (Qal rn0 rn0)) ln)) (qc (spb (lc (.rn (.plain _ (nld Qaa _))) ln)) qn)))) ?_
      refine Qae ?_
      refine Qaf ?_
      obtain rfl := osi h
      exact ⟨_, Mor.rfl, Qcm (vs := []) trivial rfl (NLt.tup _ nl0) (by kernel_rfl) (Qan (Qe4 Qac _) (Qan (Qa4 (nlc (NLt.of0 (NLt.fn _ _ _ nl0 nl0)) nl0)) (Qan (Qa4 (nlc (NLt.of0 (nld Qaa _)) nl0)) Qbl)))⟩
     ·skip
      refine wx tbk [] trivial ?_
      refine Qag ?_
      refine wmr (mto (n := 220) (l' := [(0, (.own 0 1 (0) (p0))), (10, I y93), (13, I p1)]) (own' := [(Qde p4), Qbr, (.own 1 [[(Qbq p5)]])]) [(0, (.own 0 1 (0) (p0))), (10, I y93), (13, I p1)] [0, 1, 2] [(Qde p4), Qbr, (.own 1 [[(Qbq p5)]])] hφ0 (pc (.rn (Qas rfl)) (pc rwl (pc rwl pn))) (qc (spr Qac) (qc (spb (lc (.rn (Qal rn0 rn0)) ln)) (qc (spb (lc (.rn (.plain _ (nld Qaa _))) ln)) qn)))) ?_
      refine Qca (τ := Int × (List Int)) (fun n t => Qbe N p0 y93 k96 n t.1 t.2 = some r) (fun ⟨y97, y98⟩ => ⟨mk 220 [(0, (.own 0 1 (0) (p0))), (10, I y93), (13, I y97)], [(Qg2 y98), Qbr, (.own 1 [[(Qbq p5)]])]⟩) (fun t h => by rw [Qbe] at h; cases h) (fun n101 ih t h => ?_) N (p1, p4) h
      obtain ⟨y97, y98⟩ := t
      rw [Qbe] at h
      skip
      refine wsq ?_
      refine wx tbk [] trivial ?_
      rcases bft ((decide (y97 < (w64 (y93 - 1))))) with hc102 | hc102
      ·replace h := Qaw hc102 h
       refine wft hc102 (by kernel_rfl) ?_
       refine Qak ?_
       refine thn ?_
       refine wsq ?_
       refine Qag ?_
       obtain ⟨hi103, h⟩ := cko h
       obtain ⟨hi103a, hi103b⟩ := Qb4 hi103
       obtain ⟨x104, hg105, h⟩ := bno h
       obtain ⟨hi106, h⟩ := cko h
       obtain ⟨hi106a, hi106b⟩ := Qb4 hi106
       obtain ⟨x107, hg108, h⟩ := bno h
       obtain ⟨hi109, h⟩ := cko h
       obtain ⟨hi109a, hi109b⟩ := Qb4 hi109
       obtain ⟨x110, hg111, h⟩ := bno h
       obtain ⟨hi112, h⟩ := cko h
       obtain ⟨hi112a, hi112b⟩ := Qb4 hi112
       obtain ⟨x113, hg114, h⟩ := bno h
       refine wy1 tbk [(8, rb [(.tmp 66, (.own 0 1 (0) (p0))), (.tmp 68, (I (w64 (y97 + 1))))] [(0, (Qg2 y98))] (.ref 0 1 ((w64 (y97 + 1)).toNat) 0)), (9, rb [(.tmp 69, (.ref 0 1 ((w64 (y97 + 1)).toNat) 0))] [(0, (Qg2 y98))] (I x104)), (12, rb [(.tmp 71, (.own 0 1 (0) (p0))), (.tmp 72, I y97)] [(0, (Qg2 y98))] (.ref 0 1 (y97.toNat) 0)), (13, rb [(.tmp 73, (.ref 0 1 (y97.toNat) 0))] [(0, (Qg2 y98))] (I x107)), (14, rb [(.tmp 61, (.own 0 1 (0) (p0))), (.tmp 62, I y97)] [(0, (Qg2 y98))] (.ref 0 1 (y97.toNat) 0)), (15, ⟨[(.tmp 75, (.ref 0 1 (y97.toNat) 0)), (.tmp 70, I x104)], [(0, (Qg2 y98))], .any, [(0, (.own 1 ((y98.set y97.toNat x104 : List Int).map Qab)))], false⟩), (16, rb [(.tmp 63, (.own 0 1 (0) (p0))), (.tmp 65, (I (w64 (y97 + 1))))] [(0, (.own 1 ((y98.set y97.toNat x104 : List Int).map Qab)))] (.ref 0 1 ((w64 (y97 + 1)).toNat) 0)), (17, ⟨[(.tmp 76, (.ref 0 1 ((w64 (y97 + 1)).toNat) 0)), (.tmp 74, I x107)], [(0, (.own 1 ((y98.set y97.toNat x104 : List Int).map Qab)))], .any, [(0, (.own 1 (((y98.set y97.toNat x104).set ((w64 (y97 + 1)).toNat) x107 : List Int).map Qab)))], false⟩)] ⟨aio rfl Try.underlying22 ti3 (odt hi103a) (odt hi103b) (Nat.zero_add _), ald rfl ti3 (by decide) (mgt Qab hg105) (nle rfl) rfl, aio rfl Try.underlying22 ti3 (odt hi106a) (odt hi106b) (Nat.zero_add _), ald rfl ti3 (by decide) (mgt Qab hg108) (nle rfl) rfl, aio rfl Try.underlying22 ti3 (odt hi109a) (odt hi109b) (Nat.zero_add _), ast rfl ti3 (by rfl) (mgt Qab hg111) (nle rfl) (Qe5 Qab rfl), aio rfl Try.underlying22 ti3 (odt hi112a) (odt hi112b) (Nat.zero_add _), ast rfl ti3 (by rfl) (mgt Qab hg114) (nle rfl) (Qe5 Qab rfl), trivial⟩ ?_
       refine bln ?_
       refine thn ?_
       refine wx1 tbk [] trivial ?_
       refine thn ?_
       exact arm (mto (n := 220) [(0, (.own 0 1 (0) (p0))), (10, I y93), (13, (I (w64 (y97 + 1))))] [0, 1, 2] [(.own 1 (((y98.set y97.toNat x104).set ((w64 (y97 + 1)).toNat) x107 : List Int).map Qab)), Qbr, (.own 1 [[(Qbq p5)]])] hφ0 (pc (.rn (Qas rfl)) (pc rwl (pc rwl pn))) (qc (spr Qac) (qc (spb (lc (.rn (Qal rn0 rn0)) ln)) (qc (spb (lc (.rn (.plain _ (nld Qaa _))) ln)) qn)))) (ih (w64 (y97 + 1), (y98.set y97.toNat x104).set ((w64 (y97 + 1)).toNat) x107) h)
      ·replace h := Qax hc102 h
       refine wfn hc102 (by kernel_rfl) ?_
       refine Qbk ?_
       refine Qav ?_
       refine Qav ?_
       refine Qbj rfl ?_
       refine thn ?_
       exact ⟨(y98), h, (mto (n := 220) [] [0, 1, 2] [(Qg2 y98), Qbr, (.own 1 [[(Qbq p5)]])] hφ0 pn (qc (spr Qac) (qc (spb (lc (.rn (Qal rn0 rn0)) ln)) (qc (spb (lc (.rn (.plain _ (nld Qaa _))) ln)) qn))))⟩
    ·skip
     refine Qag ?_
     refine wmr (mto (n := 220) (l' := [(0, (.own 0 1 (0) (p0))), (1, I p1), (4, Qdo), (10, I p2), (11, I p3)]) (own' := [(Qde p4), Qbr, (.own 1 [[(Qbq p5)]])]) [(0, (.own 0 1 (0) (p0))), (1, I p1), (4, Qdo), (10, I p2), (11, I p3)] [0, 1, 2] [(Qde p4), Qbr, (.own 1 [[(Qbq p5)]])] hφ0 (pc (.rn (Qas rfl)) (pc rwl (pc (.rn (Qal rn0 (rnc (rqr rfl) (rnc (rqr rfl) rn0)))) (pc rwl (pc rwl pn))))) (qc (spr Qac) (qc (spb (lc (.rn (Qal rn0 rn0)) ln)) (qc (spb (lc (.rn (.plain _ (nld Qaa _))) ln)) qn)))) ?_
     refine Qca (τ := Int × Int) (fun n t => Qa5 N p0 p1 p4 p5 k94 n t.1 t.2 = some r) (fun ⟨y115, y116⟩ => ⟨mk 220 [(0, (.own 0 1 (0) (p0))), (1, I p1), (4, Qdo), (10, I y115), (11, I y116)], [(Qde p4), Qbr, (.own 1 [[(Qbq p5)]])]⟩) (fun t h => by rw [Qa5] at h; cases h) (fun n119 ih t h => ?_) N (p2, p3) h
     obtain ⟨y115, y116⟩ := t
     rw [Qa5] at h
     skip
     refine wsq ?_
     refine wx tbk [] trivial ?_
     rcases bft ((decide (y115 < y116))) with hc120 | hc120
     ·replace h := Qaw hc120 h
      refine wft hc120 (by kernel_rfl) ?_
      refine Qak ?_
      refine thn ?_
      refine Qag ?_
      obtain ⟨x121, hl122, h⟩ := bno h
      refine wx tbk [(3, rp [(.tmp 36, (I (w64 (y115 + y116))))] (K .u64 (IntKind.wrap .u64 (w64 (y115 + y116))))), (4, rp [(.tmp 37, (K .u64 (IntKind.wrap .u64 (w64 (y115 + y116))))), (.const (.int .u64 1), (K .u64 (1)))] (K .u64 ((IntKind.wrap .u64 (w64 (y115 + y116))) / 2))), (5, rp [(.tmp 38, (K .u64 ((IntKind.wrap .u64 (w64 (y115 + y116))) / 2)))] (I (w64 ((IntKind.wrap .u64 (w64 (y115 + y116))) / 2)))), (6, rp [(.tmp 39, (I (w64 ((IntKind.wrap .u64 (w64 (y115 + y116))) / 2))))] (I x121))] ⟨acv rfl (by rw [Try.underlying3]; rfl) Try.underlying76, Qf7 rfl (by decide) (by decide), acv rfl (by rw [Try.underlying76]; rfl) Try.underlying3, Qez hl122 (aas rfl), trivial⟩ ?_
      obtain ⟨hi123, h⟩ := cko h
      obtain ⟨hi123a, hi123b⟩ := Qb4 hi123
      obtain ⟨x124, hg125, h⟩ := bno h
      obtain ⟨hi126, h⟩ := cko h
      obtain ⟨hi126a, hi126b⟩ := Qb4 hi126
      obtain ⟨x127, hg128, h⟩ := bno h
      obtain ⟨x130, hf129, h⟩ := bno h
      refine wxd tbk [(3, rb [(.tmp 41, (.own 0 1 (0) (p0))), (.tmp 42, I x121)] [(0, (Qde p4))] (.ref 0 1 (x121.toNat) 0)), (4, rb [(.tmp 43, (.ref 0 1 (x121.toNat) 0))] [(0, (Qde p4))] (I x124)), (7, rb [(.tmp 45, (.own 0 1 (0) (p0))), (.tmp 46, I p1)] [(0, (Qde p4))] (.ref 0 1 (p1.toNat) 0)), (8, rb [(.tmp 47, (.ref 0 1 (p1.toNat) 0))] [(0, (Qde p4))] (I x127)), (9, ⟨[(.tmp 40, Qdo), (.tmp 44, I x124), (.tmp 48, I x127)], [(1, Qbr), (2, (.own 1 [[(Qbq p5)]]))], I x130, [(1, Qbr), (2, (.own 1 [[(Qbq p5)]]))], false⟩)] ⟨aio rfl Try.underlying22 ti3 (odt hi123a) (odt hi123b) (Nat.zero_add _), ald rfl ti3 (by decide) (mgt Qab hg125) (nle rfl) rfl, aio rfl Try.underlying22 ti3 (odt hi126a) (odt hi126b) (Nat.zero_add _), ald rfl ti3 (by decide) (mgt Qab hg128) (nle rfl) rfl, Qaq (first := []) (cap := [.ref 1 1 0 0, .ref 2 1 0 0]) (vs := [I x124, I x127]) (σr := [Qbr, (.own 1 [[(Qbq p5)]])]) (σr' := [Qbr, (.own 1 [[(Qbq p5)]])]) (res' := (I x130)) [1, 2] rfl Qiy (Qbz N x124 x127 p5 _ hf129) rfl (Qcu (rnc (.plain _ nll) (rnc (.plain _ nll) (rnc (Qba rfl) (rnc (Qba rfl) rn0))))) (slc (Qaj (rnc (.plain _ (NLt.fn _ _ _ nl0 nl0)) rn0)) (slc (Qaj (rnc (.plain _ (nld Qaa _)) rn0)) Qap)) (slc (Qaj (rnc (.plain _ (NLt.fn _ _ _ nl0 nl0)) rn0)) (slc (Qaj (rnc (.plain _ (nld Qaa _)) rn0)) Qap)) (.plain _ nll) rfl rfl rfl, trivial⟩ ?_
      rcases bft ((decide (x130 < 0))) with hc131 | hc131
      ·replace h := Qaw hc131 h
       refine wft hc131 (by kernel_rfl) ?_
       refine wx1 tbk [] trivial ?_
       refine bln ?_
       refine thn ?_
       exact arm (mto (n := 220) [(0, (.own 0 1 (0) (p0))), (1, I p1), (4, Qdo), (10, (I (w64 (x121 + 1)))), (11, I y116)] [0, 1, 2] [(Qde p4), Qbr, (.own 1 [[(Qbq p5)]])] hφ0 (pc (.rn (Qas rfl)) (pc rwl (pc (.rn (Qal rn0 (rnc (rqr rfl) (rnc (rqr rfl) rn0)))) (pc rwl (pc rwl pn))))) (qc (spr Qac) (qc (spb (lc (.rn (Qal rn0 rn0)) ln)) (qc (spb (lc (.rn (.plain _ (nld Qaa _))) ln)) qn)))) (ih (w64 (x121 + 1), y116) h)
      ·replace h := Qax hc131 h
       refine wfn hc131 (by kernel_rfl) ?_
       refine wx1 tbk [] trivial ?_
       refine bln ?_
       refine thn ?_
       exact arm (mto (n := 220) [(0, (.own 0 1 (0) (p0))), (1, I p1), (4, Qdo), (10, I y115), (11, I x121)] [0, 1, 2] [(Qde p4), Qbr, (.own 1 [[(Qbq p5)]])] hφ0 (pc (.rn (Qas rfl)) (pc rwl (pc (.rn (Qal rn0 (rnc (rqr rfl) (rnc (rqr rfl) rn0)))) (pc rwl (pc rwl pn))))) (qc (spr Qac) (qc (spb (lc (.rn (Qal rn0 rn0)) ln)) (qc (spb (lc (.rn (.plain _ (nld Qaa _))) ln)) qn)))) (ih (y115, x121) h)
     ·replace h := Qax hc120 h
      refine wfn hc120 (by kernel_rfl) ?_
      refine Qbk ?_
      refine Qav ?_
      refine Qav ?_
      refine Qbj rfl ?_
      refine thn ?_
      exact ⟨(y115), h, (mto (n := 220) [(0, (.own 0 1 (0) (p0))), (1, I p1), (10, I y115)] [0, 1, 2] [(Qde p4), Qbr, (.own 1 [[(Qbq p5)]])] hφ0 (pc (.rn (Qas rfl)) (pc rwl (pc rwl pn))) (qc (spr Qac) (qc (spb (lc (.rn (Qal rn0 rn0)) ln)) (qc (spb (lc (.rn (.plain _ (nld Qaa _))) ln)) qn))))⟩
   ·replace h := Qax hc92 h
    refine wfn hc92 (by kernel_rfl) ?_
    refine Qak ?_
    refine thn ?_
    exact ⟨(), h, (mto (n := 220) [(0, (.own 0 1 (0) (p0))), (1, I p1), (2, I p2), (3, I p3), (4, Qdo)] [0, 1, 2] [(Qde p4), Qbr, (.own 1 [[(Qbq p5)]])] hφ0 (pc (.rn (Qas rfl)) (pc rwl (pc rwl (pc rwl (pc (.rn (Qal rn0 (rnc (rqr rfl) (rnc (rqr rfl) rn0)))) pn))))) (qc (spr Qac) (qc (spb (lc (.rn (Qal rn0 rn0)) ln)) (qc (spb (lc (.rn (.plain _ (nld Qaa _))) ln)) qn))))⟩
def Qbm (N : Nat) (p0 : Nat) (p1 : Int) (p3 : (List GPortion)) (y7 : Int) (k15 : Int × (List Int) → Option (List Int)) : Nat → Int → Int → (List Int) → Option (List Int)
  | 0, _, _, _ => none
  | n25 + 1, y19, y20, y21 =>
    bif (decide (y20 ≤ p1)) then
     (Qbw N p0 y19 (w64 (y19 + y7)) y20 y21 p3).bind fun x28 =>
     (some (w64 (y20 + (w64 (2 * y7))))).bind fun x29 =>
     Qbm N p0 p1 p3 y7 k15 n25 y20 x29 x28
    else
     k15 (y19, y21)
def Qa2 (N : Nat) (p0 : Nat) (p1 : Int) (p3 : (List GPortion)) : Nat → Int → (List Int) → Option (List Int)
  | 0, _, _ => none
  | n11 + 1, y7, y8 =>
    bif (decide (y7 < p1)) then
     Qcg (fun ⟨y13, y14⟩ =>
       bif (decide ((w64 (y13 + y7)) < p1)) then
        (Qbw N p0 y13 (w64 (y13 + y7)) p1 y14 p3).bind fun x18 =>
        Qa2 N p0 p1 p3 n11 (w64 (y7 * 2)) x18
       else
        Qa2 N p0 p1 p3 n11 (w64 (y7 * 2)) y14) fun k15 : Int × (List Int) → Option (List Int) =>
     Qbm N p0 p1 p3 y7 k15 N 0 (w64 (2 * y7)) y8
    else
     some y8
def Qa8 (N : Nat) (p0 : Nat) (p1 : Int) (p3 : (List GPortion)) (k4 : Int × (List Int) → Option (List Int)) : Nat → Int → Int → (List Int) → Option (List Int)
  | 0, _, _, _ => none
  | n37 + 1, y31, y32, y33 =>
    bif (decide (y32 ≤ p1)) then
     (Qbi N p0 y31 y32 y33 p3).bind fun x40 =>
     Qa8 N p0 p1 p3 k4 n37 y32 (w64 (y32 + 20)) x40
    else
     k4 (y31, y33)
def Qcz (N : Nat) (p0 : Nat) (p1 : Int) (p2 : (List Int)) (p3 : (List GPortion)) : Option (List Int) :=
  Qcg (fun ⟨y2, y3⟩ =>
    (Qbi N p0 y2 p1 y3 p3).bind fun x6 =>
    Qa2 N p0 p1 p3 N 20 x6) fun k4 : Int × (List Int) → Option (List Int) =>
  Qa8 N p0 p1 p3 k4 N 0 20 p2
def Qe8 : AV := .fn (.func 120) [] [(.ref 1 1 (0) 0), (.ref 2 1 (0) 0)]
def z20_1 (p2 : (List Int)) : Slot := .own 1 ((p2 : List Int).map Qab)
def Qdw : Slot := .own 1 [[(.fn (.func 72) [] [])]]
def Qdv (p3 : (List GPortion)) : AV := .dat 2 ((p3 : List GPortion).map Qay)
def z20_5 (y3 : (List Int)) : Slot := .own 1 ((y3 : List Int).map Qab)
def z20_6 (x6 : (List Int)) : Slot := .own 1 ((x6 : List Int).map Qab)
def z20_14 (y8 : (List Int)) : Slot := .own 1 ((y8 : List Int).map Qab)
def z20_28 (y14 : (List Int)) : Slot := .own 1 ((y14 : List Int).map Qab)
def z20_47 (y21 : (List Int)) : Slot := .own 1 ((y21 : List Int).map Qab)
def z20_50 (y33 : (List Int)) : Slot := .own 1 ((y33 : List Int).map Qab)
theorem Qfa (N : Nat) (p0 : Nat) (p1 : Int) (p2 : (List Int)) (p3 : (List GPortion)) (r : (List Int)) (h : Qcz N p0 p1 p2 p3 = some r) : Spec Try.prog 175 [(.own 0 1 (0) (p0)), (I (p1)), Qe8] [(z20_1 p2), Qdw, (.own 1 [[(Qdv p3)]])] (.tup []) [(.own 1 ((r : List Int).map Qab)), Qdw, (.own 1 [[(Qdv p3)]])] := by
  refine Qah Try.func175 rfl 3 (nle rfl) (fun X φ0 w0 hφ0 hd0 => ?_)
  unfold Qcz at h
  refine Qcf ?_
  refine wx tbk [] trivial ?_
  refine wx tbk [] trivial ?_
  obtain ⟨k4, hk_k4, h⟩ := jko h
  refine wjn (τ := Int × (List Int)) (fun t => k4 t = some r) (fun ⟨y2, y3⟩ => ⟨mk 63 [(0, (.own 0 1 (0) (p0))), (1, I p1), (2, Qe8), (6, I 20), (7, I y2)], [(z20_5 y3), Qdw, (.own 1 [[(Qdv p3)]])]⟩) (fun t h => ?_) ?_
  ·subst hk_k4
   obtain ⟨y2, y3⟩ := t
   obtain ⟨x6, hf5, h⟩ := bno h
   refine wx tbk [(4, ⟨[fu 215, (.tmp 23, (.own 0 1 (0) (p0))), (.tmp 24, I y2), (.tmp 25, I p1), (.tmp 26, Qe8)], [(0, (z20_5 y3)), (1, Qdw), (2, (.own 1 [[(Qdv p3)]]))], (.tup []), [(0, (z20_6 x6)), (1, Qdw), (2, (.own 1 [[(Qdv p3)]]))], false⟩)] ⟨Qaq (first := []) (cap := []) (vs := [(.own 0 1 (0) (p0)), I y2, I p1, Qe8]) (σr := [(z20_5 y3), Qdw, (.own 1 [[(Qdv p3)]])]) (σr' := [(z20_6 x6), Qdw, (.own 1 [[(Qdv p3)]])]) (res' := (.tup [])) [0, 1, 2] rfl enter215 (Qdd N p0 y2 p1 y3 p3 _ hf5) rfl (Qcu (rnc (Qe6 rfl) (rnc (.plain _ nll) (rnc (.plain _ nll) (rnc (Qal rn0 (rnc (Qba rfl) (rnc (Qba rfl) rn0))) rn0))))) (slc (Qc6 Qac) (slc (Qaj (rnc (.plain _ (NLt.fn _ _ _ nl0 nl0)) rn0)) (slc (Qaj (rnc (.plain _ (nld Qaa _)) rn0)) Qap))) (slc (Qc6 Qac) (slc (Qaj (rnc (.plain _ (NLt.fn _ _ _ nl0 nl0)) rn0)) (slc (Qaj (rnc (.plain _ (nld Qaa _)) rn0)) Qap))) (.plain _ (NLt.tup _ nl0)) rfl rfl rfl, trivial⟩ ?_
   refine Qag ?_
   refine wmr (mto (n := 63) (l' := [(0, (.own 0 1 (0) (p0))), (1, I p1), (2, Qe8), (6, I 20)]) (own' := [(z20_6 x6), Qdw, (.own 1 [[(Qdv p3)]])]) [(0, (.own 0 1 (0) (p0))), (1, I p1), (2, Qe8), (6, I 20)] [0, 1, 2] [(z20_6 x6), Qdw, (.own 1 [[(Qdv p3)]])] hφ0 (pc (.rn (Qas rfl)) (pc rwl (pc (.rn (Qal rn0 (rnc (rqr rfl) (rnc (rqr rfl) rn0)))) (pc rwl pn)))) (qc (spr Qac) (qc (spb (lc (.rn (Qal rn0 rn0)) ln)) (qc (spb (lc (.rn (.plain _ (nld Qaa _))) ln)) qn)))) ?_
   refine Qca (τ := Int × (List Int)) (fun n t => Qa2 N p0 p1 p3 n t.1 t.2 = some r) (fun ⟨y7, y8⟩ => ⟨mk 63 [(0, (.own 0 1 (0) (p0))), (1, I p1), (2, Qe8), (6, I y7)], [(z20_14 y8), Qdw, (.own 1 [[(Qdv p3)]])]⟩) (fun t h => by rw [Qa2] at h; cases h) (fun n11 ih t h => ?_) N (20, x6) h
   obtain ⟨y7, y8⟩ := t
   rw [Qa2] at h
   skip
   refine wsq ?_
   refine wx tbk [] trivial ?_
   rcases bft ((decide (y7 < p1))) with hc12 | hc12
   ·replace h := Qaw hc12 h
    refine wft hc12 (by kernel_rfl) ?_
    refine Qak ?_
    refine thn ?_
    refine Qag ?_
    refine wx tbk [] trivial ?_
    obtain ⟨k15, hk_k15, h⟩ := jko h
    refine wjn (τ := Int × (List Int)) (fun t => k15 t = some r) (fun ⟨y13, y14⟩ => ⟨mk 63 [(0, (.own 0 1 (0) (p0))), (1, I p1), (2, Qe8), (6, I y7), (7, I y13)], [(z20_28 y14), Qdw, (.own 1 [[(Qdv p3)]])]⟩) (fun t h => ?_) ?_
    ·subst hk_k15
     obtain ⟨y13, y14⟩ := t
     refine wsq ?_
     refine wx tbk [] trivial ?_
     refine wx tbk [] trivial ?_
     rcases bft ((decide ((w64 (y13 + y7)) < p1))) with hc16 | hc16
     ·replace h := Qaw hc16 h
      refine wft hc16 (by kernel_rfl) ?_
      obtain ⟨x18, hf17, h⟩ := bno h
      refine wx1 tbk [(5, ⟨[fu 216, (.tmp 55, (.own 0 1 (0) (p0))), (.tmp 56, I y13), (.tmp 57, (I (w64 (y13 + y7)))), (.tmp 58, I p1), (.tmp 59, Qe8)], [(0, (z20_28 y14)), (1, Qdw), (2, (.own 1 [[(Qdv p3)]]))], (.tup []), [(0, (.own 1 ((x18 : List Int).map Qab))), (1, Qdw), (2, (.own 1 [[(Qdv p3)]]))], false⟩)] ⟨Qaq (first := []) (cap := []) (vs := [(.own 0 1 (0) (p0)), I y13, (I (w64 (y13 + y7))), I p1, Qe8]) (σr := [(z20_28 y14), Qdw, (.own 1 [[(Qdv p3)]])]) (σr' := [(.own 1 ((x18 : List Int).map Qab)), Qdw, (.own 1 [[(Qdv p3)]])]) (res' := (.tup [])) [0, 1, 2] rfl Qix (Qdn N p0 y13 (w64 (y13 + y7)) p1 y14 p3 _ hf17) rfl (Qcu (rnc (Qe6 rfl) (rnc (.plain _ nll) (rnc (.plain _ nll) (rnc (.plain _ nll) (rnc (Qal rn0 (rnc (Qba rfl) (rnc (Qba rfl) rn0))) rn0)))))) (slc (Qc6 Qac) (slc (Qaj (rnc (.plain _ (NLt.fn _ _ _ nl0 nl0)) rn0)) (slc (Qaj (rnc (.plain _ (nld Qaa _)) rn0)) Qap))) (slc (Qc6 Qac) (slc (Qaj (rnc (.plain _ (NLt.fn _ _ _ nl0 nl0)) rn0)) (slc (Qaj (rnc (.plain _ (nld Qaa _)) rn0)) Qap))) (.plain _ (NLt.tup _ nl0)) rfl rfl rfl, trivial⟩ ?_
      refine thn ?_
      refine wx1 tbk [] trivial ?_
      refine bln ?_
      refine thn ?_
      exact arm (mto (n := 63) [(0, (.own 0 1 (0) (p0))), (1, I p1), (2, Qe8), (6, (I (w64 (y7 * 2))))] [0, 1, 2] [(.own 1 ((x18 : List Int).map Qab)), Qdw, (.own 1 [[(Qdv p3)]])] hφ0 (pc (.rn (Qas rfl)) (pc rwl (pc (.rn (Qal rn0 (rnc (rqr rfl) (rnc (rqr rfl) rn0)))) (pc rwl pn)))) (qc (spr Qac) (qc (spb (lc (.rn (Qal rn0 rn0)) ln)) (qc (spb (lc (.rn (.plain _ (nld Qaa _))) ln)) qn)))) (ih (w64 (y7 * 2), x18) h)
     ·replace h := Qax hc16 h
      refine wfn hc16 (by kernel_rfl) ?_
      refine Qak ?_
      refine thn ?_
      refine wx1 tbk [] trivial ?_
      refine bln ?_
      refine thn ?_
      exact arm (mto (n := 63) [(0, (.own 0 1 (0) (p0))), (1, I p1), (2, Qe8), (6, (I (w64 (y7 * 2))))] [0, 1, 2] [(z20_28 y14), Qdw, (.own 1 [[(Qdv p3)]])] hφ0 (pc (.rn (Qas rfl)) (pc rwl (pc (.rn (Qal rn0 (rnc (rqr rfl) (rnc (rqr rfl) rn0)))) (pc rwl pn)))) (qc (spr Qac) (qc (spb (lc (.rn (Qal rn0 rn0)) ln)) (qc (spb (lc (.rn (.plain _ (nld Qaa _))) ln)) qn)))) (ih (w64 (y7 * 2), y14) h)
    ·skip
     refine Qag ?_
     refine wmr (mto (n := 63) (l' := [(0, (.own 0 1 (0) (p0))), (1, I p1), (2, Qe8), (6, I y7), (7, I 0), (8, (I ((w64 (2 * y7)))))]) (own' := [(z20_14 y8), Qdw, (.own 1 [[(Qdv p3)]])]) [(0, (.own 0 1 (0) (p0))), (1, I p1), (2, Qe8), (6, I y7), (7, I 0), (8, (I (w64 (2 * y7))))] [0, 1, 2] [(z20_14 y8), Qdw, (.own 1 [[(Qdv p3)]])] hφ0 (pc (.rn (Qas rfl)) (pc rwl (pc (.rn (Qal rn0 (rnc (rqr rfl) (rnc (rqr rfl) rn0)))) (pc rwl (pc rwl (pc rwl pn)))))) (qc (spr Qac) (qc (spb (lc (.rn (Qal rn0 rn0)) ln)) (qc (spb (lc (.rn (.plain _ (nld Qaa _))) ln)) qn)))) ?_
     refine Qca (τ := Int × Int × (List Int)) (fun n t => Qbm N p0 p1 p3 y7 k15 n t.1 t.2.1 t.2.2 = some r) (fun ⟨y19, y20, y21⟩ => ⟨mk 63 [(0, (.own 0 1 (0) (p0))), (1, I p1), (2, Qe8), (6, I y7), (7, I y19), (8, I y20)], [(z20_47 y21), Qdw, (.own 1 [[(Qdv p3)]])]⟩) (fun t h => by rw [Qbm] at h; cases h) (fun n25 ih t h => ?_) N (0, w64 (2 * y7), y8) h
     obtain ⟨y19, y20, y21⟩ := t
     rw [Qbm] at h
     skip
     refine wsq ?_
     refine wx tbk [] trivial ?_
     rcases bft ((decide (y20 ≤ p1))) with hc26 | hc26
     ·replace h := Qaw hc26 h
      refine wft hc26 (by kernel_rfl) ?_
      refine Qak ?_
      refine thn ?_
      refine Qag ?_
      obtain ⟨x28, hf27, h⟩ := bno h
      refine wx tbk [(7, ⟨[fu 216, (.tmp 36, (.own 0 1 (0) (p0))), (.tmp 37, I y19), (.tmp 40, (I (w64 (y19 + y7)))), (.tmp 41, I y20), (.tmp 42, Qe8)], [(0, (z20_47 y21)), (1, Qdw), (2, (.own 1 [[(Qdv p3)]]))], (.tup []), [(0, (.own 1 ((x28 : List Int).map Qab))), (1, Qdw), (2, (.own 1 [[(Qdv p3)]]))], false⟩)] ⟨Qaq (first := []) (cap := []) (vs := [(.own 0 1 (0) (p0)), I y19, (I (w64 (y19 + y7))), I y20, Qe8]) (σr := [(z20_47 y21), Qdw, (.own 1 [[(Qdv p3)]])]) (σr' := [(.own 1 ((x28 : List Int).map Qab)), Qdw, (.own 1 [[(Qdv p3)]])]) (res' := (.tup [])) [0, 1, 2] rfl Qix (Qdn N p0 y19 (w64 (y19 + y7)) y20 y21 p3 _ hf27) rfl (Qcu (rnc (Qe6 rfl) (rnc (.plain _ nll) (rnc (.plain _ nll) (rnc (.plain _ nll) (rnc (Qal rn0 (rnc (Qba rfl) (rnc (Qba rfl) rn0))) rn0)))))) (slc (Qc6 Qac) (slc (Qaj (rnc (.plain _ (NLt.fn _ _ _ nl0 nl0)) rn0)) (slc (Qaj (rnc (.plain _ (nld Qaa _)) rn0)) Qap))) (slc (Qc6 Qac) (slc (Qaj (rnc (.plain _ (NLt.fn _ _ _ nl0 nl0)) rn0)) (slc (Qaj (rnc (.plain _ (nld Qaa _)) rn0)) Qap))) (.plain _ (NLt.tup _ nl0)) rfl rfl rfl, trivial⟩ ?_
      refine wx tbk [] trivial ?_
      obtain ⟨x29, hl30, h⟩ := bno h
      refine wx1 tbk [(4, rp [(.tmp 48, (I (w64 (y20 + (w64 (2 * y7))))))] (I x29))] ⟨Qez hl30 (aas rfl), trivial⟩ ?_
      refine bln ?_
      refine thn ?_
      exact arm (mto (n := 63) [(0, (.own 0 1 (0) (p0))), (1, I p1), (2, Qe8), (6, I y7), (7, I y20), (8, I x29)] [0, 1, 2] [(.own 1 ((x28 : List Int).map Qab)), Qdw, (.own 1 [[(Qdv p3)]])] hφ0 (pc (.rn (Qas rfl)) (pc rwl (pc (.rn (Qal rn0 (rnc (rqr rfl) (rnc (rqr rfl) rn0)))) (pc rwl (pc rwl (pc rwl pn)))))) (qc (spr Qac) (qc (spb (lc (.rn (Qal rn0 rn0)) ln)) (qc (spb (lc (.rn (.plain _ (nld Qaa _))) ln)) qn)))) (ih (y20, x29, x28) h)
     ·replace h := Qax hc26 h
      refine wfn hc26 (by kernel_rfl) ?_
      refine Qbk ?_
      refine Qav ?_
      refine Qav ?_
      refine Qbj rfl ?_
      refine thn ?_
      exact ⟨(y19, y21), h, (mto (n := 63) [(0, (.own 0 1 (0) (p0))), (1, I p1), (2, Qe8), (6, I y7), (7, I y19)] [0, 1, 2] [(z20_47 y21), Qdw, (.own 1 [[(Qdv p3)]])] hφ0 (pc (.rn (Qas rfl)) (pc rwl (pc (.rn (Qal rn0 (rnc (rqr rfl) (rnc (rqr rfl) rn0)))) (pc rwl (pc rwl pn))))) (qc (spr Qac) (qc (spb (lc (.rn (Qal rn0 rn0)) ln)) (qc (spb (lc (.rn (.plain _ (nld Qaa _))) ln)) qn))))⟩
   ·replace h := Qax hc12 h
    refine wfn hc12 (by kernel_rfl) ?_
    refine Qbk ?_
    refine Qav ?_
    refine Qav ?_
    refine Qbj rfl ?_
    obtain rfl := osi h
    exact ⟨_, (mto (n := 63) (l' := []) (own' := [(z20_14 y8), Qdw, (.own 1 [[(Qdv p3)]])]) [] [0, 1, 2] [(z20_14 y8), Qdw, (.own 1 [[(Qdv p3)]])] hφ0 pn (qc (spr Qac) (qc (spb (lc (.rn (Qal rn0 rn0)) ln)) (qc (spb (lc (.rn (.plain _ (nld Qaa _))) ln)) qn)))), Qcm (vs := []) trivial rfl (NLt.tup _ nl0) (by kernel_rfl) (Qan (Qe4 Qac _) (Qan (Qa4 (nlc (NLt.of0 (NLt.fn _ _ _ nl0 nl0)) nl0)) (Qan (Qa4 (nlc (NLt.of0 (nld Qaa _)) nl0)) Qbl)))⟩
  ·skip
   refine Qag ?_
   refine wmr (mto (n := 63) (l' := [(0, (.own 0 1 (0) (p0))), (1, I p1), (2, Qe8), (6, I 20), (7, I 0), (8, I 20)]) (own' := [(z20_1 p2), Qdw, (.own 1 [[(Qdv p3)]])]) [(0, (.own 0 1 (0) (p0))), (1, I p1), (2, Qe8), (6, I 20), (7, I 0), (8, I 20)] [0, 1, 2] [(z20_1 p2), Qdw, (.own 1 [[(Qdv p3)]])] hφ0 (pc (.rn (Qas rfl)) (pc rwl (pc (.rn (Qal rn0 (rnc (rqr rfl) (rnc (rqr rfl) rn0)))) (pc rwl (pc rwl (pc rwl pn)))))) (qc (spr Qac) (qc (spb (lc (.rn (Qal rn0 rn0)) ln)) (qc (spb (lc (.rn (.plain _ (nld Qaa _))) ln)) qn)))) ?_
   refine Qca (τ := Int × Int × (List Int)) (fun n t => Qa8 N p0 p1 p3 k4 n t.1 t.2.1 t.2.2 = some r) (fun ⟨y31, y32, y33⟩ => ⟨mk 63 [(0, (.own 0 1 (0) (p0))), (1, I p1), (2, Qe8), (6, I 20), (7, I y31), (8, I y32)], [(z20_50 y33), Qdw, (.own 1 [[(Qdv p3)]])]⟩) (fun t h => by rw [Qa8] at h; cases h) (fun n37 ih t h => ?_) N (0, 20, p2) h
   obtain ⟨y31, y32, y33⟩ := t
   rw [Qa8] at h
   skip
   refine wsq ?_
   refine wx tbk [] trivial ?_
   rcases bft ((decide (y32 ≤ p1))) with hc38 | hc38
   ·replace h := Qaw hc38 h
    refine wft hc38 (by kernel_rfl) ?_
    refine Qak ?_
    refine thn ?_
    refine Qag ?_
    obtain ⟨x40, hf39, h⟩ := bno h
    refine wx tbk [(4, ⟨[fu 215, (.tmp 14, (.own 0 1 (0) (p0))), (.tmp 15, I y31), (.tmp 16, I y32), (.tmp 17, Qe8)], [(0, (z20_50 y33)), (1, Qdw), (2, (.own 1 [[(Qdv p3)]]))], (.tup []), [(0, (.own 1 ((x40 : List Int).map Qab))), (1, Qdw), (2, (.own 1 [[(Qdv p3)]]))], false⟩)] ⟨Qaq (first := []) (cap := []) (vs := [(.own 0 1 (0) (p0)), I y31, I y32, Qe8]) (σr := [(z20_50 y33), Qdw, (.own 1 [[(Qdv p3)]])]) (σr' := [(.own 1 ((x40 : List Int).map Qab)), Qdw, (.own 1 [[(Qdv p3)]])]) (res' := (.tup [])) [0, 1, 2] rfl enter215 (Qdd N p0 y31 y32 y33 p3 _ hf39) rfl (Qcu (rnc (Qe6 rfl) (rnc (.plain _ nll) (rnc (.plain _ nll) (rnc (Qal rn0 (rnc (Qba rfl) (rnc (Qba rfl) rn0))) rn0))))) (slc (Qc6 Qac) (slc (Qaj (rnc (.plain _ (NLt.fn _ _ _ nl0 nl0)) rn0)) (slc (Qaj (rnc (.plain _ (nld Qaa _)) rn0)) Qap))) (slc (Qc6 Qac) (slc (Qaj (rnc (.plain _ (NLt.fn _ _ _ nl0 nl0)) rn0)) (slc (Qaj (rnc (.plain _ (nld Qaa _)) rn0)) Qap))) (.plain _ (NLt.tup _ nl0)) rfl rfl rfl, trivial⟩ ?_
    refine wx tbk [] trivial ?_
    refine wx1 tbk [] trivial ?_
    refine bln ?_
    refine thn ?_
    exact arm (mto (n := 63) [(0, (.own 0 1 (0) (p0))), (1, I p1), (2, Qe8), (6, I 20), (7, I y32), (8, (I (w64 (y32 + 20))))] [0, 1, 2] [(.own 1 ((x40 : List Int).map Qab)), Qdw, (.own 1 [[(Qdv p3)]])] hφ0 (pc (.rn (Qas rfl)) (pc rwl (pc (.rn (Qal rn0 (rnc (rqr rfl) (rnc (rqr rfl) rn0)))) (pc rwl (pc rwl (pc rwl pn)))))) (qc (spr Qac) (qc (spb (lc (.rn (Qal rn0 rn0)) ln)) (qc (spb (lc (.rn (.plain _ (nld Qaa _))) ln)) qn)))) (ih (y32, w64 (y32 + 20), x40) h)
   ·replace h := Qax hc38 h
    refine wfn hc38 (by kernel_rfl) ?_
    refine Qbk ?_
    refine Qav ?_
    refine Qav ?_
    refine Qbj rfl ?_
    refine thn ?_
    exact ⟨(y31, y33), h, (mto (n := 63) [(0, (.own 0 1 (0) (p0))), (1, I p1), (2, Qe8), (6, I 20), (7, I y31)] [0, 1, 2] [(z20_50 y33), Qdw, (.own 1 [[(Qdv p3)]])] hφ0 (pc (.rn (Qas rfl)) (pc rwl (pc (.rn (Qal rn0 (rnc (rqr rfl) (rnc (rqr rfl) rn0)))) (pc rwl (pc rwl pn))))) (qc (spr Qac) (qc (spb (lc (.rn (Qal rn0 rn0)) ln)) (qc (spb (lc (.rn (.plain _ (nld Qaa _))) ln)) qn))))⟩
def Qbb (N : Nat) (p0 : Nat) (p1 : (List Int)) (p2 : (List GPortion)) : Option (List Int) :=
  (Qcz N p0 ((p0 : Nat) : Int) p1 p2).bind fun x3 =>
  some x3
def z19_0 : AV := .fn (.func 120) [] [(.ref 1 1 (0) 0), (.ref 2 1 (0) 0)]
def z19_1 (p1 : (List Int)) : Slot := .own 1 ((p1 : List Int).map Qab)
def z19_2 : Slot := .own 1 [[(.fn (.func 72) [] [])]]
def z19_3 (p2 : (List GPortion)) : AV := .dat 2 ((p2 : List GPortion).map Qay)
def z19_5 (x3 : (List Int)) : Slot := .own 1 ((x3 : List Int).map Qab)
theorem Qee (N : Nat) (p0 : Nat) (p1 : (List Int)) (p2 : (List GPortion)) (r : (List Int)) (h : Qbb N p0 p1 p2 = some r) : Spec Try.prog 119 [(.own 0 1 (0) (p0)), z19_0] [(z19_1 p1), z19_2, (.own 1 [[(z19_3 p2)]])] (.tup []) [(.own 1 ((r : List Int).map Qab)), z19_2, (.own 1 [[(z19_3 p2)]])] := by
  refine Qah Try.func119 rfl 3 (nle rfl) (fun X φ0 w0 hφ0 hd0 => ?_)
  unfold Qbb at h
  refine Qcf ?_
  obtain ⟨x3, hf2, h⟩ := bno h
  refine wx1 tbk [(2, rp [(.tmp 5, (.own 0 1 (0) (p0)))] (I (((p0 : Nat) : Int)))), (4, ⟨[fu 175, (.tmp 4, (.own 0 1 (0) (p0))), (.tmp 6, (I (((p0 : Nat) : Int)))), (.tmp 7, z19_0)], [(0, (z19_1 p1)), (1, z19_2), (2, (.own 1 [[(z19_3 p2)]]))], (.tup []), [(0, (z19_5 x3)), (1, z19_2), (2, (.own 1 [[(z19_3 p2)]]))], false⟩)] ⟨aln rfl Try.underlying22 rfl, Qaq (first := []) (cap := []) (vs := [(.own 0 1 (0) (p0)), (I (((p0 : Nat) : Int))), z19_0]) (σr := [(z19_1 p1), z19_2, (.own 1 [[(z19_3 p2)]])]) (σr' := [(z19_5 x3), z19_2, (.own 1 [[(z19_3 p2)]])]) (res' := (.tup [])) [0, 1, 2] rfl enter175 (Qfa N p0 ((p0 : Nat) : Int) p1 p2 _ hf2) rfl (Qcu (rnc (Qe6 rfl) (rnc (.plain _ nll) (rnc (Qal rn0 (rnc (Qba rfl) (rnc (Qba rfl) rn0))) rn0)))) (slc (Qc6 Qac) (slc (Qaj (rnc (.plain _ (NLt.fn _ _ _ nl0 nl0)) rn0)) (slc (Qaj (rnc (.plain _ (nld Qaa _)) rn0)) Qap))) (slc (Qc6 Qac) (slc (Qaj (rnc (.plain _ (NLt.fn _ _ _ nl0 nl0)) rn0)) (slc (Qaj (rnc (.plain _ (nld Qaa _)) rn0)) Qap))) (.plain _ (NLt.tup _ nl0)) rfl rfl rfl, trivial⟩ ?_
  obtain rfl := osi h
  exact ⟨_, (mto (n := 9) (l' := []) (own' := [(z19_5 x3), z19_2, (.own 1 [[(z19_3 p2)]])]) [] [0, 1, 2] [(z19_5 x3), z19_2, (.own 1 [[(z19_3 p2)]])] hφ0 pn (qc (spr Qac) (qc (spb (lc (.rn (Qal rn0 rn0)) ln)) (qc (spb (lc (.rn (.plain _ (nld Qaa _))) ln)) qn)))), Qcm (vs := []) trivial rfl (NLt.tup _ nl0) (by kernel_rfl) (Qan (Qe4 Qac _) (Qan (Qa4 (nlc (NLt.of0 (NLt.fn _ _ _ nl0 nl0)) nl0)) (Qan (Qa4 (nlc (NLt.of0 (nld Qaa _)) nl0)) Qbl)))⟩
def Qaz (N : Nat) (p0 : (List GPortion)) (k4 : (List Int) → Option (List Int)) : Nat → Int → (List Int) → Option (List Int)
  | 0, _, _ => none
  | n13 + 1, y9, y10 =>
    bif (decide (y9 < (p0.length : Int))) then
     chk (decide ((y10.length + ([y9]).length) * 8 ≤ 140737488355328)) <|
     Qaz N p0 k4 n13 (w64 (y9 + 1)) (y10 ++ ([y9]))
    else
     k4 (y10)
def Qbx (N : Nat) (p0 : (List GPortion)) : Option (List Int) :=
  Qcg (fun y3 =>
    chk (!y3.isEmpty) <|
    (Qbb N y3.length y3 p0).bind fun x7 =>
    chk (decide (y3.length ≤ x7.length)) <|
    some (x7.take y3.length)) fun k4 : (List Int) → Option (List Int) =>
  Qaz N p0 k4 N 0 ([] : List Int)
def Qie (p0 : (List GPortion)) : AV := .dat 2 ((p0 : List GPortion).map Qay)
def Qi2 : Slot := .own 1 [[(.fn (.func 72) [] [])]]
def z18_10 : AV := .fn (.func 120) [] [(.ref 1 1 (0) 0), (.ref 0 1 (0) 0)]
def z18_25 (x7 : (List Int)) (y3 : (List Int)) : AV := .dat 1 ((x7.take y3.length : List Int).map Qab)
def z18_7 : Slot := .gro 1 ((([] : List Int) : List Int).map Qab)
theorem Qe1 (N : Nat) (p0 : (List GPortion)) (r : (List Int)) (h : Qbx N p0 = some r) : Spec Try.prog 71 [(Qie p0), (.fn (.func 72) [] [])] [] (.dat 1 ((r : List Int).map Qab)) [] := by
  refine Qah Try.func71 rfl 0 (nle rfl) (fun X φ0 w0 hφ0 hd0 => ?_)
  unfold Qbx at h
  refine Qcf ?_
  refine wx tbk [] trivial ?_
  refine wx tbk [] trivial ?_
  obtain ⟨k4, hk_k4, h⟩ := jko h
  refine wjn (τ := (List Int)) (fun t => k4 t = some r) (fun y3 => ⟨mk 21 [(2, .ref 0 1 0 0), (3, .ref 1 1 0 0), (5, (.gro 2 3 1 (y3.length)))], [(.own 1 [[(Qie p0)]]), Qi2, (.gro 1 ((y3 : List Int).map Qab))]⟩) (fun y3 h => ?_) ?_
  ·subst hk_k4
   obtain ⟨hz5, h⟩ := cko h
   obtain ⟨x7, hf6, h⟩ := bno h
   refine wx tbk [(1, rp [(.tmp 3, .ref 1 1 0 0), (.tmp 2, .ref 0 1 0 0)] z18_10), (2, ⟨[fu 119, (.tmp 17, (.gro 2 3 1 (y3.length))), (.tmp 18, z18_10)], [(2, (.gro 1 ((y3 : List Int).map Qab))), (1, Qi2), (0, (.own 1 [[(Qie p0)]]))], (.tup []), [(2, (.own 1 ((x7 : List Int).map Qab))), (1, Qi2), (0, (.own 1 [[(Qie p0)]]))], false⟩)] ⟨Qep (fs := []) (cs := [.ref 1 1 0 0, .ref 0 1 0 0]) rfl rfl rfl rfl, astep_weakB (bl' := [(2, (.own 1 ((y3 : List Int).map Qab))), (1, Qi2), (0, (.own 1 [[(Qie p0)]]))]) ⟨rfl, SLess.gro (Qgw hz5), rfl, SLess.rfl, rfl, SLess.rfl, trivial⟩ (awk (rd' := [fu 119, (.tmp 17, (.own 2 1 (0) (y3.length))), (.tmp 18, z18_10)]) ⟨rfl, lrf, rfl, Less.gro, rfl, lrf, trivial⟩ (Qaq (first := []) (cap := []) (vs := [(.own 2 1 (0) (y3.length)), z18_10]) (σr := [(.own 1 ((y3 : List Int).map Qab)), Qi2, (.own 1 [[(Qie p0)]])]) (σr' := [(.own 1 ((x7 : List Int).map Qab)), Qi2, (.own 1 [[(Qie p0)]])]) (res' := (.tup [])) [2, 1, 0] rfl enter119 (Qee N y3.length y3 p0 _ hf6) rfl (Qcu (rnc (Qe6 rfl) (rnc (Qal rn0 (rnc (Qba rfl) (rnc (Qba rfl) rn0))) rn0))) (slc (Qc6 Qac) (slc (Qaj (rnc (.plain _ (NLt.fn _ _ _ nl0 nl0)) rn0)) (slc (Qaj (rnc (.plain _ (nld Qaa _)) rn0)) Qap))) (slc (Qc6 Qac) (slc (Qaj (rnc (.plain _ (NLt.fn _ _ _ nl0 nl0)) rn0)) (slc (Qaj (rnc (.plain _ (nld Qaa _)) rn0)) Qap))) (.plain _ (NLt.tup _ nl0)) rfl rfl rfl)), trivial⟩ ?_
   refine wx tbk [] trivial ?_
   obtain ⟨hz8, h⟩ := cko h
   refine wmr (mor_less (n := 21) (l' := [(4, (.own 2 1 (0) (y3.length)))]) [(4, (.gro 2 3 1 (y3.length)))] (by kernel_rfl) (by kernel_rfl) ⟨rfl, Less.gro, trivial⟩) ?_
   refine wmr (mor_fz (n := 21) (l' := [(4, (z18_25 x7 y3))]) 2 [(4, (.own 2 1 (0) (y3.length)))] (by kernel_rfl) (by kernel_rfl) (by kernel_rfl) ⟨rfl, (fz_take hz8), trivial⟩ rfl) ?_
   refine wmr (mto (n := 21) (l' := [(4, (z18_25 x7 y3))]) (own' := []) [(4, (z18_25 x7 y3))] [] [] hφ0 (pc (.rn (.plain _ (nld Qac _))) pn) qn) ?_
   refine Qae ?_
   obtain rfl := osi h
   exact ⟨_, Mor.rfl, Qcm (vs := [(z18_25 x7 y3)]) ⟨rot (by kernel_rfl), trivial⟩ rfl (nld Qac _) (by kernel_rfl) Qbl⟩
  ·skip
   refine wx tbk [(1, rp [(.tmp 7, (Qie p0))] (I ((p0.length : Int))))] ⟨alm (c := Qay) (l := p0) (aln rfl Try.underlying159 rfl), trivial⟩ ?_
   refine Qag ?_
   refine wmr (Mor.trans (mor_nilG 2 3 1 5 (by kernel_rfl) (by kernel_rfl)) (mto (n := 21) (l' := [(2, .ref 0 1 0 0), (3, .ref 1 1 0 0), (5, (.gro 2 3 1 (([] : List Int).length))), (8, (I ((p0.length : Int)))), (9, I 0)]) (own' := [(.own 1 [[(Qie p0)]]), Qi2, z18_7]) [(2, .ref 0 1 0 0), (3, .ref 1 1 0 0), (5, (.gro 2 3 1 (([] : List Int).length))), (8, (I ((p0.length : Int)))), (9, I 0)] [0, 1, 2] [(.own 1 [[(Qie p0)]]), Qi2, z18_7] hφ0 (pc (.rn (rqr rfl)) (pc (.rn (rqr rfl)) (pc (.rn (rnq_gro rfl)) (pc rwl (pc rwl pn))))) (qc (spb (lc (.rn (.plain _ (nld Qaa _))) ln)) (qc (spb (lc (.rn (Qal rn0 rn0)) ln)) (qc (Qkw Qac) qn))))) ?_
   refine Qca (τ := Int × (List Int)) (fun n t => Qaz N p0 k4 n t.1 t.2 = some r) (fun ⟨y9, y10⟩ => ⟨mk 21 [(2, .ref 0 1 0 0), (3, .ref 1 1 0 0), (5, (.gro 2 3 1 (y10.length))), (8, (I ((p0.length : Int)))), (9, I y9)], [(.own 1 [[(Qie p0)]]), Qi2, (.gro 1 ((y10 : List Int).map Qab))]⟩) (fun t h => by rw [Qaz] at h; cases h) (fun n13 ih t h => ?_) N (0, ([] : List Int)) h
   obtain ⟨y9, y10⟩ := t
   rw [Qaz] at h
   skip
   refine wx tbk [] trivial ?_
   refine wsq ?_
   rcases bft ((decide (y9 < (p0.length : Int)))) with hc14 | hc14
   ·replace h := Qaw hc14 h
    refine wft hc14 (by kernel_rfl) ?_
    refine Qak ?_
    refine thn ?_
    refine wsq ?_
    refine Qag ?_
    refine wx tbk [] trivial ?_
    obtain ⟨ha15, h⟩ := cko h
    refine wx1 tbk [(2, rp [(.tmp 13, I y9)] (.dat 1 (([y9] : List Int).map Qab))), (3, ⟨[(.tmp 12, (.gro 2 3 1 (y10.length))), (.tmp 14, (.dat 1 (([y9] : List Int).map Qab)))], [(2, (.gro 1 ((y10 : List Int).map Qab))), (3, .unused)], (.gro 3 3 1 ((y10 ++ ([y9])).length)), [(2, .dead), (3, (.gro 1 ((y10 ++ ([y9]) : List Int).map Qab)))], false⟩)] ?_ ?_
    ·exact ⟨Qdg (vs := [I y9]) rfl Try.underlying22 ti3 tz3 rfl (by decide) rfl (by decide) (by rfl) (by rfl) (by rfl) rfl, astep_appGm (c := Qab) (a := y10) (b := [y9]) rfl Try.underlying22 te3 rfl (Qgw rfl) (by rfl) ha15 (by decide), trivial⟩
    refine bln ?_
    refine thn ?_
    refine wx1 tbk [] trivial ?_
    refine thn ?_
    exact arm (mto (n := 21) [(2, .ref 0 1 0 0), (3, .ref 1 1 0 0), (5, (.gro 3 3 1 ((y10 ++ ([y9])).length))), (8, (I ((p0.length : Int)))), (9, (I (w64 (y9 + 1))))] [0, 1, 3] [(.own 1 [[(Qie p0)]]), Qi2, (.gro 1 ((y10 ++ ([y9]) : List Int).map Qab))] hφ0 (pc (.rn (rqr rfl)) (pc (.rn (rqr rfl)) (pc (.rn (rnq_gro rfl)) (pc rwl (pc rwl pn))))) (qc (spb (lc (.rn (.plain _ (nld Qaa _))) ln)) (qc (spb (lc (.rn (Qal rn0 rn0)) ln)) (qc (Qkw Qac) qn)))) (ih (w64 (y9 + 1), y10 ++ ([y9])) h)
   ·replace h := Qax hc14 h
    refine wfn hc14 (by kernel_rfl) ?_
    refine Qbk ?_
    refine Qav ?_
    refine Qav ?_
    refine Qbj rfl ?_
    refine thn ?_
    exact ⟨(y10), h, (mto (n := 21) [(2, .ref 0 1 0 0), (3, .ref 1 1 0 0), (5, (.gro 2 3 1 (y10.length)))] [0, 1, 2] [(.own 1 [[(Qie p0)]]), Qi2, (.gro 1 ((y10 : List Int).map Qab))] hφ0 (pc (.rn (rqr rfl)) (pc (.rn (rqr rfl)) (pc (.rn (rnq_gro rfl)) pn))) (qc (spb (lc (.rn (.plain _ (nld Qaa _))) ln)) (qc (spb (lc (.rn (Qal rn0 rn0)) ln)) (qc (Qkw Qac) qn))))⟩
def Qc4 (N : Nat) (p1 : (List Int)) (y11 : Int) (k18 : (List Int) → Option ((List Int) × Int)) (x21 : (List Int)) : Nat → Int → (List Int) → Option ((List Int) × Int)
  | 0, _, _ => none
  | n27 + 1, y23, y24 =>
    bif (decide (y23 < (((x21).take (y11.toNat - 0)).length : Int))) then
     (getI ((x21).take (y11.toNat - 0)) y23).bind fun x29 =>
     chk (decide (0 ≤ x29) && decide (x29.toNat < (p1.length : Int).toNat)) <|
     (y24[x29.toNat]?).bind fun x34 =>
     chk (decide (0 ≤ x29) && decide (x29.toNat < (p1.length : Int).toNat)) <|
     (y24[x29.toNat]?).bind fun _ =>
     Qc4 N p1 y11 k18 x21 n27 (w64 (y23 + 1)) (y24.set x29.toNat (w64 (x34 + 1)))
    else
     k18 (y24)
def Qc3 (N : Nat) (p1 : (List Int)) (y10 : (List GPortion)) (k16 : (List GPortion) × (List Int) → Option ((List Int) × Int)) : Nat → (List GPortion) → (List GPortion) → Int → (List Int) → Option ((List Int) × Int)
  | 0, _, _, _, _ => none
  | n47 + 1, y39, y40, y41, y42 =>
    bif (decide (y41 < (y10.length : Int))) then
     (getI y40 y41).bind fun x49 =>
     chk (decide (0 ≤ y41) && decide (y41.toNat < (p1.length : Int).toNat)) <|
     (y42[y41.toNat]?).bind fun _ =>
     Qc3 N p1 y10 k16 n47 y39 y40 (w64 (y41 + 1)) (y42.set y41.toNat x49.n)
    else
     k16 (y39, y42)
def Qcl (N : Nat) (p0 : Int) (p1 : (List Int)) (x9 : Int) (k12 : (List GPortion) × Int → Option ((List Int) × Int)) : Nat → (List GPortion) → Int → Int → Option ((List Int) × Int)
  | 0, _, _, _ => none
  | n62 + 1, y56, y57, y58 =>
    bif (decide (y58 < (p1.length : Int))) then
     (getI p1 y58).bind fun x64 =>
     (Qf1 N p0 x64 x9).bind fun x69 =>
     chk (decide ((y56.length + ([x69]).length) * 16 ≤ 140737488355328)) <|
     Qcl N p0 p1 x9 k12 n62 (y56 ++ ([x69])) (w64 (y57 - x69.n)) (w64 (y58 + 1))
    else
     k12 (y56, y57)
def Qen (N : Nat) (p0 : Int) (p1 : (List Int)) : Option ((List Int) × Int) :=
  (Qel N p0).bind fun x5 =>
  bif (!x5) then
   some ([], 2)
  else
   Qcg (fun _ =>
     (Qem N p1).bind fun x9 =>
     Qcg (fun ⟨y10, y11⟩ =>
       chk (decide (0 ≤ (p1.length : Int)) && decide (8 * (p1.length : Int) ≤ 281474976710656) && decide ((p1.length : Int) ≤ 9223372036854775807)) <|
       Qcg (fun ⟨y14, y15⟩ =>
         Qcg (fun y17 =>
           chk (decide ((p1.length : Int).toNat ≤ y17.length)) <|
           some (y17.take ((p1.length : Int).toNat), 0)) fun k18 : (List Int) → Option ((List Int) × Int) =>
         (Qbx N y14).bind fun x21 =>
         chk (decide (0 ≤ 0) && decide (0 ≤ y11) && decide (y11 ≤ (x21.length : Int))) <|
         Qc4 N p1 y11 k18 x21 N 0 y15) fun k16 : (List GPortion) × (List Int) → Option ((List Int) × Int) =>
       Qc3 N p1 y10 k16 N y10 y10 0 (List.replicate (p1.length : Int).toNat 0)) fun k12 : (List GPortion) × Int → Option ((List Int) × Int) =>
     Qcl N p0 p1 x9 k12 N ([]) p0 0) fun k7 : Unit → Option ((List Int) × Int) =>
   (Qdf N (p1.length : Int) 1 8).bind fun x72 =>
   bif (!x72) then
    some ([], 1)
   else
    (Qdm N p1).bind fun x75 =>
    bif (!x75) then
     some ([], 1)
    else
     (Qem N p1).bind fun x78 =>
     bif (x78 == 0) then
      some ([], 1)
     else
      k7 ()
def z9_76 : AV := .dat 1 (([] : List Int).map Qab)
def z9_0 (p1 : (List Int)) : AV := .dat 1 ((p1 : List Int).map Qab)
def z9_80 (y10 : (List GPortion)) : AV := .acc 0 161 2 ((y10 : List GPortion).map Qay)
def z9_18 (p1 : (List Int)) : Slot := .own 1 ((List.replicate (p1.length : Int).toNat 0 : List Int).map Qab)
def z9_109 (y17 : (List Int)) (p1 : (List Int)) : AV := .dat 1 ((y17.take ((p1.length : Int).toNat) : List Int).map Qab)
def z9_110 (x21 : (List Int)) : AV := .dat 1 ((x21 : List Int).map Qab)
def Qiz (x21 : (List Int)) (y11 : Int) : AV := .dat 1 (((x21).take (y11.toNat - 0) : List Int).map Qab)
def Qj2 (y24 : (List Int)) : Slot := .own 1 ((y24 : List Int).map Qab)
def z9_121 (y39 : (List GPortion)) : AV := .acc 0 161 2 ((y39 : List GPortion).map Qay)
def z9_117 (y40 : (List GPortion)) : AV := .dat 2 ((y40 : List GPortion).map Qay)
def z9_124 (y42 : (List Int)) : Slot := .own 1 ((y42 : List Int).map Qab)
def z9_134 (y56 : (List GPortion)) : AV := .acc 0 161 2 ((y56 : List GPortion).map Qay)
def z9_136 (x69 : GPortion) : AV := .agg [(I (x69.n)), (I (x69.left))]
theorem Qg9 (N : Nat) (p0 : Int) (p1 : (List Int)) (r : ((List Int) × Int)) (h : Qen N p0 p1 = some r) : Spec Try.prog 23 [(I p0), (.dat 1 (p1.map Qab))] [] (.tup [(.dat 1 ((r.1 : List Int).map Qab)), (I (r.2))]) [] := by
  refine Qah Try.func23 rfl 0 (nle rfl) (fun X φ0 w0 hφ0 hd0 => ?_)
  unfold Qen at h
  refine Qcf ?_
  refine wx tbk [] trivial ?_
  refine wsq ?_
  obtain ⟨x5, hf4, h⟩ := bno h
  refine wx tbk [(1, rp [fu 66, (.tmp 17, I p0)] (B x5))] ⟨apc (first := []) (cap := []) (vs := [I p0]) rfl enter66 (Qg5 N p0 _ hf4) rfl rfl (nlc nll nl0) nll rfl, trivial⟩ ?_
  rcases bft ((!x5)) with hc6 | hc6
  ·replace h := Qaw hc6 h
   refine wft hc6 (by kernel_rfl) ?_
   refine wx tbk [] trivial ?_
   refine wmr (mto (n := 89) (l' := [(4, z9_76), (5, I 2)]) (own' := []) [(4, nilS), (5, I 2)] [] [] hφ0 (pc (.nil _) (pc rwl pn)) qn) ?_
   refine Qae ?_
   refine Qaf ?_
   obtain rfl := osi h
   exact ⟨_, Mor.rfl, Qcm (vs := [z9_76, I 2]) ⟨rot (by kernel_rfl), rot (by kernel_rfl), trivial⟩ rfl (NLt.tup _ (nlc (nld Qac _) (nlc nll nl0))) (by kernel_rfl) Qbl⟩
  ·replace h := Qax hc6 h
   refine wfn hc6 (by kernel_rfl) ?_
   refine Qak ?_
   refine thn ?_
   refine wx tbk [] trivial ?_
   obtain ⟨k7, hk_k7, h⟩ := jko h
   refine wjn (τ := Unit) (fun t => k7 t = some r) (fun _ => ⟨mk 89 [(0, I p0), (1, (z9_0 p1))], []⟩) (fun t h => ?_) ?_
   ·subst hk_k7
    obtain ⟨x9, hf8, h⟩ := bno h
    refine wx tbk [(1, rp [fu 69, (.tmp 34, (z9_0 p1))] (I x9))] ⟨apc (first := []) (cap := []) (vs := [(z9_0 p1)]) rfl Qk9 (Qfn N p1 _ hf8) rfl rfl (nlc (nld Qac _) nl0) nll rfl, trivial⟩ ?_
    refine wx tbk [] trivial ?_
    refine wx tbk [] trivial ?_
    obtain ⟨k12, hk_k12, h⟩ := jko h
    refine wjn (τ := (List GPortion) × Int) (fun t => k12 t = some r) (fun ⟨y10, y11⟩ => ⟨mk 89 [(1, (z9_0 p1)), (7, (z9_80 y10)), (8, I y11)], [.tok]⟩) (fun t h => ?_) ?_
    ·subst hk_k12
     obtain ⟨y10, y11⟩ := t
     obtain ⟨hm13, h⟩ := cko h
     refine wx tbk [(1, rp [(.tmp 56, (z9_0 p1))] (I ((p1.length : Int)))), (2, ⟨[(.tmp 57, (I ((p1.length : Int)))), (.tmp 57, (I ((p1.length : Int))))], [(1, .unused)], (.own 1 1 (0) ((p1.length : Int).toNat)), [(1, (z9_18 p1))], false⟩)] ⟨alm (c := Qab) (l := p1) (aln rfl Try.underlying22 rfl), Qkh rfl Try.underlying22 te3 tz3 rfl (and3a hm13) rfl (and3b hm13) (and3c' hm13) (rep_map Qab rfl), trivial⟩ ?_
     obtain ⟨k16, hk_k16, h⟩ := jko h
     refine wjn (τ := (List GPortion) × (List Int)) (fun t => k16 t = some r) (fun ⟨y14, y15⟩ => ⟨mk 89 [(7, (.acc 0 161 2 ((y14 : List GPortion).map Qay))), (8, I y11), (12, (.own 1 1 (0) ((p1.length : Int).toNat)))], [.tok, (.own 1 ((y15 : List Int).map Qab))]⟩) (fun t h => ?_) ?_
     ·subst hk_k16
      obtain ⟨y14, y15⟩ := t
      obtain ⟨k18, hk_k18, h⟩ := jko h
      refine wjn (τ := (List Int)) (fun t => k18 t = some r) (fun y17 => ⟨mk 89 [(12, (.own 0 1 (0) ((p1.length : Int).toNat)))], [(.own 1 ((y17 : List Int).map Qab))]⟩) (fun y17 h => ?_) ?_
      ·subst hk_k18
       refine wx tbk [] trivial ?_
       obtain ⟨hz19, h⟩ := cko h
       refine wmr (mor_fz (n := 89) (l' := [(4, (z9_109 y17 p1)), (5, I 0)]) 0 [(4, (.own 0 1 (0) ((p1.length : Int).toNat))), (5, I 0)] (by kernel_rfl) (by kernel_rfl) (by kernel_rfl) ⟨rfl, (fz_take hz19), rfl, (.same _), trivial⟩ rfl) ?_
       refine wmr (mto (n := 89) (l' := [(4, (z9_109 y17 p1)), (5, I 0)]) (own' := []) [(4, (z9_109 y17 p1)), (5, I 0)] [] [] hφ0 (pc (.rn (.plain _ (nld Qac _))) (pc rwl pn)) qn) ?_
       refine Qae ?_
       obtain rfl := osi h
       exact ⟨_, Mor.rfl, Qcm (vs := [(z9_109 y17 p1), I 0]) ⟨rot (by kernel_rfl), rot (by kernel_rfl), trivial⟩ rfl (NLt.tup _ (nlc (nld Qac _) (nlc nll nl0))) (by kernel_rfl) Qbl⟩
      ·skip
       obtain ⟨x21, hf20, h⟩ := bno h
       obtain ⟨hs22, h⟩ := cko h
       refine wx tbk [(1, rp [fu 71, (.tmp 72, (.acc 0 161 2 ((y14 : List GPortion).map Qay))), fu 72] (z9_110 x21)), (3, rp [(.tmp 73, (z9_110 x21)), (.tmp 74, I y11)] (Qiz x21 y11)), (4, rp [(.tmp 75, (Qiz x21 y11))] (I ((((x21).take (y11.toNat - 0)).length : Int))))] ⟨awk (rd' := (.func 71, (.fn (.func 71) [] [])) :: [(.tmp 72, (.dat 2 ((y14 : List GPortion).map Qay))), (.func 72, (.fn (.func 72) [] []))]) ⟨rfl, lrf, rfl, Less.acc, rfl, lrf, trivial⟩ (Qaq (first := []) (cap := []) (vs := [(.dat 2 ((y14 : List GPortion).map Qay)), (.fn (.func 72) [] [])]) (σr := []) (σr' := []) (res' := (z9_110 x21)) [] rfl enter71 (Qe1 N y14 _ hf20) rfl (Qcu (rnc (.plain _ (nld Qaa _)) (rnc (.plain _ (NLt.fn _ _ _ nl0 nl0)) rn0))) Qap Qap (.plain _ (nld Qac _)) rfl rfl rfl), astep_sliced (k := .i64) (k' := .i64) (lo := none) (hi := some (.tmp 74)) (l := 0) (hh := y11) rfl Try.underlying22 ti3 rfl (fun _ => rfl) (fun e => nomatch e) (and3a hs22) (and3b hs22) (and3c (Qab) hs22) (sl_nh Qab), alm (c := Qab) (l := (x21).take (y11.toNat - 0)) (aln rfl Try.underlying22 rfl), trivial⟩ ?_
       refine Qag ?_
       refine wmr (mto (n := 89) (l' := [(12, (.own 0 1 (0) ((p1.length : Int).toNat))), (75, (Qiz x21 y11)), (76, (I ((((x21).take (y11.toNat - 0)).length : Int)))), (77, I 0)]) (own' := [(.own 1 ((y15 : List Int).map Qab))]) [(12, (.own 1 1 (0) ((p1.length : Int).toNat))), (75, (Qiz x21 y11)), (76, (I ((((x21).take (y11.toNat - 0)).length : Int)))), (77, I 0)] [1] [(.own 1 ((y15 : List Int).map Qab))] hφ0 (pc (.rn (Qas rfl)) (pc (.rn (.plain _ (nld Qac _))) (pc rwl (pc rwl pn)))) (qc (spr Qac) qn)) ?_
       refine Qca (τ := Int × (List Int)) (fun n t => Qc4 N p1 y11 k18 x21 n t.1 t.2 = some r) (fun ⟨y23, y24⟩ => ⟨mk 89 [(12, (.own 0 1 (0) ((p1.length : Int).toNat))), (75, (Qiz x21 y11)), (76, (I ((((x21).take (y11.toNat - 0)).length : Int)))), (77, I y23)], [(Qj2 y24)]⟩) (fun t h => by rw [Qc4] at h; cases h) (fun n27 ih t h => ?_) N (0, y15) h
       obtain ⟨y23, y24⟩ := t
       rw [Qc4] at h
       skip
       refine wx tbk [] trivial ?_
       refine wsq ?_
       rcases bft ((decide (y23 < (((x21).take (y11.toNat - 0)).length : Int)))) with hc28 | hc28
       ·replace h := Qaw hc28 h
        refine wft hc28 (by kernel_rfl) ?_
        refine Qak ?_
        refine thn ?_
        refine wsq ?_
        refine Qag ?_
        obtain ⟨x29, hg30, h⟩ := bno h
        obtain ⟨hi31, hj32⟩ := gsm hg30
        refine wx tbk [(0, rp [(.tmp 75, (Qiz x21 y11)), (.tmp 77, I y23)] (.dptr (Qab (x29)) 0))] ⟨aid rfl Try.underlying22 ti3 rfl rfl hi31 (mgt Qab hj32) rfl, trivial⟩ ?_
        obtain ⟨hi33, h⟩ := cko h
        obtain ⟨hi33a, hi33b⟩ := Qb4 hi33
        obtain ⟨x34, hg35, h⟩ := bno h
        obtain ⟨hi36, h⟩ := cko h
        obtain ⟨hi36a, hi36b⟩ := Qb4 hi36
        obtain ⟨x37, hg38, h⟩ := bno h
        refine wx1 tbk [(2, rb [(.tmp 81, (.own 0 1 (0) ((p1.length : Int).toNat))), (.tmp 82, I x29)] [(0, (Qj2 y24))] (.ref 0 1 (x29.toNat) 0)), (3, rb [(.tmp 83, (.ref 0 1 (x29.toNat) 0))] [(0, (Qj2 y24))] (I x34)), (5, rb [(.tmp 81, (.own 0 1 (0) ((p1.length : Int).toNat))), (.tmp 82, I x29)] [(0, (Qj2 y24))] (.ref 0 1 (x29.toNat) 0)), (6, ⟨[(.tmp 86, (.ref 0 1 (x29.toNat) 0)), (.tmp 85, (I (w64 (x34 + 1))))], [(0, (Qj2 y24))], .any, [(0, (.own 1 ((y24.set x29.toNat (w64 (x34 + 1)) : List Int).map Qab)))], false⟩)] ⟨aio rfl Try.underlying22 ti3 (odt hi33a) (odt hi33b) (Nat.zero_add _), ald rfl ti3 (by decide) (mgt Qab hg35) (nle rfl) rfl, aio rfl Try.underlying22 ti3 (odt hi36a) (odt hi36b) (Nat.zero_add _), ast rfl ti3 (by rfl) (mgt Qab hg38) (nle rfl) (Qe5 Qab rfl), trivial⟩ ?_
        refine bln ?_
        refine thn ?_
        refine wx1 tbk [] trivial ?_
        refine thn ?_
        exact arm (mto (n := 89) [(12, (.own 0 1 (0) ((p1.length : Int).toNat))), (75, (Qiz x21 y11)), (76, (I ((((x21).take (y11.toNat - 0)).length : Int)))), (77, (I (w64 (y23 + 1))))] [0] [(.own 1 ((y24.set x29.toNat (w64 (x34 + 1)) : List Int).map Qab))] hφ0 (pc (.rn (Qas rfl)) (pc (.rn (.plain _ (nld Qac _))) (pc rwl (pc rwl pn)))) (qc (spr Qac) qn)) (ih (w64 (y23 + 1), y24.set x29.toNat (w64 (x34 + 1))) h)
       ·replace h := Qax hc28 h
        refine wfn hc28 (by kernel_rfl) ?_
        refine Qbk ?_
        refine Qav ?_
        refine Qav ?_
        refine Qbj rfl ?_
        refine thn ?_
        exact ⟨(y24), h, (mto (n := 89) [(12, (.own 0 1 (0) ((p1.length : Int).toNat)))] [0] [(Qj2 y24)] hφ0 (pc (.rn (Qas rfl)) pn) (qc (spr Qac) qn))⟩
     ·skip
      refine wx tbk [(1, rp [(.tmp 59, (z9_80 y10))] (I ((y10.length : Int))))] ⟨alm (c := Qay) (l := y10) (aln rfl Try.underlying159 rfl), trivial⟩ ?_
      refine Qag ?_
      refine wmr (mto (n := 89) (l' := [(7, (z9_80 y10)), (8, I y11), (12, (.own 1 1 (0) ((p1.length : Int).toNat))), (59, (.dat 2 ((y10 : List GPortion).map Qay))), (60, (I ((y10.length : Int)))), (61, I 0)]) (own' := [.tok, (.own 1 (((List.replicate (p1.length : Int).toNat 0) : List Int).map Qab))]) [(7, (z9_80 y10)), (8, I y11), (12, (.own 1 1 (0) ((p1.length : Int).toNat))), (59, (z9_80 y10)), (60, (I ((y10.length : Int)))), (61, I 0)] [0, 1] [.tok, (z9_18 p1)] hφ0 (pc (.rn (Qcr rfl (Qb2 Qaa _))) (pc rwl (pc (.rn (Qas rfl)) (pc (.dat _ _ _ _ (Qb2 Qaa _)) (pc rwl (pc rwl pn)))))) (qc .tok (qc (spr Qac) qn))) ?_
      refine Qca (τ := (List GPortion) × (List GPortion) × Int × (List Int)) (fun n t => Qc3 N p1 y10 k16 n t.1 t.2.1 t.2.2.1 t.2.2.2 = some r) (fun ⟨y39, y40, y41, y42⟩ => ⟨mk 89 [(7, (z9_121 y39)), (8, I y11), (12, (.own 1 1 (0) ((p1.length : Int).toNat))), (59, (z9_117 y40)), (60, (I ((y10.length : Int)))), (61, I y41)], [.tok, (z9_124 y42)]⟩) (fun t h => by rw [Qc3] at h; cases h) (fun n47 ih t h => ?_) N (y10, y10, 0, List.replicate (p1.length : Int).toNat 0) h
      obtain ⟨y39, y40, y41, y42⟩ := t
      rw [Qc3] at h
      skip
      refine wx tbk [] trivial ?_
      refine wsq ?_
      rcases bft ((decide (y41 < (y10.length : Int)))) with hc48 | hc48
      ·replace h := Qaw hc48 h
       refine wft hc48 (by kernel_rfl) ?_
       refine Qak ?_
       refine thn ?_
       refine wsq ?_
       refine Qag ?_
       obtain ⟨x49, hg50, h⟩ := bno h
       obtain ⟨hi51, hj52⟩ := gsm hg50
       refine wx tbk [(1, rp [(.tmp 59, (z9_117 y40)), (.tmp 61, I y41)] (.dptr (Qay (x49)) 0))] ⟨aid rfl Try.underlying159 ti161 rfl rfl hi51 (mgt Qay hj52) rfl, trivial⟩ ?_
       obtain ⟨hi53, h⟩ := cko h
       obtain ⟨hi53a, hi53b⟩ := Qb4 hi53
       obtain ⟨x54, hg55, h⟩ := bno h
       refine wx1 tbk [(4, rb [(.tmp 66, (.own 1 1 (0) ((p1.length : Int).toNat))), (.tmp 67, I y41)] [(1, (z9_124 y42))] (.ref 1 1 (y41.toNat) 0)), (5, ⟨[(.tmp 70, (.ref 1 1 (y41.toNat) 0)), (.tmp 69, I x49.n)], [(1, (z9_124 y42))], .any, [(1, (.own 1 ((y42.set y41.toNat x49.n : List Int).map Qab)))], false⟩)] ⟨aio rfl Try.underlying22 ti3 (odt hi53a) (odt hi53b) (Nat.zero_add _), ast rfl ti3 (by rfl) (mgt Qab hg55) (nle rfl) (Qe5 Qab rfl), trivial⟩ ?_
       refine bln ?_
       refine thn ?_
       refine wx1 tbk [] trivial ?_
       refine thn ?_
       exact arm (mto (n := 89) [(7, (z9_121 y39)), (8, I y11), (12, (.own 1 1 (0) ((p1.length : Int).toNat))), (59, (z9_117 y40)), (60, (I ((y10.length : Int)))), (61, (I (w64 (y41 + 1))))] [0, 1] [.tok, (.own 1 ((y42.set y41.toNat x49.n : List Int).map Qab))] hφ0 (pc (.rn (Qcr rfl (Qb2 Qaa _))) (pc rwl (pc (.rn (Qas rfl)) (pc (.rn (.plain _ (nld Qaa _))) (pc rwl (pc rwl pn)))))) (qc .tok (qc (spr Qac) qn))) (ih (y39, y40, w64 (y41 + 1), y42.set y41.toNat x49.n) h)
      ·replace h := Qax hc48 h
       refine wfn hc48 (by kernel_rfl) ?_
       refine Qbk ?_
       refine Qav ?_
       refine Qav ?_
       refine Qbj rfl ?_
       refine thn ?_
       exact ⟨(y39, y42), h, (mto (n := 89) [(7, (z9_121 y39)), (8, I y11), (12, (.own 1 1 (0) ((p1.length : Int).toNat)))] [0, 1] [.tok, (z9_124 y42)] hφ0 (pc (.rn (Qcr rfl (Qb2 Qaa _))) (pc rwl (pc (.rn (Qas rfl)) pn))) (qc .tok (qc (spr Qac) qn)))⟩
    ·skip
     refine wx tbk [(1, rp [(.tmp 37, (z9_0 p1))] (I ((p1.length : Int))))] ⟨alm (c := Qab) (l := p1) (aln rfl Try.underlying22 rfl), trivial⟩ ?_
     refine Qag ?_
     refine wmr (Mor.trans (Qk2 0 161 2 7 (by kernel_rfl) (by kernel_rfl)) (mto (n := 89) (l' := [(0, I p0), (1, (z9_0 p1)), (6, I x9), (7, (.acc 0 161 2 ((([]) : List GPortion).map Qay))), (8, I p0), (37, (z9_0 p1)), (38, (I ((p1.length : Int)))), (39, I 0)]) (own' := [.tok]) [(0, I p0), (1, (z9_0 p1)), (6, I x9), (7, (.acc 0 161 2 (([] : List GPortion).map Qay))), (8, I p0), (37, (z9_0 p1)), (38, (I ((p1.length : Int)))), (39, I 0)] [0] [.tok] hφ0 (pc rwl (pc (.rn (.plain _ (nld Qac _))) (pc rwl (pc (.rn (Qcr rfl (Qb2 Qaa _))) (pc rwl (pc (.rn (.plain _ (nld Qac _))) (pc rwl (pc rwl pn)))))))) (qc .tok qn))) ?_
     refine Qca (τ := (List GPortion) × Int × Int) (fun n t => Qcl N p0 p1 x9 k12 n t.1 t.2.1 t.2.2 = some r) (fun ⟨y56, y57, y58⟩ => ⟨mk 89 [(0, I p0), (1, (z9_0 p1)), (6, I x9), (7, (z9_134 y56)), (8, I y57), (37, (z9_0 p1)), (38, (I ((p1.length : Int)))), (39, I y58)], [.tok]⟩) (fun t h => by rw [Qcl] at h; cases h) (fun n62 ih t h => ?_) N ([], p0, 0) h
     obtain ⟨y56, y57, y58⟩ := t
     rw [Qcl] at h
     skip
     refine wx tbk [] trivial ?_
     refine wsq ?_
     rcases bft ((decide (y58 < (p1.length : Int)))) with hc63 | hc63
     ·replace h := Qaw hc63 h
      refine wft hc63 (by kernel_rfl) ?_
      refine Qak ?_
      refine thn ?_
      refine wsq ?_
      refine Qag ?_
      obtain ⟨x64, hg65, h⟩ := bno h
      obtain ⟨hi66, hj67⟩ := gsm hg65
      refine wx tbk [(0, rp [(.tmp 37, (z9_0 p1)), (.tmp 39, I y58)] (.dptr (Qab (x64)) 0))] ⟨aid rfl Try.underlying22 ti3 rfl rfl hi66 (mgt Qab hj67) rfl, trivial⟩ ?_
      obtain ⟨x69, hf68, h⟩ := bno h
      refine wx tbk [(3, rp [fu 70, (.tmp 43, I p0), (.tmp 44, I x64), (.tmp 45, I x9)] (z9_136 x69))] ⟨apc (first := []) (cap := []) (vs := [I p0, I x64, I x9]) rfl enter70 (Qj0 N p0 x64 x9 _ hf68) rfl rfl (nlc nll (nlc nll (nlc nll nl0))) (NLt.agg _ (nlc nll (nlc nll nl0))) rfl, trivial⟩ ?_
      obtain ⟨ha70, h⟩ := cko h
      refine wy1 tbk [(2, rp [(.tmp 48, (z9_136 x69))] (.dat 2 (([x69] : List GPortion).map Qay))), (3, ⟨[(.tmp 47, (z9_134 y56)), (.tmp 49, (.dat 2 (([x69] : List GPortion).map Qay)))], [(0, .tok), (2, .unused)], (.acc 2 161 2 ((y56 ++ ([x69]) : List GPortion).map Qay)), [(0, .dead), (2, .tok)], false⟩)] ⟨Qdg (vs := [(z9_136 x69)]) rfl Try.underlying159 ti161 tz161 rfl (by decide) rfl (by decide) (by rfl) (by rfl) (by rfl) rfl, Qgm rfl Try.underlying159 te161 (Base.acc _ _) rfl rfl (by rfl) (Qin Qay ha70) (Qim Qay ha70 (by decide)) (Qil Qay) rfl rfl, trivial⟩ ?_
      refine bln ?_
      refine thn ?_
      refine wx1 tbk [] trivial ?_
      refine thn ?_
      exact arm (mto (n := 89) [(0, I p0), (1, (z9_0 p1)), (6, I x9), (7, (.acc 2 161 2 ((y56 ++ ([x69]) : List GPortion).map Qay))), (8, (I (w64 (y57 - x69.n)))), (37, (z9_0 p1)), (38, (I ((p1.length : Int)))), (39, (I (w64 (y58 + 1))))] [2] [.tok] hφ0 (pc rwl (pc (.rn (.plain _ (nld Qac _))) (pc rwl (pc (.rn (Qcr rfl (Qb2 Qaa _))) (pc rwl (pc (.rn (.plain _ (nld Qac _))) (pc rwl (pc rwl pn)))))))) (qc .tok qn)) (ih (y56 ++ ([x69]), w64 (y57 - x69.n), w64 (y58 + 1)) h)
     ·replace h := Qax hc63 h
      refine wfn hc63 (by kernel_rfl) ?_
      refine Qbk ?_
      refine Qav ?_
      refine Qav ?_
      refine Qbj rfl ?_
      refine thn ?_
      exact ⟨(y56, y57), h, (mto (n := 89) [(1, (z9_0 p1)), (7, (z9_134 y56)), (8, I y57)] [0] [.tok] hφ0 (pc (.rn (.plain _ (nld Qac _))) (pc (.rn (Qcr rfl (Qb2 Qaa _))) (pc rwl pn))) (qc .tok qn))⟩
   ·skip
    obtain ⟨x72, hf71, h⟩ := bno h
    rcases bft ((!x72)) with hb73 | hb73
    ·replace h := Qaw hb73 h
     refine wx tbk [(1, rp [(.tmp 20, (z9_0 p1))] (I ((p1.length : Int)))), (2, rp [fu 67, (.tmp 21, (I ((p1.length : Int)))), ci 1, ci 8] (B x72)), (4, rp [(.tmp 23, (B ((!x72))))] (B true))] ⟨alm (c := Qab) (l := p1) (aln rfl Try.underlying22 rfl), apc (first := []) (cap := []) (vs := [(I ((p1.length : Int))), I 1, I 8]) rfl Qge (Qcb N (p1.length : Int) 1 8 _ hf71) rfl rfl (nlc nll (nlc nll (nlc nll nl0))) nll rfl, asb hb73 (amv rfl), trivial⟩ ?_
     refine Qb0 (by kernel_rfl) ?_
     refine wx tbk [] trivial ?_
     refine wmr (mto (n := 89) (l' := [(4, z9_76), (5, I 1)]) (own' := []) [(4, nilS), (5, I 1)] [] [] hφ0 (pc (.nil _) (pc rwl pn)) qn) ?_
     refine Qae ?_
     refine Qaf ?_
     obtain rfl := osi h
     exact ⟨_, Mor.rfl, Qcm (vs := [z9_76, I 1]) ⟨rot (by kernel_rfl), rot (by kernel_rfl), trivial⟩ rfl (NLt.tup _ (nlc (nld Qac _) (nlc nll nl0))) (by kernel_rfl) Qbl⟩
    ·replace h := Qax hb73 h
     obtain ⟨x75, hf74, h⟩ := bno h
     rcases bft ((!x75)) with hb76 | hb76
     ·replace h := Qaw hb76 h
      refine wx tbk [(1, rp [(.tmp 20, (z9_0 p1))] (I ((p1.length : Int)))), (2, rp [fu 67, (.tmp 21, (I ((p1.length : Int)))), ci 1, ci 8] (B x72)), (4, rp [(.tmp 23, (B ((!x72))))] (B false)), (6, rp [(.tmp 24, B false), fu 68, (.tmp 25, (z9_0 p1)), fu 66] (B x75)), (9, rp [(.tmp 28, (B ((!x75))))] (B true))] ⟨alm (c := Qab) (l := p1) (aln rfl Try.underlying22 rfl), apc (first := []) (cap := []) (vs := [(I ((p1.length : Int))), I 1, I 8]) rfl Qge (Qcb N (p1.length : Int) 1 8 _ hf71) rfl rfl (nlc nll (nlc nll (nlc nll nl0))) nll rfl, asb hb73 (amv rfl), ag_ (Qaq (first := []) (cap := []) (vs := [(z9_0 p1), (.fn (.func 66) [] [])]) (σr := []) (σr' := []) (res' := (B x75)) [] rfl Qjl (Qeh N p1 _ hf74) rfl (Qcu (rnc (.plain _ (nld Qac _)) (rnc (.plain _ (NLt.fn _ _ _ nl0 nl0)) rn0))) Qap Qap (.plain _ nll) rfl rfl rfl), asb hb76 (amv rfl), trivial⟩ ?_
      refine Qb0 (by kernel_rfl) ?_
      refine wx tbk [] trivial ?_
      refine wmr (mto (n := 89) (l' := [(4, z9_76), (5, I 1)]) (own' := []) [(4, nilS), (5, I 1)] [] [] hφ0 (pc (.nil _) (pc rwl pn)) qn) ?_
      refine Qae ?_
      refine Qaf ?_
      obtain rfl := osi h
      exact ⟨_, Mor.rfl, Qcm (vs := [z9_76, I 1]) ⟨rot (by kernel_rfl), rot (by kernel_rfl), trivial⟩ rfl (NLt.tup _ (nlc (nld Qac _) (nlc nll nl0))) (by kernel_rfl) Qbl⟩
     ·replace h := Qax hb76 h
      obtain ⟨x78, hf77, h⟩ := bno h
      refine wx tbk [(1, rp [(.tmp 20, (z9_0 p1))] (I ((p1.length : Int)))), (2, rp [fu 67, (.tmp 21, (I ((p1.length : Int)))), ci 1, ci 8] (B x72)), (4, rp [(.tmp 23, (B ((!x72))))] (B false)), (6, rp [(.tmp 24, B false), fu 68, (.tmp 25, (z9_0 p1)), fu 66] (B x75)), (9, rp [(.tmp 28, (B ((!x75))))] (B false)), (11, rp [(.tmp 29, B false), fu 69, (.tmp 30, (z9_0 p1))] (I x78))] ⟨alm (c := Qab) (l := p1) (aln rfl Try.underlying22 rfl), apc (first := []) (cap := []) (vs := [(I ((p1.length : Int))), I 1, I 8]) rfl Qge (Qcb N (p1.length : Int) 1 8 _ hf71) rfl rfl (nlc nll (nlc nll (nlc nll nl0))) nll rfl, asb hb73 (amv rfl), ag_ (Qaq (first := []) (cap := []) (vs := [(z9_0 p1), (.fn (.func 66) [] [])]) (σr := []) (σr' := []) (res' := (B x75)) [] rfl Qjl (Qeh N p1 _ hf74) rfl (Qcu (rnc (.plain _ (nld Qac _)) (rnc (.plain _ (NLt.fn _ _ _ nl0 nl0)) rn0))) Qap Qap (.plain _ nll) rfl rfl rfl), asb hb76 (amv rfl), ag_ (apc (first := []) (cap := []) (vs := [(z9_0 p1)]) rfl Qk9 (Qfn N p1 _ hf77) rfl rfl (nlc (nld Qac _) nl0) nll rfl), trivial⟩ ?_
      rcases bft ((x78 == 0)) with hc79 | hc79
      ·replace h := Qaw hc79 h
       refine wft hc79 (by kernel_rfl) ?_
       refine wx tbk [] trivial ?_
       refine wmr (mto (n := 89) (l' := [(4, z9_76), (5, I 1)]) (own' := []) [(4, nilS), (5, I 1)] [] [] hφ0 (pc (.nil _) (pc rwl pn)) qn) ?_
       refine Qae ?_
       refine Qaf ?_
       obtain rfl := osi h
       exact ⟨_, Mor.rfl, Qcm (vs := [z9_76, I 1]) ⟨rot (by kernel_rfl), rot (by kernel_rfl), trivial⟩ rfl (NLt.tup _ (nlc (nld Qac _) (nlc nll nl0))) (by kernel_rfl) Qbl⟩
      ·replace h := Qax hc79 h
       refine wfn hc79 (by kernel_rfl) ?_
       refine Qak ?_
       refine thn ?_
       exact ⟨(), h, (mto (n := 89) [(0, I p0), (1, (z9_0 p1))] [] [] hφ0 (pc rwl (pc (.rn (.plain _ (nld Qac _))) pn)) qn)⟩
end Go.Proofs.Ytflmombnmnblnaa
