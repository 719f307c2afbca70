/-
  Functions of the program: what they compute, as plain functions, and that they do. No conditions.
-/
import Derived.Test.YtgdepcgbjjgnfaaX17
namespace Go.Proofs.Ytgdepcgbjjgnfaa
open Go.RowKit
def Qer (N : Nat) (p0 : Int) : Option Bool :=
  (Qb9 N p0 0 1000).bind fun x2 =>
  some x2
set_option maxRecDepth 100000 in
set_option maxHeartbeats 4000000 in
theorem Qic (N : Nat) (p0 : Int) (r : Bool) (h : Qer N p0 = some r) : Spec Try.prog 91 [(I p0)] [] (B r) [] := by
  refine Qaj Try.func91 rfl 0 (nle rfl) (fun X φ0 w0 hφ0 => ?_)
  unfold Qer at h
  refine wx tbk [] trivial ?_
  obtain ⟨x2, hf1, h⟩ := bno h
  refine wx tbk [(1, rp [fu 68, (.tmp 3, I p0), ci 0, ci 1000] (B x2))] ⟨apc (first := []) (cap := []) (vs := [I p0, I 0, I 1000]) rfl Qdw (Qav N p0 0 1000 _ hf1) rfl rfl (nlc nll (nlc nll (nlc nll nl0))) nll rfl, trivial⟩ ?_
  refine Qag ?_
  obtain rfl := osi h
  exact fend ⟨[B x2], ⟨rot (by kernel_rfl), trivial⟩, rfl⟩ nll
def Qf4 (N : Nat) (p0 : Int) : Option Bool :=
  (Qer N p0).bind fun x3 =>
  some (!x3)
def Qtg : Slot := .own 1 [[(.fn (.func 91) [] [])]]
set_option maxRecDepth 100000 in
set_option maxHeartbeats 4000000 in
theorem Qj7 (N : Nat) (p0 : Int) (r : Bool) (h : Qf4 N p0 = some r) : Spec Try.prog 108 [(I (p0)), (.ref 0 1 (0) 0)] [Qtg] (B (r)) [Qtg] := by
  refine Qaj Try.func108 rfl 1 (nle rfl) (fun X φ0 w0 hφ0 => ?_)
  unfold Qf4 at h
  refine Qc3 ?_
  refine wx tbk [] trivial ?_
  obtain ⟨x3, hf2, h⟩ := bno h
  refine wx tbk [(2, rp [(.tmp 4, (.fn (.func 91) [] [])), (.tmp 5, I p0)] (B x3))] ⟨apc (first := []) (cap := []) (vs := [I p0]) rfl enter91 (Qic N p0 _ hf2) rfl rfl (nlc nll nl0) nll rfl, trivial⟩ ?_
  refine wmr (mto (n := 8) (l' := [(3, (B ((!x3))))]) (own' := [Qtg]) [(3, (B ((!x3))))] [0] [Qtg] hφ0 (pc rwl pn) (qc (spb (lc (.rn (Qax rn0 rn0)) ln)) qn)) ?_
  refine Qag ?_
  obtain rfl := osi h
  exact ⟨_, Mor.rfl, Qdf (vs := [(B ((!x3)))]) ⟨rot (by kernel_rfl), trivial⟩ rfl (NLt.of0 nll) (by kernel_rfl) (Qap (Qbp (nlc (NLt.of0 (NLt.fn _ _ _ nl0 nl0)) nl0)) Qb4)⟩
def Qa7 (N : Nat) (p0 : (List Int)) (k2 : Unit → Option Int) : Nat → Int → Option Int
  | 0, _ => none
  | n5 + 1, y3 =>
    bif (decide (y3 < (p0.length : Int))) then
     (getI p0 y3).bind fun x7 =>
     (Qf4 N x7).bind fun x12 =>
     bif x12 then
      some y3
     else
      Qa7 N p0 k2 n5 (w64 (y3 + 1))
    else
     k2 ()
def Qdq (N : Nat) (p0 : (List Int)) : Option Int :=
  Qbw (fun _ =>
    some (-1)) fun k2 : Unit → Option Int =>
  Qa7 N p0 k2 N 0
def Qmu (p0 : (List Int)) : AV := .dat 1 ((p0 : List Int).map Qac)
def Qoa : AV := .fn (.func 108) [] [(.ref 0 1 (0) 0)]
def Qhh : Slot := .own 1 [[(.fn (.func 91) [] [])]]
set_option maxRecDepth 100000 in
set_option maxHeartbeats 4000000 in
theorem Qg6 (N : Nat) (p0 : (List Int)) (r : Int) (h : Qdq N p0 = some r) : Spec Try.prog 113 [(Qmu p0), Qoa] [Qhh] (I (r)) [Qhh] := by
  refine Qaj Try.func113 rfl 1 (nle rfl) (fun X φ0 w0 hφ0 => ?_)
  unfold Qdq at h
  refine Qc3 ?_
  refine wx tbk [] trivial ?_
  obtain ⟨k2, hk_k2, h⟩ := jko h
  refine wjn (τ := Unit) (fun t => k2 t = some r) (fun _ => ⟨mk 19 [], [Qhh]⟩) (fun t h => ?_) ?_
  ·subst hk_k2
   refine wx tbk [] trivial ?_
   refine wmr (mto (n := 19) (l' := [(4, (I ((-1))))]) (own' := [Qhh]) [(4, (I ((-1))))] [0] [Qhh] hφ0 (pc rwl pn) (qc (spb (lc (.rn (Qax rn0 rn0)) ln)) qn)) ?_
   refine Qag ?_
   obtain rfl := osi h
   exact ⟨_, Mor.rfl, Qdf (vs := [(I ((-1)))]) ⟨rot (by kernel_rfl), trivial⟩ rfl (NLt.of0 nll) (by kernel_rfl) (Qap (Qbp (nlc (NLt.of0 (NLt.fn _ _ _ nl0 nl0)) nl0)) Qb4)⟩
  ·skip
   refine wx tbk [(1, rp [(.tmp 6, (Qmu p0))] (I ((p0.length : Int))))] ⟨alm (c := Qac) (l := p0) (aln rfl Try.underlying23 rfl), trivial⟩ ?_
   refine Qai ?_
   refine wmr (mto (n := 19) (l' := [(0, (Qmu p0)), (1, Qoa), (7, (I ((p0.length : Int)))), (8, I 0)]) (own' := [Qhh]) [(0, (Qmu p0)), (1, Qoa), (7, (I ((p0.length : Int)))), (8, I 0)] [0] [Qhh] hφ0 (pc (.rn (.plain _ (nld Qaa _))) (pc (.rn (Qax rn0 (rnc (rqr rfl) rn0))) (pc rwl (pc rwl pn)))) (qc (spb (lc (.rn (Qax rn0 rn0)) ln)) qn)) ?_
   refine Qb7 (τ := Int) (fun n t => Qa7 N p0 k2 n t = some r) (fun y3 => ⟨mk 19 [(0, (Qmu p0)), (1, Qoa), (7, (I ((p0.length : Int)))), (8, I y3)], [Qhh]⟩) (fun t h => by rw [Qa7] at h; cases h) (fun n5 ih y3 h => ?_) N (0) h
   rw [Qa7] at h
   skip
   refine wx tbk [] trivial ?_
   refine wsq ?_
   rcases bft ((decide (y3 < (p0.length : Int)))) with hc6 | hc6
   ·replace h := Qas hc6 h
    refine wft hc6 (by kernel_rfl) ?_
    refine Qah ?_
    refine thn ?_
    refine wsq ?_
    refine Qai ?_
    refine wx tbk [] trivial ?_
    obtain ⟨x7, hg8, h⟩ := bno h
    obtain ⟨hi9, hj10⟩ := gsm hg8
    obtain ⟨x12, hf11, h⟩ := bno h
    refine wx tbk [(3, rp [(.tmp 12, (Qmu p0)), (.tmp 13, I y3)] (.dptr (Qac (x7)) 0)), (5, ⟨[(.tmp 11, Qoa), (.tmp 15, I x7)], [(0, Qhh)], B x12, [(0, Qhh)], false⟩)] ⟨aid rfl Try.underlying23 ti3 rfl rfl hi9 (mgt Qac hj10) rfl, Qau (first := []) (cap := [.ref 0 1 0 0]) (vs := [I x7]) (σr := [Qhh]) (σr' := [Qhh]) (res' := (B x12)) [0] rfl Qt9 (Qj7 N x7 _ hf11) rfl (Qc4 (rnc (.plain _ nll) (rnc (Qbq rfl) rn0))) (slc (Qak (rnc (.plain _ (NLt.fn _ _ _ nl0 nl0)) rn0)) Qaq) (slc (Qak (rnc (.plain _ (NLt.fn _ _ _ nl0 nl0)) rn0)) Qaq) (.plain _ nll) rfl rfl rfl, trivial⟩ ?_
    rcases bft (x12) with hc13 | hc13
    ·replace h := Qas hc13 h
     refine wft hc13 (by kernel_rfl) ?_
     refine wx tbk [] trivial ?_
     refine wmr (mto (n := 19) (l' := [(4, I y3)]) (own' := [Qhh]) [(4, I y3)] [0] [Qhh] hφ0 (pc rwl pn) (qc (spb (lc (.rn (Qax rn0 rn0)) ln)) qn)) ?_
     refine Qag ?_
     refine Qam ?_
     refine Qaf ?_
     refine Qaf ?_
     refine Qam ?_
     refine Qaf ?_
     obtain rfl := osi h
     exact ⟨_, Mor.rfl, Qdf (vs := [I y3]) ⟨rot (by kernel_rfl), trivial⟩ rfl (NLt.of0 nll) (by kernel_rfl) (Qap (Qbp (nlc (NLt.of0 (NLt.fn _ _ _ nl0 nl0)) nl0)) Qb4)⟩
    ·replace h := Qat hc13 h
     refine wfn hc13 (by kernel_rfl) ?_
     refine Qah ?_
     refine bln ?_
     refine thn ?_
     refine wx1 tbk [] trivial ?_
     refine thn ?_
     exact arm (mto (n := 19) [(0, (Qmu p0)), (1, Qoa), (7, (I ((p0.length : Int)))), (8, (I (w64 (y3 + 1))))] [0] [Qhh] hφ0 (pc (.rn (.plain _ (nld Qaa _))) (pc (.rn (Qax rn0 (rnc (rqr rfl) rn0))) (pc rwl (pc rwl pn)))) (qc (spb (lc (.rn (Qax rn0 rn0)) ln)) qn)) (ih (w64 (y3 + 1)) h)
   ·replace h := Qat hc6 h
    refine wfn hc6 (by kernel_rfl) ?_
    refine Qa4 ?_
    refine Qan ?_
    refine Qan ?_
    refine Qa3 rfl ?_
    refine thn ?_
    exact ⟨(), h, (mto (n := 19) [] [0] [Qhh] hφ0 pn (qc (spb (lc (.rn (Qax rn0 rn0)) ln)) qn))⟩
def Qdc (N : Nat) (p0 : (List Int)) : Option Bool :=
  (Qdq N p0).bind fun x3 =>
  some (decide (x3 ≥ 0))
def Qwn (p0 : (List Int)) : AV := .dat 1 ((p0 : List Int).map Qac)
def Qwm : AV := .fn (.func 108) [] [(.ref 0 1 (0) 0)]
def Ql3 : Slot := .own 1 [[(.fn (.func 91) [] [])]]
set_option maxRecDepth 100000 in
set_option maxHeartbeats 4000000 in
theorem Qgn (N : Nat) (p0 : (List Int)) (r : Bool) (h : Qdc N p0 = some r) : Spec Try.prog 107 [(Qwn p0), Qwm] [Ql3] (B (r)) [Ql3] := by
  refine Qaj Try.func107 rfl 1 (nle rfl) (fun X φ0 w0 hφ0 => ?_)
  unfold Qdc at h
  refine Qc3 ?_
  refine wx tbk [] trivial ?_
  obtain ⟨x3, hf2, h⟩ := bno h
  refine wx tbk [(2, ⟨[fu 113, (.tmp 5, (Qwn p0)), (.tmp 6, Qwm)], [(0, Ql3)], I x3, [(0, Ql3)], false⟩)] ⟨Qau (first := []) (cap := []) (vs := [(Qwn p0), Qwm]) (σr := [Ql3]) (σr' := [Ql3]) (res' := (I x3)) [0] rfl Qt8 (Qg6 N p0 _ hf2) rfl (Qc4 (rnc (.plain _ (nld Qaa _)) (rnc (Qax rn0 (rnc (Qbq rfl) rn0)) rn0))) (slc (Qak (rnc (.plain _ (NLt.fn _ _ _ nl0 nl0)) rn0)) Qaq) (slc (Qak (rnc (.plain _ (NLt.fn _ _ _ nl0 nl0)) rn0)) Qaq) (.plain _ nll) rfl rfl rfl, trivial⟩ ?_
  refine wmr (mto (n := 9) (l' := [(4, (B ((decide (x3 ≥ 0)))))]) (own' := [Ql3]) [(4, (B ((decide (x3 ≥ 0)))))] [0] [Ql3] hφ0 (pc rwl pn) (qc (spb (lc (.rn (Qax rn0 rn0)) ln)) qn)) ?_
  refine Qag ?_
  obtain rfl := osi h
  exact ⟨_, Mor.rfl, Qdf (vs := [(B ((decide (x3 ≥ 0))))]) ⟨rot (by kernel_rfl), trivial⟩ rfl (NLt.of0 nll) (by kernel_rfl) (Qap (Qbp (nlc (NLt.of0 (NLt.fn _ _ _ nl0 nl0)) nl0)) Qb4)⟩
def Qfx (N : Nat) (p0 : (List Int)) : Option Bool :=
  (Qdc N p0).bind fun x2 =>
  some (!x2)
def Qwp (p0 : (List Int)) : AV := .dat 1 ((p0 : List Int).map Qac)
def Qwo : AV := .fn (.func 108) [] [(.ref 0 1 (0) 0)]
def Qth : Slot := .own 1 [[(.fn (.func 91) [] [])]]
set_option maxRecDepth 100000 in
set_option maxHeartbeats 4000000 in
theorem Qk3 (N : Nat) (p0 : (List Int)) (r : Bool) (h : Qfx N p0 = some r) : Spec Try.prog 90 [(Qwp p0), (.fn (.func 91) [] [])] [] (B (r)) [] := by
  refine Qaj Try.func90 rfl 0 (nle rfl) (fun X φ0 w0 hφ0 => ?_)
  unfold Qfx at h
  refine wx tbk [] trivial ?_
  obtain ⟨x2, hf1, h⟩ := bno h
  refine wx tbk [(1, rp [(.tmp 3, .ref 0 1 0 0)] Qwo), (2, ⟨[fu 107, (.tmp 5, (Qwp p0)), (.tmp 6, Qwo)], [(0, Qth)], B x2, [(0, Qth)], false⟩)] ⟨Qgg (fs := []) (cs := [.ref 0 1 0 0]) rfl rfl rfl rfl, Qau (first := []) (cap := []) (vs := [(Qwp p0), Qwo]) (σr := [Qth]) (σr' := [Qth]) (res' := (B x2)) [0] rfl Qua (Qgn N p0 _ hf1) rfl (Qc4 (rnc (.plain _ (nld Qaa _)) (rnc (Qax rn0 (rnc (Qbq rfl) rn0)) rn0))) (slc (Qak (rnc (.plain _ (NLt.fn _ _ _ nl0 nl0)) rn0)) Qaq) (slc (Qak (rnc (.plain _ (NLt.fn _ _ _ nl0 nl0)) rn0)) Qaq) (.plain _ nll) rfl rfl rfl, trivial⟩ ?_
  refine Qag ?_
  obtain rfl := osi h
  exact fend ⟨[(B ((!x2)))], ⟨rot (by kernel_rfl), trivial⟩, rfl⟩ nll
def Qa1 (N : Nat) (p2 : (List Int)) (y17 : Int) (k26 : Unit → Option Bool) : (List (GStair × Int)) → Option Bool
  | [] =>
    k26 ()
  | x63 :: q64 =>
    bif (decide (x63.2 > 0)) then
     (getI p2 y17).bind fun x73 =>
     bif (decide (x63.1.Price > x73)) then
      some false
     else
      bif (decide (x63.2 < x63.1.Amount)) then
       bif (decide (x63.1.Price < x73)) then
        some false
       else
        Qa1 N p2 y17 k26 q64
      else
       Qa1 N p2 y17 k26 q64
    else
     bif (decide (x63.2 < x63.1.Amount)) then
      (getI p2 y17).bind fun x81 =>
      bif (decide (x63.1.Price < x81)) then
       some false
      else
       Qa1 N p2 y17 k26 q64
     else
      Qa1 N p2 y17 k26 q64
def Qb3 (N : Nat) (p0 : GDay) (p1 : (List Int)) (p2 : (List Int)) (x3 : ((List Int) × Bool)) (k5 : Unit → Option Bool) : Nat → Int → Option Bool
  | 0, _ => none
  | n19 + 1, y17 =>
    bif (decide (y17 < (p0.Hours.length : Int))) then
     Qbw (fun _ =>
       Qb3 N p0 p1 p2 x3 k5 n19 (w64 (y17 + 1))) fun k21 : Unit → Option Bool =>
     (getI p0.Hours y17).bind fun x22 =>
     Qbw (fun _ =>
       bif (y17 == (w64 ((p0.Hours.length : Int) - 1))) then
        k21 ()
       else
        (getI x3.1 y17).bind fun x28 =>
        bif (decide (x28 < p0.Tank)) then
         (getI p2 (w64 (y17 + 1))).bind fun x33 =>
         (getI p2 y17).bind fun x37 =>
         bif (decide (x33 > x37)) then
          some false
         else
          bif (decide (x28 > 0)) then
           bif (decide (x33 < x37)) then
            some false
           else
            k21 ()
          else
           k21 ()
        else
         bif (decide (x28 > 0)) then
          (getI p2 (w64 (y17 + 1))).bind fun x45 =>
          (getI p2 y17).bind fun x49 =>
          bif (decide (x45 < x49)) then
           some false
          else
           k21 ()
         else
          k21 ()) fun k26 : Unit → Option Bool =>
     (getI p1 y17).bind fun x54 =>
     (Qdb N x22 x54).bind fun _ =>
     (Qda N x22.Use x22.Stairs x54).bind fun q60 =>
     Qa1 N p2 y17 k26 q60
    else
     k5 ()
def Qd0 (N : Nat) (p0 : GDay) (p1 : (List Int)) (p2 : (List Int)) : Option Bool :=
  Qbw (fun _ =>
    (Qep N p0 p1).bind fun x3 =>
    bif (!x3.2) then
     some false
    else
     Qbw (fun _ =>
       (some (w64 ((p0.Hours.length : Int) - 1))).bind fun x6 =>
       (getI x3.1 x6).bind fun x8 =>
       bif (x8 == 0) then
        some true
       else
        (getI p2 x6).bind fun x13 =>
        some (x13 == 0)) fun k5 : Unit → Option Bool =>
     Qb3 N p0 p1 p2 x3 k5 N 0) fun k1 : Unit → Option Bool =>
  (Qei N p0).bind fun x87 =>
  bif (!x87) then
   some false
  else
   bif ((p2.length : Int) != (p0.Hours.length : Int)) then
    some false
   else
    (Qfx N p2).bind fun x91 =>
    bif (!x91) then
     some false
    else
     k1 ()
def Qgh (p1 : (List Int)) : AV := .dat 1 ((p1 : List Int).map Qac)
def Qf6 (p0 : GDay) : AV := .dat 2 ((p0.Hours : List GHour).map Qal)
def Qd1 (p0 : GDay) : Slot := .own 3 [[(I (p0.Tank)), (I (p0.Start)), (Qf6 p0)]]
def Qb8 (p2 : (List Int)) : AV := .dat 1 ((p2 : List Int).map Qac)
def Ql4 (p0 : GDay) : AV := .agg [(I (p0.Tank)), (I (p0.Start)), (Qf6 p0)]
def Qew (x3 : ((List Int) × Bool)) : AV := .dat 1 ((x3.1 : List Int).map Qac)
def Qr1 (x22 : GHour) : AV := .dat 2 ((x22.Stairs : List GStair).map Qao)
def Qr2 : AV := .fn (.func 109) [] [(.ref 5 2 (0) 0), (.ref 6 1 (0) 0)]
def Qmv (x22 : GHour) : Slot := .own 2 [[(I (x22.Use)), (Qr1 x22)]]
set_option maxRecDepth 100000 in
set_option maxHeartbeats 4000000 in
theorem Qc0 (N : Nat) (p0 : GDay) (p1 : (List Int)) (p2 : (List Int)) (r : Bool) (h : Qd0 N p0 p1 p2 = some r) : Spec Try.prog 60 [(.agg (Qij p0)), (.dat 1 (p1.map Qac)), (.dat 1 (p2.map Qac))] [] (B r) [] := by
  refine Qaj Try.func60 rfl 0 (nle rfl) (fun X φ0 w0 hφ0 => ?_)
  unfold Qd0 at h
  refine wx tbk [] trivial ?_
  obtain ⟨k1, hk_k1, h⟩ := jko h
  refine wjn (τ := Unit) (fun t => k1 t = some r) (fun _ => ⟨mk 141 [(1, (Qgh p1)), (3, .ref 0 3 0 0), (5, .ref 1 1 0 0), (6, .ref 2 1 0 0)], [(Qd1 p0), (.own 1 [[(Qb8 p2)]]), (.own 1 [[B false]])]⟩) (fun t h => ?_) ?_
  ·subst hk_k1
   obtain ⟨x3, hf2, h⟩ := bno h
   refine wx tbk [(2, rp [fu 92, (.tmp 31, (Ql4 p0)), (.tmp 32, (Qgh p1))] (.tup [(Qew x3), B x3.2]))] ⟨apc (first := []) (cap := []) (vs := [(Ql4 p0), (Qgh p1)]) rfl Qxz (Qhs N p0 p1 _ hf2) rfl rfl (nlc (NLt.agg _ (nlc nll (nlc nll (nlc (nld Qab _) nl0)))) (nlc (nld Qaa _) nl0)) (NLt.tup _ (nlc (nld Qaa _) (nlc nll nl0))) rfl, trivial⟩ ?_
   refine wsq ?_
   refine wx tbk [] trivial ?_
   rcases bft ((!x3.2)) with hc4 | hc4
   ·replace h := Qas hc4 h
    refine wft hc4 (by kernel_rfl) ?_
    refine wx tbk [] trivial ?_
    refine Qag ?_
    refine Qaf ?_
    obtain rfl := osi h
    exact fend ⟨[B false], ⟨Qc5 (n := 2) (m := 1) (j := 0) (i := 0) (xs := [[B false]]) (by kernel_rfl) (by kernel_rfl) ti4 (by decide) rfl (nle rfl) rfl, trivial⟩, rfl⟩ nll
   ·replace h := Qat hc4 h
    refine wfn hc4 (by kernel_rfl) ?_
    refine Qah ?_
    refine thn ?_
    obtain ⟨k5, hk_k5, h⟩ := jko h
    refine wjn (τ := Unit) (fun t => k5 t = some r) (fun _ => ⟨mk 141 [(3, .ref 0 3 0 0), (5, .ref 1 1 0 0), (6, .ref 2 1 0 0), (7, (Qew x3))], [(Qd1 p0), (.own 1 [[(Qb8 p2)]]), (.own 1 [[B false]])]⟩) (fun t h => ?_) ?_
    ·subst hk_k5
     obtain ⟨x6, hl7, h⟩ := bno h
     refine wx tbk [(2, rp [(.tmp 126, (Qf6 p0))] (I ((p0.Hours.length : Int)))), (4, rp [(.tmp 128, (I (w64 ((p0.Hours.length : Int) - 1))))] (I x6))] ⟨alm (c := Qal) (l := p0.Hours) (aln rfl Try.underlying45 rfl), Qfb hl7 (aas rfl), trivial⟩ ?_
     obtain ⟨x8, hg9, h⟩ := bno h
     obtain ⟨hi10, hj11⟩ := gsm hg9
     rcases bft ((x8 == 0)) with hb12 | hb12
     ·replace h := Qas hb12 h
      refine wx tbk [(2, rp [(.tmp 129, (Qew x3)), (.tmp 130, I x6)] (.dptr (Qac (x8)) 0)), (5, rp [(.tmp 133, (B ((x8 == 0))))] (B true))] ⟨aid rfl Try.underlying23 ti3 rfl rfl hi10 (mgt Qac hj11) rfl, asb hb12 (amv rfl), trivial⟩ ?_
      refine Qag ?_
      obtain rfl := osi h
      exact fend ⟨[B true], ⟨Qc5 (n := 2) (m := 1) (j := 0) (i := 0) (xs := [[B true]]) (by kernel_rfl) (by kernel_rfl) ti4 (by decide) rfl (nle rfl) rfl, trivial⟩, rfl⟩ nll
     ·replace h := Qat hb12 h
      obtain ⟨x13, hg14, h⟩ := bno h
      obtain ⟨hi15, hj16⟩ := gsm hg14
      refine wx tbk [(2, rp [(.tmp 129, (Qew x3)), (.tmp 130, I x6)] (.dptr (Qac (x8)) 0)), (5, rp [(.tmp 133, (B ((x8 == 0))))] (B false)), (8, rp [(.tmp 134, B false), (.tmp 135, (Qb8 p2)), (.tmp 136, I x6)] (.dptr (Qac (x13)) 0))] ⟨aid rfl Try.underlying23 ti3 rfl rfl hi10 (mgt Qac hj11) rfl, asb hb12 (amv rfl), ag_ (aid rfl Try.underlying23 ti3 rfl rfl hi15 (mgt Qac hj16) rfl), trivial⟩ ?_
      refine Qag ?_
      obtain rfl := osi h
      exact fend ⟨[(B ((x13 == 0)))], ⟨Qc5 (n := 2) (m := 1) (j := 0) (i := 0) (xs := [[(B ((x13 == 0)))]]) (by kernel_rfl) (by kernel_rfl) ti4 (by decide) rfl (nle rfl) rfl, trivial⟩, rfl⟩ nll
    ·skip
     refine wx tbk [(2, rp [(.tmp 39, (Qf6 p0))] (I ((p0.Hours.length : Int))))] ⟨alm (c := Qal) (l := p0.Hours) (aln rfl Try.underlying45 rfl), trivial⟩ ?_
     refine Qai ?_
     refine wmr (mto (n := 141) (l' := [(1, (Qgh p1)), (3, .ref 0 3 0 0), (5, .ref 1 1 0 0), (6, .ref 2 1 0 0), (7, (Qew x3)), (39, (Qf6 p0)), (40, (I ((p0.Hours.length : Int)))), (41, I 0)]) (own' := [(Qd1 p0), (.own 1 [[(Qb8 p2)]]), (.own 1 [[B false]])]) [(1, (Qgh p1)), (3, .ref 0 3 0 0), (5, .ref 1 1 0 0), (6, .ref 2 1 0 0), (7, (Qew x3)), (39, (Qf6 p0)), (40, (I ((p0.Hours.length : Int)))), (41, I 0)] [0, 1, 2] [(Qd1 p0), (.own 1 [[(Qb8 p2)]]), (.own 1 [[B false]])] hφ0 (pc (.rn (.plain _ (nld Qaa _))) (pc (.rn (rqr rfl)) (pc (.rn (rqr rfl)) (pc (.rn (rqr rfl)) (pc (.rn (.plain _ (nld Qaa _))) (pc (.rn (.plain _ (nld Qab _))) (pc rwl (pc rwl pn)))))))) (qc (spb (lc rwl (lc rwl (lc (.rn (.plain _ (nld Qab _))) ln)))) (qc (spb (lc (.rn (.plain _ (nld Qaa _))) ln)) (qc (spb (lc rwl ln)) qn)))) ?_
     refine Qb7 (τ := Int) (fun n t => Qb3 N p0 p1 p2 x3 k5 n t = some r) (fun y17 => ⟨mk 141 [(1, (Qgh p1)), (3, .ref 0 3 0 0), (5, .ref 1 1 0 0), (6, .ref 2 1 0 0), (7, (Qew x3)), (39, (Qf6 p0)), (40, (I ((p0.Hours.length : Int)))), (41, I y17)], [(Qd1 p0), (.own 1 [[(Qb8 p2)]]), (.own 1 [[B false]])]⟩) (fun t h => by rw [Qb3] at h; cases h) (fun n19 ih y17 h => ?_) N (0) h
     rw [Qb3] at h
     skip
     refine wx tbk [] trivial ?_
     refine wsq ?_
     rcases bft ((decide (y17 < (p0.Hours.length : Int)))) with hc20 | hc20
     ·replace h := Qas hc20 h
      refine wft hc20 (by kernel_rfl) ?_
      refine Qah ?_
      refine thn ?_
      obtain ⟨k21, hk_k21, h⟩ := jko h
      refine wjn (τ := Unit) (fun t => k21 t = some r) (fun _ => ⟨mk 141 [(1, (Qgh p1)), (3, .ref 0 3 0 0), (5, .ref 1 1 0 0), (6, .ref 2 1 0 0), (7, (Qew x3)), (39, (Qf6 p0)), (40, (I ((p0.Hours.length : Int)))), (41, I y17)], [(Qd1 p0), (.own 1 [[(Qb8 p2)]]), (.own 1 [[B false]])]⟩) (fun t h => ?_) ?_
      ·subst hk_k21
       refine wx1 tbk [] trivial ?_
       refine thn ?_
       exact arm (mto (n := 141) [(1, (Qgh p1)), (3, .ref 0 3 0 0), (5, .ref 1 1 0 0), (6, .ref 2 1 0 0), (7, (Qew x3)), (39, (Qf6 p0)), (40, (I ((p0.Hours.length : Int)))), (41, (I (w64 (y17 + 1))))] [0, 1, 2] [(Qd1 p0), (.own 1 [[(Qb8 p2)]]), (.own 1 [[B false]])] hφ0 (pc (.rn (.plain _ (nld Qaa _))) (pc (.rn (rqr rfl)) (pc (.rn (rqr rfl)) (pc (.rn (rqr rfl)) (pc (.rn (.plain _ (nld Qaa _))) (pc (.rn (.plain _ (nld Qab _))) (pc rwl (pc rwl pn)))))))) (qc (spb (lc rwl (lc rwl (lc (.rn (.plain _ (nld Qab _))) ln)))) (qc (spb (lc (.rn (.plain _ (nld Qaa _))) ln)) (qc (spb (lc rwl ln)) qn)))) (ih (w64 (y17 + 1)) h)
      ·skip
       refine Qai ?_
       obtain ⟨x22, hg23, h⟩ := bno h
       obtain ⟨hi24, hj25⟩ := gsm hg23
       refine wx tbk [(1, rp [(.tmp 39, (Qf6 p0)), (.tmp 41, I y17)] (.dptr (Qal (x22)) 0))] ⟨aid rfl Try.underlying45 ti62 rfl rfl hi24 (mgt Qal hj25) rfl, trivial⟩ ?_
       obtain ⟨k26, hk_k26, h⟩ := jko h
       refine wjn (τ := Unit) (fun t => k26 t = some r) (fun _ => ⟨mk 141 [(1, (Qgh p1)), (3, .ref 0 3 0 0), (5, .ref 1 1 0 0), (6, .ref 2 1 0 0), (7, (Qew x3)), (9, .ref 3 1 0 0), (39, (Qf6 p0)), (40, (I ((p0.Hours.length : Int)))), (41, I y17)], [(Qd1 p0), (.own 1 [[(Qb8 p2)]]), (.own 1 [[B false]]), (.own 1 [[I y17]])]⟩) (fun t h => ?_) ?_
       ·subst hk_k26
        refine wsq ?_
        refine wx tbk [(3, rp [(.tmp 82, (Qf6 p0))] (I ((p0.Hours.length : Int))))] ⟨alm (c := Qal) (l := p0.Hours) (aln rfl Try.underlying45 rfl), trivial⟩ ?_
        rcases bft ((y17 == (w64 ((p0.Hours.length : Int) - 1)))) with hc27 | hc27
        ·replace h := Qas hc27 h
         refine wft hc27 (by kernel_rfl) ?_
         refine Qa4 ?_
         refine Qan ?_
         refine Qa3 rfl ?_
         refine thn ?_
         exact ⟨(), h, (mto (n := 141) [(1, (Qgh p1)), (3, .ref 0 3 0 0), (5, .ref 1 1 0 0), (6, .ref 2 1 0 0), (7, (Qew x3)), (39, (Qf6 p0)), (40, (I ((p0.Hours.length : Int)))), (41, I y17)] [0, 1, 2] [(Qd1 p0), (.own 1 [[(Qb8 p2)]]), (.own 1 [[B false]])] hφ0 (pc (.rn (.plain _ (nld Qaa _))) (pc (.rn (rqr rfl)) (pc (.rn (rqr rfl)) (pc (.rn (rqr rfl)) (pc (.rn (.plain _ (nld Qaa _))) (pc (.rn (.plain _ (nld Qab _))) (pc rwl (pc rwl pn)))))))) (qc (spb (lc rwl (lc rwl (lc (.rn (.plain _ (nld Qab _))) ln)))) (qc (spb (lc (.rn (.plain _ (nld Qaa _))) ln)) (qc (spb (lc rwl ln)) qn))))⟩
        ·replace h := Qat hc27 h
         refine wfn hc27 (by kernel_rfl) ?_
         refine Qah ?_
         refine thn ?_
         obtain ⟨x28, hg29, h⟩ := bno h
         obtain ⟨hi30, hj31⟩ := gsm hg29
         rcases bft ((decide (x28 < p0.Tank))) with hb32 | hb32
         ·replace h := Qas hb32 h
          obtain ⟨x33, hg34, h⟩ := bno h
          obtain ⟨hi35, hj36⟩ := gsm hg34
          obtain ⟨x37, hg38, h⟩ := bno h
          obtain ⟨hi39, hj40⟩ := gsm hg38
          rcases bft ((decide (x33 > x37))) with hb41 | hb41
          ·replace h := Qas hb41 h
           refine wxd tbk [(2, rp [(.tmp 86, (Qew x3)), (.tmp 87, I y17)] (.dptr (Qac (x28)) 0)), (7, rp [(.tmp 92, (B ((decide (x28 < p0.Tank)))))] (B true)), (11, rp [(.tmp 93, B true), (.tmp 94, (Qb8 p2)), (.tmp 96, (I (w64 (y17 + 1))))] (.dptr (Qac (x33)) 0)), (15, rp [(.tmp 93, B true), (.tmp 99, (Qb8 p2)), (.tmp 100, I y17)] (.dptr (Qac (x37)) 0)), (19, rp [(.tmp 104, (B ((decide (x33 > x37)))))] (B true))] ⟨aid rfl Try.underlying23 ti3 rfl rfl hi30 (mgt Qac hj31) rfl, asb hb32 (amv rfl), ag_ (aid rfl Try.underlying23 ti3 rfl rfl hi35 (mgt Qac hj36) rfl), ag_ (aid rfl Try.underlying23 ti3 rfl rfl hi39 (mgt Qac hj40) rfl), asb hb41 (amv rfl), trivial⟩ ?_
           refine Qcf (by kernel_rfl) ?_
           refine wx tbk [] trivial ?_
           refine Qag ?_
           refine Qam ?_
           refine Qaf ?_
           refine Qaf ?_
           refine Qam ?_
           refine Qaf ?_
           obtain rfl := osi h
           exact fend ⟨[B false], ⟨Qc5 (n := 2) (m := 1) (j := 0) (i := 0) (xs := [[B false]]) (by kernel_rfl) (by kernel_rfl) ti4 (by decide) rfl (nle rfl) rfl, trivial⟩, rfl⟩ nll
          ·replace h := Qat hb41 h
           rcases bft ((decide (x28 > 0))) with hb42 | hb42
           ·replace h := Qas hb42 h
            refine wxd tbk [(2, rp [(.tmp 86, (Qew x3)), (.tmp 87, I y17)] (.dptr (Qac (x28)) 0)), (7, rp [(.tmp 92, (B ((decide (x28 < p0.Tank)))))] (B true)), (11, rp [(.tmp 93, B true), (.tmp 94, (Qb8 p2)), (.tmp 96, (I (w64 (y17 + 1))))] (.dptr (Qac (x33)) 0)), (15, rp [(.tmp 93, B true), (.tmp 99, (Qb8 p2)), (.tmp 100, I y17)] (.dptr (Qac (x37)) 0)), (19, rp [(.tmp 104, (B ((decide (x33 > x37)))))] (B false)), (22, rp [(.tmp 105, B false), (.tmp 106, (Qew x3)), (.tmp 107, I y17)] (.dptr (Qac (x28)) 0)), (25, rp [(.tmp 105, B false), (.tmp 110, (B ((decide (x28 > 0)))))] (B true)), (29, rp [(.tmp 111, B true), (.tmp 112, (Qb8 p2)), (.tmp 114, (I (w64 (y17 + 1))))] (.dptr (Qac (x33)) 0)), (33, rp [(.tmp 111, B true), (.tmp 117, (Qb8 p2)), (.tmp 118, I y17)] (.dptr (Qac (x37)) 0))] ⟨aid rfl Try.underlying23 ti3 rfl rfl hi30 (mgt Qac hj31) rfl, asb hb32 (amv rfl), ag_ (aid rfl Try.underlying23 ti3 rfl rfl hi35 (mgt Qac hj36) rfl), ag_ (aid rfl Try.underlying23 ti3 rfl rfl hi39 (mgt Qac hj40) rfl), asb hb41 (amv rfl), ag_ (aid rfl Try.underlying23 ti3 rfl rfl hi30 (mgt Qac hj31) rfl), asb hb42 (ag_ (amv rfl)), ag_ (aid rfl Try.underlying23 ti3 rfl rfl hi35 (mgt Qac hj36) rfl), ag_ (aid rfl Try.underlying23 ti3 rfl rfl hi39 (mgt Qac hj40) rfl), trivial⟩ ?_
            rcases bft ((decide (x33 < x37))) with hc43 | hc43
            ·replace h := Qas hc43 h
             refine wft hc43 (by kernel_rfl) ?_
             refine wx tbk [] trivial ?_
             refine Qag ?_
             refine Qam ?_
             refine Qaf ?_
             refine Qaf ?_
             refine Qam ?_
             refine Qaf ?_
             obtain rfl := osi h
             exact fend ⟨[B false], ⟨Qc5 (n := 2) (m := 1) (j := 0) (i := 0) (xs := [[B false]]) (by kernel_rfl) (by kernel_rfl) ti4 (by decide) rfl (nle rfl) rfl, trivial⟩, rfl⟩ nll
            ·replace h := Qat hc43 h
             refine wfn hc43 (by kernel_rfl) ?_
             refine Qah ?_
             refine bln ?_
             refine thn ?_
             exact ⟨(), h, (mto (n := 141) [(1, (Qgh p1)), (3, .ref 0 3 0 0), (5, .ref 1 1 0 0), (6, .ref 2 1 0 0), (7, (Qew x3)), (39, (Qf6 p0)), (40, (I ((p0.Hours.length : Int)))), (41, I y17)] [0, 1, 2] [(Qd1 p0), (.own 1 [[(Qb8 p2)]]), (.own 1 [[B false]])] hφ0 (pc (.rn (.plain _ (nld Qaa _))) (pc (.rn (rqr rfl)) (pc (.rn (rqr rfl)) (pc (.rn (rqr rfl)) (pc (.rn (.plain _ (nld Qaa _))) (pc (.rn (.plain _ (nld Qab _))) (pc rwl (pc rwl pn)))))))) (qc (spb (lc rwl (lc rwl (lc (.rn (.plain _ (nld Qab _))) ln)))) (qc (spb (lc (.rn (.plain _ (nld Qaa _))) ln)) (qc (spb (lc rwl ln)) qn))))⟩
           ·replace h := Qat hb42 h
            refine wxd tbk [(2, rp [(.tmp 86, (Qew x3)), (.tmp 87, I y17)] (.dptr (Qac (x28)) 0)), (7, rp [(.tmp 92, (B ((decide (x28 < p0.Tank)))))] (B true)), (11, rp [(.tmp 93, B true), (.tmp 94, (Qb8 p2)), (.tmp 96, (I (w64 (y17 + 1))))] (.dptr (Qac (x33)) 0)), (15, rp [(.tmp 93, B true), (.tmp 99, (Qb8 p2)), (.tmp 100, I y17)] (.dptr (Qac (x37)) 0)), (19, rp [(.tmp 104, (B ((decide (x33 > x37)))))] (B false)), (22, rp [(.tmp 105, B false), (.tmp 106, (Qew x3)), (.tmp 107, I y17)] (.dptr (Qac (x28)) 0)), (25, rp [(.tmp 105, B false), (.tmp 110, (B ((decide (x28 > 0)))))] (B false))] ⟨aid rfl Try.underlying23 ti3 rfl rfl hi30 (mgt Qac hj31) rfl, asb hb32 (amv rfl), ag_ (aid rfl Try.underlying23 ti3 rfl rfl hi35 (mgt Qac hj36) rfl), ag_ (aid rfl Try.underlying23 ti3 rfl rfl hi39 (mgt Qac hj40) rfl), asb hb41 (amv rfl), ag_ (aid rfl Try.underlying23 ti3 rfl rfl hi30 (mgt Qac hj31) rfl), asb hb42 (ag_ (amv rfl)), trivial⟩ ?_
            refine Qd7 (by kernel_rfl) ?_
            refine Qah ?_
            refine bln ?_
            refine thn ?_
            exact ⟨(), h, (mto (n := 141) [(1, (Qgh p1)), (3, .ref 0 3 0 0), (5, .ref 1 1 0 0), (6, .ref 2 1 0 0), (7, (Qew x3)), (39, (Qf6 p0)), (40, (I ((p0.Hours.length : Int)))), (41, I y17)] [0, 1, 2] [(Qd1 p0), (.own 1 [[(Qb8 p2)]]), (.own 1 [[B false]])] hφ0 (pc (.rn (.plain _ (nld Qaa _))) (pc (.rn (rqr rfl)) (pc (.rn (rqr rfl)) (pc (.rn (rqr rfl)) (pc (.rn (.plain _ (nld Qaa _))) (pc (.rn (.plain _ (nld Qab _))) (pc rwl (pc rwl pn)))))))) (qc (spb (lc rwl (lc rwl (lc (.rn (.plain _ (nld Qab _))) ln)))) (qc (spb (lc (.rn (.plain _ (nld Qaa _))) ln)) (qc (spb (lc rwl ln)) qn))))⟩
         ·replace h := Qat hb32 h
          rcases bft ((decide (x28 > 0))) with hb44 | hb44
          ·replace h := Qas hb44 h
           obtain ⟨x45, hg46, h⟩ := bno h
           obtain ⟨hi47, hj48⟩ := gsm hg46
           obtain ⟨x49, hg50, h⟩ := bno h
           obtain ⟨hi51, hj52⟩ := gsm hg50
           refine wxd tbk [(2, rp [(.tmp 86, (Qew x3)), (.tmp 87, I y17)] (.dptr (Qac (x28)) 0)), (7, rp [(.tmp 92, (B ((decide (x28 < p0.Tank)))))] (B false)), (22, rp [(.tmp 105, B false), (.tmp 106, (Qew x3)), (.tmp 107, I y17)] (.dptr (Qac (x28)) 0)), (25, rp [(.tmp 105, B false), (.tmp 110, (B ((decide (x28 > 0)))))] (B true)), (29, rp [(.tmp 111, B true), (.tmp 112, (Qb8 p2)), (.tmp 114, (I (w64 (y17 + 1))))] (.dptr (Qac (x45)) 0)), (33, rp [(.tmp 111, B true), (.tmp 117, (Qb8 p2)), (.tmp 118, I y17)] (.dptr (Qac (x49)) 0))] ⟨aid rfl Try.underlying23 ti3 rfl rfl hi30 (mgt Qac hj31) rfl, asb hb32 (amv rfl), ag_ (aid rfl Try.underlying23 ti3 rfl rfl hi30 (mgt Qac hj31) rfl), asb hb44 (ag_ (amv rfl)), ag_ (aid rfl Try.underlying23 ti3 rfl rfl hi47 (mgt Qac hj48) rfl), ag_ (aid rfl Try.underlying23 ti3 rfl rfl hi51 (mgt Qac hj52) rfl), trivial⟩ ?_
           rcases bft ((decide (x45 < x49))) with hc53 | hc53
           ·replace h := Qas hc53 h
            refine wft hc53 (by kernel_rfl) ?_
            refine wx tbk [] trivial ?_
            refine Qag ?_
            refine Qam ?_
            refine Qaf ?_
            refine Qaf ?_
            refine Qam ?_
            refine Qaf ?_
            obtain rfl := osi h
            exact fend ⟨[B false], ⟨Qc5 (n := 2) (m := 1) (j := 0) (i := 0) (xs := [[B false]]) (by kernel_rfl) (by kernel_rfl) ti4 (by decide) rfl (nle rfl) rfl, trivial⟩, rfl⟩ nll
           ·replace h := Qat hc53 h
            refine wfn hc53 (by kernel_rfl) ?_
            refine Qah ?_
            refine bln ?_
            refine thn ?_
            exact ⟨(), h, (mto (n := 141) [(1, (Qgh p1)), (3, .ref 0 3 0 0), (5, .ref 1 1 0 0), (6, .ref 2 1 0 0), (7, (Qew x3)), (39, (Qf6 p0)), (40, (I ((p0.Hours.length : Int)))), (41, I y17)] [0, 1, 2] [(Qd1 p0), (.own 1 [[(Qb8 p2)]]), (.own 1 [[B false]])] hφ0 (pc (.rn (.plain _ (nld Qaa _))) (pc (.rn (rqr rfl)) (pc (.rn (rqr rfl)) (pc (.rn (rqr rfl)) (pc (.rn (.plain _ (nld Qaa _))) (pc (.rn (.plain _ (nld Qab _))) (pc rwl (pc rwl pn)))))))) (qc (spb (lc rwl (lc rwl (lc (.rn (.plain _ (nld Qab _))) ln)))) (qc (spb (lc (.rn (.plain _ (nld Qaa _))) ln)) (qc (spb (lc rwl ln)) qn))))⟩
          ·replace h := Qat hb44 h
           refine wxd tbk [(2, rp [(.tmp 86, (Qew x3)), (.tmp 87, I y17)] (.dptr (Qac (x28)) 0)), (7, rp [(.tmp 92, (B ((decide (x28 < p0.Tank)))))] (B false)), (22, rp [(.tmp 105, B false), (.tmp 106, (Qew x3)), (.tmp 107, I y17)] (.dptr (Qac (x28)) 0)), (25, rp [(.tmp 105, B false), (.tmp 110, (B ((decide (x28 > 0)))))] (B false))] ⟨aid rfl Try.underlying23 ti3 rfl rfl hi30 (mgt Qac hj31) rfl, asb hb32 (amv rfl), ag_ (aid rfl Try.underlying23 ti3 rfl rfl hi30 (mgt Qac hj31) rfl), asb hb44 (ag_ (amv rfl)), trivial⟩ ?_
           refine Qd7 (by kernel_rfl) ?_
           refine Qah ?_
           refine bln ?_
           refine thn ?_
           exact ⟨(), h, (mto (n := 141) [(1, (Qgh p1)), (3, .ref 0 3 0 0), (5, .ref 1 1 0 0), (6, .ref 2 1 0 0), (7, (Qew x3)), (39, (Qf6 p0)), (40, (I ((p0.Hours.length : Int)))), (41, I y17)] [0, 1, 2] [(Qd1 p0), (.own 1 [[(Qb8 p2)]]), (.own 1 [[B false]])] hφ0 (pc (.rn (.plain _ (nld Qaa _))) (pc (.rn (rqr rfl)) (pc (.rn (rqr rfl)) (pc (.rn (rqr rfl)) (pc (.rn (.plain _ (nld Qaa _))) (pc (.rn (.plain _ (nld Qab _))) (pc rwl (pc rwl pn)))))))) (qc (spb (lc rwl (lc rwl (lc (.rn (.plain _ (nld Qab _))) ln)))) (qc (spb (lc (.rn (.plain _ (nld Qaa _))) ln)) (qc (spb (lc rwl ln)) qn))))⟩
       ·skip
        obtain ⟨x54, hg55, h⟩ := bno h
        obtain ⟨hi56, hj57⟩ := gsm hg55
        obtain ⟨x59, hf58, h⟩ := bno h
        refine wxd tbk [(3, rp [(.tmp 47, (Qgh p1)), (.tmp 48, I y17)] (.dptr (Qac (x54)) 0)), (5, ⟨[fu 93, (.tmp 46, (.agg [I x22.Use, (Qr1 x22)])), (.tmp 50, I x54)], [(5, .unused), (6, .unused)], Qr2, [(5, (Qmv x22)), (6, .own 1 [[I x54]])], false⟩)] ⟨aid rfl Try.underlying23 ti3 rfl rfl hi56 (mgt Qac hj57) rfl, Qau (first := []) (cap := []) (vs := [(.agg [I x22.Use, (Qr1 x22)]), I x54]) (σr := []) (σr' := [(Qmv x22), (.own 1 [[I x54]])]) (res' := Qr2) [5, 6] rfl Qsj (Qfz N x22 x54 _ hf58) rfl (Qc4 (rnc (.plain _ (NLt.agg _ (nlc nll (nlc (nld Qa2 _) nl0)))) (rnc (.plain _ nll) rn0))) Qaq (slc (Qak (rnc (.plain _ nll) (rnc (.plain _ (nld Qa2 _)) rn0))) (slc (Qak (rnc (.plain _ nll) rn0)) Qaq)) (Qax rn0 (rnc (Qf8 rfl) (rnc (Qf8 rfl) rn0))) rfl rfl rfl, trivial⟩ ?_
        refine Qai ?_
        obtain ⟨q60, hL61, h⟩ := bno h
        refine wmr (mto (n := 141) (l' := [(1, (Qgh p1)), (3, .ref 0 3 0 0), (5, .ref 1 1 0 0), (6, .ref 2 1 0 0), (7, (Qew x3)), (9, .ref 3 1 0 0), (39, (Qf6 p0)), (40, (I ((p0.Hours.length : Int)))), (41, I y17), (51, (.fn (.func 109) [] [.ref 4 2 0 0, .ref 5 1 0 0]))]) (own' := [(Qd1 p0), (.own 1 [[(Qb8 p2)]]), (.own 1 [[B false]]), (.own 1 [[I y17]]), (Qmv x22), (.own 1 [[I x54]])]) [(1, (Qgh p1)), (3, .ref 0 3 0 0), (5, .ref 1 1 0 0), (6, .ref 2 1 0 0), (7, (Qew x3)), (9, .ref 3 1 0 0), (39, (Qf6 p0)), (40, (I ((p0.Hours.length : Int)))), (41, I y17), (51, Qr2)] [0, 1, 2, 3, 5, 6] [(Qd1 p0), (.own 1 [[(Qb8 p2)]]), (.own 1 [[B false]]), (.own 1 [[I y17]]), (Qmv x22), (.own 1 [[I x54]])] hφ0 (pc (.rn (.plain _ (nld Qaa _))) (pc (.rn (rqr rfl)) (pc (.rn (rqr rfl)) (pc (.rn (rqr rfl)) (pc (.rn (.plain _ (nld Qaa _))) (pc (.rn (rqr rfl)) (pc (.rn (.plain _ (nld Qab _))) (pc rwl (pc rwl (pc (.rn (Qax rn0 (rnc (rqr rfl) (rnc (rqr rfl) rn0)))) pn)))))))))) (qc (spb (lc rwl (lc rwl (lc (.rn (.plain _ (nld Qab _))) ln)))) (qc (spb (lc (.rn (.plain _ (nld Qaa _))) ln)) (qc (spb (lc rwl ln)) (qc (spb (lc rwl ln)) (qc (spb (lc rwl (lc (.rn (.plain _ (nld Qa2 _))) ln))) (qc (spb (lc rwl ln)) qn))))))) ?_
        refine Qik (τ := (Unit)) (kb := 6) (caps := [.ref 4 2 0 0, .ref 5 1 0 0]) (σr := [(Qmv x22), (.own 1 [[I x54]])]) (encs := fun x => [(.agg #[(.int .i64 (x.1.Amount)), (.int .i64 (x.1.Price))]), (.int .i64 (x.2))]) (fun x => [(.agg [I x.1.Amount, I x.1.Price]), I x.2]) [4, 5] (fun n hn => hφ0 n (Nat.le_trans (nle rfl) hn)) (Qfy N x22.Use x22.Stairs x54 _ hL61) Qp0 (by kernel_rfl) (by kernel_rfl) (Qc4 (rnc (Qf8 rfl) (rnc (Qf8 rfl) rn0))) (slc (Qak (rnc (.plain _ nll) (rnc (.plain _ (nld Qa2 _)) rn0))) (slc (Qak (rnc (.plain _ nll) rn0)) Qaq)) (by kernel_rfl) (fun _ => rfl) (fun x => ⟨(Less.unlits [(.int .i64 (x.1.Amount)), (.int .i64 (x.1.Price))]), lrf, trivial⟩) (Qq5 (Qdh (NLt.of0 (nld Qaa _)) (Qdh (NLt.ref _ _ _ _ (by decide)) (Qdh (NLt.ref _ _ _ _ (by decide)) (Qdh (NLt.ref _ _ _ _ (by decide)) (Qdh (NLt.of0 (nld Qaa _)) (Qdh (NLt.ref _ _ _ _ (by decide)) (Qdh (NLt.of0 (nld Qab _)) (Qdh (NLt.of0 nll) (Qdh (NLt.of0 nll) (Qdh (NLt.fn _ _ _ nl0 (nlc (NLt.ref _ _ _ _ (by decide)) (nlc (NLt.ref _ _ _ _ (by decide)) nl0))) Qng))))))))))) (fun _ => [(Qd1 p0), (.own 1 [[(Qb8 p2)]]), (.own 1 [[B false]]), (.own 1 [[I y17]]), .dead, .dead]) (fun _ => rfl) (fun _ => rfl) (fun l t => Qa1 N p2 y17 k26 l = some r) () h (by kernel_rfl) ?_ ?_
        ·intro l65 o66 X69 φ70 w71 hφ68 x63 q64 t h
         rw [Qa1] at h
         refine wx tbk [] trivial ?_
         refine wx1 tbk [] trivial ?_
         refine ⟨by kernel_rfl, fun o67 => ?_⟩
         refine Qai ?_
         rcases bft ((decide (x63.2 > 0))) with hb72 | hb72
         ·replace h := Qas hb72 h
          obtain ⟨x73, hg74, h⟩ := bno h
          obtain ⟨hi75, hj76⟩ := gsm hg74
          rcases bft ((decide (x63.1.Price > x73))) with hb77 | hb77
          ·replace h := Qas hb77 h
           refine wxd tbk [(2, rp [(.tmp 55, (B ((decide (x63.2 > 0)))))] (B true)), (7, rp [(.tmp 56, B true), (.tmp 59, (Qb8 p2)), (.tmp 60, I y17)] (.dptr (Qac (x73)) 0)), (11, rp [(.tmp 64, (B ((decide (x63.1.Price > x73)))))] (B true))] ⟨asb hb72 (amv rfl), ag_ (aid rfl Try.underlying23 ti3 rfl rfl hi75 (mgt Qac hj76) rfl), asb hb77 (amv rfl), trivial⟩ ?_
           refine Qcf (by kernel_rfl) ?_
           refine wx tbk [] trivial ?_
           refine Qag ?_
           refine Qam ?_
           refine ⟨[(Qd1 p0), (.own 1 [[(Qb8 p2)]]), (.own 1 [[B false]]), (.own 1 [[I y17]]), .dead, .dead], by kernel_rfl, ?_, Qi5 (own' := [(Qd1 p0), (.own 1 [[(Qb8 p2)]]), (.own 1 [[B false]]), (.own 1 [[I y17]]), .dead, .dead, (.far (farL l65 o67))]) [0, 1, 2, 3, 4, 5, 6] [(Qd1 p0), (.own 1 [[(Qb8 p2)]]), (.own 1 [[B false]]), (.own 1 [[I y17]]), .dead, .dead, (.far (farL l65 o67))] (by kernel_rfl) (by kernel_rfl) ⟨(spb (lc (.rn (.plain _ nll)) (lc (.rn (.plain _ nll)) (lc (.rn (.plain _ (nld Qab _))) ln)))), (spb (lc (.rn (.plain _ (nld Qaa _))) ln)), (spb (lc (.rn (.plain _ nll)) ln)), (spb (lc (.rn (.plain _ nll)) ln)), .dead, .dead, .far _, trivial⟩⟩
           refine Qam ?_
           refine Qaf ?_
           refine Qam ?_
           refine Qaf ?_
           refine Qaf ?_
           refine Qam ?_
           refine Qaf ?_
           obtain rfl := osi h
           exact fend ⟨[B false], ⟨Qc5 (n := 2) (m := 1) (j := 0) (i := 0) (xs := [[B false]]) (by kernel_rfl) (by kernel_rfl) ti4 (by decide) rfl (nle rfl) rfl, trivial⟩, rfl⟩ nll
          ·replace h := Qat hb77 h
           rcases bft ((decide (x63.2 < x63.1.Amount))) with hb78 | hb78
           ·replace h := Qas hb78 h
            refine wxd tbk [(2, rp [(.tmp 55, (B ((decide (x63.2 > 0)))))] (B true)), (7, rp [(.tmp 56, B true), (.tmp 59, (Qb8 p2)), (.tmp 60, I y17)] (.dptr (Qac (x73)) 0)), (11, rp [(.tmp 64, (B ((decide (x63.1.Price > x73)))))] (B false)), (16, rp [(.tmp 65, B false), (.tmp 69, (B ((decide (x63.2 < x63.1.Amount)))))] (B true)), (21, rp [(.tmp 70, B true), (.tmp 73, (Qb8 p2)), (.tmp 74, I y17)] (.dptr (Qac (x73)) 0))] ⟨asb hb72 (amv rfl), ag_ (aid rfl Try.underlying23 ti3 rfl rfl hi75 (mgt Qac hj76) rfl), asb hb77 (amv rfl), asb hb78 (ag_ (amv rfl)), ag_ (aid rfl Try.underlying23 ti3 rfl rfl hi75 (mgt Qac hj76) rfl), trivial⟩ ?_
            rcases bft ((decide (x63.1.Price < x73))) with hc79 | hc79
            ·replace h := Qas hc79 h
             refine wft hc79 (by kernel_rfl) ?_
             refine wx tbk [] trivial ?_
             refine Qag ?_
             refine Qam ?_
             refine ⟨[(Qd1 p0), (.own 1 [[(Qb8 p2)]]), (.own 1 [[B false]]), (.own 1 [[I y17]]), .dead, .dead], by kernel_rfl, ?_, Qi5 (own' := [(Qd1 p0), (.own 1 [[(Qb8 p2)]]), (.own 1 [[B false]]), (.own 1 [[I y17]]), .dead, .dead, (.far (farL l65 o67))]) [0, 1, 2, 3, 4, 5, 6] [(Qd1 p0), (.own 1 [[(Qb8 p2)]]), (.own 1 [[B false]]), (.own 1 [[I y17]]), .dead, .dead, (.far (farL l65 o67))] (by kernel_rfl) (by kernel_rfl) ⟨(spb (lc (.rn (.plain _ nll)) (lc (.rn (.plain _ nll)) (lc (.rn (.plain _ (nld Qab _))) ln)))), (spb (lc (.rn (.plain _ (nld Qaa _))) ln)), (spb (lc (.rn (.plain _ nll)) ln)), (spb (lc (.rn (.plain _ nll)) ln)), .dead, .dead, .far _, trivial⟩⟩
             refine Qam ?_
             refine Qaf ?_
             refine Qam ?_
             refine Qaf ?_
             refine Qaf ?_
             refine Qam ?_
             refine Qaf ?_
             obtain rfl := osi h
             exact fend ⟨[B false], ⟨Qc5 (n := 2) (m := 1) (j := 0) (i := 0) (xs := [[B false]]) (by kernel_rfl) (by kernel_rfl) ti4 (by decide) rfl (nle rfl) rfl, trivial⟩, rfl⟩ nll
            ·replace h := Qat hc79 h
             refine wfn hc79 (by kernel_rfl) ?_
             refine Qah ?_
             refine bln ?_
             exact ⟨(), h, Qi5 (own' := [(Qd1 p0), (.own 1 [[(Qb8 p2)]]), (.own 1 [[B false]]), (.own 1 [[I y17]]), .dead, .dead, (.far (farL l65 o67))]) [0, 1, 2, 3, 4, 5, 6] [(Qd1 p0), (.own 1 [[(Qb8 p2)]]), (.own 1 [[B false]]), (.own 1 [[I y17]]), .dead, .dead, (.far (farL l65 o67))] (by kernel_rfl) (by kernel_rfl) ⟨(spb (lc rwl (lc rwl (lc (.rn (.plain _ (nld Qab _))) ln)))), (spb (lc (.rn (.plain _ (nld Qaa _))) ln)), (spb (lc rwl ln)), (spb (lc rwl ln)), .dead, .dead, .far _, trivial⟩⟩
           ·replace h := Qat hb78 h
            refine wxd tbk [(2, rp [(.tmp 55, (B ((decide (x63.2 > 0)))))] (B true)), (7, rp [(.tmp 56, B true), (.tmp 59, (Qb8 p2)), (.tmp 60, I y17)] (.dptr (Qac (x73)) 0)), (11, rp [(.tmp 64, (B ((decide (x63.1.Price > x73)))))] (B false)), (16, rp [(.tmp 65, B false), (.tmp 69, (B ((decide (x63.2 < x63.1.Amount)))))] (B false))] ⟨asb hb72 (amv rfl), ag_ (aid rfl Try.underlying23 ti3 rfl rfl hi75 (mgt Qac hj76) rfl), asb hb77 (amv rfl), asb hb78 (ag_ (amv rfl)), trivial⟩ ?_
            refine Qd7 (by kernel_rfl) ?_
            refine Qah ?_
            refine bln ?_
            exact ⟨(), h, Qi5 (own' := [(Qd1 p0), (.own 1 [[(Qb8 p2)]]), (.own 1 [[B false]]), (.own 1 [[I y17]]), .dead, .dead, (.far (farL l65 o67))]) [0, 1, 2, 3, 4, 5, 6] [(Qd1 p0), (.own 1 [[(Qb8 p2)]]), (.own 1 [[B false]]), (.own 1 [[I y17]]), .dead, .dead, (.far (farL l65 o67))] (by kernel_rfl) (by kernel_rfl) ⟨(spb (lc rwl (lc rwl (lc (.rn (.plain _ (nld Qab _))) ln)))), (spb (lc (.rn (.plain _ (nld Qaa _))) ln)), (spb (lc rwl ln)), (spb (lc rwl ln)), .dead, .dead, .far _, trivial⟩⟩
         ·replace h := Qat hb72 h
          rcases bft ((decide (x63.2 < x63.1.Amount))) with hb80 | hb80
          ·replace h := Qas hb80 h
           obtain ⟨x81, hg82, h⟩ := bno h
           obtain ⟨hi83, hj84⟩ := gsm hg82
           refine wxd tbk [(2, rp [(.tmp 55, (B ((decide (x63.2 > 0)))))] (B false)), (16, rp [(.tmp 65, B false), (.tmp 69, (B ((decide (x63.2 < x63.1.Amount)))))] (B true)), (21, rp [(.tmp 70, B true), (.tmp 73, (Qb8 p2)), (.tmp 74, I y17)] (.dptr (Qac (x81)) 0))] ⟨asb hb72 (amv rfl), asb hb80 (ag_ (amv rfl)), ag_ (aid rfl Try.underlying23 ti3 rfl rfl hi83 (mgt Qac hj84) rfl), trivial⟩ ?_
           rcases bft ((decide (x63.1.Price < x81))) with hc85 | hc85
           ·replace h := Qas hc85 h
            refine wft hc85 (by kernel_rfl) ?_
            refine wx tbk [] trivial ?_
            refine Qag ?_
            refine Qam ?_
            refine ⟨[(Qd1 p0), (.own 1 [[(Qb8 p2)]]), (.own 1 [[B false]]), (.own 1 [[I y17]]), .dead, .dead], by kernel_rfl, ?_, Qi5 (own' := [(Qd1 p0), (.own 1 [[(Qb8 p2)]]), (.own 1 [[B false]]), (.own 1 [[I y17]]), .dead, .dead, (.far (farL l65 o67))]) [0, 1, 2, 3, 4, 5, 6] [(Qd1 p0), (.own 1 [[(Qb8 p2)]]), (.own 1 [[B false]]), (.own 1 [[I y17]]), .dead, .dead, (.far (farL l65 o67))] (by kernel_rfl) (by kernel_rfl) ⟨(spb (lc (.rn (.plain _ nll)) (lc (.rn (.plain _ nll)) (lc (.rn (.plain _ (nld Qab _))) ln)))), (spb (lc (.rn (.plain _ (nld Qaa _))) ln)), (spb (lc (.rn (.plain _ nll)) ln)), (spb (lc (.rn (.plain _ nll)) ln)), .dead, .dead, .far _, trivial⟩⟩
            refine Qam ?_
            refine Qaf ?_
            refine Qam ?_
            refine Qaf ?_
            refine Qaf ?_
            refine Qam ?_
            refine Qaf ?_
            obtain rfl := osi h
            exact fend ⟨[B false], ⟨Qc5 (n := 2) (m := 1) (j := 0) (i := 0) (xs := [[B false]]) (by kernel_rfl) (by kernel_rfl) ti4 (by decide) rfl (nle rfl) rfl, trivial⟩, rfl⟩ nll
           ·replace h := Qat hc85 h
            refine wfn hc85 (by kernel_rfl) ?_
            refine Qah ?_
            refine bln ?_
            exact ⟨(), h, Qi5 (own' := [(Qd1 p0), (.own 1 [[(Qb8 p2)]]), (.own 1 [[B false]]), (.own 1 [[I y17]]), .dead, .dead, (.far (farL l65 o67))]) [0, 1, 2, 3, 4, 5, 6] [(Qd1 p0), (.own 1 [[(Qb8 p2)]]), (.own 1 [[B false]]), (.own 1 [[I y17]]), .dead, .dead, (.far (farL l65 o67))] (by kernel_rfl) (by kernel_rfl) ⟨(spb (lc rwl (lc rwl (lc (.rn (.plain _ (nld Qab _))) ln)))), (spb (lc (.rn (.plain _ (nld Qaa _))) ln)), (spb (lc rwl ln)), (spb (lc rwl ln)), .dead, .dead, .far _, trivial⟩⟩
          ·replace h := Qat hb80 h
           refine wxd tbk [(2, rp [(.tmp 55, (B ((decide (x63.2 > 0)))))] (B false)), (16, rp [(.tmp 65, B false), (.tmp 69, (B ((decide (x63.2 < x63.1.Amount)))))] (B false))] ⟨asb hb72 (amv rfl), asb hb80 (ag_ (amv rfl)), trivial⟩ ?_
           refine Qd7 (by kernel_rfl) ?_
           refine Qah ?_
           refine bln ?_
           exact ⟨(), h, Qi5 (own' := [(Qd1 p0), (.own 1 [[(Qb8 p2)]]), (.own 1 [[B false]]), (.own 1 [[I y17]]), .dead, .dead, (.far (farL l65 o67))]) [0, 1, 2, 3, 4, 5, 6] [(Qd1 p0), (.own 1 [[(Qb8 p2)]]), (.own 1 [[B false]]), (.own 1 [[I y17]]), .dead, .dead, (.far (farL l65 o67))] (by kernel_rfl) (by kernel_rfl) ⟨(spb (lc rwl (lc rwl (lc (.rn (.plain _ (nld Qab _))) ln)))), (spb (lc (.rn (.plain _ (nld Qaa _))) ln)), (spb (lc rwl ln)), (spb (lc rwl ln)), .dead, .dead, .far _, trivial⟩⟩
        ·intro t h
         rw [Qa1] at h
         refine bln ?_
         refine thn ?_
         exact ⟨(), h, (mto (n := 141) [(1, (Qgh p1)), (3, .ref 0 3 0 0), (5, .ref 1 1 0 0), (6, .ref 2 1 0 0), (7, (Qew x3)), (9, .ref 3 1 0 0), (39, (Qf6 p0)), (40, (I ((p0.Hours.length : Int)))), (41, I y17)] [0, 1, 2, 3] [(Qd1 p0), (.own 1 [[(Qb8 p2)]]), (.own 1 [[B false]]), (.own 1 [[I y17]])] hφ0 (pc (.rn (.plain _ (nld Qaa _))) (pc (.rn (rqr rfl)) (pc (.rn (rqr rfl)) (pc (.rn (rqr rfl)) (pc (.rn (.plain _ (nld Qaa _))) (pc (.rn (rqr rfl)) (pc (.rn (.plain _ (nld Qab _))) (pc rwl (pc rwl pn))))))))) (qc (spb (lc rwl (lc rwl (lc (.rn (.plain _ (nld Qab _))) ln)))) (qc (spb (lc (.rn (.plain _ (nld Qaa _))) ln)) (qc (spb (lc rwl ln)) (qc (spb (lc rwl ln)) qn)))))⟩
     ·replace h := Qat hc20 h
      refine wfn hc20 (by kernel_rfl) ?_
      refine Qa4 ?_
      refine Qan ?_
      refine Qan ?_
      refine Qa3 rfl ?_
      refine thn ?_
      exact ⟨(), h, (mto (n := 141) [(3, .ref 0 3 0 0), (5, .ref 1 1 0 0), (6, .ref 2 1 0 0), (7, (Qew x3))] [0, 1, 2] [(Qd1 p0), (.own 1 [[(Qb8 p2)]]), (.own 1 [[B false]])] hφ0 (pc (.rn (rqr rfl)) (pc (.rn (rqr rfl)) (pc (.rn (rqr rfl)) (pc (.rn (.plain _ (nld Qaa _))) pn)))) (qc (spb (lc rwl (lc rwl (lc (.rn (.plain _ (nld Qab _))) ln)))) (qc (spb (lc (.rn (.plain _ (nld Qaa _))) ln)) (qc (spb (lc rwl ln)) qn))))⟩
  ·skip
   obtain ⟨x87, hf86, h⟩ := bno h
   rcases bft ((!x87)) with hb88 | hb88
   ·replace h := Qas hb88 h
    refine wx tbk [(1, rp [fu 74, (.tmp 14, (Ql4 p0))] (B x87)), (3, rp [(.tmp 16, (B ((!x87))))] (B true))] ⟨apc (first := []) (cap := []) (vs := [(Ql4 p0)]) rfl Qnp (Qes N p0 _ hf86) rfl rfl (nlc (NLt.agg _ (nlc nll (nlc nll (nlc (nld Qab _) nl0)))) nl0) nll rfl, asb hb88 (amv rfl), trivial⟩ ?_
    refine Qcf (by kernel_rfl) ?_
    refine wx tbk [] trivial ?_
    refine Qag ?_
    refine Qaf ?_
    obtain rfl := osi h
    exact fend ⟨[B false], ⟨Qc5 (n := 2) (m := 1) (j := 0) (i := 0) (xs := [[B false]]) (by kernel_rfl) (by kernel_rfl) ti4 (by decide) rfl (nle rfl) rfl, trivial⟩, rfl⟩ nll
   ·replace h := Qat hb88 h
    rcases bft (((p2.length : Int) != (p0.Hours.length : Int))) with hb89 | hb89
    ·replace h := Qas hb89 h
     refine wx tbk [(1, rp [fu 74, (.tmp 14, (Ql4 p0))] (B x87)), (3, rp [(.tmp 16, (B ((!x87))))] (B false)), (5, rp [(.tmp 17, B false), (.tmp 18, (Qb8 p2))] (I ((p2.length : Int)))), (8, rp [(.tmp 17, B false), (.tmp 21, (Qf6 p0))] (I ((p0.Hours.length : Int)))), (11, rp [(.tmp 24, (B (((p2.length : Int) != (p0.Hours.length : Int)))))] (B true))] ⟨apc (first := []) (cap := []) (vs := [(Ql4 p0)]) rfl Qnp (Qes N p0 _ hf86) rfl rfl (nlc (NLt.agg _ (nlc nll (nlc nll (nlc (nld Qab _) nl0)))) nl0) nll rfl, asb hb88 (amv rfl), ag_ (alm (c := Qac) (l := p2) (aln rfl Try.underlying23 rfl)), ag_ (alm (c := Qal) (l := p0.Hours) (aln rfl Try.underlying45 rfl)), asb hb89 (amv rfl), trivial⟩ ?_
     refine Qcf (by kernel_rfl) ?_
     refine wx tbk [] trivial ?_
     refine Qag ?_
     refine Qaf ?_
     obtain rfl := osi h
     exact fend ⟨[B false], ⟨Qc5 (n := 2) (m := 1) (j := 0) (i := 0) (xs := [[B false]]) (by kernel_rfl) (by kernel_rfl) ti4 (by decide) rfl (nle rfl) rfl, trivial⟩, rfl⟩ nll
    ·replace h := Qat hb89 h
     obtain ⟨x91, hf90, h⟩ := bno h
     refine wx tbk [(1, rp [fu 74, (.tmp 14, (Ql4 p0))] (B x87)), (3, rp [(.tmp 16, (B ((!x87))))] (B false)), (5, rp [(.tmp 17, B false), (.tmp 18, (Qb8 p2))] (I ((p2.length : Int)))), (8, rp [(.tmp 17, B false), (.tmp 21, (Qf6 p0))] (I ((p0.Hours.length : Int)))), (11, rp [(.tmp 24, (B (((p2.length : Int) != (p0.Hours.length : Int)))))] (B false)), (13, rp [(.tmp 25, B false), fu 90, (.tmp 26, (Qb8 p2)), fu 91] (B x91))] ⟨apc (first := []) (cap := []) (vs := [(Ql4 p0)]) rfl Qnp (Qes N p0 _ hf86) rfl rfl (nlc (NLt.agg _ (nlc nll (nlc nll (nlc (nld Qab _) nl0)))) nl0) nll rfl, asb hb88 (amv rfl), ag_ (alm (c := Qac) (l := p2) (aln rfl Try.underlying23 rfl)), ag_ (alm (c := Qal) (l := p0.Hours) (aln rfl Try.underlying45 rfl)), asb hb89 (amv rfl), ag_ (Qau (first := []) (cap := []) (vs := [(Qb8 p2), (.fn (.func 91) [] [])]) (σr := []) (σr' := []) (res' := (B x91)) [] rfl Qx0 (Qk3 N p2 _ hf90) rfl (Qc4 (rnc (.plain _ (nld Qaa _)) (rnc (.plain _ (NLt.fn _ _ _ nl0 nl0)) rn0))) Qaq Qaq (.plain _ nll) rfl rfl rfl), trivial⟩ ?_
     rcases bft ((!x91)) with hc92 | hc92
     ·replace h := Qas hc92 h
      refine wft hc92 (by kernel_rfl) ?_
      refine wx tbk [] trivial ?_
      refine Qag ?_
      refine Qaf ?_
      obtain rfl := osi h
      exact fend ⟨[B false], ⟨Qc5 (n := 2) (m := 1) (j := 0) (i := 0) (xs := [[B false]]) (by kernel_rfl) (by kernel_rfl) ti4 (by decide) rfl (nle rfl) rfl, trivial⟩, rfl⟩ nll
     ·replace h := Qat hc92 h
      refine wfn hc92 (by kernel_rfl) ?_
      refine Qah ?_
      refine thn ?_
      exact ⟨(), h, (mto (n := 141) [(1, (Qgh p1)), (3, .ref 0 3 0 0), (5, .ref 1 1 0 0), (6, .ref 2 1 0 0)] [0, 1, 2] [(Qd1 p0), (.own 1 [[(Qb8 p2)]]), (.own 1 [[B false]])] hφ0 (pc (.rn (.plain _ (nld Qaa _))) (pc (.rn (rqr rfl)) (pc (.rn (rqr rfl)) (pc (.rn (rqr rfl)) pn)))) (qc (spb (lc rwl (lc rwl (lc (.rn (.plain _ (nld Qab _))) ln)))) (qc (spb (lc (.rn (.plain _ (nld Qaa _))) ln)) (qc (spb (lc rwl ln)) qn))))⟩
def Qff (N : Nat) (p0 : GDay) (p1 : (List Int)) (p2 : (List Int)) (p3 : (List Int)) : Option Bool :=
  Qbw (fun _ =>
    (Qfl N p0).bind fun x3 =>
    (Qeu N x3).bind fun x5 =>
    (Qfl N p0).bind fun x7 =>
    (Qem N p3).bind fun x9 =>
    (Qe5 N x7 x9).bind fun x11 =>
    bif (x5.2.2.2 != 0) then
     bif (x5.2.2.2 == 7) then
      bif (x11.2 == 2) then
       (Qd6 2000 ).bind fun x16 =>
       some x16
      else
       some false
     else
      some false
    else
     (Qfl N p0).bind fun x18 =>
     (Qem N x5.1).bind fun x20 =>
     (Qe5 N x18 x20).bind fun x22 =>
     Qbw (fun _ =>
       (Qfl N p0).bind fun x25 =>
       (Qem N p1).bind fun x27 =>
       (Qe5 N x25 x27).bind fun x29 =>
       (Qfl N p0).bind fun x31 =>
       (Qem N p1).bind fun x33 =>
       (Qem N p2).bind fun x35 =>
       (Qd0 N x31 x33 x35).bind fun x37 =>
       bif (!x37) then
        (Qd6 2000 ).bind fun x40 =>
        some x40
       else
        bif (x29.2 == 0) then
         bif (x29.1 == x5.2.2.1) then
          (Qd6 2000 ).bind fun x44 =>
          some x44
         else
          some false
        else
         some false) fun k23 : Unit → Option Bool =>
     bif (x22.2 != 0) then
      some false
     else
      bif (x22.1 != x5.2.2.1) then
       some false
      else
       (Qfl N p0).bind fun x48 =>
       (Qem N x5.1).bind fun x50 =>
       (Qem N x5.2.1).bind fun x52 =>
       (Qd0 N x48 x50 x52).bind fun x54 =>
       bif (!x54) then
        some false
       else
        bif (x11.2 == 0) then
         bif (decide (x11.1 < x5.2.2.1)) then
          some false
         else
          k23 ()
        else
         k23 ()) fun k1 : Unit → Option Bool =>
  (Qih N p0).bind fun x59 =>
  bif (!x59) then
   (Qd6 2000 ).bind fun x62 =>
   some x62
  else
   bif (decide ((p1.length : Int) > 35)) then
    (Qd6 2000 ).bind fun x65 =>
    some x65
   else
    bif (decide ((p2.length : Int) > 35)) then
     (Qd6 2000 ).bind fun x68 =>
     some x68
    else
     bif (decide ((p3.length : Int) > 35)) then
      (Qd6 2000 ).bind fun x71 =>
      some x71
     else
      (Qf1 N p0).bind fun x73 =>
      bif (!x73) then
       (Qd6 2000 ).bind fun x76 =>
       some x76
      else
       k1 ()
def Qgi (p1 : (List Int)) : AV := .dat 1 ((p1 : List Int).map Qac)
def Qhi (p2 : (List Int)) : AV := .dat 1 ((p2 : List Int).map Qac)
def Qob (p3 : (List Int)) : AV := .dat 1 ((p3 : List Int).map Qac)
def Qqr (p0 : GDay) : Slot := .own 3 [[(I (p0.Tank)), (I (p0.Start)), (.dat 2 ((p0.Hours : List GHour).map Qal))]]
def Qd8 (p0 : GDay) : AV := .agg [(I (p0.Tank)), (I (p0.Start)), (.dat 2 ((p0.Hours : List GHour).map Qal))]
def Qwr (x3 : GDay) : AV := .agg [(I (x3.Tank)), (I (x3.Start)), (.dat 2 ((x3.Hours : List GHour).map Qal))]
def Qkz (x5 : ((List Int) × (List Int) × Int × Int)) : AV := .dat 1 ((x5.1 : List Int).map Qac)
def Qmw (x5 : ((List Int) × (List Int) × Int × Int)) : AV := .dat 1 ((x5.2.1 : List Int).map Qac)
def Qr5 (x7 : GDay) : AV := .agg [(I (x7.Tank)), (I (x7.Start)), (.dat 2 ((x7.Hours : List GHour).map Qal))]
def Qr4 (x18 : GDay) : AV := .agg [(I (x18.Tank)), (I (x18.Start)), (.dat 2 ((x18.Hours : List GHour).map Qal))]
def Qr3 (x25 : GDay) : AV := .agg [(I (x25.Tank)), (I (x25.Start)), (.dat 2 ((x25.Hours : List GHour).map Qal))]
def Qha (x31 : GDay) : AV := .agg [(I (x31.Tank)), (I (x31.Start)), (.dat 2 ((x31.Hours : List GHour).map Qal))]
def Qg9 (x33 : (List Int)) : AV := .dat 1 ((x33 : List Int).map Qac)
def Qg8 (x35 : (List Int)) : AV := .dat 1 ((x35 : List Int).map Qac)
def Qip (x48 : GDay) : AV := .agg [(I (x48.Tank)), (I (x48.Start)), (.dat 2 ((x48.Hours : List GHour).map Qal))]
def Qio (x50 : (List Int)) : AV := .dat 1 ((x50 : List Int).map Qac)
def Qin (x52 : (List Int)) : AV := .dat 1 ((x52 : List Int).map Qac)
set_option maxRecDepth 100000 in
set_option maxHeartbeats 4000000 in
theorem Qjb (N : Nat) (p0 : GDay) (p1 : (List Int)) (p2 : (List Int)) (p3 : (List Int)) (r : Bool) (h : Qff N p0 p1 p2 p3 = some r) : Spec Try.prog 18 [(.agg (Qij p0)), (.dat 1 (p1.map Qac)), (.dat 1 (p2.map Qac)), (.dat 1 (p3.map Qac))] [] (B r) [] := by
  refine Qaj Try.func18 rfl 0 (nle rfl) (fun X φ0 w0 hφ0 => ?_)
  unfold Qff at h
  refine wx tbk [] trivial ?_
  obtain ⟨k1, hk_k1, h⟩ := jko h
  refine wjn (τ := Unit) (fun t => k1 t = some r) (fun _ => ⟨mk 132 [(1, (Qgi p1)), (2, (Qhi p2)), (3, (Qob p3)), (4, .ref 0 3 0 0)], [(Qqr p0)]⟩) (fun t h => ?_) ?_
  ·subst hk_k1
   obtain ⟨x3, hf2, h⟩ := bno h
   obtain ⟨x5, hf4, h⟩ := bno h
   refine wx tbk [(1, rp [fu 31, (.tmp 44, (Qd8 p0))] (Qwr x3)), (2, rp [fu 30, (.tmp 45, (Qwr x3))] (.tup [(Qkz x5), (Qmw x5), I x5.2.2.1, I x5.2.2.2]))] ⟨apc (first := []) (cap := []) (vs := [(Qd8 p0)]) rfl Qhy (Qdt N p0 _ hf2) rfl rfl (nlc (NLt.agg _ (nlc nll (nlc nll (nlc (nld Qab _) nl0)))) nl0) (NLt.agg _ (nlc nll (nlc nll (nlc (nld Qab _) nl0)))) rfl, apc (first := []) (cap := []) (vs := [(Qwr x3)]) rfl Qx7 (Qid N x3 _ hf4) rfl rfl (nlc (NLt.agg _ (nlc nll (nlc nll (nlc (nld Qab _) nl0)))) nl0) (NLt.tup _ (nlc (nld Qaa _) (nlc (nld Qaa _) (nlc nll (nlc nll nl0))))) rfl, trivial⟩ ?_
   obtain ⟨x7, hf6, h⟩ := bno h
   obtain ⟨x9, hf8, h⟩ := bno h
   obtain ⟨x11, hf10, h⟩ := bno h
   refine wx tbk [(1, rp [fu 31, (.tmp 52, (Qd8 p0))] (Qr5 x7)), (3, rp [fu 24, (.tmp 54, (Qob p3))] (.dat 1 ((x9 : List Int).map Qac))), (4, rp [fu 61, (.tmp 53, (Qr5 x7)), (.tmp 55, (.dat 1 ((x9 : List Int).map Qac)))] (.tup [I x11.1, I x11.2]))] ⟨apc (first := []) (cap := []) (vs := [(Qd8 p0)]) rfl Qhy (Qdt N p0 _ hf6) rfl rfl (nlc (NLt.agg _ (nlc nll (nlc nll (nlc (nld Qab _) nl0)))) nl0) (NLt.agg _ (nlc nll (nlc nll (nlc (nld Qab _) nl0)))) rfl, apc (first := []) (cap := []) (vs := [(Qob p3)]) rfl Qf3 (Qbn N p3 _ hf8) rfl rfl (nlc (nld Qaa _) nl0) (nld Qaa _) rfl, apc (first := []) (cap := []) (vs := [(Qr5 x7), (.dat 1 ((x9 : List Int).map Qac))]) rfl Qsl (Qir N x7 x9 _ hf10) rfl rfl (nlc (NLt.agg _ (nlc nll (nlc nll (nlc (nld Qab _) nl0)))) (nlc (nld Qaa _) nl0)) (NLt.tup _ (nlc nll (nlc nll nl0))) rfl, trivial⟩ ?_
   refine wsq ?_
   refine wx tbk [] trivial ?_
   rcases bft ((x5.2.2.2 != 0)) with hc12 | hc12
   ·replace h := Qas hc12 h
    refine wft hc12 (by kernel_rfl) ?_
    rcases bft ((x5.2.2.2 == 7)) with hb13 | hb13
    ·replace h := Qas hb13 h
     rcases bft ((x11.2 == 2)) with hb14 | hb14
     ·replace h := Qas hb14 h
      obtain ⟨x16, hf15, h⟩ := bno h
      refine wx tbk [(2, rp [(.tmp 62, (B ((x5.2.2.2 == 7))))] (B true)), (6, rp [(.tmp 66, (B ((x11.2 == 2))))] (B true)), (7, rp [(.tmp 67, B true), fu 21] (B x16))] ⟨asb hb13 (amv rfl), asb hb14 (amv rfl), ag_ (apc (first := []) (cap := []) (vs := []) rfl Qjq (Qd5 2000  _ hf15) rfl rfl nl0 nll rfl), trivial⟩ ?_
      refine Qag ?_
      refine Qaf ?_
      obtain rfl := osi h
      exact fend ⟨[B x16], ⟨rot (by kernel_rfl), trivial⟩, rfl⟩ nll
     ·replace h := Qat hb14 h
      refine wx tbk [(2, rp [(.tmp 62, (B ((x5.2.2.2 == 7))))] (B true)), (6, rp [(.tmp 66, (B ((x11.2 == 2))))] (B false))] ⟨asb hb13 (amv rfl), asb hb14 (amv rfl), trivial⟩ ?_
      refine Qag ?_
      refine Qaf ?_
      obtain rfl := osi h
      exact fend ⟨[B false], ⟨rot (by kernel_rfl), trivial⟩, rfl⟩ nll
    ·replace h := Qat hb13 h
     refine wx tbk [(2, rp [(.tmp 62, (B ((x5.2.2.2 == 7))))] (B false))] ⟨asb hb13 (amv rfl), trivial⟩ ?_
     refine Qag ?_
     refine Qaf ?_
     obtain rfl := osi h
     exact fend ⟨[B false], ⟨rot (by kernel_rfl), trivial⟩, rfl⟩ nll
   ·replace h := Qat hc12 h
    refine wfn hc12 (by kernel_rfl) ?_
    refine Qah ?_
    refine thn ?_
    obtain ⟨x18, hf17, h⟩ := bno h
    obtain ⟨x20, hf19, h⟩ := bno h
    obtain ⟨x22, hf21, h⟩ := bno h
    refine wx tbk [(1, rp [fu 31, (.tmp 71, (Qd8 p0))] (Qr4 x18)), (3, rp [fu 24, (.tmp 73, (Qkz x5))] (.dat 1 ((x20 : List Int).map Qac))), (4, rp [fu 61, (.tmp 72, (Qr4 x18)), (.tmp 74, (.dat 1 ((x20 : List Int).map Qac)))] (.tup [I x22.1, I x22.2]))] ⟨apc (first := []) (cap := []) (vs := [(Qd8 p0)]) rfl Qhy (Qdt N p0 _ hf17) rfl rfl (nlc (NLt.agg _ (nlc nll (nlc nll (nlc (nld Qab _) nl0)))) nl0) (NLt.agg _ (nlc nll (nlc nll (nlc (nld Qab _) nl0)))) rfl, apc (first := []) (cap := []) (vs := [(Qkz x5)]) rfl Qf3 (Qbn N x5.1 _ hf19) rfl rfl (nlc (nld Qaa _) nl0) (nld Qaa _) rfl, apc (first := []) (cap := []) (vs := [(Qr4 x18), (.dat 1 ((x20 : List Int).map Qac))]) rfl Qsl (Qir N x18 x20 _ hf21) rfl rfl (nlc (NLt.agg _ (nlc nll (nlc nll (nlc (nld Qab _) nl0)))) (nlc (nld Qaa _) nl0)) (NLt.tup _ (nlc nll (nlc nll nl0))) rfl, trivial⟩ ?_
    obtain ⟨k23, hk_k23, h⟩ := jko h
    refine wjn (τ := Unit) (fun t => k23 t = some r) (fun _ => ⟨mk 132 [(1, (Qgi p1)), (2, (Qhi p2)), (4, .ref 0 3 0 0), (11, I x5.2.2.1)], [(Qqr p0)]⟩) (fun t h => ?_) ?_
    ·subst hk_k23
     obtain ⟨x25, hf24, h⟩ := bno h
     obtain ⟨x27, hf26, h⟩ := bno h
     obtain ⟨x29, hf28, h⟩ := bno h
     refine wx tbk [(1, rp [fu 31, (.tmp 105, (Qd8 p0))] (Qr3 x25)), (3, rp [fu 24, (.tmp 107, (Qgi p1))] (.dat 1 ((x27 : List Int).map Qac))), (4, rp [fu 61, (.tmp 106, (Qr3 x25)), (.tmp 108, (.dat 1 ((x27 : List Int).map Qac)))] (.tup [I x29.1, I x29.2]))] ⟨apc (first := []) (cap := []) (vs := [(Qd8 p0)]) rfl Qhy (Qdt N p0 _ hf24) rfl rfl (nlc (NLt.agg _ (nlc nll (nlc nll (nlc (nld Qab _) nl0)))) nl0) (NLt.agg _ (nlc nll (nlc nll (nlc (nld Qab _) nl0)))) rfl, apc (first := []) (cap := []) (vs := [(Qgi p1)]) rfl Qf3 (Qbn N p1 _ hf26) rfl rfl (nlc (nld Qaa _) nl0) (nld Qaa _) rfl, apc (first := []) (cap := []) (vs := [(Qr3 x25), (.dat 1 ((x27 : List Int).map Qac))]) rfl Qsl (Qir N x25 x27 _ hf28) rfl rfl (nlc (NLt.agg _ (nlc nll (nlc nll (nlc (nld Qab _) nl0)))) (nlc (nld Qaa _) nl0)) (NLt.tup _ (nlc nll (nlc nll nl0))) rfl, trivial⟩ ?_
     obtain ⟨x31, hf30, h⟩ := bno h
     obtain ⟨x33, hf32, h⟩ := bno h
     obtain ⟨x35, hf34, h⟩ := bno h
     obtain ⟨x37, hf36, h⟩ := bno h
     rcases bft ((!x37)) with hb38 | hb38
     ·replace h := Qas hb38 h
      obtain ⟨x40, hf39, h⟩ := bno h
      refine wx tbk [(1, rp [fu 31, (.tmp 112, (Qd8 p0))] (Qha x31)), (3, rp [fu 24, (.tmp 114, (Qgi p1))] (Qg9 x33)), (5, rp [fu 24, (.tmp 116, (Qhi p2))] (Qg8 x35)), (6, rp [fu 60, (.tmp 113, (Qha x31)), (.tmp 115, (Qg9 x33)), (.tmp 117, (Qg8 x35))] (B x37)), (8, rp [(.tmp 119, (B ((!x37))))] (B true)), (18, rp [(.tmp 129, B true), fu 21] (B x40))] ⟨apc (first := []) (cap := []) (vs := [(Qd8 p0)]) rfl Qhy (Qdt N p0 _ hf30) rfl rfl (nlc (NLt.agg _ (nlc nll (nlc nll (nlc (nld Qab _) nl0)))) nl0) (NLt.agg _ (nlc nll (nlc nll (nlc (nld Qab _) nl0)))) rfl, apc (first := []) (cap := []) (vs := [(Qgi p1)]) rfl Qf3 (Qbn N p1 _ hf32) rfl rfl (nlc (nld Qaa _) nl0) (nld Qaa _) rfl, apc (first := []) (cap := []) (vs := [(Qhi p2)]) rfl Qf3 (Qbn N p2 _ hf34) rfl rfl (nlc (nld Qaa _) nl0) (nld Qaa _) rfl, apc (first := []) (cap := []) (vs := [(Qha x31), (Qg9 x33), (Qg8 x35)]) rfl Qkt (Qc0 N x31 x33 x35 _ hf36) rfl rfl (nlc (NLt.agg _ (nlc nll (nlc nll (nlc (nld Qab _) nl0)))) (nlc (nld Qaa _) (nlc (nld Qaa _) nl0))) nll rfl, asb hb38 (amv rfl), ag_ (apc (first := []) (cap := []) (vs := []) rfl Qjq (Qd5 2000  _ hf39) rfl rfl nl0 nll rfl), trivial⟩ ?_
      refine Qag ?_
      obtain rfl := osi h
      exact fend ⟨[B x40], ⟨rot (by kernel_rfl), trivial⟩, rfl⟩ nll
     ·replace h := Qat hb38 h
      rcases bft ((x29.2 == 0)) with hb41 | hb41
      ·replace h := Qas hb41 h
       rcases bft ((x29.1 == x5.2.2.1)) with hb42 | hb42
       ·replace h := Qas hb42 h
        obtain ⟨x44, hf43, h⟩ := bno h
        refine wx tbk [(1, rp [fu 31, (.tmp 112, (Qd8 p0))] (Qha x31)), (3, rp [fu 24, (.tmp 114, (Qgi p1))] (Qg9 x33)), (5, rp [fu 24, (.tmp 116, (Qhi p2))] (Qg8 x35)), (6, rp [fu 60, (.tmp 113, (Qha x31)), (.tmp 115, (Qg9 x33)), (.tmp 117, (Qg8 x35))] (B x37)), (8, rp [(.tmp 119, (B ((!x37))))] (B false)), (11, rp [(.tmp 120, B false), (.tmp 122, (B ((x29.2 == 0))))] (B true)), (17, rp [(.tmp 128, (B ((x29.1 == x5.2.2.1))))] (B true)), (18, rp [(.tmp 129, B true), fu 21] (B x44))] ⟨apc (first := []) (cap := []) (vs := [(Qd8 p0)]) rfl Qhy (Qdt N p0 _ hf30) rfl rfl (nlc (NLt.agg _ (nlc nll (nlc nll (nlc (nld Qab _) nl0)))) nl0) (NLt.agg _ (nlc nll (nlc nll (nlc (nld Qab _) nl0)))) rfl, apc (first := []) (cap := []) (vs := [(Qgi p1)]) rfl Qf3 (Qbn N p1 _ hf32) rfl rfl (nlc (nld Qaa _) nl0) (nld Qaa _) rfl, apc (first := []) (cap := []) (vs := [(Qhi p2)]) rfl Qf3 (Qbn N p2 _ hf34) rfl rfl (nlc (nld Qaa _) nl0) (nld Qaa _) rfl, apc (first := []) (cap := []) (vs := [(Qha x31), (Qg9 x33), (Qg8 x35)]) rfl Qkt (Qc0 N x31 x33 x35 _ hf36) rfl rfl (nlc (NLt.agg _ (nlc nll (nlc nll (nlc (nld Qab _) nl0)))) (nlc (nld Qaa _) (nlc (nld Qaa _) nl0))) nll rfl, asb hb38 (amv rfl), asb hb41 (ag_ (amv rfl)), asb hb42 (amv rfl), ag_ (apc (first := []) (cap := []) (vs := []) rfl Qjq (Qd5 2000  _ hf43) rfl rfl nl0 nll rfl), trivial⟩ ?_
        refine Qag ?_
        obtain rfl := osi h
        exact fend ⟨[B x44], ⟨rot (by kernel_rfl), trivial⟩, rfl⟩ nll
       ·replace h := Qat hb42 h
        refine wx tbk [(1, rp [fu 31, (.tmp 112, (Qd8 p0))] (Qha x31)), (3, rp [fu 24, (.tmp 114, (Qgi p1))] (Qg9 x33)), (5, rp [fu 24, (.tmp 116, (Qhi p2))] (Qg8 x35)), (6, rp [fu 60, (.tmp 113, (Qha x31)), (.tmp 115, (Qg9 x33)), (.tmp 117, (Qg8 x35))] (B x37)), (8, rp [(.tmp 119, (B ((!x37))))] (B false)), (11, rp [(.tmp 120, B false), (.tmp 122, (B ((x29.2 == 0))))] (B true)), (17, rp [(.tmp 128, (B ((x29.1 == x5.2.2.1))))] (B false))] ⟨apc (first := []) (cap := []) (vs := [(Qd8 p0)]) rfl Qhy (Qdt N p0 _ hf30) rfl rfl (nlc (NLt.agg _ (nlc nll (nlc nll (nlc (nld Qab _) nl0)))) nl0) (NLt.agg _ (nlc nll (nlc nll (nlc (nld Qab _) nl0)))) rfl, apc (first := []) (cap := []) (vs := [(Qgi p1)]) rfl Qf3 (Qbn N p1 _ hf32) rfl rfl (nlc (nld Qaa _) nl0) (nld Qaa _) rfl, apc (first := []) (cap := []) (vs := [(Qhi p2)]) rfl Qf3 (Qbn N p2 _ hf34) rfl rfl (nlc (nld Qaa _) nl0) (nld Qaa _) rfl, apc (first := []) (cap := []) (vs := [(Qha x31), (Qg9 x33), (Qg8 x35)]) rfl Qkt (Qc0 N x31 x33 x35 _ hf36) rfl rfl (nlc (NLt.agg _ (nlc nll (nlc nll (nlc (nld Qab _) nl0)))) (nlc (nld Qaa _) (nlc (nld Qaa _) nl0))) nll rfl, asb hb38 (amv rfl), asb hb41 (ag_ (amv rfl)), asb hb42 (amv rfl), trivial⟩ ?_
        refine Qag ?_
        obtain rfl := osi h
        exact fend ⟨[B false], ⟨rot (by kernel_rfl), trivial⟩, rfl⟩ nll
      ·replace h := Qat hb41 h
       refine wx tbk [(1, rp [fu 31, (.tmp 112, (Qd8 p0))] (Qha x31)), (3, rp [fu 24, (.tmp 114, (Qgi p1))] (Qg9 x33)), (5, rp [fu 24, (.tmp 116, (Qhi p2))] (Qg8 x35)), (6, rp [fu 60, (.tmp 113, (Qha x31)), (.tmp 115, (Qg9 x33)), (.tmp 117, (Qg8 x35))] (B x37)), (8, rp [(.tmp 119, (B ((!x37))))] (B false)), (11, rp [(.tmp 120, B false), (.tmp 122, (B ((x29.2 == 0))))] (B false))] ⟨apc (first := []) (cap := []) (vs := [(Qd8 p0)]) rfl Qhy (Qdt N p0 _ hf30) rfl rfl (nlc (NLt.agg _ (nlc nll (nlc nll (nlc (nld Qab _) nl0)))) nl0) (NLt.agg _ (nlc nll (nlc nll (nlc (nld Qab _) nl0)))) rfl, apc (first := []) (cap := []) (vs := [(Qgi p1)]) rfl Qf3 (Qbn N p1 _ hf32) rfl rfl (nlc (nld Qaa _) nl0) (nld Qaa _) rfl, apc (first := []) (cap := []) (vs := [(Qhi p2)]) rfl Qf3 (Qbn N p2 _ hf34) rfl rfl (nlc (nld Qaa _) nl0) (nld Qaa _) rfl, apc (first := []) (cap := []) (vs := [(Qha x31), (Qg9 x33), (Qg8 x35)]) rfl Qkt (Qc0 N x31 x33 x35 _ hf36) rfl rfl (nlc (NLt.agg _ (nlc nll (nlc nll (nlc (nld Qab _) nl0)))) (nlc (nld Qaa _) (nlc (nld Qaa _) nl0))) nll rfl, asb hb38 (amv rfl), asb hb41 (ag_ (amv rfl)), trivial⟩ ?_
       refine Qag ?_
       obtain rfl := osi h
       exact fend ⟨[B false], ⟨rot (by kernel_rfl), trivial⟩, rfl⟩ nll
    ·skip
     rcases bft ((x22.2 != 0)) with hb45 | hb45
     ·replace h := Qas hb45 h
      refine wx tbk [(2, rp [(.tmp 79, (B ((x22.2 != 0))))] (B true))] ⟨asb hb45 (amv rfl), trivial⟩ ?_
      refine Qcf (by kernel_rfl) ?_
      refine wx tbk [] trivial ?_
      refine Qag ?_
      refine Qaf ?_
      obtain rfl := osi h
      exact fend ⟨[B false], ⟨rot (by kernel_rfl), trivial⟩, rfl⟩ nll
     ·replace h := Qat hb45 h
      rcases bft ((x22.1 != x5.2.2.1)) with hb46 | hb46
      ·replace h := Qas hb46 h
       refine wx tbk [(2, rp [(.tmp 79, (B ((x22.2 != 0))))] (B false)), (7, rp [(.tmp 84, (B ((x22.1 != x5.2.2.1))))] (B true))] ⟨asb hb45 (amv rfl), asb hb46 (amv rfl), trivial⟩ ?_
       refine Qcf (by kernel_rfl) ?_
       refine wx tbk [] trivial ?_
       refine Qag ?_
       refine Qaf ?_
       obtain rfl := osi h
       exact fend ⟨[B false], ⟨rot (by kernel_rfl), trivial⟩, rfl⟩ nll
      ·replace h := Qat hb46 h
       obtain ⟨x48, hf47, h⟩ := bno h
       obtain ⟨x50, hf49, h⟩ := bno h
       obtain ⟨x52, hf51, h⟩ := bno h
       obtain ⟨x54, hf53, h⟩ := bno h
       rcases bft ((!x54)) with hb55 | hb55
       ·replace h := Qas hb55 h
        refine wx tbk [(2, rp [(.tmp 79, (B ((x22.2 != 0))))] (B false)), (7, rp [(.tmp 84, (B ((x22.1 != x5.2.2.1))))] (B false)), (9, rp [(.tmp 85, B false), fu 31, (.tmp 86, (Qd8 p0))] (Qip x48)), (11, rp [(.tmp 85, B false), fu 24, (.tmp 88, (Qkz x5))] (Qio x50)), (13, rp [(.tmp 85, B false), fu 24, (.tmp 90, (Qmw x5))] (Qin x52)), (14, rp [(.tmp 85, B false), fu 60, (.tmp 87, (Qip x48)), (.tmp 89, (Qio x50)), (.tmp 91, (Qin x52))] (B x54)), (17, rp [(.tmp 94, (B ((!x54))))] (B true))] ⟨asb hb45 (amv rfl), asb hb46 (amv rfl), ag_ (apc (first := []) (cap := []) (vs := [(Qd8 p0)]) rfl Qhy (Qdt N p0 _ hf47) rfl rfl (nlc (NLt.agg _ (nlc nll (nlc nll (nlc (nld Qab _) nl0)))) nl0) (NLt.agg _ (nlc nll (nlc nll (nlc (nld Qab _) nl0)))) rfl), ag_ (apc (first := []) (cap := []) (vs := [(Qkz x5)]) rfl Qf3 (Qbn N x5.1 _ hf49) rfl rfl (nlc (nld Qaa _) nl0) (nld Qaa _) rfl), ag_ (apc (first := []) (cap := []) (vs := [(Qmw x5)]) rfl Qf3 (Qbn N x5.2.1 _ hf51) rfl rfl (nlc (nld Qaa _) nl0) (nld Qaa _) rfl), ag_ (apc (first := []) (cap := []) (vs := [(Qip x48), (Qio x50), (Qin x52)]) rfl Qkt (Qc0 N x48 x50 x52 _ hf53) rfl rfl (nlc (NLt.agg _ (nlc nll (nlc nll (nlc (nld Qab _) nl0)))) (nlc (nld Qaa _) (nlc (nld Qaa _) nl0))) nll rfl), asb hb55 (amv rfl), trivial⟩ ?_
        refine Qcf (by kernel_rfl) ?_
        refine wx tbk [] trivial ?_
        refine Qag ?_
        refine Qaf ?_
        obtain rfl := osi h
        exact fend ⟨[B false], ⟨rot (by kernel_rfl), trivial⟩, rfl⟩ nll
       ·replace h := Qat hb55 h
        rcases bft ((x11.2 == 0)) with hb56 | hb56
        ·replace h := Qas hb56 h
         refine wx tbk [(2, rp [(.tmp 79, (B ((x22.2 != 0))))] (B false)), (7, rp [(.tmp 84, (B ((x22.1 != x5.2.2.1))))] (B false)), (9, rp [(.tmp 85, B false), fu 31, (.tmp 86, (Qd8 p0))] (Qip x48)), (11, rp [(.tmp 85, B false), fu 24, (.tmp 88, (Qkz x5))] (Qio x50)), (13, rp [(.tmp 85, B false), fu 24, (.tmp 90, (Qmw x5))] (Qin x52)), (14, rp [(.tmp 85, B false), fu 60, (.tmp 87, (Qip x48)), (.tmp 89, (Qio x50)), (.tmp 91, (Qin x52))] (B x54)), (17, rp [(.tmp 94, (B ((!x54))))] (B false)), (20, rp [(.tmp 95, B false), (.tmp 97, (B ((x11.2 == 0))))] (B true))] ⟨asb hb45 (amv rfl), asb hb46 (amv rfl), ag_ (apc (first := []) (cap := []) (vs := [(Qd8 p0)]) rfl Qhy (Qdt N p0 _ hf47) rfl rfl (nlc (NLt.agg _ (nlc nll (nlc nll (nlc (nld Qab _) nl0)))) nl0) (NLt.agg _ (nlc nll (nlc nll (nlc (nld Qab _) nl0)))) rfl), ag_ (apc (first := []) (cap := []) (vs := [(Qkz x5)]) rfl Qf3 (Qbn N x5.1 _ hf49) rfl rfl (nlc (nld Qaa _) nl0) (nld Qaa _) rfl), ag_ (apc (first := []) (cap := []) (vs := [(Qmw x5)]) rfl Qf3 (Qbn N x5.2.1 _ hf51) rfl rfl (nlc (nld Qaa _) nl0) (nld Qaa _) rfl), ag_ (apc (first := []) (cap := []) (vs := [(Qip x48), (Qio x50), (Qin x52)]) rfl Qkt (Qc0 N x48 x50 x52 _ hf53) rfl rfl (nlc (NLt.agg _ (nlc nll (nlc nll (nlc (nld Qab _) nl0)))) (nlc (nld Qaa _) (nlc (nld Qaa _) nl0))) nll rfl), asb hb55 (amv rfl), asb hb56 (ag_ (amv rfl)), trivial⟩ ?_
         rcases bft ((decide (x11.1 < x5.2.2.1))) with hc57 | hc57
         ·replace h := Qas hc57 h
          refine wft hc57 (by kernel_rfl) ?_
          refine wx tbk [] trivial ?_
          refine Qag ?_
          refine Qaf ?_
          obtain rfl := osi h
          exact fend ⟨[B false], ⟨rot (by kernel_rfl), trivial⟩, rfl⟩ nll
         ·replace h := Qat hc57 h
          refine wfn hc57 (by kernel_rfl) ?_
          refine Qah ?_
          refine thn ?_
          exact ⟨(), h, (mto (n := 132) [(1, (Qgi p1)), (2, (Qhi p2)), (4, .ref 0 3 0 0), (11, I x5.2.2.1)] [0] [(Qqr p0)] hφ0 (pc (.rn (.plain _ (nld Qaa _))) (pc (.rn (.plain _ (nld Qaa _))) (pc (.rn (rqr rfl)) (pc rwl pn)))) (qc (spb (lc rwl (lc rwl (lc (.rn (.plain _ (nld Qab _))) ln)))) qn))⟩
        ·replace h := Qat hb56 h
         refine wx tbk [(2, rp [(.tmp 79, (B ((x22.2 != 0))))] (B false)), (7, rp [(.tmp 84, (B ((x22.1 != x5.2.2.1))))] (B false)), (9, rp [(.tmp 85, B false), fu 31, (.tmp 86, (Qd8 p0))] (Qip x48)), (11, rp [(.tmp 85, B false), fu 24, (.tmp 88, (Qkz x5))] (Qio x50)), (13, rp [(.tmp 85, B false), fu 24, (.tmp 90, (Qmw x5))] (Qin x52)), (14, rp [(.tmp 85, B false), fu 60, (.tmp 87, (Qip x48)), (.tmp 89, (Qio x50)), (.tmp 91, (Qin x52))] (B x54)), (17, rp [(.tmp 94, (B ((!x54))))] (B false)), (20, rp [(.tmp 95, B false), (.tmp 97, (B ((x11.2 == 0))))] (B false))] ⟨asb hb45 (amv rfl), asb hb46 (amv rfl), ag_ (apc (first := []) (cap := []) (vs := [(Qd8 p0)]) rfl Qhy (Qdt N p0 _ hf47) rfl rfl (nlc (NLt.agg _ (nlc nll (nlc nll (nlc (nld Qab _) nl0)))) nl0) (NLt.agg _ (nlc nll (nlc nll (nlc (nld Qab _) nl0)))) rfl), ag_ (apc (first := []) (cap := []) (vs := [(Qkz x5)]) rfl Qf3 (Qbn N x5.1 _ hf49) rfl rfl (nlc (nld Qaa _) nl0) (nld Qaa _) rfl), ag_ (apc (first := []) (cap := []) (vs := [(Qmw x5)]) rfl Qf3 (Qbn N x5.2.1 _ hf51) rfl rfl (nlc (nld Qaa _) nl0) (nld Qaa _) rfl), ag_ (apc (first := []) (cap := []) (vs := [(Qip x48), (Qio x50), (Qin x52)]) rfl Qkt (Qc0 N x48 x50 x52 _ hf53) rfl rfl (nlc (NLt.agg _ (nlc nll (nlc nll (nlc (nld Qab _) nl0)))) (nlc (nld Qaa _) (nlc (nld Qaa _) nl0))) nll rfl), asb hb55 (amv rfl), asb hb56 (ag_ (amv rfl)), trivial⟩ ?_
         refine Qd7 (by kernel_rfl) ?_
         refine Qah ?_
         refine thn ?_
         exact ⟨(), h, (mto (n := 132) [(1, (Qgi p1)), (2, (Qhi p2)), (4, .ref 0 3 0 0), (11, I x5.2.2.1)] [0] [(Qqr p0)] hφ0 (pc (.rn (.plain _ (nld Qaa _))) (pc (.rn (.plain _ (nld Qaa _))) (pc (.rn (rqr rfl)) (pc rwl pn)))) (qc (spb (lc rwl (lc rwl (lc (.rn (.plain _ (nld Qab _))) ln)))) qn))⟩
  ·skip
   obtain ⟨x59, hf58, h⟩ := bno h
   rcases bft ((!x59)) with hb60 | hb60
   ·replace h := Qas hb60 h
    refine wx tbk [(1, rp [fu 29, (.tmp 19, (Qd8 p0))] (B x59)), (3, rp [(.tmp 21, (B ((!x59))))] (B true))] ⟨apc (first := []) (cap := []) (vs := [(Qd8 p0)]) rfl Qnq (Qgq N p0 _ hf58) rfl rfl (nlc (NLt.agg _ (nlc nll (nlc nll (nlc (nld Qab _) nl0)))) nl0) nll rfl, asb hb60 (amv rfl), trivial⟩ ?_
    refine Qcf (by kernel_rfl) ?_
    obtain ⟨x62, hf61, h⟩ := bno h
    refine wx tbk [(0, rp [fu 21] (B x62))] ⟨apc (first := []) (cap := []) (vs := []) rfl Qjq (Qd5 2000  _ hf61) rfl rfl nl0 nll rfl, trivial⟩ ?_
    refine Qag ?_
    refine Qaf ?_
    obtain rfl := osi h
    exact fend ⟨[B x62], ⟨rot (by kernel_rfl), trivial⟩, rfl⟩ nll
   ·replace h := Qat hb60 h
    rcases bft ((decide ((p1.length : Int) > 35))) with hb63 | hb63
    ·replace h := Qas hb63 h
     refine wx tbk [(1, rp [fu 29, (.tmp 19, (Qd8 p0))] (B x59)), (3, rp [(.tmp 21, (B ((!x59))))] (B false)), (5, rp [(.tmp 22, B false), (.tmp 23, (Qgi p1))] (I ((p1.length : Int)))), (8, rp [(.tmp 26, (B ((decide ((p1.length : Int) > 35)))))] (B true))] ⟨apc (first := []) (cap := []) (vs := [(Qd8 p0)]) rfl Qnq (Qgq N p0 _ hf58) rfl rfl (nlc (NLt.agg _ (nlc nll (nlc nll (nlc (nld Qab _) nl0)))) nl0) nll rfl, asb hb60 (amv rfl), ag_ (alm (c := Qac) (l := p1) (aln rfl Try.underlying23 rfl)), asb hb63 (amv rfl), trivial⟩ ?_
     refine Qcf (by kernel_rfl) ?_
     obtain ⟨x65, hf64, h⟩ := bno h
     refine wx tbk [(0, rp [fu 21] (B x65))] ⟨apc (first := []) (cap := []) (vs := []) rfl Qjq (Qd5 2000  _ hf64) rfl rfl nl0 nll rfl, trivial⟩ ?_
     refine Qag ?_
     refine Qaf ?_
     obtain rfl := osi h
     exact fend ⟨[B x65], ⟨rot (by kernel_rfl), trivial⟩, rfl⟩ nll
    ·replace h := Qat hb63 h
     rcases bft ((decide ((p2.length : Int) > 35))) with hb66 | hb66
     ·replace h := Qas hb66 h
      refine wx tbk [(1, rp [fu 29, (.tmp 19, (Qd8 p0))] (B x59)), (3, rp [(.tmp 21, (B ((!x59))))] (B false)), (5, rp [(.tmp 22, B false), (.tmp 23, (Qgi p1))] (I ((p1.length : Int)))), (8, rp [(.tmp 26, (B ((decide ((p1.length : Int) > 35)))))] (B false)), (10, rp [(.tmp 27, B false), (.tmp 28, (Qhi p2))] (I ((p2.length : Int)))), (13, rp [(.tmp 31, (B ((decide ((p2.length : Int) > 35)))))] (B true))] ⟨apc (first := []) (cap := []) (vs := [(Qd8 p0)]) rfl Qnq (Qgq N p0 _ hf58) rfl rfl (nlc (NLt.agg _ (nlc nll (nlc nll (nlc (nld Qab _) nl0)))) nl0) nll rfl, asb hb60 (amv rfl), ag_ (alm (c := Qac) (l := p1) (aln rfl Try.underlying23 rfl)), asb hb63 (amv rfl), ag_ (alm (c := Qac) (l := p2) (aln rfl Try.underlying23 rfl)), asb hb66 (amv rfl), trivial⟩ ?_
      refine Qcf (by kernel_rfl) ?_
      obtain ⟨x68, hf67, h⟩ := bno h
      refine wx tbk [(0, rp [fu 21] (B x68))] ⟨apc (first := []) (cap := []) (vs := []) rfl Qjq (Qd5 2000  _ hf67) rfl rfl nl0 nll rfl, trivial⟩ ?_
      refine Qag ?_
      refine Qaf ?_
      obtain rfl := osi h
      exact fend ⟨[B x68], ⟨rot (by kernel_rfl), trivial⟩, rfl⟩ nll
     ·replace h := Qat hb66 h
      rcases bft ((decide ((p3.length : Int) > 35))) with hb69 | hb69
      ·replace h := Qas hb69 h
       refine wx tbk [(1, rp [fu 29, (.tmp 19, (Qd8 p0))] (B x59)), (3, rp [(.tmp 21, (B ((!x59))))] (B false)), (5, rp [(.tmp 22, B false), (.tmp 23, (Qgi p1))] (I ((p1.length : Int)))), (8, rp [(.tmp 26, (B ((decide ((p1.length : Int) > 35)))))] (B false)), (10, rp [(.tmp 27, B false), (.tmp 28, (Qhi p2))] (I ((p2.length : Int)))), (13, rp [(.tmp 31, (B ((decide ((p2.length : Int) > 35)))))] (B false)), (15, rp [(.tmp 32, B false), (.tmp 33, (Qob p3))] (I ((p3.length : Int)))), (18, rp [(.tmp 36, (B ((decide ((p3.length : Int) > 35)))))] (B true))] ⟨apc (first := []) (cap := []) (vs := [(Qd8 p0)]) rfl Qnq (Qgq N p0 _ hf58) rfl rfl (nlc (NLt.agg _ (nlc nll (nlc nll (nlc (nld Qab _) nl0)))) nl0) nll rfl, asb hb60 (amv rfl), ag_ (alm (c := Qac) (l := p1) (aln rfl Try.underlying23 rfl)), asb hb63 (amv rfl), ag_ (alm (c := Qac) (l := p2) (aln rfl Try.underlying23 rfl)), asb hb66 (amv rfl), ag_ (alm (c := Qac) (l := p3) (aln rfl Try.underlying23 rfl)), asb hb69 (amv rfl), trivial⟩ ?_
       refine Qcf (by kernel_rfl) ?_
       obtain ⟨x71, hf70, h⟩ := bno h
       refine wx tbk [(0, rp [fu 21] (B x71))] ⟨apc (first := []) (cap := []) (vs := []) rfl Qjq (Qd5 2000  _ hf70) rfl rfl nl0 nll rfl, trivial⟩ ?_
       refine Qag ?_
       refine Qaf ?_
       obtain rfl := osi h
       exact fend ⟨[B x71], ⟨rot (by kernel_rfl), trivial⟩, rfl⟩ nll
      ·replace h := Qat hb69 h
       obtain ⟨x73, hf72, h⟩ := bno h
       refine wx tbk [(1, rp [fu 29, (.tmp 19, (Qd8 p0))] (B x59)), (3, rp [(.tmp 21, (B ((!x59))))] (B false)), (5, rp [(.tmp 22, B false), (.tmp 23, (Qgi p1))] (I ((p1.length : Int)))), (8, rp [(.tmp 26, (B ((decide ((p1.length : Int) > 35)))))] (B false)), (10, rp [(.tmp 27, B false), (.tmp 28, (Qhi p2))] (I ((p2.length : Int)))), (13, rp [(.tmp 31, (B ((decide ((p2.length : Int) > 35)))))] (B false)), (15, rp [(.tmp 32, B false), (.tmp 33, (Qob p3))] (I ((p3.length : Int)))), (18, rp [(.tmp 36, (B ((decide ((p3.length : Int) > 35)))))] (B false)), (20, rp [(.tmp 37, B false), fu 32, (.tmp 38, (Qd8 p0))] (B x73))] ⟨apc (first := []) (cap := []) (vs := [(Qd8 p0)]) rfl Qnq (Qgq N p0 _ hf58) rfl rfl (nlc (NLt.agg _ (nlc nll (nlc nll (nlc (nld Qab _) nl0)))) nl0) nll rfl, asb hb60 (amv rfl), ag_ (alm (c := Qac) (l := p1) (aln rfl Try.underlying23 rfl)), asb hb63 (amv rfl), ag_ (alm (c := Qac) (l := p2) (aln rfl Try.underlying23 rfl)), asb hb66 (amv rfl), ag_ (alm (c := Qac) (l := p3) (aln rfl Try.underlying23 rfl)), asb hb69 (amv rfl), ag_ (apc (first := []) (cap := []) (vs := [(Qd8 p0)]) rfl enter32 (Qk6 N p0 _ hf72) rfl rfl (nlc (NLt.agg _ (nlc nll (nlc nll (nlc (nld Qab _) nl0)))) nl0) nll rfl), trivial⟩ ?_
       rcases bft ((!x73)) with hc74 | hc74
       ·replace h := Qas hc74 h
        refine wft hc74 (by kernel_rfl) ?_
        obtain ⟨x76, hf75, h⟩ := bno h
        refine wx tbk [(0, rp [fu 21] (B x76))] ⟨apc (first := []) (cap := []) (vs := []) rfl Qjq (Qd5 2000  _ hf75) rfl rfl nl0 nll rfl, trivial⟩ ?_
        refine Qag ?_
        refine Qaf ?_
        obtain rfl := osi h
        exact fend ⟨[B x76], ⟨rot (by kernel_rfl), trivial⟩, rfl⟩ nll
       ·replace h := Qat hc74 h
        refine wfn hc74 (by kernel_rfl) ?_
        refine Qah ?_
        refine thn ?_
        exact ⟨(), h, (mto (n := 132) [(1, (Qgi p1)), (2, (Qhi p2)), (3, (Qob p3)), (4, .ref 0 3 0 0)] [0] [(Qqr p0)] hφ0 (pc (.rn (.plain _ (nld Qaa _))) (pc (.rn (.plain _ (nld Qaa _))) (pc (.rn (.plain _ (nld Qaa _))) (pc (.rn (rqr rfl)) pn)))) (qc (spb (lc rwl (lc rwl (lc (.rn (.plain _ (nld Qab _))) ln)))) qn))⟩
end Go.Proofs.Ytgdepcgbjjgnfaa
