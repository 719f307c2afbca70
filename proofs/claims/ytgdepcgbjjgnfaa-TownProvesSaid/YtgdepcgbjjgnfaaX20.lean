/-
  Functions of the program: what they compute, as plain functions, and that they do. No conditions.
-/
import Derived.Test.YtgdepcgbjjgnfaaX17
namespace Go.Proofs.Ytgdepcgbjjgnfaa
open Go.RowKit
def Qe2 (N : Nat) (p0 : Int) : Option Bool :=
  (Qcg N p0 0 1000).bind fun x2 =>
  some x2
set_option maxRecDepth 100000 in
set_option maxHeartbeats 4000000 in
theorem Qiv (N : Nat) (p0 : Int) (r : Bool) (h : Qe2 N p0 = some r) : Spec Try.prog 91 [(I p0)] [] (B r) [] := by
  refine Qal Try.func91 rfl 0 (nle rfl) (fun X φ0 w0 hφ0 => ?_)
  unfold Qe2 at h
  refine wx tbk [] trivial ?_
  obtain ⟨x2, hf1, h⟩ := bno h
  refine wx tbk [(1, rp [fu 68, (.tmp 3, I p0), ci 0, ci 1000] (B x2))] ⟨apc (first := []) (cap := []) (vs := [I p0, I 0, I 1000]) rfl Qd3 (Qaw N p0 0 1000 _ hf1) rfl rfl (nlc nll (nlc nll (nlc nll nl0))) nll rfl, trivial⟩ ?_
  refine Qah ?_
  obtain rfl := osi h
  exact fend ⟨[B x2], ⟨rot (by kernel_rfl), trivial⟩, rfl⟩ nll
def Qf7 (N : Nat) (p0 : Int) : Option Bool :=
  (Qe2 N p0).bind fun x3 =>
  some (!x3)
def Qun : Slot := .own 1 [[(.fn (.func 91) [] [])]]
set_option maxRecDepth 100000 in
set_option maxHeartbeats 4000000 in
theorem Qku (N : Nat) (p0 : Int) (r : Bool) (h : Qf7 N p0 = some r) : Spec Try.prog 108 [(I (p0)), (.ref 0 1 (0) 0)] [Qun] (B (r)) [Qun] := by
  refine Qal Try.func108 rfl 1 (nle rfl) (fun X φ0 w0 hφ0 => ?_)
  unfold Qf7 at h
  refine Qc3 ?_
  refine wx tbk [] trivial ?_
  obtain ⟨x3, hf2, h⟩ := bno h
  refine wx tbk [(2, rp [(.tmp 4, (.fn (.func 91) [] [])), (.tmp 5, I p0)] (B x3))] ⟨apc (first := []) (cap := []) (vs := [I p0]) rfl enter91 (Qiv N p0 _ hf2) rfl rfl (nlc nll nl0) nll rfl, trivial⟩ ?_
  refine wmr (mto (n := 8) (l' := [(3, (B ((!x3))))]) (own' := [Qun]) [(3, (B ((!x3))))] [0] [Qun] hφ0 (pc rwl pn) (qc (spb (lc (.rn (Qay rn0 rn0)) ln)) qn)) ?_
  refine Qah ?_
  obtain rfl := osi h
  exact ⟨_, Mor.rfl, Qdi (vs := [(B ((!x3)))]) ⟨rot (by kernel_rfl), trivial⟩ rfl (NLt.of0 nll) (by kernel_rfl) (Qau (Qbt (nlc (NLt.of0 (NLt.fn _ _ _ nl0 nl0)) nl0)) Qb0)⟩
def Qa7 (N : Nat) (p0 : (List Int)) (k2 : Unit → Option Int) : Nat → Int → Option Int
  | 0, _ => none
  | n5 + 1, y3 =>
    bif (decide (y3 < (p0.length : Int))) then
     (getI p0 y3).bind fun x7 =>
     (Qf7 N x7).bind fun x12 =>
     bif x12 then
      some y3
     else
      Qa7 N p0 k2 n5 (w64 (y3 + 1))
    else
     k2 ()
def Qdw (N : Nat) (p0 : (List Int)) : Option Int :=
  Qbr (fun _ =>
    some (-1)) fun k2 : Unit → Option Int =>
  Qa7 N p0 k2 N 0
def Qnv (p0 : (List Int)) : AV := .dat 1 ((p0 : List Int).map Qab)
def Qpa : AV := .fn (.func 108) [] [(.ref 0 1 (0) 0)]
def Qhu : Slot := .own 1 [[(.fn (.func 91) [] [])]]
set_option maxRecDepth 100000 in
set_option maxHeartbeats 4000000 in
theorem Qhj (N : Nat) (p0 : (List Int)) (r : Int) (h : Qdw N p0 = some r) : Spec Try.prog 113 [(Qnv p0), Qpa] [Qhu] (I (r)) [Qhu] := by
  refine Qal Try.func113 rfl 1 (nle rfl) (fun X φ0 w0 hφ0 => ?_)
  unfold Qdw at h
  refine Qc3 ?_
  refine wx tbk [] trivial ?_
  obtain ⟨k2, hk_k2, h⟩ := jko h
  refine wjn (τ := Unit) (fun t => k2 t = some r) (fun _ => ⟨mk 19 [], [Qhu]⟩) (fun t h => ?_) ?_
  ·subst hk_k2
   refine wx tbk [] trivial ?_
   refine wmr (mto (n := 19) (l' := [(4, (I ((-1))))]) (own' := [Qhu]) [(4, (I ((-1))))] [0] [Qhu] hφ0 (pc rwl pn) (qc (spb (lc (.rn (Qay rn0 rn0)) ln)) qn)) ?_
   refine Qah ?_
   obtain rfl := osi h
   exact ⟨_, Mor.rfl, Qdi (vs := [(I ((-1)))]) ⟨rot (by kernel_rfl), trivial⟩ rfl (NLt.of0 nll) (by kernel_rfl) (Qau (Qbt (nlc (NLt.of0 (NLt.fn _ _ _ nl0 nl0)) nl0)) Qb0)⟩
  ·skip
   refine wx tbk [(1, rp [(.tmp 6, (Qnv p0))] (I ((p0.length : Int))))] ⟨alm (c := Qab) (l := p0) (aln rfl Try.underlying23 rfl), trivial⟩ ?_
   refine Qai ?_
   refine wmr (mto (n := 19) (l' := [(0, (Qnv p0)), (1, Qpa), (7, (I ((p0.length : Int)))), (8, I 0)]) (own' := [Qhu]) [(0, (Qnv p0)), (1, Qpa), (7, (I ((p0.length : Int)))), (8, I 0)] [0] [Qhu] hφ0 (pc (.rn (.plain _ (nld Qaa _))) (pc (.rn (Qay rn0 (rnc (rqr rfl) rn0))) (pc rwl (pc rwl pn)))) (qc (spb (lc (.rn (Qay rn0 rn0)) ln)) qn)) ?_
   refine Qbu (τ := Int) (fun n t => Qa7 N p0 k2 n t = some r) (fun y3 => ⟨mk 19 [(0, (Qnv p0)), (1, Qpa), (7, (I ((p0.length : Int)))), (8, I y3)], [Qhu]⟩) (fun t h => by rw [Qa7] at h; cases h) (fun n5 ih y3 h => ?_) N (0) h
   rw [Qa7] at h
   skip
   refine wx tbk [] trivial ?_
   refine wsq ?_
   rcases bft ((decide (y3 < (p0.length : Int)))) with hc6 | hc6
   ·replace h := Qar hc6 h
    refine wft hc6 (by kernel_rfl) ?_
    refine Qag ?_
    refine thn ?_
    refine wsq ?_
    refine Qai ?_
    refine wx tbk [] trivial ?_
    obtain ⟨x7, hg8, h⟩ := bno h
    obtain ⟨hi9, hj10⟩ := gsm hg8
    obtain ⟨x12, hf11, h⟩ := bno h
    refine wx tbk [(3, rp [(.tmp 12, (Qnv p0)), (.tmp 13, I y3)] (.dptr (Qab (x7)) 0)), (5, ⟨[(.tmp 11, Qpa), (.tmp 15, I x7)], [(0, Qhu)], B x12, [(0, Qhu)], false⟩)] ⟨aid rfl Try.underlying23 ti3 rfl rfl hi9 (mgt Qab hj10) rfl, Qat (first := []) (cap := [.ref 0 1 0 0]) (vs := [I x7]) (σr := [Qhu]) (σr' := [Qhu]) (res' := (B x12)) [0] rfl Qvc (Qku N x7 _ hf11) rfl (Qcq (rnc (.plain _ nll) (rnc (Qbn rfl) rn0))) (slc (Qam (rnc (.plain _ (NLt.fn _ _ _ nl0 nl0)) rn0)) Qap) (slc (Qam (rnc (.plain _ (NLt.fn _ _ _ nl0 nl0)) rn0)) Qap) (.plain _ nll) rfl rfl rfl, trivial⟩ ?_
    rcases bft (x12) with hc13 | hc13
    ·replace h := Qar hc13 h
     refine wft hc13 (by kernel_rfl) ?_
     refine wx tbk [] trivial ?_
     refine wmr (mto (n := 19) (l' := [(4, I y3)]) (own' := [Qhu]) [(4, I y3)] [0] [Qhu] hφ0 (pc rwl pn) (qc (spb (lc (.rn (Qay rn0 rn0)) ln)) qn)) ?_
     refine Qah ?_
     refine Qak ?_
     refine Qad ?_
     refine Qad ?_
     refine Qak ?_
     refine Qad ?_
     obtain rfl := osi h
     exact ⟨_, Mor.rfl, Qdi (vs := [I y3]) ⟨rot (by kernel_rfl), trivial⟩ rfl (NLt.of0 nll) (by kernel_rfl) (Qau (Qbt (nlc (NLt.of0 (NLt.fn _ _ _ nl0 nl0)) nl0)) Qb0)⟩
    ·replace h := Qas hc13 h
     refine wfn hc13 (by kernel_rfl) ?_
     refine Qag ?_
     refine bln ?_
     refine thn ?_
     refine wx1 tbk [] trivial ?_
     refine thn ?_
     exact arm (mto (n := 19) [(0, (Qnv p0)), (1, Qpa), (7, (I ((p0.length : Int)))), (8, (I (w64 (y3 + 1))))] [0] [Qhu] hφ0 (pc (.rn (.plain _ (nld Qaa _))) (pc (.rn (Qay rn0 (rnc (rqr rfl) rn0))) (pc rwl (pc rwl pn)))) (qc (spb (lc (.rn (Qay rn0 rn0)) ln)) qn)) (ih (w64 (y3 + 1)) h)
   ·replace h := Qas hc6 h
    refine wfn hc6 (by kernel_rfl) ?_
    refine Qa3 ?_
    refine Qao ?_
    refine Qao ?_
    refine Qa2 rfl ?_
    refine thn ?_
    exact ⟨(), h, (mto (n := 19) [] [0] [Qhu] hφ0 pn (qc (spb (lc (.rn (Qay rn0 rn0)) ln)) qn))⟩
def Qdf (N : Nat) (p0 : (List Int)) : Option Bool :=
  (Qdw N p0).bind fun x3 =>
  some (decide (x3 ≥ 0))
def Qxv (p0 : (List Int)) : AV := .dat 1 ((p0 : List Int).map Qab)
def Qxu : AV := .fn (.func 108) [] [(.ref 0 1 (0) 0)]
def Qmv : Slot := .own 1 [[(.fn (.func 91) [] [])]]
set_option maxRecDepth 100000 in
set_option maxHeartbeats 4000000 in
theorem Qgv (N : Nat) (p0 : (List Int)) (r : Bool) (h : Qdf N p0 = some r) : Spec Try.prog 107 [(Qxv p0), Qxu] [Qmv] (B (r)) [Qmv] := by
  refine Qal Try.func107 rfl 1 (nle rfl) (fun X φ0 w0 hφ0 => ?_)
  unfold Qdf at h
  refine Qc3 ?_
  refine wx tbk [] trivial ?_
  obtain ⟨x3, hf2, h⟩ := bno h
  refine wx tbk [(2, ⟨[fu 113, (.tmp 5, (Qxv p0)), (.tmp 6, Qxu)], [(0, Qmv)], I x3, [(0, Qmv)], false⟩)] ⟨Qat (first := []) (cap := []) (vs := [(Qxv p0), Qxu]) (σr := [Qmv]) (σr' := [Qmv]) (res' := (I x3)) [0] rfl Qvb (Qhj N p0 _ hf2) rfl (Qcq (rnc (.plain _ (nld Qaa _)) (rnc (Qay rn0 (rnc (Qbn rfl) rn0)) rn0))) (slc (Qam (rnc (.plain _ (NLt.fn _ _ _ nl0 nl0)) rn0)) Qap) (slc (Qam (rnc (.plain _ (NLt.fn _ _ _ nl0 nl0)) rn0)) Qap) (.plain _ nll) rfl rfl rfl, trivial⟩ ?_
  refine wmr (mto (n := 9) (l' := [(4, (B ((decide (x3 ≥ 0)))))]) (own' := [Qmv]) [(4, (B ((decide (x3 ≥ 0)))))] [0] [Qmv] hφ0 (pc rwl pn) (qc (spb (lc (.rn (Qay rn0 rn0)) ln)) qn)) ?_
  refine Qah ?_
  obtain rfl := osi h
  exact ⟨_, Mor.rfl, Qdi (vs := [(B ((decide (x3 ≥ 0))))]) ⟨rot (by kernel_rfl), trivial⟩ rfl (NLt.of0 nll) (by kernel_rfl) (Qau (Qbt (nlc (NLt.of0 (NLt.fn _ _ _ nl0 nl0)) nl0)) Qb0)⟩
def Qf2 (N : Nat) (p0 : (List Int)) : Option Bool :=
  (Qdf N p0).bind fun x2 =>
  some (!x2)
def Qxx (p0 : (List Int)) : AV := .dat 1 ((p0 : List Int).map Qab)
def Qxw : AV := .fn (.func 108) [] [(.ref 0 1 (0) 0)]
def Quo : Slot := .own 1 [[(.fn (.func 91) [] [])]]
set_option maxRecDepth 100000 in
set_option maxHeartbeats 4000000 in
theorem Qlt (N : Nat) (p0 : (List Int)) (r : Bool) (h : Qf2 N p0 = some r) : Spec Try.prog 90 [(Qxx p0), (.fn (.func 91) [] [])] [] (B (r)) [] := by
  refine Qal Try.func90 rfl 0 (nle rfl) (fun X φ0 w0 hφ0 => ?_)
  unfold Qf2 at h
  refine wx tbk [] trivial ?_
  obtain ⟨x2, hf1, h⟩ := bno h
  refine wx tbk [(1, rp [(.tmp 3, .ref 0 1 0 0)] Qxw), (2, ⟨[fu 107, (.tmp 5, (Qxx p0)), (.tmp 6, Qxw)], [(0, Quo)], B x2, [(0, Quo)], false⟩)] ⟨Qgp (fs := []) (cs := [.ref 0 1 0 0]) rfl rfl rfl rfl, Qat (first := []) (cap := []) (vs := [(Qxx p0), Qxw]) (σr := [Quo]) (σr' := [Quo]) (res' := (B x2)) [0] rfl Qvd (Qgv N p0 _ hf1) rfl (Qcq (rnc (.plain _ (nld Qaa _)) (rnc (Qay rn0 (rnc (Qbn rfl) rn0)) rn0))) (slc (Qam (rnc (.plain _ (NLt.fn _ _ _ nl0 nl0)) rn0)) Qap) (slc (Qam (rnc (.plain _ (NLt.fn _ _ _ nl0 nl0)) rn0)) Qap) (.plain _ nll) rfl rfl rfl, trivial⟩ ?_
  refine Qah ?_
  obtain rfl := osi h
  exact fend ⟨[(B ((!x2)))], ⟨rot (by kernel_rfl), trivial⟩, rfl⟩ nll
def Qa4 (N : Nat) (p2 : (List Int)) (y17 : Int) (k26 : Unit → Option Bool) : (List (GStair × Int)) → Option Bool
  | [] =>
    k26 ()
  | x63 :: q64 =>
    bif (decide (x63.2 > 0)) then
     (getI p2 y17).bind fun x73 =>
     bif (decide (x63.1.Price > x73)) then
      some false
     else
      bif (decide (x63.2 < x63.1.Amount)) then
       bif (decide (x63.1.Price < x73)) then
        some false
       else
        Qa4 N p2 y17 k26 q64
      else
       Qa4 N p2 y17 k26 q64
    else
     bif (decide (x63.2 < x63.1.Amount)) then
      (getI p2 y17).bind fun x81 =>
      bif (decide (x63.1.Price < x81)) then
       some false
      else
       Qa4 N p2 y17 k26 q64
     else
      Qa4 N p2 y17 k26 q64
def Qcc (N : Nat) (p0 : GDay) (p1 : (List Int)) (p2 : (List Int)) (x3 : ((List Int) × Bool)) (k5 : Unit → Option Bool) : Nat → Int → Option Bool
  | 0, _ => none
  | n19 + 1, y17 =>
    bif (decide (y17 < (p0.Hours.length : Int))) then
     Qbr (fun _ =>
       Qcc N p0 p1 p2 x3 k5 n19 (w64 (y17 + 1))) fun k21 : Unit → Option Bool =>
     (getI p0.Hours y17).bind fun x22 =>
     Qbr (fun _ =>
       bif (y17 == (w64 ((p0.Hours.length : Int) - 1))) then
        k21 ()
       else
        (getI x3.1 y17).bind fun x28 =>
        bif (decide (x28 < p0.Tank)) then
         (getI p2 (w64 (y17 + 1))).bind fun x33 =>
         (getI p2 y17).bind fun x37 =>
         bif (decide (x33 > x37)) then
          some false
         else
          bif (decide (x28 > 0)) then
           bif (decide (x33 < x37)) then
            some false
           else
            k21 ()
          else
           k21 ()
        else
         bif (decide (x28 > 0)) then
          (getI p2 (w64 (y17 + 1))).bind fun x45 =>
          (getI p2 y17).bind fun x49 =>
          bif (decide (x45 < x49)) then
           some false
          else
           k21 ()
         else
          k21 ()) fun k26 : Unit → Option Bool =>
     (getI p1 y17).bind fun x54 =>
     (Qde N x22 x54).bind fun _ =>
     (Qdd N x22.Use x22.Stairs x54).bind fun q60 =>
     Qa4 N p2 y17 k26 q60
    else
     k5 ()
def Qda (N : Nat) (p0 : GDay) (p1 : (List Int)) (p2 : (List Int)) : Option Bool :=
  Qbr (fun _ =>
    (Qfq N p0 p1).bind fun x3 =>
    bif (!x3.2) then
     some false
    else
     Qbr (fun _ =>
       (some (w64 ((p0.Hours.length : Int) - 1))).bind fun x6 =>
       (getI x3.1 x6).bind fun x8 =>
       bif (x8 == 0) then
        some true
       else
        (getI p2 x6).bind fun x13 =>
        some (x13 == 0)) fun k5 : Unit → Option Bool =>
     Qcc N p0 p1 p2 x3 k5 N 0) fun k1 : Unit → Option Bool =>
  (Qet N p0).bind fun x87 =>
  bif (!x87) then
   some false
  else
   bif ((p2.length : Int) != (p0.Hours.length : Int)) then
    some false
   else
    (Qf2 N p2).bind fun x91 =>
    bif (!x91) then
     some false
    else
     k1 ()
def Qgq (p1 : (List Int)) : AV := .dat 1 ((p1 : List Int).map Qab)
def Qgb (p0 : GDay) : AV := .dat 2 ((p0.Hours : List GHour).map Qaj)
def Qea (p0 : GDay) : Slot := .own 3 [[(I (p0.Tank)), (I (p0.Start)), (Qgb p0)]]
def Qcf (p2 : (List Int)) : AV := .dat 1 ((p2 : List Int).map Qab)
def Qmw (p0 : GDay) : AV := .agg [(I (p0.Tank)), (I (p0.Start)), (Qgb p0)]
def Qe6 (x3 : ((List Int) × Bool)) : AV := .dat 1 ((x3.1 : List Int).map Qab)
def Qsz (x22 : GHour) : AV := .dat 2 ((x22.Stairs : List GStair).map Qan)
def Qs0 : AV := .fn (.func 109) [] [(.ref 5 2 (0) 0), (.ref 6 1 (0) 0)]
def Qnw (x22 : GHour) : Slot := .own 2 [[(I (x22.Use)), (Qsz x22)]]
set_option maxRecDepth 100000 in
set_option maxHeartbeats 4000000 in
theorem Qey (N : Nat) (p0 : GDay) (p1 : (List Int)) (p2 : (List Int)) (r : Bool) (h : Qda N p0 p1 p2 = some r) : Spec Try.prog 60 [(.agg (Qii p0)), (.dat 1 (p1.map Qab)), (.dat 1 (p2.map Qab))] [] (B r) [] := by
  refine Qal Try.func60 rfl 0 (nle rfl) (fun X φ0 w0 hφ0 => ?_)
  unfold Qda at h
  refine wx tbk [] trivial ?_
  obtain ⟨k1, hk_k1, h⟩ := jko h
  refine wjn (τ := Unit) (fun t => k1 t = some r) (fun _ => ⟨mk 141 [(1, (Qgq p1)), (3, .ref 0 3 0 0), (5, .ref 1 1 0 0), (6, .ref 2 1 0 0)], [(Qea p0), (.own 1 [[(Qcf p2)]]), (.own 1 [[B false]])]⟩) (fun t h => ?_) ?_
  ·subst hk_k1
   obtain ⟨x3, hf2, h⟩ := bno h
   refine wx tbk [(2, rp [fu 92, (.tmp 31, (Qmw p0)), (.tmp 32, (Qgq p1))] (.tup [(Qe6 x3), B x3.2]))] ⟨apc (first := []) (cap := []) (vs := [(Qmw p0), (Qgq p1)]) rfl enter92 (Qle N p0 p1 _ hf2) rfl rfl (nlc (NLt.agg _ (nlc nll (nlc nll (nlc (nld Qac _) nl0)))) (nlc (nld Qaa _) nl0)) (NLt.tup _ (nlc (nld Qaa _) (nlc nll nl0))) rfl, trivial⟩ ?_
   refine wsq ?_
   refine wx tbk [] trivial ?_
   rcases bft ((!x3.2)) with hc4 | hc4
   ·replace h := Qar hc4 h
    refine wft hc4 (by kernel_rfl) ?_
    refine wx tbk [] trivial ?_
    refine Qah ?_
    refine Qad ?_
    obtain rfl := osi h
    exact fend ⟨[B false], ⟨Qc9 (n := 2) (m := 1) (j := 0) (i := 0) (xs := [[B false]]) (by kernel_rfl) (by kernel_rfl) ti4 (by decide) rfl (nle rfl) rfl, trivial⟩, rfl⟩ nll
   ·replace h := Qas hc4 h
    refine wfn hc4 (by kernel_rfl) ?_
    refine Qag ?_
    refine thn ?_
    obtain ⟨k5, hk_k5, h⟩ := jko h
    refine wjn (τ := Unit) (fun t => k5 t = some r) (fun _ => ⟨mk 141 [(3, .ref 0 3 0 0), (5, .ref 1 1 0 0), (6, .ref 2 1 0 0), (7, (Qe6 x3))], [(Qea p0), (.own 1 [[(Qcf p2)]]), (.own 1 [[B false]])]⟩) (fun t h => ?_) ?_
    ·subst hk_k5
     obtain ⟨x6, hl7, h⟩ := bno h
     refine wx tbk [(2, rp [(.tmp 126, (Qgb p0))] (I ((p0.Hours.length : Int)))), (4, rp [(.tmp 128, (I (w64 ((p0.Hours.length : Int) - 1))))] (I x6))] ⟨alm (c := Qaj) (l := p0.Hours) (aln rfl Try.underlying45 rfl), Qd4 hl7 (aas rfl), trivial⟩ ?_
     obtain ⟨x8, hg9, h⟩ := bno h
     obtain ⟨hi10, hj11⟩ := gsm hg9
     rcases bft ((x8 == 0)) with hb12 | hb12
     ·replace h := Qar hb12 h
      refine wx tbk [(2, rp [(.tmp 129, (Qe6 x3)), (.tmp 130, I x6)] (.dptr (Qab (x8)) 0)), (5, rp [(.tmp 133, (B ((x8 == 0))))] (B true))] ⟨aid rfl Try.underlying23 ti3 rfl rfl hi10 (mgt Qab hj11) rfl, asb hb12 (amv rfl), trivial⟩ ?_
      refine Qah ?_
      obtain rfl := osi h
      exact fend ⟨[B true], ⟨Qc9 (n := 2) (m := 1) (j := 0) (i := 0) (xs := [[B true]]) (by kernel_rfl) (by kernel_rfl) ti4 (by decide) rfl (nle rfl) rfl, trivial⟩, rfl⟩ nll
     ·replace h := Qas hb12 h
      obtain ⟨x13, hg14, h⟩ := bno h
      obtain ⟨hi15, hj16⟩ := gsm hg14
      refine wx tbk [(2, rp [(.tmp 129, (Qe6 x3)), (.tmp 130, I x6)] (.dptr (Qab (x8)) 0)), (5, rp [(.tmp 133, (B ((x8 == 0))))] (B false)), (8, rp [(.tmp 134, B false), (.tmp 135, (Qcf p2)), (.tmp 136, I x6)] (.dptr (Qab (x13)) 0))] ⟨aid rfl Try.underlying23 ti3 rfl rfl hi10 (mgt Qab hj11) rfl, asb hb12 (amv rfl), ag_ (aid rfl Try.underlying23 ti3 rfl rfl hi15 (mgt Qab hj16) rfl), trivial⟩ ?_
      refine Qah ?_
      obtain rfl := osi h
      exact fend ⟨[(B ((x13 == 0)))], ⟨Qc9 (n := 2) (m := 1) (j := 0) (i := 0) (xs := [[(B ((x13 == 0)))]]) (by kernel_rfl) (by kernel_rfl) ti4 (by decide) rfl (nle rfl) rfl, trivial⟩, rfl⟩ nll
    ·skip
     refine wx tbk [(2, rp [(.tmp 39, (Qgb p0))] (I ((p0.Hours.length : Int))))] ⟨alm (c := Qaj) (l := p0.Hours) (aln rfl Try.underlying45 rfl), trivial⟩ ?_
     refine Qai ?_
     refine wmr (mto (n := 141) (l' := [(1, (Qgq p1)), (3, .ref 0 3 0 0), (5, .ref 1 1 0 0), (6, .ref 2 1 0 0), (7, (Qe6 x3)), (39, (Qgb p0)), (40, (I ((p0.Hours.length : Int)))), (41, I 0)]) (own' := [(Qea p0), (.own 1 [[(Qcf p2)]]), (.own 1 [[B false]])]) [(1, (Qgq p1)), (3, .ref 0 3 0 0), (5, .ref 1 1 0 0), (6, .ref 2 1 0 0), (7, (Qe6 x3)), (39, (Qgb p0)), (40, (I ((p0.Hours.length : Int)))), (41, I 0)] [0, 1, 2] [(Qea p0), (.own 1 [[(Qcf p2)]]), (.own 1 [[B false]])] hφ0 (pc (.rn (.plain _ (nld Qaa _))) (pc (.rn (rqr rfl)) (pc (.rn (rqr rfl)) (pc (.rn (rqr rfl)) (pc (.rn (.plain _ (nld Qaa _))) (pc (.rn (.plain _ (nld Qac _))) (pc rwl (pc rwl pn)))))))) (qc (spb (lc rwl (lc rwl (lc (.rn (.plain _ (nld Qac _))) ln)))) (qc (spb (lc (.rn (.plain _ (nld Qaa _))) ln)) (qc (spb (lc rwl ln)) qn)))) ?_
     refine Qbu (τ := Int) (fun n t => Qcc N p0 p1 p2 x3 k5 n t = some r) (fun y17 => ⟨mk 141 [(1, (Qgq p1)), (3, .ref 0 3 0 0), (5, .ref 1 1 0 0), (6, .ref 2 1 0 0), (7, (Qe6 x3)), (39, (Qgb p0)), (40, (I ((p0.Hours.length : Int)))), (41, I y17)], [(Qea p0), (.own 1 [[(Qcf p2)]]), (.own 1 [[B false]])]⟩) (fun t h => by rw [Qcc] at h; cases h) (fun n19 ih y17 h => ?_) N (0) h
     rw [Qcc] at h
     skip
     refine wx tbk [] trivial ?_
     refine wsq ?_
     rcases bft ((decide (y17 < (p0.Hours.length : Int)))) with hc20 | hc20
     ·replace h := Qar hc20 h
      refine wft hc20 (by kernel_rfl) ?_
      refine Qag ?_
      refine thn ?_
      obtain ⟨k21, hk_k21, h⟩ := jko h
      refine wjn (τ := Unit) (fun t => k21 t = some r) (fun _ => ⟨mk 141 [(1, (Qgq p1)), (3, .ref 0 3 0 0), (5, .ref 1 1 0 0), (6, .ref 2 1 0 0), (7, (Qe6 x3)), (39, (Qgb p0)), (40, (I ((p0.Hours.length : Int)))), (41, I y17)], [(Qea p0), (.own 1 [[(Qcf p2)]]), (.own 1 [[B false]])]⟩) (fun t h => ?_) ?_
      ·subst hk_k21
       refine wx1 tbk [] trivial ?_
       refine thn ?_
       exact arm (mto (n := 141) [(1, (Qgq p1)), (3, .ref 0 3 0 0), (5, .ref 1 1 0 0), (6, .ref 2 1 0 0), (7, (Qe6 x3)), (39, (Qgb p0)), (40, (I ((p0.Hours.length : Int)))), (41, (I (w64 (y17 + 1))))] [0, 1, 2] [(Qea p0), (.own 1 [[(Qcf p2)]]), (.own 1 [[B false]])] hφ0 (pc (.rn (.plain _ (nld Qaa _))) (pc (.rn (rqr rfl)) (pc (.rn (rqr rfl)) (pc (.rn (rqr rfl)) (pc (.rn (.plain _ (nld Qaa _))) (pc (.rn (.plain _ (nld Qac _))) (pc rwl (pc rwl pn)))))))) (qc (spb (lc rwl (lc rwl (lc (.rn (.plain _ (nld Qac _))) ln)))) (qc (spb (lc (.rn (.plain _ (nld Qaa _))) ln)) (qc (spb (lc rwl ln)) qn)))) (ih (w64 (y17 + 1)) h)
      ·skip
       refine Qai ?_
       obtain ⟨x22, hg23, h⟩ := bno h
       obtain ⟨hi24, hj25⟩ := gsm hg23
       refine wx tbk [(1, rp [(.tmp 39, (Qgb p0)), (.tmp 41, I y17)] (.dptr (Qaj (x22)) 0))] ⟨aid rfl Try.underlying45 ti62 rfl rfl hi24 (mgt Qaj hj25) rfl, trivial⟩ ?_
       obtain ⟨k26, hk_k26, h⟩ := jko h
       refine wjn (τ := Unit) (fun t => k26 t = some r) (fun _ => ⟨mk 141 [(1, (Qgq p1)), (3, .ref 0 3 0 0), (5, .ref 1 1 0 0), (6, .ref 2 1 0 0), (7, (Qe6 x3)), (9, .ref 3 1 0 0), (39, (Qgb p0)), (40, (I ((p0.Hours.length : Int)))), (41, I y17)], [(Qea p0), (.own 1 [[(Qcf p2)]]), (.own 1 [[B false]]), (.own 1 [[I y17]])]⟩) (fun t h => ?_) ?_
       ·subst hk_k26
        refine wsq ?_
        refine wx tbk [(3, rp [(.tmp 82, (Qgb p0))] (I ((p0.Hours.length : Int))))] ⟨alm (c := Qaj) (l := p0.Hours) (aln rfl Try.underlying45 rfl), trivial⟩ ?_
        rcases bft ((y17 == (w64 ((p0.Hours.length : Int) - 1)))) with hc27 | hc27
        ·replace h := Qar hc27 h
         refine wft hc27 (by kernel_rfl) ?_
         refine Qa3 ?_
         refine Qao ?_
         refine Qa2 rfl ?_
         refine thn ?_
         exact ⟨(), h, (mto (n := 141) [(1, (Qgq p1)), (3, .ref 0 3 0 0), (5, .ref 1 1 0 0), (6, .ref 2 1 0 0), (7, (Qe6 x3)), (39, (Qgb p0)), (40, (I ((p0.Hours.length : Int)))), (41, I y17)] [0, 1, 2] [(Qea p0), (.own 1 [[(Qcf p2)]]), (.own 1 [[B false]])] hφ0 (pc (.rn (.plain _ (nld Qaa _))) (pc (.rn (rqr rfl)) (pc (.rn (rqr rfl)) (pc (.rn (rqr rfl)) (pc (.rn (.plain _ (nld Qaa _))) (pc (.rn (.plain _ (nld Qac _))) (pc rwl (pc rwl pn)))))))) (qc (spb (lc rwl (lc rwl (lc (.rn (.plain _ (nld Qac _))) ln)))) (qc (spb (lc (.rn (.plain _ (nld Qaa _))) ln)) (qc (spb (lc rwl ln)) qn))))⟩
        ·replace h := Qas hc27 h
         refine wfn hc27 (by kernel_rfl) ?_
         refine Qag ?_
         refine thn ?_
         obtain ⟨x28, hg29, h⟩ := bno h
         obtain ⟨hi30, hj31⟩ := gsm hg29
         rcases bft ((decide (x28 < p0.Tank))) with hb32 | hb32
         ·replace h := Qar hb32 h
          obtain ⟨x33, hg34, h⟩ := bno h
          obtain ⟨hi35, hj36⟩ := gsm hg34
          obtain ⟨x37, hg38, h⟩ := bno h
          obtain ⟨hi39, hj40⟩ := gsm hg38
          rcases bft ((decide (x33 > x37))) with hb41 | hb41
          ·replace h := Qar hb41 h
           refine wxd tbk [(2, rp [(.tmp 86, (Qe6 x3)), (.tmp 87, I y17)] (.dptr (Qab (x28)) 0)), (7, rp [(.tmp 92, (B ((decide (x28 < p0.Tank)))))] (B true)), (11, rp [(.tmp 93, B true), (.tmp 94, (Qcf p2)), (.tmp 96, (I (w64 (y17 + 1))))] (.dptr (Qab (x33)) 0)), (15, rp [(.tmp 93, B true), (.tmp 99, (Qcf p2)), (.tmp 100, I y17)] (.dptr (Qab (x37)) 0)), (19, rp [(.tmp 104, (B ((decide (x33 > x37)))))] (B true))] ⟨aid rfl Try.underlying23 ti3 rfl rfl hi30 (mgt Qab hj31) rfl, asb hb32 (amv rfl), ag_ (aid rfl Try.underlying23 ti3 rfl rfl hi35 (mgt Qab hj36) rfl), ag_ (aid rfl Try.underlying23 ti3 rfl rfl hi39 (mgt Qab hj40) rfl), asb hb41 (amv rfl), trivial⟩ ?_
           refine Qcm (by kernel_rfl) ?_
           refine wx tbk [] trivial ?_
           refine Qah ?_
           refine Qak ?_
           refine Qad ?_
           refine Qad ?_
           refine Qak ?_
           refine Qad ?_
           obtain rfl := osi h
           exact fend ⟨[B false], ⟨Qc9 (n := 2) (m := 1) (j := 0) (i := 0) (xs := [[B false]]) (by kernel_rfl) (by kernel_rfl) ti4 (by decide) rfl (nle rfl) rfl, trivial⟩, rfl⟩ nll
          ·replace h := Qas hb41 h
           rcases bft ((decide (x28 > 0))) with hb42 | hb42
           ·replace h := Qar hb42 h
            refine wxd tbk [(2, rp [(.tmp 86, (Qe6 x3)), (.tmp 87, I y17)] (.dptr (Qab (x28)) 0)), (7, rp [(.tmp 92, (B ((decide (x28 < p0.Tank)))))] (B true)), (11, rp [(.tmp 93, B true), (.tmp 94, (Qcf p2)), (.tmp 96, (I (w64 (y17 + 1))))] (.dptr (Qab (x33)) 0)), (15, rp [(.tmp 93, B true), (.tmp 99, (Qcf p2)), (.tmp 100, I y17)] (.dptr (Qab (x37)) 0)), (19, rp [(.tmp 104, (B ((decide (x33 > x37)))))] (B false)), (22, rp [(.tmp 105, B false), (.tmp 106, (Qe6 x3)), (.tmp 107, I y17)] (.dptr (Qab (x28)) 0)), (25, rp [(.tmp 105, B false), (.tmp 110, (B ((decide (x28 > 0)))))] (B true)), (29, rp [(.tmp 111, B true), (.tmp 112, (Qcf p2)), (.tmp 114, (I (w64 (y17 + 1))))] (.dptr (Qab (x33)) 0)), (33, rp [(.tmp 111, B true), (.tmp 117, (Qcf p2)), (.tmp 118, I y17)] (.dptr (Qab (x37)) 0))] ⟨aid rfl Try.underlying23 ti3 rfl rfl hi30 (mgt Qab hj31) rfl, asb hb32 (amv rfl), ag_ (aid rfl Try.underlying23 ti3 rfl rfl hi35 (mgt Qab hj36) rfl), ag_ (aid rfl Try.underlying23 ti3 rfl rfl hi39 (mgt Qab hj40) rfl), asb hb41 (amv rfl), ag_ (aid rfl Try.underlying23 ti3 rfl rfl hi30 (mgt Qab hj31) rfl), asb hb42 (ag_ (amv rfl)), ag_ (aid rfl Try.underlying23 ti3 rfl rfl hi35 (mgt Qab hj36) rfl), ag_ (aid rfl Try.underlying23 ti3 rfl rfl hi39 (mgt Qab hj40) rfl), trivial⟩ ?_
            rcases bft ((decide (x33 < x37))) with hc43 | hc43
            ·replace h := Qar hc43 h
             refine wft hc43 (by kernel_rfl) ?_
             refine wx tbk [] trivial ?_
             refine Qah ?_
             refine Qak ?_
             refine Qad ?_
             refine Qad ?_
             refine Qak ?_
             refine Qad ?_
             obtain rfl := osi h
             exact fend ⟨[B false], ⟨Qc9 (n := 2) (m := 1) (j := 0) (i := 0) (xs := [[B false]]) (by kernel_rfl) (by kernel_rfl) ti4 (by decide) rfl (nle rfl) rfl, trivial⟩, rfl⟩ nll
            ·replace h := Qas hc43 h
             refine wfn hc43 (by kernel_rfl) ?_
             refine Qag ?_
             refine bln ?_
             refine thn ?_
             exact ⟨(), h, (mto (n := 141) [(1, (Qgq p1)), (3, .ref 0 3 0 0), (5, .ref 1 1 0 0), (6, .ref 2 1 0 0), (7, (Qe6 x3)), (39, (Qgb p0)), (40, (I ((p0.Hours.length : Int)))), (41, I y17)] [0, 1, 2] [(Qea p0), (.own 1 [[(Qcf p2)]]), (.own 1 [[B false]])] hφ0 (pc (.rn (.plain _ (nld Qaa _))) (pc (.rn (rqr rfl)) (pc (.rn (rqr rfl)) (pc (.rn (rqr rfl)) (pc (.rn (.plain _ (nld Qaa _))) (pc (.rn (.plain _ (nld Qac _))) (pc rwl (pc rwl pn)))))))) (qc (spb (lc rwl (lc rwl (lc (.rn (.plain _ (nld Qac _))) ln)))) (qc (spb (lc (.rn (.plain _ (nld Qaa _))) ln)) (qc (spb (lc rwl ln)) qn))))⟩
           ·replace h := Qas hb42 h
            refine wxd tbk [(2, rp [(.tmp 86, (Qe6 x3)), (.tmp 87, I y17)] (.dptr (Qab (x28)) 0)), (7, rp [(.tmp 92, (B ((decide (x28 < p0.Tank)))))] (B true)), (11, rp [(.tmp 93, B true), (.tmp 94, (Qcf p2)), (.tmp 96, (I (w64 (y17 + 1))))] (.dptr (Qab (x33)) 0)), (15, rp [(.tmp 93, B true), (.tmp 99, (Qcf p2)), (.tmp 100, I y17)] (.dptr (Qab (x37)) 0)), (19, rp [(.tmp 104, (B ((decide (x33 > x37)))))] (B false)), (22, rp [(.tmp 105, B false), (.tmp 106, (Qe6 x3)), (.tmp 107, I y17)] (.dptr (Qab (x28)) 0)), (25, rp [(.tmp 105, B false), (.tmp 110, (B ((decide (x28 > 0)))))] (B false))] ⟨aid rfl Try.underlying23 ti3 rfl rfl hi30 (mgt Qab hj31) rfl, asb hb32 (amv rfl), ag_ (aid rfl Try.underlying23 ti3 rfl rfl hi35 (mgt Qab hj36) rfl), ag_ (aid rfl Try.underlying23 ti3 rfl rfl hi39 (mgt Qab hj40) rfl), asb hb41 (amv rfl), ag_ (aid rfl Try.underlying23 ti3 rfl rfl hi30 (mgt Qab hj31) rfl), asb hb42 (ag_ (amv rfl)), trivial⟩ ?_
            refine Qdj (by kernel_rfl) ?_
            refine Qag ?_
            refine bln ?_
            refine thn ?_
            exact ⟨(), h, (mto (n := 141) [(1, (Qgq p1)), (3, .ref 0 3 0 0), (5, .ref 1 1 0 0), (6, .ref 2 1 0 0), (7, (Qe6 x3)), (39, (Qgb p0)), (40, (I ((p0.Hours.length : Int)))), (41, I y17)] [0, 1, 2] [(Qea p0), (.own 1 [[(Qcf p2)]]), (.own 1 [[B false]])] hφ0 (pc (.rn (.plain _ (nld Qaa _))) (pc (.rn (rqr rfl)) (pc (.rn (rqr rfl)) (pc (.rn (rqr rfl)) (pc (.rn (.plain _ (nld Qaa _))) (pc (.rn (.plain _ (nld Qac _))) (pc rwl (pc rwl pn)))))))) (qc (spb (lc rwl (lc rwl (lc (.rn (.plain _ (nld Qac _))) ln)))) (qc (spb (lc (.rn (.plain _ (nld Qaa _))) ln)) (qc (spb (lc rwl ln)) qn))))⟩
         ·replace h := Qas hb32 h
          rcases bft ((decide (x28 > 0))) with hb44 | hb44
          ·replace h := Qar hb44 h
           obtain ⟨x45, hg46, h⟩ := bno h
           obtain ⟨hi47, hj48⟩ := gsm hg46
           obtain ⟨x49, hg50, h⟩ := bno h
           obtain ⟨hi51, hj52⟩ := gsm hg50
           refine wxd tbk [(2, rp [(.tmp 86, (Qe6 x3)), (.tmp 87, I y17)] (.dptr (Qab (x28)) 0)), (7, rp [(.tmp 92, (B ((decide (x28 < p0.Tank)))))] (B false)), (22, rp [(.tmp 105, B false), (.tmp 106, (Qe6 x3)), (.tmp 107, I y17)] (.dptr (Qab (x28)) 0)), (25, rp [(.tmp 105, B false), (.tmp 110, (B ((decide (x28 > 0)))))] (B true)), (29, rp [(.tmp 111, B true), (.tmp 112, (Qcf p2)), (.tmp 114, (I (w64 (y17 + 1))))] (.dptr (Qab (x45)) 0)), (33, rp [(.tmp 111, B true), (.tmp 117, (Qcf p2)), (.tmp 118, I y17)] (.dptr (Qab (x49)) 0))] ⟨aid rfl Try.underlying23 ti3 rfl rfl hi30 (mgt Qab hj31) rfl, asb hb32 (amv rfl), ag_ (aid rfl Try.underlying23 ti3 rfl rfl hi30 (mgt Qab hj31) rfl), asb hb44 (ag_ (amv rfl)), ag_ (aid rfl Try.underlying23 ti3 rfl rfl hi47 (mgt Qab hj48) rfl), ag_ (aid rfl Try.underlying23 ti3 rfl rfl hi51 (mgt Qab hj52) rfl), trivial⟩ ?_
           rcases bft ((decide (x45 < x49))) with hc53 | hc53
           ·replace h := Qar hc53 h
            refine wft hc53 (by kernel_rfl) ?_
            refine wx tbk [] trivial ?_
            refine Qah ?_
            refine Qak ?_
            refine Qad ?_
            refine Qad ?_
            refine Qak ?_
            refine Qad ?_
            obtain rfl := osi h
            exact fend ⟨[B false], ⟨Qc9 (n := 2) (m := 1) (j := 0) (i := 0) (xs := [[B false]]) (by kernel_rfl) (by kernel_rfl) ti4 (by decide) rfl (nle rfl) rfl, trivial⟩, rfl⟩ nll
           ·replace h := Qas hc53 h
            refine wfn hc53 (by kernel_rfl) ?_
            refine Qag ?_
            refine bln ?_
            refine thn ?_
            exact ⟨(), h, (mto (n := 141) [(1, (Qgq p1)), (3, .ref 0 3 0 0), (5, .ref 1 1 0 0), (6, .ref 2 1 0 0), (7, (Qe6 x3)), (39, (Qgb p0)), (40, (I ((p0.Hours.length : Int)))), (41, I y17)] [0, 1, 2] [(Qea p0), (.own 1 [[(Qcf p2)]]), (.own 1 [[B false]])] hφ0 (pc (.rn (.plain _ (nld Qaa _))) (pc (.rn (rqr rfl)) (pc (.rn (rqr rfl)) (pc (.rn (rqr rfl)) (pc (.rn (.plain _ (nld Qaa _))) (pc (.rn (.plain _ (nld Qac _))) (pc rwl (pc rwl pn)))))))) (qc (spb (lc rwl (lc rwl (lc (.rn (.plain _ (nld Qac _))) ln)))) (qc (spb (lc (.rn (.plain _ (nld Qaa _))) ln)) (qc (spb (lc rwl ln)) qn))))⟩
          ·replace h := Qas hb44 h
           refine wxd tbk [(2, rp [(.tmp 86, (Qe6 x3)), (.tmp 87, I y17)] (.dptr (Qab (x28)) 0)), (7, rp [(.tmp 92, (B ((decide (x28 < p0.Tank)))))] (B false)), (22, rp [(.tmp 105, B false), (.tmp 106, (Qe6 x3)), (.tmp 107, I y17)] (.dptr (Qab (x28)) 0)), (25, rp [(.tmp 105, B false), (.tmp 110, (B ((decide (x28 > 0)))))] (B false))] ⟨aid rfl Try.underlying23 ti3 rfl rfl hi30 (mgt Qab hj31) rfl, asb hb32 (amv rfl), ag_ (aid rfl Try.underlying23 ti3 rfl rfl hi30 (mgt Qab hj31) rfl), asb hb44 (ag_ (amv rfl)), trivial⟩ ?_
           refine Qdj (by kernel_rfl) ?_
           refine Qag ?_
           refine bln ?_
           refine thn ?_
           exact ⟨(), h, (mto (n := 141) [(1, (Qgq p1)), (3, .ref 0 3 0 0), (5, .ref 1 1 0 0), (6, .ref 2 1 0 0), (7, (Qe6 x3)), (39, (Qgb p0)), (40, (I ((p0.Hours.length : Int)))), (41, I y17)] [0, 1, 2] [(Qea p0), (.own 1 [[(Qcf p2)]]), (.own 1 [[B false]])] hφ0 (pc (.rn (.plain _ (nld Qaa _))) (pc (.rn (rqr rfl)) (pc (.rn (rqr rfl)) (pc (.rn (rqr rfl)) (pc (.rn (.plain _ (nld Qaa _))) (pc (.rn (.plain _ (nld Qac _))) (pc rwl (pc rwl pn)))))))) (qc (spb (lc rwl (lc rwl (lc (.rn (.plain _ (nld Qac _))) ln)))) (qc (spb (lc (.rn (.plain _ (nld Qaa _))) ln)) (qc (spb (lc rwl ln)) qn))))⟩
       ·skip
        obtain ⟨x54, hg55, h⟩ := bno h
        obtain ⟨hi56, hj57⟩ := gsm hg55
        obtain ⟨x59, hf58, h⟩ := bno h
        refine wxd tbk [(3, rp [(.tmp 47, (Qgq p1)), (.tmp 48, I y17)] (.dptr (Qab (x54)) 0)), (5, ⟨[fu 93, (.tmp 46, (.agg [I x22.Use, (Qsz x22)])), (.tmp 50, I x54)], [(5, .unused), (6, .unused)], Qs0, [(5, (Qnw x22)), (6, .own 1 [[I x54]])], false⟩)] ⟨aid rfl Try.underlying23 ti3 rfl rfl hi56 (mgt Qab hj57) rfl, Qat (first := []) (cap := []) (vs := [(.agg [I x22.Use, (Qsz x22)]), I x54]) (σr := []) (σr' := [(Qnw x22), (.own 1 [[I x54]])]) (res' := Qs0) [5, 6] rfl Qtj (Qf4 N x22 x54 _ hf58) rfl (Qcq (rnc (.plain _ (NLt.agg _ (nlc nll (nlc (nld Qa5 _) nl0)))) (rnc (.plain _ nll) rn0))) Qap (slc (Qam (rnc (.plain _ nll) (rnc (.plain _ (nld Qa5 _)) rn0))) (slc (Qam (rnc (.plain _ nll) rn0)) Qap)) (Qay rn0 (rnc (Qge rfl) (rnc (Qge rfl) rn0))) rfl rfl rfl, trivial⟩ ?_
        refine Qai ?_
        obtain ⟨q60, hL61, h⟩ := bno h
        refine wmr (mto (n := 141) (l' := [(1, (Qgq p1)), (3, .ref 0 3 0 0), (5, .ref 1 1 0 0), (6, .ref 2 1 0 0), (7, (Qe6 x3)), (9, .ref 3 1 0 0), (39, (Qgb p0)), (40, (I ((p0.Hours.length : Int)))), (41, I y17), (51, (.fn (.func 109) [] [.ref 4 2 0 0, .ref 5 1 0 0]))]) (own' := [(Qea p0), (.own 1 [[(Qcf p2)]]), (.own 1 [[B false]]), (.own 1 [[I y17]]), (Qnw x22), (.own 1 [[I x54]])]) [(1, (Qgq p1)), (3, .ref 0 3 0 0), (5, .ref 1 1 0 0), (6, .ref 2 1 0 0), (7, (Qe6 x3)), (9, .ref 3 1 0 0), (39, (Qgb p0)), (40, (I ((p0.Hours.length : Int)))), (41, I y17), (51, Qs0)] [0, 1, 2, 3, 5, 6] [(Qea p0), (.own 1 [[(Qcf p2)]]), (.own 1 [[B false]]), (.own 1 [[I y17]]), (Qnw x22), (.own 1 [[I x54]])] hφ0 (pc (.rn (.plain _ (nld Qaa _))) (pc (.rn (rqr rfl)) (pc (.rn (rqr rfl)) (pc (.rn (rqr rfl)) (pc (.rn (.plain _ (nld Qaa _))) (pc (.rn (rqr rfl)) (pc (.rn (.plain _ (nld Qac _))) (pc rwl (pc rwl (pc (.rn (Qay rn0 (rnc (rqr rfl) (rnc (rqr rfl) rn0)))) pn)))))))))) (qc (spb (lc rwl (lc rwl (lc (.rn (.plain _ (nld Qac _))) ln)))) (qc (spb (lc (.rn (.plain _ (nld Qaa _))) ln)) (qc (spb (lc rwl ln)) (qc (spb (lc rwl ln)) (qc (spb (lc rwl (lc (.rn (.plain _ (nld Qa5 _))) ln))) (qc (spb (lc rwl ln)) qn))))))) ?_
        refine Qi2 (τ := (Unit)) (kb := 6) (caps := [.ref 4 2 0 0, .ref 5 1 0 0]) (σr := [(Qnw x22), (.own 1 [[I x54]])]) (encs := fun x => [(.agg #[(.int .i64 (x.1.Amount)), (.int .i64 (x.1.Price))]), (.int .i64 (x.2))]) (fun x => [(.agg [I x.1.Amount, I x.1.Price]), I x.2]) [4, 5] (fun n hn => hφ0 n (Nat.le_trans (nle rfl) hn)) (Qf3 N x22.Use x22.Stairs x54 _ hL61) Qq1 (by kernel_rfl) (by kernel_rfl) (Qcq (rnc (Qge rfl) (rnc (Qge rfl) rn0))) (slc (Qam (rnc (.plain _ nll) (rnc (.plain _ (nld Qa5 _)) rn0))) (slc (Qam (rnc (.plain _ nll) rn0)) Qap)) (by kernel_rfl) (fun _ => rfl) (fun x => ⟨(Less.unlits [(.int .i64 (x.1.Amount)), (.int .i64 (x.1.Price))]), lrf, trivial⟩) (Qr5 (Qdl (NLt.of0 (nld Qaa _)) (Qdl (NLt.ref _ _ _ _ (by decide)) (Qdl (NLt.ref _ _ _ _ (by decide)) (Qdl (NLt.ref _ _ _ _ (by decide)) (Qdl (NLt.of0 (nld Qaa _)) (Qdl (NLt.ref _ _ _ _ (by decide)) (Qdl (NLt.of0 (nld Qac _)) (Qdl (NLt.of0 nll) (Qdl (NLt.of0 nll) (Qdl (NLt.fn _ _ _ nl0 (nlc (NLt.ref _ _ _ _ (by decide)) (nlc (NLt.ref _ _ _ _ (by decide)) nl0))) Qoc))))))))))) (fun _ => [(Qea p0), (.own 1 [[(Qcf p2)]]), (.own 1 [[B false]]), (.own 1 [[I y17]]), .dead, .dead]) (fun _ => rfl) (fun _ => rfl) (fun l t => Qa4 N p2 y17 k26 l = some r) () h (by kernel_rfl) ?_ ?_
        ·intro l65 o66 X69 φ70 w71 hφ68 x63 q64 t h
         rw [Qa4] at h
         refine wx tbk [] trivial ?_
         refine wx1 tbk [] trivial ?_
         refine ⟨by kernel_rfl, fun o67 => ?_⟩
         refine Qai ?_
         rcases bft ((decide (x63.2 > 0))) with hb72 | hb72
         ·replace h := Qar hb72 h
          obtain ⟨x73, hg74, h⟩ := bno h
          obtain ⟨hi75, hj76⟩ := gsm hg74
          rcases bft ((decide (x63.1.Price > x73))) with hb77 | hb77
          ·replace h := Qar hb77 h
           refine wxd tbk [(2, rp [(.tmp 55, (B ((decide (x63.2 > 0)))))] (B true)), (7, rp [(.tmp 56, B true), (.tmp 59, (Qcf p2)), (.tmp 60, I y17)] (.dptr (Qab (x73)) 0)), (11, rp [(.tmp 64, (B ((decide (x63.1.Price > x73)))))] (B true))] ⟨asb hb72 (amv rfl), ag_ (aid rfl Try.underlying23 ti3 rfl rfl hi75 (mgt Qab hj76) rfl), asb hb77 (amv rfl), trivial⟩ ?_
           refine Qcm (by kernel_rfl) ?_
           refine wx tbk [] trivial ?_
           refine Qah ?_
           refine Qak ?_
           refine ⟨[(Qea p0), (.own 1 [[(Qcf p2)]]), (.own 1 [[B false]]), (.own 1 [[I y17]]), .dead, .dead], by kernel_rfl, ?_, Qjt (own' := [(Qea p0), (.own 1 [[(Qcf p2)]]), (.own 1 [[B false]]), (.own 1 [[I y17]]), .dead, .dead, (.far (farL l65 o67))]) [0, 1, 2, 3, 4, 5, 6] [(Qea p0), (.own 1 [[(Qcf p2)]]), (.own 1 [[B false]]), (.own 1 [[I y17]]), .dead, .dead, (.far (farL l65 o67))] (by kernel_rfl) (by kernel_rfl) ⟨(spb (lc (.rn (.plain _ nll)) (lc (.rn (.plain _ nll)) (lc (.rn (.plain _ (nld Qac _))) ln)))), (spb (lc (.rn (.plain _ (nld Qaa _))) ln)), (spb (lc (.rn (.plain _ nll)) ln)), (spb (lc (.rn (.plain _ nll)) ln)), .dead, .dead, .far _, trivial⟩⟩
           refine Qak ?_
           refine Qad ?_
           refine Qak ?_
           refine Qad ?_
           refine Qad ?_
           refine Qak ?_
           refine Qad ?_
           obtain rfl := osi h
           exact fend ⟨[B false], ⟨Qc9 (n := 2) (m := 1) (j := 0) (i := 0) (xs := [[B false]]) (by kernel_rfl) (by kernel_rfl) ti4 (by decide) rfl (nle rfl) rfl, trivial⟩, rfl⟩ nll
          ·replace h := Qas hb77 h
           rcases bft ((decide (x63.2 < x63.1.Amount))) with hb78 | hb78
           ·replace h := Qar hb78 h
            refine wxd tbk [(2, rp [(.tmp 55, (B ((decide (x63.2 > 0)))))] (B true)), (7, rp [(.tmp 56, B true), (.tmp 59, (Qcf p2)), (.tmp 60, I y17)] (.dptr (Qab (x73)) 0)), (11, rp [(.tmp 64, (B ((decide (x63.1.Price > x73)))))] (B false)), (16, rp [(.tmp 65, B false), (.tmp 69, (B ((decide (x63.2 < x63.1.Amount)))))] (B true)), (21, rp [(.tmp 70, B true), (.tmp 73, (Qcf p2)), (.tmp 74, I y17)] (.dptr (Qab (x73)) 0))] ⟨asb hb72 (amv rfl), ag_ (aid rfl Try.underlying23 ti3 rfl rfl hi75 (mgt Qab hj76) rfl), asb hb77 (amv rfl), asb hb78 (ag_ (amv rfl)), ag_ (aid rfl Try.underlying23 ti3 rfl rfl hi75 (mgt Qab hj76) rfl), trivial⟩ ?_
            rcases bft ((decide (x63.1.Price < x73))) with hc79 | hc79
            ·replace h := Qar hc79 h
             refine wft hc79 (by kernel_rfl) ?_
             refine wx tbk [] trivial ?_
             refine Qah ?_
             refine Qak ?_
             refine ⟨[(Qea p0), (.own 1 [[(Qcf p2)]]), (.own 1 [[B false]]), (.own 1 [[I y17]]), .dead, .dead], by kernel_rfl, ?_, Qjt (own' := [(Qea p0), (.own 1 [[(Qcf p2)]]), (.own 1 [[B false]]), (.own 1 [[I y17]]), .dead, .dead, (.far (farL l65 o67))]) [0, 1, 2, 3, 4, 5, 6] [(Qea p0), (.own 1 [[(Qcf p2)]]), (.own 1 [[B false]]), (.own 1 [[I y17]]), .dead, .dead, (.far (farL l65 o67))] (by kernel_rfl) (by kernel_rfl) ⟨(spb (lc (.rn (.plain _ nll)) (lc (.rn (.plain _ nll)) (lc (.rn (.plain _ (nld Qac _))) ln)))), (spb (lc (.rn (.plain _ (nld Qaa _))) ln)), (spb (lc (.rn (.plain _ nll)) ln)), (spb (lc (.rn (.plain _ nll)) ln)), .dead, .dead, .far _, trivial⟩⟩
             refine Qak ?_
             refine Qad ?_
             refine Qak ?_
             refine Qad ?_
             refine Qad ?_
             refine Qak ?_
             refine Qad ?_
             obtain rfl := osi h
             exact fend ⟨[B false], ⟨Qc9 (n := 2) (m := 1) (j := 0) (i := 0) (xs := [[B false]]) (by kernel_rfl) (by kernel_rfl) ti4 (by decide) rfl (nle rfl) rfl, trivial⟩, rfl⟩ nll
            ·replace h := Qas hc79 h
             refine wfn hc79 (by kernel_rfl) ?_
             refine Qag ?_
             refine bln ?_
             exact ⟨(), h, Qjt (own' := [(Qea p0), (.own 1 [[(Qcf p2)]]), (.own 1 [[B false]]), (.own 1 [[I y17]]), .dead, .dead, (.far (farL l65 o67))]) [0, 1, 2, 3, 4, 5, 6] [(Qea p0), (.own 1 [[(Qcf p2)]]), (.own 1 [[B false]]), (.own 1 [[I y17]]), .dead, .dead, (.far (farL l65 o67))] (by kernel_rfl) (by kernel_rfl) ⟨(spb (lc rwl (lc rwl (lc (.rn (.plain _ (nld Qac _))) ln)))), (spb (lc (.rn (.plain _ (nld Qaa _))) ln)), (spb (lc rwl ln)), (spb (lc rwl ln)), .dead, .dead, .far _, trivial⟩⟩
           ·replace h := Qas hb78 h
            refine wxd tbk [(2, rp [(.tmp 55, (B ((decide (x63.2 > 0)))))] (B true)), (7, rp [(.tmp 56, B true), (.tmp 59, (Qcf p2)), (.tmp 60, I y17)] (.dptr (Qab (x73)) 0)), (11, rp [(.tmp 64, (B ((decide (x63.1.Price > x73)))))] (B false)), (16, rp [(.tmp 65, B false), (.tmp 69, (B ((decide (x63.2 < x63.1.Amount)))))] (B false))] ⟨asb hb72 (amv rfl), ag_ (aid rfl Try.underlying23 ti3 rfl rfl hi75 (mgt Qab hj76) rfl), asb hb77 (amv rfl), asb hb78 (ag_ (amv rfl)), trivial⟩ ?_
            refine Qdj (by kernel_rfl) ?_
            refine Qag ?_
            refine bln ?_
            exact ⟨(), h, Qjt (own' := [(Qea p0), (.own 1 [[(Qcf p2)]]), (.own 1 [[B false]]), (.own 1 [[I y17]]), .dead, .dead, (.far (farL l65 o67))]) [0, 1, 2, 3, 4, 5, 6] [(Qea p0), (.own 1 [[(Qcf p2)]]), (.own 1 [[B false]]), (.own 1 [[I y17]]), .dead, .dead, (.far (farL l65 o67))] (by kernel_rfl) (by kernel_rfl) ⟨(spb (lc rwl (lc rwl (lc (.rn (.plain _ (nld Qac _))) ln)))), (spb (lc (.rn (.plain _ (nld Qaa _))) ln)), (spb (lc rwl ln)), (spb (lc rwl ln)), .dead, .dead, .far _, trivial⟩⟩
         ·replace h := Qas hb72 h
          rcases bft ((decide (x63.2 < x63.1.Amount))) with hb80 | hb80
          ·replace h := Qar hb80 h
           obtain ⟨x81, hg82, h⟩ := bno h
           obtain ⟨hi83, hj84⟩ := gsm hg82
           refine wxd tbk [(2, rp [(.tmp 55, (B ((decide (x63.2 > 0)))))] (B false)), (16, rp [(.tmp 65, B false), (.tmp 69, (B ((decide (x63.2 < x63.1.Amount)))))] (B true)), (21, rp [(.tmp 70, B true), (.tmp 73, (Qcf p2)), (.tmp 74, I y17)] (.dptr (Qab (x81)) 0))] ⟨asb hb72 (amv rfl), asb hb80 (ag_ (amv rfl)), ag_ (aid rfl Try.underlying23 ti3 rfl rfl hi83 (mgt Qab hj84) rfl), trivial⟩ ?_
           rcases bft ((decide (x63.1.Price < x81))) with hc85 | hc85
           ·replace h := Qar hc85 h
            refine wft hc85 (by kernel_rfl) ?_
            refine wx tbk [] trivial ?_
            refine Qah ?_
            refine Qak ?_
            refine ⟨[(Qea p0), (.own 1 [[(Qcf p2)]]), (.own 1 [[B false]]), (.own 1 [[I y17]]), .dead, .dead], by kernel_rfl, ?_, Qjt (own' := [(Qea p0), (.own 1 [[(Qcf p2)]]), (.own 1 [[B false]]), (.own 1 [[I y17]]), .dead, .dead, (.far (farL l65 o67))]) [0, 1, 2, 3, 4, 5, 6] [(Qea p0), (.own 1 [[(Qcf p2)]]), (.own 1 [[B false]]), (.own 1 [[I y17]]), .dead, .dead, (.far (farL l65 o67))] (by kernel_rfl) (by kernel_rfl) ⟨(spb (lc (.rn (.plain _ nll)) (lc (.rn (.plain _ nll)) (lc (.rn (.plain _ (nld Qac _))) ln)))), (spb (lc (.rn (.plain _ (nld Qaa _))) ln)), (spb (lc (.rn (.plain _ nll)) ln)), (spb (lc (.rn (.plain _ nll)) ln)), .dead, .dead, .far _, trivial⟩⟩
            refine Qak ?_
            refine Qad ?_
            refine Qak ?_
            refine Qad ?_
            refine Qad ?_
            refine Qak ?_
            refine Qad ?_
            obtain rfl := osi h
            exact fend ⟨[B false], ⟨Qc9 (n := 2) (m := 1) (j := 0) (i := 0) (xs := [[B false]]) (by kernel_rfl) (by kernel_rfl) ti4 (by decide) rfl (nle rfl) rfl, trivial⟩, rfl⟩ nll
           ·replace h := Qas hc85 h
            refine wfn hc85 (by kernel_rfl) ?_
            refine Qag ?_
            refine bln ?_
            exact ⟨(), h, Qjt (own' := [(Qea p0), (.own 1 [[(Qcf p2)]]), (.own 1 [[B false]]), (.own 1 [[I y17]]), .dead, .dead, (.far (farL l65 o67))]) [0, 1, 2, 3, 4, 5, 6] [(Qea p0), (.own 1 [[(Qcf p2)]]), (.own 1 [[B false]]), (.own 1 [[I y17]]), .dead, .dead, (.far (farL l65 o67))] (by kernel_rfl) (by kernel_rfl) ⟨(spb (lc rwl (lc rwl (lc (.rn (.plain _ (nld Qac _))) ln)))), (spb (lc (.rn (.plain _ (nld Qaa _))) ln)), (spb (lc rwl ln)), (spb (lc rwl ln)), .dead, .dead, .far _, trivial⟩⟩
          ·replace h := Qas hb80 h
           refine wxd tbk [(2, rp [(.tmp 55, (B ((decide (x63.2 > 0)))))] (B false)), (16, rp [(.tmp 65, B false), (.tmp 69, (B ((decide (x63.2 < x63.1.Amount)))))] (B false))] ⟨asb hb72 (amv rfl), asb hb80 (ag_ (amv rfl)), trivial⟩ ?_
           refine Qdj (by kernel_rfl) ?_
           refine Qag ?_
           refine bln ?_
           exact ⟨(), h, Qjt (own' := [(Qea p0), (.own 1 [[(Qcf p2)]]), (.own 1 [[B false]]), (.own 1 [[I y17]]), .dead, .dead, (.far (farL l65 o67))]) [0, 1, 2, 3, 4, 5, 6] [(Qea p0), (.own 1 [[(Qcf p2)]]), (.own 1 [[B false]]), (.own 1 [[I y17]]), .dead, .dead, (.far (farL l65 o67))] (by kernel_rfl) (by kernel_rfl) ⟨(spb (lc rwl (lc rwl (lc (.rn (.plain _ (nld Qac _))) ln)))), (spb (lc (.rn (.plain _ (nld Qaa _))) ln)), (spb (lc rwl ln)), (spb (lc rwl ln)), .dead, .dead, .far _, trivial⟩⟩
        ·intro t h
         rw [Qa4] at h
         refine bln ?_
         refine thn ?_
         exact ⟨(), h, (mto (n := 141) [(1, (Qgq p1)), (3, .ref 0 3 0 0), (5, .ref 1 1 0 0), (6, .ref 2 1 0 0), (7, (Qe6 x3)), (9, .ref 3 1 0 0), (39, (Qgb p0)), (40, (I ((p0.Hours.length : Int)))), (41, I y17)] [0, 1, 2, 3] [(Qea p0), (.own 1 [[(Qcf p2)]]), (.own 1 [[B false]]), (.own 1 [[I y17]])] hφ0 (pc (.rn (.plain _ (nld Qaa _))) (pc (.rn (rqr rfl)) (pc (.rn (rqr rfl)) (pc (.rn (rqr rfl)) (pc (.rn (.plain _ (nld Qaa _))) (pc (.rn (rqr rfl)) (pc (.rn (.plain _ (nld Qac _))) (pc rwl (pc rwl pn))))))))) (qc (spb (lc rwl (lc rwl (lc (.rn (.plain _ (nld Qac _))) ln)))) (qc (spb (lc (.rn (.plain _ (nld Qaa _))) ln)) (qc (spb (lc rwl ln)) (qc (spb (lc rwl ln)) qn)))))⟩
     ·replace h := Qas hc20 h
      refine wfn hc20 (by kernel_rfl) ?_
      refine Qa3 ?_
      refine Qao ?_
      refine Qao ?_
      refine Qa2 rfl ?_
      refine thn ?_
      exact ⟨(), h, (mto (n := 141) [(3, .ref 0 3 0 0), (5, .ref 1 1 0 0), (6, .ref 2 1 0 0), (7, (Qe6 x3))] [0, 1, 2] [(Qea p0), (.own 1 [[(Qcf p2)]]), (.own 1 [[B false]])] hφ0 (pc (.rn (rqr rfl)) (pc (.rn (rqr rfl)) (pc (.rn (rqr rfl)) (pc (.rn (.plain _ (nld Qaa _))) pn)))) (qc (spb (lc rwl (lc rwl (lc (.rn (.plain _ (nld Qac _))) ln)))) (qc (spb (lc (.rn (.plain _ (nld Qaa _))) ln)) (qc (spb (lc rwl ln)) qn))))⟩
  ·skip
   obtain ⟨x87, hf86, h⟩ := bno h
   rcases bft ((!x87)) with hb88 | hb88
   ·replace h := Qar hb88 h
    refine wx tbk [(1, rp [fu 74, (.tmp 14, (Qmw p0))] (B x87)), (3, rp [(.tmp 16, (B ((!x87))))] (B true))] ⟨apc (first := []) (cap := []) (vs := [(Qmw p0)]) rfl Qol (Qe3 N p0 _ hf86) rfl rfl (nlc (NLt.agg _ (nlc nll (nlc nll (nlc (nld Qac _) nl0)))) nl0) nll rfl, asb hb88 (amv rfl), trivial⟩ ?_
    refine Qcm (by kernel_rfl) ?_
    refine wx tbk [] trivial ?_
    refine Qah ?_
    refine Qad ?_
    obtain rfl := osi h
    exact fend ⟨[B false], ⟨Qc9 (n := 2) (m := 1) (j := 0) (i := 0) (xs := [[B false]]) (by kernel_rfl) (by kernel_rfl) ti4 (by decide) rfl (nle rfl) rfl, trivial⟩, rfl⟩ nll
   ·replace h := Qas hb88 h
    rcases bft (((p2.length : Int) != (p0.Hours.length : Int))) with hb89 | hb89
    ·replace h := Qar hb89 h
     refine wx tbk [(1, rp [fu 74, (.tmp 14, (Qmw p0))] (B x87)), (3, rp [(.tmp 16, (B ((!x87))))] (B false)), (5, rp [(.tmp 17, B false), (.tmp 18, (Qcf p2))] (I ((p2.length : Int)))), (8, rp [(.tmp 17, B false), (.tmp 21, (Qgb p0))] (I ((p0.Hours.length : Int)))), (11, rp [(.tmp 24, (B (((p2.length : Int) != (p0.Hours.length : Int)))))] (B true))] ⟨apc (first := []) (cap := []) (vs := [(Qmw p0)]) rfl Qol (Qe3 N p0 _ hf86) rfl rfl (nlc (NLt.agg _ (nlc nll (nlc nll (nlc (nld Qac _) nl0)))) nl0) nll rfl, asb hb88 (amv rfl), ag_ (alm (c := Qab) (l := p2) (aln rfl Try.underlying23 rfl)), ag_ (alm (c := Qaj) (l := p0.Hours) (aln rfl Try.underlying45 rfl)), asb hb89 (amv rfl), trivial⟩ ?_
     refine Qcm (by kernel_rfl) ?_
     refine wx tbk [] trivial ?_
     refine Qah ?_
     refine Qad ?_
     obtain rfl := osi h
     exact fend ⟨[B false], ⟨Qc9 (n := 2) (m := 1) (j := 0) (i := 0) (xs := [[B false]]) (by kernel_rfl) (by kernel_rfl) ti4 (by decide) rfl (nle rfl) rfl, trivial⟩, rfl⟩ nll
    ·replace h := Qas hb89 h
     obtain ⟨x91, hf90, h⟩ := bno h
     refine wx tbk [(1, rp [fu 74, (.tmp 14, (Qmw p0))] (B x87)), (3, rp [(.tmp 16, (B ((!x87))))] (B false)), (5, rp [(.tmp 17, B false), (.tmp 18, (Qcf p2))] (I ((p2.length : Int)))), (8, rp [(.tmp 17, B false), (.tmp 21, (Qgb p0))] (I ((p0.Hours.length : Int)))), (11, rp [(.tmp 24, (B (((p2.length : Int) != (p0.Hours.length : Int)))))] (B false)), (13, rp [(.tmp 25, B false), fu 90, (.tmp 26, (Qcf p2)), fu 91] (B x91))] ⟨apc (first := []) (cap := []) (vs := [(Qmw p0)]) rfl Qol (Qe3 N p0 _ hf86) rfl rfl (nlc (NLt.agg _ (nlc nll (nlc nll (nlc (nld Qac _) nl0)))) nl0) nll rfl, asb hb88 (amv rfl), ag_ (alm (c := Qab) (l := p2) (aln rfl Try.underlying23 rfl)), ag_ (alm (c := Qaj) (l := p0.Hours) (aln rfl Try.underlying45 rfl)), asb hb89 (amv rfl), ag_ (Qat (first := []) (cap := []) (vs := [(Qcf p2), (.fn (.func 91) [] [])]) (σr := []) (σr' := []) (res' := (B x91)) [] rfl Qy4 (Qlt N p2 _ hf90) rfl (Qcq (rnc (.plain _ (nld Qaa _)) (rnc (.plain _ (NLt.fn _ _ _ nl0 nl0)) rn0))) Qap Qap (.plain _ nll) rfl rfl rfl), trivial⟩ ?_
     rcases bft ((!x91)) with hc92 | hc92
     ·replace h := Qar hc92 h
      refine wft hc92 (by kernel_rfl) ?_
      refine wx tbk [] trivial ?_
      refine Qah ?_
      refine Qad ?_
      obtain rfl := osi h
      exact fend ⟨[B false], ⟨Qc9 (n := 2) (m := 1) (j := 0) (i := 0) (xs := [[B false]]) (by kernel_rfl) (by kernel_rfl) ti4 (by decide) rfl (nle rfl) rfl, trivial⟩, rfl⟩ nll
     ·replace h := Qas hc92 h
      refine wfn hc92 (by kernel_rfl) ?_
      refine Qag ?_
      refine thn ?_
      exact ⟨(), h, (mto (n := 141) [(1, (Qgq p1)), (3, .ref 0 3 0 0), (5, .ref 1 1 0 0), (6, .ref 2 1 0 0)] [0, 1, 2] [(Qea p0), (.own 1 [[(Qcf p2)]]), (.own 1 [[B false]])] hφ0 (pc (.rn (.plain _ (nld Qaa _))) (pc (.rn (rqr rfl)) (pc (.rn (rqr rfl)) (pc (.rn (rqr rfl)) pn)))) (qc (spb (lc rwl (lc rwl (lc (.rn (.plain _ (nld Qac _))) ln)))) (qc (spb (lc (.rn (.plain _ (nld Qaa _))) ln)) (qc (spb (lc rwl ln)) qn))))⟩
end Go.Proofs.Ytgdepcgbjjgnfaa
