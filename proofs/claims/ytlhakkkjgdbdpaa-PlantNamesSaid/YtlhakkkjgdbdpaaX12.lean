/-
  Functions of the program: what they compute, as plain functions, and that they do. No conditions.
-/
import Derived.Test.YtlhakkkjgdbdpaaX6
namespace Go.Proofs.Ytlhakkkjgdbdpaa
open Go.RowKit
def Qfy (N : Nat) (p0 : Int) : Option Bool :=
  (Qa8 N p0 0 1000).bind fun x2 =>
  some x2
set_option maxRecDepth 100000 in
set_option maxHeartbeats 4000000 in
theorem Qjn (N : Nat) (p0 : Int) (r : Bool) (h : Qfy N p0 = some r) : Spec Try.prog 107 [(I p0)] [] (B r) [] := by
  refine Qac Try.func107 rfl 0 (nle rfl) (fun X φ0 w0 hφ0 => ?_)
  unfold Qfy at h
  refine wx tbk [] trivial ?_
  obtain ⟨x2, hf1, h⟩ := bno h
  refine wx tbk [(1, rp [fu 65, (.tmp 3, I p0), ci 0, ci 1000] (B x2))] ⟨apc (first := []) (cap := []) (vs := [I p0, I 0, I 1000]) rfl Qbs (Qae N p0 0 1000 _ hf1) rfl rfl (nlc nll (nlc nll (nlc nll nl0))) nll rfl, trivial⟩ ?_
  refine Qab ?_
  obtain rfl := osi h
  exact fend ⟨[B x2], ⟨rot (by kernel_rfl), trivial⟩, rfl⟩ nll
def Qg8 (N : Nat) (p0 : Int) : Option Bool :=
  (Qfy N p0).bind fun x3 =>
  some (!x3)
def Qu2 : Slot := .own 1 [[(.fn (.func 107) [] [])]]
set_option maxRecDepth 100000 in
set_option maxHeartbeats 4000000 in
theorem Qk1 (N : Nat) (p0 : Int) (r : Bool) (h : Qg8 N p0 = some r) : Spec Try.prog 110 [(I (p0)), (.ref 0 1 (0) 0)] [Qu2] (B (r)) [Qu2] := by
  refine Qac Try.func110 rfl 1 (nle rfl) (fun X φ0 w0 hφ0 => ?_)
  unfold Qg8 at h
  refine Qbj ?_
  refine wx tbk [] trivial ?_
  obtain ⟨x3, hf2, h⟩ := bno h
  refine wx tbk [(2, rp [(.tmp 4, (.fn (.func 107) [] [])), (.tmp 5, I p0)] (B x3))] ⟨apc (first := []) (cap := []) (vs := [I p0]) rfl enter107 (Qjn N p0 _ hf2) rfl rfl (nlc nll nl0) nll rfl, trivial⟩ ?_
  refine wmr (mto (n := 8) (l' := [(3, (B ((!x3))))]) (own' := [Qu2]) [(3, (B ((!x3))))] [0] [Qu2] hφ0 (pc rwl pn) (qc (spb (lc (.rn (Qaq rn0 rn0)) ln)) qn)) ?_
  refine Qab ?_
  obtain rfl := osi h
  exact ⟨_, Mor.rfl, Qbx (vs := [(B ((!x3)))]) ⟨rot (by kernel_rfl), trivial⟩ rfl (NLt.of0 nll) (by kernel_rfl) (Qag (Qas (nlc (NLt.of0 (NLt.fn _ _ _ nl0 nl0)) nl0)) Qa5)⟩
def Qb9 (N : Nat) (p0 : (List Int)) (k2 : Unit → Option Int) : Nat → Int → Option Int
  | 0, _ => none
  | n5 + 1, y3 =>
    bif (decide (y3 < (p0.length : Int))) then
     (getI p0 y3).bind fun x7 =>
     (Qg8 N x7).bind fun x12 =>
     bif x12 then
      some y3
     else
      Qb9 N p0 k2 n5 (w64 (y3 + 1))
    else
     k2 ()
def Qed (N : Nat) (p0 : (List Int)) : Option Int :=
  Qdu (fun _ =>
    some (-1)) fun k2 : Unit → Option Int =>
  Qb9 N p0 k2 N 0
def Qon (p0 : (List Int)) : AV := .dat 1 ((p0 : List Int).map Qad)
def Qpo : AV := .fn (.func 110) [] [(.ref 0 1 (0) 0)]
def Qiq : Slot := .own 1 [[(.fn (.func 107) [] [])]]
set_option maxRecDepth 100000 in
set_option maxHeartbeats 4000000 in
theorem Qh4 (N : Nat) (p0 : (List Int)) (r : Int) (h : Qed N p0 = some r) : Spec Try.prog 71 [(Qon p0), Qpo] [Qiq] (I (r)) [Qiq] := by
  refine Qac Try.func71 rfl 1 (nle rfl) (fun X φ0 w0 hφ0 => ?_)
  unfold Qed at h
  refine Qbj ?_
  refine wx tbk [] trivial ?_
  obtain ⟨k2, hk_k2, h⟩ := jko h
  refine wjn (τ := Unit) (fun t => k2 t = some r) (fun _ => ⟨mk 19 [], [Qiq]⟩) (fun t h => ?_) ?_
  ·subst hk_k2
   refine wx tbk [] trivial ?_
   refine wmr (mto (n := 19) (l' := [(4, (I ((-1))))]) (own' := [Qiq]) [(4, (I ((-1))))] [0] [Qiq] hφ0 (pc rwl pn) (qc (spb (lc (.rn (Qaq rn0 rn0)) ln)) qn)) ?_
   refine Qab ?_
   obtain rfl := osi h
   exact ⟨_, Mor.rfl, Qbx (vs := [(I ((-1)))]) ⟨rot (by kernel_rfl), trivial⟩ rfl (NLt.of0 nll) (by kernel_rfl) (Qag (Qas (nlc (NLt.of0 (NLt.fn _ _ _ nl0 nl0)) nl0)) Qa5)⟩
  ·skip
   refine wx tbk [(1, rp [(.tmp 6, (Qon p0))] (I ((p0.length : Int))))] ⟨alm (c := Qad) (l := p0) (aln rfl Try.underlying37 rfl), trivial⟩ ?_
   refine Qak ?_
   refine wmr (mto (n := 19) (l' := [(0, (Qon p0)), (1, Qpo), (7, (I ((p0.length : Int)))), (8, I 0)]) (own' := [Qiq]) [(0, (Qon p0)), (1, Qpo), (7, (I ((p0.length : Int)))), (8, I 0)] [0] [Qiq] hφ0 (pc (.rn (.plain _ (nld Qaa _))) (pc (.rn (Qaq rn0 (rnc (rqr rfl) rn0))) (pc rwl (pc rwl pn)))) (qc (spb (lc (.rn (Qaq rn0 rn0)) ln)) qn)) ?_
   refine Qb1 (τ := Int) (fun n t => Qb9 N p0 k2 n t = some r) (fun y3 => ⟨mk 19 [(0, (Qon p0)), (1, Qpo), (7, (I ((p0.length : Int)))), (8, I y3)], [Qiq]⟩) (fun t h => by rw [Qb9] at h; cases h) (fun n5 ih y3 h => ?_) N (0) h
   rw [Qb9] at h
   skip
   refine wx tbk [] trivial ?_
   refine wsq ?_
   rcases bft ((decide (y3 < (p0.length : Int)))) with hc6 | hc6
   ·replace h := Qav hc6 h
    refine wft hc6 (by kernel_rfl) ?_
    refine Qao ?_
    refine thn ?_
    refine wsq ?_
    refine Qak ?_
    refine wx tbk [] trivial ?_
    obtain ⟨x7, hg8, h⟩ := bno h
    obtain ⟨hi9, hj10⟩ := gsm hg8
    obtain ⟨x12, hf11, h⟩ := bno h
    refine wx tbk [(3, rp [(.tmp 12, (Qon p0)), (.tmp 13, I y3)] (.dptr (Qad (x7)) 0)), (5, ⟨[(.tmp 11, Qpo), (.tmp 15, I x7)], [(0, Qiq)], B x12, [(0, Qiq)], false⟩)] ⟨aid rfl Try.underlying37 ti3 rfl rfl hi9 (mgt Qad hj10) rfl, Qam (first := []) (cap := [.ref 0 1 0 0]) (vs := [I x7]) (σr := [Qiq]) (σr' := [Qiq]) (res' := (B x12)) [0] rfl Qq1 (Qk1 N x7 _ hf11) rfl (Qbi (rnc (.plain _ nll) (rnc (Qax rfl) rn0))) (slc (Qai (rnc (.plain _ (NLt.fn _ _ _ nl0 nl0)) rn0)) Qal) (slc (Qai (rnc (.plain _ (NLt.fn _ _ _ nl0 nl0)) rn0)) Qal) (.plain _ nll) rfl rfl rfl, trivial⟩ ?_
    rcases bft (x12) with hc13 | hc13
    ·replace h := Qav hc13 h
     refine wft hc13 (by kernel_rfl) ?_
     refine wx tbk [] trivial ?_
     refine wmr (mto (n := 19) (l' := [(4, I y3)]) (own' := [Qiq]) [(4, I y3)] [0] [Qiq] hφ0 (pc rwl pn) (qc (spb (lc (.rn (Qaq rn0 rn0)) ln)) qn)) ?_
     refine Qab ?_
     refine Qb2 ?_
     refine Qau ?_
     refine Qau ?_
     refine Qb2 ?_
     refine Qau ?_
     obtain rfl := osi h
     exact ⟨_, Mor.rfl, Qbx (vs := [I y3]) ⟨rot (by kernel_rfl), trivial⟩ rfl (NLt.of0 nll) (by kernel_rfl) (Qag (Qas (nlc (NLt.of0 (NLt.fn _ _ _ nl0 nl0)) nl0)) Qa5)⟩
    ·replace h := Qaw hc13 h
     refine wfn hc13 (by kernel_rfl) ?_
     refine Qao ?_
     refine bln ?_
     refine thn ?_
     refine wx1 tbk [] trivial ?_
     refine thn ?_
     exact arm (mto (n := 19) [(0, (Qon p0)), (1, Qpo), (7, (I ((p0.length : Int)))), (8, (I (w64 (y3 + 1))))] [0] [Qiq] hφ0 (pc (.rn (.plain _ (nld Qaa _))) (pc (.rn (Qaq rn0 (rnc (rqr rfl) rn0))) (pc rwl (pc rwl pn)))) (qc (spb (lc (.rn (Qaq rn0 rn0)) ln)) qn)) (ih (w64 (y3 + 1)) h)
   ·replace h := Qaw hc6 h
    refine wfn hc6 (by kernel_rfl) ?_
    refine Qbh ?_
    refine Qar ?_
    refine Qar ?_
    refine Qbg rfl ?_
    refine thn ?_
    exact ⟨(), h, (mto (n := 19) [] [0] [Qiq] hφ0 pn (qc (spb (lc (.rn (Qaq rn0 rn0)) ln)) qn))⟩
def Qdy (N : Nat) (p0 : (List Int)) : Option Bool :=
  (Qed N p0).bind fun x3 =>
  some (decide (x3 ≥ 0))
def Qyt (p0 : (List Int)) : AV := .dat 1 ((p0 : List Int).map Qad)
def Qys : AV := .fn (.func 110) [] [(.ref 0 1 (0) 0)]
def Qns : Slot := .own 1 [[(.fn (.func 107) [] [])]]
set_option maxRecDepth 100000 in
set_option maxHeartbeats 4000000 in
theorem Qg2 (N : Nat) (p0 : (List Int)) (r : Bool) (h : Qdy N p0 = some r) : Spec Try.prog 109 [(Qyt p0), Qys] [Qns] (B (r)) [Qns] := by
  refine Qac Try.func109 rfl 1 (nle rfl) (fun X φ0 w0 hφ0 => ?_)
  unfold Qdy at h
  refine Qbj ?_
  refine wx tbk [] trivial ?_
  obtain ⟨x3, hf2, h⟩ := bno h
  refine wx tbk [(2, ⟨[fu 71, (.tmp 5, (Qyt p0)), (.tmp 6, Qys)], [(0, Qns)], I x3, [(0, Qns)], false⟩)] ⟨Qam (first := []) (cap := []) (vs := [(Qyt p0), Qys]) (σr := [Qns]) (σr' := [Qns]) (res' := (I x3)) [0] rfl Qqy (Qh4 N p0 _ hf2) rfl (Qbi (rnc (.plain _ (nld Qaa _)) (rnc (Qaq rn0 (rnc (Qax rfl) rn0)) rn0))) (slc (Qai (rnc (.plain _ (NLt.fn _ _ _ nl0 nl0)) rn0)) Qal) (slc (Qai (rnc (.plain _ (NLt.fn _ _ _ nl0 nl0)) rn0)) Qal) (.plain _ nll) rfl rfl rfl, trivial⟩ ?_
  refine wmr (mto (n := 9) (l' := [(4, (B ((decide (x3 ≥ 0)))))]) (own' := [Qns]) [(4, (B ((decide (x3 ≥ 0)))))] [0] [Qns] hφ0 (pc rwl pn) (qc (spb (lc (.rn (Qaq rn0 rn0)) ln)) qn)) ?_
  refine Qab ?_
  obtain rfl := osi h
  exact ⟨_, Mor.rfl, Qbx (vs := [(B ((decide (x3 ≥ 0))))]) ⟨rot (by kernel_rfl), trivial⟩ rfl (NLt.of0 nll) (by kernel_rfl) (Qag (Qas (nlc (NLt.of0 (NLt.fn _ _ _ nl0 nl0)) nl0)) Qa5)⟩
def Qik (N : Nat) (p0 : (List Int)) : Option Bool :=
  (Qdy N p0).bind fun x2 =>
  some (!x2)
def Qyv (p0 : (List Int)) : AV := .dat 1 ((p0 : List Int).map Qad)
def Qyu : AV := .fn (.func 110) [] [(.ref 0 1 (0) 0)]
def Qu3 : Slot := .own 1 [[(.fn (.func 107) [] [])]]
set_option maxRecDepth 100000 in
set_option maxHeartbeats 4000000 in
theorem Qme (N : Nat) (p0 : (List Int)) (r : Bool) (h : Qik N p0 = some r) : Spec Try.prog 89 [(Qyv p0), (.fn (.func 107) [] [])] [] (B (r)) [] := by
  refine Qac Try.func89 rfl 0 (nle rfl) (fun X φ0 w0 hφ0 => ?_)
  unfold Qik at h
  refine wx tbk [] trivial ?_
  obtain ⟨x2, hf1, h⟩ := bno h
  refine wx tbk [(1, rp [(.tmp 3, .ref 0 1 0 0)] Qyu), (2, ⟨[fu 109, (.tmp 5, (Qyv p0)), (.tmp 6, Qyu)], [(0, Qu3)], B x2, [(0, Qu3)], false⟩)] ⟨Qdt (fs := []) (cs := [.ref 0 1 0 0]) rfl rfl rfl rfl, Qam (first := []) (cap := []) (vs := [(Qyv p0), Qyu]) (σr := [Qu3]) (σr' := [Qu3]) (res' := (B x2)) [0] rfl Qq2 (Qg2 N p0 _ hf1) rfl (Qbi (rnc (.plain _ (nld Qaa _)) (rnc (Qaq rn0 (rnc (Qax rfl) rn0)) rn0))) (slc (Qai (rnc (.plain _ (NLt.fn _ _ _ nl0 nl0)) rn0)) Qal) (slc (Qai (rnc (.plain _ (NLt.fn _ _ _ nl0 nl0)) rn0)) Qal) (.plain _ nll) rfl rfl rfl, trivial⟩ ?_
  refine Qab ?_
  obtain rfl := osi h
  exact fend ⟨[(B ((!x2)))], ⟨rot (by kernel_rfl), trivial⟩, rfl⟩ nll
def Qe7 (N : Nat) (p0 : GShared) (p1 : (List Int)) : Option Bool :=
  bif ((p1.length : Int) == (p0.heads.length : Int)) then
   (Qik N p1).bind fun x3 =>
   some x3
  else
   some false
def Qu4 (p1 : (List Int)) : AV := .dat 1 ((p1 : List Int).map Qad)
def z115_0 (p0 : GShared) : AV := .dat 1 ((p0.heads : List Int).map Qad)
set_option maxRecDepth 100000 in
set_option maxHeartbeats 4000000 in
theorem Qfk (N : Nat) (p0 : GShared) (p1 : (List Int)) (r : Bool) (h : Qe7 N p0 p1 = some r) : Spec Try.prog 83 [(.agg (Qlf p0)), (.dat 1 (p1.map Qad))] [] (B r) [] := by
  refine Qac Try.func83 rfl 0 (nle rfl) (fun X φ0 w0 hφ0 => ?_)
  unfold Qe7 at h
  refine wx tbk [] trivial ?_
  rcases bft (((p1.length : Int) == (p0.heads.length : Int))) with hb1 | hb1
  ·replace h := Qav hb1 h
   obtain ⟨x3, hf2, h⟩ := bno h
   refine wx tbk [(1, rp [(.tmp 5, (Qu4 p1))] (I ((p1.length : Int)))), (4, rp [(.tmp 8, (z115_0 p0))] (I ((p0.heads.length : Int)))), (6, rp [(.tmp 10, (B (((p1.length : Int) == (p0.heads.length : Int)))))] (B true)), (8, rp [(.tmp 11, B true), fu 89, (.tmp 12, (Qu4 p1)), fu 107] (B x3))] ⟨alm (c := Qad) (l := p1) (aln rfl Try.underlying37 rfl), alm (c := Qad) (l := p0.heads) (aln rfl Try.underlying37 rfl), asb hb1 (amv rfl), ag_ (Qam (first := []) (cap := []) (vs := [(Qu4 p1), (.fn (.func 107) [] [])]) (σr := []) (σr' := []) (res' := (B x3)) [] rfl Qjp (Qme N p1 _ hf2) rfl (Qbi (rnc (.plain _ (nld Qaa _)) (rnc (.plain _ (NLt.fn _ _ _ nl0 nl0)) rn0))) Qal Qal (.plain _ nll) rfl rfl rfl), trivial⟩ ?_
   refine Qab ?_
   obtain rfl := osi h
   exact fend ⟨[B x3], ⟨rot (by kernel_rfl), trivial⟩, rfl⟩ nll
  ·replace h := Qaw hb1 h
   refine wx tbk [(1, rp [(.tmp 5, (Qu4 p1))] (I ((p1.length : Int)))), (4, rp [(.tmp 8, (z115_0 p0))] (I ((p0.heads.length : Int)))), (6, rp [(.tmp 10, (B (((p1.length : Int) == (p0.heads.length : Int)))))] (B false))] ⟨alm (c := Qad) (l := p1) (aln rfl Try.underlying37 rfl), alm (c := Qad) (l := p0.heads) (aln rfl Try.underlying37 rfl), asb hb1 (amv rfl), trivial⟩ ?_
   refine Qab ?_
   obtain rfl := osi h
   exact fend ⟨[B false], ⟨rot (by kernel_rfl), trivial⟩, rfl⟩ nll
def Qc9 (N : Nat) (p1 : (List Int)) (y3 : (List Int)) (k14 : Int → Option Int) (x15 : GUnit) : Nat → Int → Int → Option Int
  | 0, _, _ => none
  | n23 + 1, y19, y20 =>
    bif (decide (y20 < (x15.Parts.length : Int))) then
     (getI x15.Parts y20).bind fun x25 =>
     chk (decide (0 ≤ x15.Inlet) && decide (x15.Inlet.toNat < (p1.length : Int).toNat)) <|
     (y3[x15.Inlet.toNat]?).bind fun x30 =>
     (some (if (w64 (x25.Gain - x30)) > 0 then w64 (x25.Gain - x30) else 0)).bind fun x32 =>
     (some (w64 (y19 + (w64 (x25.Width * x32))))).bind fun x34 =>
     Qc9 N p1 y3 k14 x15 n23 x34 (w64 (y20 + 1))
    else
     k14 (y19)
def Qda (N : Nat) (p0 : GShared) (p1 : (List Int)) (y3 : (List Int)) (k6 : Int → Option Int) : Nat → Int → Int → Option Int
  | 0, _, _ => none
  | n11 + 1, y7, y8 =>
    bif (decide (y8 < (p0.units.length : Int))) then
     Qdu (fun y13 =>
       Qda N p0 p1 y3 k6 n11 y13 (w64 (y8 + 1))) fun k14 : Int → Option Int =>
     (getI p0.units y8).bind fun x15 =>
     Qc9 N p1 y3 k14 x15 N y7 0
    else
     k6 (y7)
def Qc8 (N : Nat) (p0 : GShared) (p1 : (List Int)) (k4 : Int × (List Int) → Option Int) (x37 : (List Int)) : Nat → Int → Int → Int → (List Int) → Option Int
  | 0, _, _, _, _ => none
  | n46 + 1, y38, y39, y40, y41 =>
    bif (decide (y40 < ((p0.heads.length : Nat) : Int))) then
     chk (decide (0 ≤ y40) && decide (y40.toNat < p0.heads.length)) <|
     (x37[y40.toNat]?).bind fun x49 =>
     (getI p1 y40).bind fun x51 =>
     chk (decide (0 ≤ y40) && decide (y40.toNat < (p1.length : Int).toNat)) <|
     (y41[y40.toNat]?).bind fun _ =>
     (some (w64 (y38 + (w64 (x51 * x49))))).bind fun x58 =>
     Qc8 N p0 p1 k4 x37 n46 x58 (w64 (y39 + x51)) (w64 (y40 + 1)) (y41.set y40.toNat (w64 (y39 + x51)))
    else
     k4 (y38, y41)
def Qfl (N : Nat) (p0 : GShared) (p1 : (List Int)) : Option Int :=
  chk (decide (0 ≤ (p1.length : Int)) && decide (8 * (p1.length : Int) ≤ 281474976710656) && decide ((p1.length : Int) ≤ 9223372036854775807)) <|
  Qdu (fun ⟨y2, y3⟩ =>
    Qdu (fun y5 =>
      some y5) fun k6 : Int → Option Int =>
    Qda N p0 p1 y3 k6 N y2 0) fun k4 : Int × (List Int) → Option Int =>
  (Qd5 N p0).bind fun x37 =>
  Qc8 N p0 p1 k4 x37 N 0 0 0 (List.replicate (p1.length : Int).toNat 0)
def Qom (p1 : (List Int)) : AV := .dat 1 ((p1 : List Int).map Qad)
def z121_5 (p1 : (List Int)) : Slot := .own 1 ((List.replicate (p1.length : Int).toNat 0 : List Int).map Qad)
def Qyq (p0 : GShared) : AV := .dat 1 ((p0.heads : List Int).map Qad)
def Qi4 (p0 : GShared) : AV := .dat 2 ((p0.units : List GUnit).map Qbo)
def Qpn (p0 : GShared) : Slot := .own 2 [[(Qyq p0), (Qi4 p0)]]
def Qhr (y3 : (List Int)) : Slot := .own 1 ((y3 : List Int).map Qad)
def Qma (x15 : GUnit) : AV := .dat 2 ((x15.Parts : List GPart).map Qby)
def Qqk (x15 : GUnit) : Slot := .own 2 [[(I (x15.Inlet)), (Qma x15)]]
def Qkx (x37 : (List Int)) : Slot := .own 1 ((x37 : List Int).map Qad)
def Qqj (y41 : (List Int)) : Slot := .own 1 ((y41 : List Int).map Qad)
set_option maxRecDepth 100000 in
set_option maxHeartbeats 4000000 in
theorem Qhn (N : Nat) (p0 : GShared) (p1 : (List Int)) (r : Int) (h : Qfl N p0 p1 = some r) : Spec Try.prog 84 [(.agg (Qlf p0)), (.dat 1 (p1.map Qad))] [] (I r) [] := by
  refine Qac Try.func84 rfl 0 (nle rfl) (fun X φ0 w0 hφ0 => ?_)
  unfold Qfl at h
  refine wx tbk [] trivial ?_
  refine wx tbk [] trivial ?_
  obtain ⟨hm1, h⟩ := cko h
  refine wx tbk [(1, rp [(.tmp 13, (Qom p1))] (I ((p1.length : Int)))), (2, ⟨[(.tmp 14, (I ((p1.length : Int)))), (.tmp 14, (I ((p1.length : Int))))], [(1, .unused)], (.own 1 1 (0) ((p1.length : Int).toNat)), [(1, (z121_5 p1))], false⟩)] ⟨alm (c := Qad) (l := p1) (aln rfl Try.underlying37 rfl), Qhz rfl Try.underlying37 te3 tz3 rfl (Qrd hm1) rfl (Qrc hm1) (Qpd hm1) (Qos Qad rfl), trivial⟩ ?_
  obtain ⟨k4, hk_k4, h⟩ := jko h
  refine wjn (τ := Int × (List Int)) (fun t => k4 t = some r) (fun ⟨y2, y3⟩ => ⟨mk 74 [(2, .ref 0 2 0 0), (4, I y2), (6, (.own 1 1 (0) ((p1.length : Int).toNat)))], [(Qpn p0), (Qhr y3)]⟩) (fun t h => ?_) ?_
  ·subst hk_k4
   obtain ⟨y2, y3⟩ := t
   obtain ⟨k6, hk_k6, h⟩ := jko h
   refine wjn (τ := Int) (fun t => k6 t = some r) (fun y5 => ⟨mk 74 [(4, I y5)], []⟩) (fun y5 h => ?_) ?_
   ·subst hk_k6
    refine wx tbk [] trivial ?_
    refine Qab ?_
    obtain rfl := osi h
    exact fend ⟨[I y5], ⟨rot (by kernel_rfl), trivial⟩, rfl⟩ nll
   ·skip
    refine wx tbk [(2, rp [(.tmp 44, (Qi4 p0))] (I ((p0.units.length : Int))))] ⟨alm (c := Qbo) (l := p0.units) (aln rfl Try.underlying89 rfl), trivial⟩ ?_
    refine Qak ?_
    refine wmr (mto (n := 74) (l' := [(4, I y2), (6, (.own 0 1 (0) ((p1.length : Int).toNat))), (44, (Qi4 p0)), (45, (I ((p0.units.length : Int)))), (46, I 0)]) (own' := [(Qhr y3)]) [(4, I y2), (6, (.own 1 1 (0) ((p1.length : Int).toNat))), (44, (Qi4 p0)), (45, (I ((p0.units.length : Int)))), (46, I 0)] [1] [(Qhr y3)] hφ0 (pc rwl (pc (.rn (Qaf rfl)) (pc (.rn (.plain _ (nld Qan _))) (pc rwl (pc rwl pn))))) (qc (spr Qaa) qn)) ?_
    refine Qb1 (τ := Int × Int) (fun n t => Qda N p0 p1 y3 k6 n t.1 t.2 = some r) (fun ⟨y7, y8⟩ => ⟨mk 74 [(4, I y7), (6, (.own 0 1 (0) ((p1.length : Int).toNat))), (44, (Qi4 p0)), (45, (I ((p0.units.length : Int)))), (46, I y8)], [(Qhr y3)]⟩) (fun t h => by rw [Qda] at h; cases h) (fun n11 ih t h => ?_) N (y2, 0) h
    obtain ⟨y7, y8⟩ := t
    rw [Qda] at h
    skip
    refine wx tbk [] trivial ?_
    refine wsq ?_
    rcases bft ((decide (y8 < (p0.units.length : Int)))) with hc12 | hc12
    ·replace h := Qav hc12 h
     refine wft hc12 (by kernel_rfl) ?_
     refine Qao ?_
     refine thn ?_
     obtain ⟨k14, hk_k14, h⟩ := jko h
     refine wjn (τ := Int) (fun t => k14 t = some r) (fun y13 => ⟨mk 74 [(4, I y13), (6, (.own 0 1 (0) ((p1.length : Int).toNat))), (44, (Qi4 p0)), (45, (I ((p0.units.length : Int)))), (46, I y8)], [(Qhr y3)]⟩) (fun y13 h => ?_) ?_
     ·subst hk_k14
      refine wx1 tbk [] trivial ?_
      refine thn ?_
      exact arm (mto (n := 74) [(4, I y13), (6, (.own 0 1 (0) ((p1.length : Int).toNat))), (44, (Qi4 p0)), (45, (I ((p0.units.length : Int)))), (46, (I (w64 (y8 + 1))))] [0] [(Qhr y3)] hφ0 (pc rwl (pc (.rn (Qaf rfl)) (pc (.rn (.plain _ (nld Qan _))) (pc rwl (pc rwl pn))))) (qc (spr Qaa) qn)) (ih (y13, w64 (y8 + 1)) h)
     ·skip
      refine Qak ?_
      obtain ⟨x15, hg16, h⟩ := bno h
      obtain ⟨hi17, hj18⟩ := gsm hg16
      refine wx tbk [(0, rp [(.tmp 44, (Qi4 p0)), (.tmp 46, I y8)] (.dptr (Qbo (x15)) 0))] ⟨aid rfl Try.underlying89 ti34 rfl rfl hi17 (mgt Qbo hj18) rfl, trivial⟩ ?_
      refine wx tbk [(2, rp [(.tmp 51, (Qma x15))] (I ((x15.Parts.length : Int))))] ⟨alm (c := Qby) (l := x15.Parts) (aln rfl Try.underlying32 rfl), trivial⟩ ?_
      refine Qak ?_
      refine wmr (mto (n := 74) (l' := [(4, I y7), (6, (.own 0 1 (0) ((p1.length : Int).toNat))), (10, .ref 1 2 0 0), (44, (Qi4 p0)), (45, (I ((p0.units.length : Int)))), (46, I y8), (51, (Qma x15)), (52, (I ((x15.Parts.length : Int)))), (53, I 0)]) (own' := [(Qhr y3), (Qqk x15)]) [(4, I y7), (6, (.own 0 1 (0) ((p1.length : Int).toNat))), (10, .ref 1 2 0 0), (44, (Qi4 p0)), (45, (I ((p0.units.length : Int)))), (46, I y8), (51, (Qma x15)), (52, (I ((x15.Parts.length : Int)))), (53, I 0)] [0, 1] [(Qhr y3), (Qqk x15)] hφ0 (pc rwl (pc (.rn (Qaf rfl)) (pc (.rn (rqr rfl)) (pc (.rn (.plain _ (nld Qan _))) (pc rwl (pc rwl (pc (.rn (.plain _ (nld Qbc _))) (pc rwl (pc rwl pn))))))))) (qc (spr Qaa) (qc (spb (lc rwl (lc (.rn (.plain _ (nld Qbc _))) ln))) qn))) ?_
      refine Qb1 (τ := Int × Int) (fun n t => Qc9 N p1 y3 k14 x15 n t.1 t.2 = some r) (fun ⟨y19, y20⟩ => ⟨mk 74 [(4, I y19), (6, (.own 0 1 (0) ((p1.length : Int).toNat))), (10, .ref 1 2 0 0), (44, (Qi4 p0)), (45, (I ((p0.units.length : Int)))), (46, I y8), (51, (Qma x15)), (52, (I ((x15.Parts.length : Int)))), (53, I y20)], [(Qhr y3), (Qqk x15)]⟩) (fun t h => by rw [Qc9] at h; cases h) (fun n23 ih t h => ?_) N (y7, 0) h
      obtain ⟨y19, y20⟩ := t
      rw [Qc9] at h
      skip
      refine wx tbk [] trivial ?_
      refine wsq ?_
      rcases bft ((decide (y20 < (x15.Parts.length : Int)))) with hc24 | hc24
      ·replace h := Qav hc24 h
       refine wft hc24 (by kernel_rfl) ?_
       refine Qao ?_
       refine thn ?_
       refine wsq ?_
       refine Qak ?_
       obtain ⟨x25, hg26, h⟩ := bno h
       obtain ⟨hi27, hj28⟩ := gsm hg26
       refine wx tbk [(0, rp [(.tmp 51, (Qma x15)), (.tmp 53, I y20)] (.dptr (Qby (x25)) 0))] ⟨aid rfl Try.underlying32 Qn1 rfl rfl hi27 (mgt Qby hj28) rfl, trivial⟩ ?_
       obtain ⟨hi29, h⟩ := cko h
       obtain ⟨hi29a, hi29b⟩ := Qaz hi29
       obtain ⟨x30, hg31, h⟩ := bno h
       obtain ⟨x32, hl33, h⟩ := bno h
       obtain ⟨x34, hl35, h⟩ := bno h
       refine wy1 tbk [(8, rb [(.tmp 62, (.own 0 1 (0) ((p1.length : Int).toNat))), (.tmp 64, I x15.Inlet)] [(0, (Qhr y3))] (.ref 0 1 (x15.Inlet.toNat) 0)), (9, rb [(.tmp 65, (.ref 0 1 (x15.Inlet.toNat) 0))] [(0, (Qhr y3))] (I x30)), (11, rp [ci 0, (.tmp 67, (I (w64 (x25.Gain - x30))))] (I x32)), (14, rp [(.tmp 70, (I (w64 (y19 + (w64 (x25.Width * x32))))))] (I x34))] ⟨aio rfl Try.underlying37 ti3 (odt hi29a) (odt hi29b) (Nat.zero_add _), ald rfl ti3 (by decide) (mgt Qad hg31) (nle rfl) rfl, Qep hl33 (Qlg rfl), Qep hl35 (aas rfl), trivial⟩ ?_
       refine bln ?_
       refine thn ?_
       refine wx1 tbk [] trivial ?_
       refine thn ?_
       exact arm (mto (n := 74) [(4, I x34), (6, (.own 0 1 (0) ((p1.length : Int).toNat))), (10, .ref 1 2 0 0), (44, (Qi4 p0)), (45, (I ((p0.units.length : Int)))), (46, I y8), (51, (Qma x15)), (52, (I ((x15.Parts.length : Int)))), (53, (I (w64 (y20 + 1))))] [0, 1] [(Qhr y3), (Qqk x15)] hφ0 (pc rwl (pc (.rn (Qaf rfl)) (pc (.rn (rqr rfl)) (pc (.rn (.plain _ (nld Qan _))) (pc rwl (pc rwl (pc (.rn (.plain _ (nld Qbc _))) (pc rwl (pc rwl pn))))))))) (qc (spr Qaa) (qc (spb (lc rwl (lc (.rn (.plain _ (nld Qbc _))) ln))) qn))) (ih (x34, w64 (y20 + 1)) h)
      ·replace h := Qaw hc24 h
       refine wfn hc24 (by kernel_rfl) ?_
       refine Qbh ?_
       refine Qar ?_
       refine Qar ?_
       refine Qbg rfl ?_
       refine bln ?_
       refine thn ?_
       exact ⟨(y19), h, (mto (n := 74) [(4, I y19), (6, (.own 0 1 (0) ((p1.length : Int).toNat))), (44, (Qi4 p0)), (45, (I ((p0.units.length : Int)))), (46, I y8)] [0] [(Qhr y3)] hφ0 (pc rwl (pc (.rn (Qaf rfl)) (pc (.rn (.plain _ (nld Qan _))) (pc rwl (pc rwl pn))))) (qc (spr Qaa) qn))⟩
    ·replace h := Qaw hc12 h
     refine wfn hc12 (by kernel_rfl) ?_
     refine Qbh ?_
     refine Qar ?_
     refine Qar ?_
     refine Qbg rfl ?_
     refine thn ?_
     exact ⟨(y7), h, (mto (n := 74) [(4, I y7)] [] [] hφ0 (pc rwl pn) qn)⟩
  ·skip
   obtain ⟨x37, hf36, h⟩ := bno h
   refine wx tbk [(1, ⟨[fu 87, (.tmp 16, (.agg [(Qyq p0), (Qi4 p0)]))], [(2, .unused)], (.own 2 1 (0) (p0.heads.length)), [(2, (Qkx x37))], false⟩), (2, rp [(.tmp 17, (.own 2 1 (0) (p0.heads.length)))] (I (((p0.heads.length : Nat) : Int))))] ⟨Qam (first := []) (cap := []) (vs := [(.agg [(Qyq p0), (Qi4 p0)])]) (σr := []) (σr' := [(Qkx x37)]) (res' := (.own 2 1 (0) (p0.heads.length))) [2] rfl Qtw (Qfj N p0 _ hf36) rfl (Qbi (rnc (.plain _ (NLt.agg _ (nlc (nld Qaa _) (nlc (nld Qan _) nl0)))) rn0)) Qal (slc (Qcn Qaa) Qal) (Qhs rfl) rfl rfl rfl, aln rfl Try.underlying37 rfl, trivial⟩ ?_
   refine Qak ?_
   refine wmr (mto (n := 74) (l' := [(1, (Qom p1)), (2, .ref 0 2 0 0), (4, I 0), (5, I 0), (6, (.own 1 1 (0) ((p1.length : Int).toNat))), (17, (.own 2 1 (0) (p0.heads.length))), (18, (I (((p0.heads.length : Nat) : Int)))), (19, I 0)]) (own' := [(Qpn p0), (.own 1 (((List.replicate (p1.length : Int).toNat 0) : List Int).map Qad)), (Qkx x37)]) [(1, (Qom p1)), (2, .ref 0 2 0 0), (4, I 0), (5, I 0), (6, (.own 1 1 (0) ((p1.length : Int).toNat))), (17, (.own 2 1 (0) (p0.heads.length))), (18, (I (((p0.heads.length : Nat) : Int)))), (19, I 0)] [0, 1, 2] [(Qpn p0), (z121_5 p1), (Qkx x37)] hφ0 (pc (.rn (.plain _ (nld Qaa _))) (pc (.rn (rqr rfl)) (pc rwl (pc rwl (pc (.rn (Qaf rfl)) (pc (.rn (Qaf rfl)) (pc rwl (pc rwl pn)))))))) (qc (spb (lc (.rn (.plain _ (nld Qaa _))) (lc (.rn (.plain _ (nld Qan _))) ln))) (qc (spr Qaa) (qc (spr Qaa) qn)))) ?_
   refine Qb1 (τ := Int × Int × Int × (List Int)) (fun n t => Qc8 N p0 p1 k4 x37 n t.1 t.2.1 t.2.2.1 t.2.2.2 = some r) (fun ⟨y38, y39, y40, y41⟩ => ⟨mk 74 [(1, (Qom p1)), (2, .ref 0 2 0 0), (4, I y38), (5, I y39), (6, (.own 1 1 (0) ((p1.length : Int).toNat))), (17, (.own 2 1 (0) (p0.heads.length))), (18, (I (((p0.heads.length : Nat) : Int)))), (19, I y40)], [(Qpn p0), (Qqj y41), (Qkx x37)]⟩) (fun t h => by rw [Qc8] at h; cases h) (fun n46 ih t h => ?_) N (0, 0, 0, List.replicate (p1.length : Int).toNat 0) h
   obtain ⟨y38, y39, y40, y41⟩ := t
   rw [Qc8] at h
   skip
   refine wx tbk [] trivial ?_
   refine wsq ?_
   rcases bft ((decide (y40 < ((p0.heads.length : Nat) : Int)))) with hc47 | hc47
   ·replace h := Qav hc47 h
    refine wft hc47 (by kernel_rfl) ?_
    refine Qao ?_
    refine thn ?_
    refine wsq ?_
    refine Qak ?_
    obtain ⟨hi48, h⟩ := cko h
    obtain ⟨hi48a, hi48b⟩ := Qaz hi48
    obtain ⟨x49, hg50, h⟩ := bno h
    refine wx tbk [(1, rb [(.tmp 17, (.own 2 1 (0) (p0.heads.length))), (.tmp 19, I y40)] [(2, (Qkx x37))] (.ref 2 1 (y40.toNat) 0)), (2, rb [(.tmp 22, (.ref 2 1 (y40.toNat) 0))] [(2, (Qkx x37))] (I x49))] ⟨aio rfl Try.underlying37 ti3 (odt hi48a) (odt hi48b) (Nat.zero_add _), ald rfl ti3 (by decide) (mgt Qad hg50) (nle rfl) rfl, trivial⟩ ?_
    obtain ⟨x51, hg52, h⟩ := bno h
    obtain ⟨hi53, hj54⟩ := gsm hg52
    refine wx tbk [(3, rp [(.tmp 25, (Qom p1)), (.tmp 26, I y40)] (.dptr (Qad (x51)) 0))] ⟨aid rfl Try.underlying37 ti3 rfl rfl hi53 (mgt Qad hj54) rfl, trivial⟩ ?_
    obtain ⟨hi55, h⟩ := cko h
    obtain ⟨hi55a, hi55b⟩ := Qaz hi55
    obtain ⟨x56, hg57, h⟩ := bno h
    refine wx tbk [(3, rb [(.tmp 30, (.own 1 1 (0) ((p1.length : Int).toNat))), (.tmp 31, I y40)] [(1, (Qqj y41))] (.ref 1 1 (y40.toNat) 0)), (4, ⟨[(.tmp 33, (.ref 1 1 (y40.toNat) 0)), (.tmp 32, (I (w64 (y39 + x51))))], [(1, (Qqj y41))], .any, [(1, (.own 1 ((y41.set y40.toNat (w64 (y39 + x51)) : List Int).map Qad)))], false⟩)] ⟨aio rfl Try.underlying37 ti3 (odt hi55a) (odt hi55b) (Nat.zero_add _), ast rfl ti3 (by rfl) (mgt Qad hg57) (nle rfl) (Qfx Qad rfl), trivial⟩ ?_
    obtain ⟨x58, hl59, h⟩ := bno h
    refine wx1 tbk [(3, rp [(.tmp 35, (Qom p1)), (.tmp 36, I y40)] (.dptr (Qad (x51)) 0)), (8, rp [(.tmp 41, (I (w64 (y38 + (w64 (x51 * x49))))))] (I x58))] ⟨aid rfl Try.underlying37 ti3 rfl rfl hi53 (mgt Qad hj54) rfl, Qep hl59 (aas rfl), trivial⟩ ?_
    refine bln ?_
    refine thn ?_
    refine wx1 tbk [] trivial ?_
    refine thn ?_
    exact arm (mto (n := 74) [(1, (Qom p1)), (2, .ref 0 2 0 0), (4, I x58), (5, (I (w64 (y39 + x51)))), (6, (.own 1 1 (0) ((p1.length : Int).toNat))), (17, (.own 2 1 (0) (p0.heads.length))), (18, (I (((p0.heads.length : Nat) : Int)))), (19, (I (w64 (y40 + 1))))] [0, 1, 2] [(Qpn p0), (.own 1 ((y41.set y40.toNat (w64 (y39 + x51)) : List Int).map Qad)), (Qkx x37)] hφ0 (pc (.rn (.plain _ (nld Qaa _))) (pc (.rn (rqr rfl)) (pc rwl (pc rwl (pc (.rn (Qaf rfl)) (pc (.rn (Qaf rfl)) (pc rwl (pc rwl pn)))))))) (qc (spb (lc (.rn (.plain _ (nld Qaa _))) (lc (.rn (.plain _ (nld Qan _))) ln))) (qc (spr Qaa) (qc (spr Qaa) qn)))) (ih (x58, w64 (y39 + x51), w64 (y40 + 1), y41.set y40.toNat (w64 (y39 + x51))) h)
   ·replace h := Qaw hc47 h
    refine wfn hc47 (by kernel_rfl) ?_
    refine Qbh ?_
    refine Qar ?_
    refine Qar ?_
    refine Qbg rfl ?_
    refine thn ?_
    exact ⟨(y38, y41), h, (mto (n := 74) [(2, .ref 0 2 0 0), (4, I y38), (6, (.own 1 1 (0) ((p1.length : Int).toNat)))] [0, 1] [(Qpn p0), (Qqj y41)] hφ0 (pc (.rn (rqr rfl)) (pc rwl (pc (.rn (Qaf rfl)) pn))) (qc (spb (lc (.rn (.plain _ (nld Qaa _))) (lc (.rn (.plain _ (nld Qan _))) ln))) (qc (spr Qaa) qn)))⟩
def Qk9 (N : Nat) (p0 : (List Int)) (p1 : (List GUnit)) (p2 : (List Int)) : Option (Int × Int) :=
  (Qek N (⟨p0, p1⟩ : GShared)).bind fun x2 =>
  bif (!x2) then
   some (0, 1)
  else
   (Qe7 N (⟨p0, p1⟩ : GShared) p2).bind fun x5 =>
   bif (!x5) then
    some (0, 1)
   else
    (Qfl N (⟨p0, p1⟩ : GShared) p2).bind fun x8 =>
    some (x8, 0)
def Qyx (p0 : (List Int)) : AV := .dat 1 ((p0 : List Int).map Qad)
def Qyw (p1 : (List GUnit)) : AV := .dat 2 ((p1 : List GUnit).map Qbo)
def Qmm (p0 : (List Int)) (p1 : (List GUnit)) : AV := .agg [(Qyx p0), (Qyw p1)]
def Qu5 (p2 : (List Int)) : AV := .dat 1 ((p2 : List Int).map Qad)
set_option maxRecDepth 100000 in
set_option maxHeartbeats 4000000 in
theorem Qow (N : Nat) (p0 : (List Int)) (p1 : (List GUnit)) (p2 : (List Int)) (r : (Int × Int)) (h : Qk9 N p0 p1 p2 = some r) : Spec Try.prog 46 [(.dat 1 (p0.map Qad)), (.dat 2 (p1.map Qbo)), (.dat 1 (p2.map Qad))] [] (.tup [(I r.1), (I r.2)]) [] := by
  refine Qac Try.func46 rfl 0 (nle rfl) (fun X φ0 w0 hφ0 => ?_)
  unfold Qk9 at h
  refine wx tbk [] trivial ?_
  refine wx tbk [(2, rp [(.tmp 9, (Qyx p0)), (.tmp 10, (Qyw p1))] (Qmm p0 p1))] ⟨Qaj (vs := [(Qyx p0), (Qyw p1)]) rfl ts133 tz133 rfl (by rfl) rfl, trivial⟩ ?_
  refine wsq ?_
  obtain ⟨x2, hf1, h⟩ := bno h
  rcases bft ((!x2)) with hb3 | hb3
  ·replace h := Qav hb3 h
   refine wx tbk [(1, rp [fu 80, (.tmp 12, (Qmm p0 p1))] (B x2)), (3, rp [(.tmp 14, (B ((!x2))))] (B true))] ⟨apc (first := []) (cap := []) (vs := [(Qmm p0 p1)]) rfl Qnl (Qc7 N (⟨p0, p1⟩ : GShared) _ hf1) rfl rfl (nlc (NLt.agg _ (nlc (nld Qaa _) (nlc (nld Qan _) nl0))) nl0) nll rfl, asb hb3 (amv rfl), trivial⟩ ?_
   refine Qcy (by kernel_rfl) ?_
   refine wx tbk [] trivial ?_
   refine Qab ?_
   refine Qau ?_
   obtain rfl := osi h
   exact fend ⟨[I 0, I 1], ⟨rot (by kernel_rfl), rot (by kernel_rfl), trivial⟩, rfl⟩ (NLt.tup _ (nlc nll (nlc nll nl0)))
  ·replace h := Qaw hb3 h
   obtain ⟨x5, hf4, h⟩ := bno h
   refine wx tbk [(1, rp [fu 80, (.tmp 12, (Qmm p0 p1))] (B x2)), (3, rp [(.tmp 14, (B ((!x2))))] (B false)), (6, rp [(.tmp 15, B false), fu 83, (.tmp 16, (Qmm p0 p1)), (.tmp 17, (Qu5 p2))] (B x5))] ⟨apc (first := []) (cap := []) (vs := [(Qmm p0 p1)]) rfl Qnl (Qc7 N (⟨p0, p1⟩ : GShared) _ hf1) rfl rfl (nlc (NLt.agg _ (nlc (nld Qaa _) (nlc (nld Qan _) nl0))) nl0) nll rfl, asb hb3 (amv rfl), ag_ (apc (first := []) (cap := []) (vs := [(Qmm p0 p1), (Qu5 p2)]) rfl Qtx (Qfk N (⟨p0, p1⟩ : GShared) p2 _ hf4) rfl rfl (nlc (NLt.agg _ (nlc (nld Qaa _) (nlc (nld Qan _) nl0))) (nlc (nld Qaa _) nl0)) nll rfl), trivial⟩ ?_
   rcases bft ((!x5)) with hc6 | hc6
   ·replace h := Qav hc6 h
    refine wft hc6 (by kernel_rfl) ?_
    refine wx tbk [] trivial ?_
    refine Qab ?_
    refine Qau ?_
    obtain rfl := osi h
    exact fend ⟨[I 0, I 1], ⟨rot (by kernel_rfl), rot (by kernel_rfl), trivial⟩, rfl⟩ (NLt.tup _ (nlc nll (nlc nll nl0)))
   ·replace h := Qaw hc6 h
    refine wfn hc6 (by kernel_rfl) ?_
    refine Qao ?_
    refine thn ?_
    obtain ⟨x8, hf7, h⟩ := bno h
    refine wx tbk [(2, rp [fu 84, (.tmp 21, (Qmm p0 p1)), (.tmp 22, (Qu5 p2))] (I x8))] ⟨apc (first := []) (cap := []) (vs := [(Qmm p0 p1), (Qu5 p2)]) rfl enter84 (Qhn N (⟨p0, p1⟩ : GShared) p2 _ hf7) rfl rfl (nlc (NLt.agg _ (nlc (nld Qaa _) (nlc (nld Qan _) nl0))) (nlc (nld Qaa _) nl0)) nll rfl, trivial⟩ ?_
    refine Qab ?_
    obtain rfl := osi h
    exact fend ⟨[I x8, I 0], ⟨rot (by kernel_rfl), rot (by kernel_rfl), trivial⟩, rfl⟩ (NLt.tup _ (nlc nll (nlc nll nl0)))
def Qdn (N : Nat) (p0 : (List Int)) (p1 : (List GUnit)) (k21 : (List Int) → Option Bool) (x22 : Int) (x37 : Int) : Nat → Int → (List Int) → Option Bool
  | 0, _, _ => none
  | n43 + 1, y39, y40 =>
    bif (decide (y39 < x37)) then
     chk (decide (0 ≤ y39) && decide (y39.toNat < (⟨p0, p1⟩ : GShared).heads.length)) <|
     (y40[y39.toNat]?).bind fun x46 =>
     chk (decide (0 ≤ y39) && decide (y39.toNat < (⟨p0, p1⟩ : GShared).heads.length)) <|
     (y40[y39.toNat]?).bind fun _ =>
     Qdn N p0 p1 k21 x22 x37 n43 (w64 (y39 + 1)) (y40.set y39.toNat (w64 (x46 - x22)))
    else
     k21 (y40)
def Qdo (N : Nat) (p0 : (List Int)) (p1 : (List GUnit)) (p2 : (List Int)) (k5 : (List Int) → Option Bool) : Nat → Int → (List Int) → Option Bool
  | 0, _, _ => none
  | n18 + 1, y14, y15 =>
    bif (decide (y14 < (p2.length : Int))) then
     Qdu (fun y20 =>
       Qdo N p0 p1 p2 k5 n18 (w64 (y14 + 1)) y20) fun k21 : (List Int) → Option Bool =>
     (getI p2 y14).bind fun x22 =>
     (getI p1 y14).bind fun x26 =>
     (Qd6 N x26).bind fun x31 =>
     (Qa8 N x22 0 x31).bind fun x33 =>
     bif (!x33) then
      some false
     else
      chk (decide ((0 : Int) ≤ 0) && decide (0 ≤ w64 (x26.Inlet + 1)) && decide (w64 (x26.Inlet + 1) ≤ (((⟨p0, p1⟩ : GShared).heads.length : Nat) : Int))) <|
      chk (decide ((0 : Int) < (((⟨p0, p1⟩ : GShared).heads.length : Nat) : Int))) <|
      (some (((w64 (x26.Inlet + 1)).toNat - (0 : Int).toNat : Nat) : Int)).bind fun x37 =>
      Qdn N p0 p1 k21 x22 x37 N 0 y15
    else
     k5 (y15)
def Qht (N : Nat) (p0 : (List Int)) (p1 : (List GUnit)) (p2 : (List Int)) (p3 : Int) (p4 : (List Int)) : Option Bool :=
  Qdu (fun _ =>
    (Qd5 N (⟨p0, p1⟩ : GShared)).bind fun x3 =>
    Qdu (fun y4 =>
      (Qer N ((⟨p0, p1⟩ : GShared).heads.length) y4).bind fun x7 =>
      bif (decide (x7 ≥ 0)) then
       (Qf0 N (⟨p0, p1⟩ : GShared) p2).bind fun x10 =>
       bif (x10 == p3) then
        (Qfl N (⟨p0, p1⟩ : GShared) p4).bind fun x13 =>
        some (x13 == p3)
       else
        some false
      else
       some false) fun k5 : (List Int) → Option Bool =>
    Qdo N p0 p1 p2 k5 N 0 x3) fun k1 : Unit → Option Bool =>
  (Qek N (⟨p0, p1⟩ : GShared)).bind fun x52 =>
  bif (!x52) then
   some false
  else
   (Qe7 N (⟨p0, p1⟩ : GShared) p4).bind fun x55 =>
   bif (!x55) then
    some false
   else
    bif ((p2.length : Int) != (p1.length : Int)) then
     some false
    else
     k1 ()
def Qu1 (p0 : (List Int)) : AV := .dat 1 ((p0 : List Int).map Qad)
def Qg0 (p1 : (List GUnit)) : AV := .dat 2 ((p1 : List GUnit).map Qbo)
def Qhl (p0 : (List Int)) (p1 : (List GUnit)) : AV := .agg [(Qu1 p0), (Qg0 p1)]
def Qea (p2 : (List Int)) : AV := .dat 1 ((p2 : List Int).map Qad)
def Qgt (p4 : (List Int)) : AV := .dat 1 ((p4 : List Int).map Qad)
def Qjf (p0 : (List Int)) (p1 : (List GUnit)) : Slot := .own 2 [[(Qu1 p0), (Qg0 p1)]]
def Qu0 (x3 : (List Int)) : Slot := .own 1 ((x3 : List Int).map Qad)
def Qhq (y4 : (List Int)) : Slot := .own 1 ((y4 : List Int).map Qad)
def Qol (y15 : (List Int)) : Slot := .own 1 ((y15 : List Int).map Qad)
def Qm8 (y40 : (List Int)) : Slot := .own 1 ((y40 : List Int).map Qad)
set_option maxRecDepth 100000 in
set_option maxHeartbeats 4000000 in
theorem Qge (N : Nat) (p0 : (List Int)) (p1 : (List GUnit)) (p2 : (List Int)) (p3 : Int) (p4 : (List Int)) (r : Bool) (h : Qht N p0 p1 p2 p3 p4 = some r) : Spec Try.prog 53 [(.dat 1 (p0.map Qad)), (.dat 2 (p1.map Qbo)), (.dat 1 (p2.map Qad)), (I p3), (.dat 1 (p4.map Qad))] [] (B r) [] := by
  refine Qac Try.func53 rfl 0 (nle rfl) (fun X φ0 w0 hφ0 => ?_)
  unfold Qht at h
  refine wx tbk [] trivial ?_
  refine wx tbk [(2, rp [(.tmp 16, (Qu1 p0)), (.tmp 17, (Qg0 p1))] (Qhl p0 p1))] ⟨Qaj (vs := [(Qu1 p0), (Qg0 p1)]) rfl ts133 tz133 rfl (by rfl) rfl, trivial⟩ ?_
  obtain ⟨k1, hk_k1, h⟩ := jko h
  refine wjn (τ := Unit) (fun t => k1 t = some r) (fun _ => ⟨mk 90 [(1, (Qg0 p1)), (2, (Qea p2)), (3, I p3), (4, (Qgt p4)), (11, .ref 0 2 0 0)], [(Qjf p0 p1)]⟩) (fun t h => ?_) ?_
  ·subst hk_k1
   obtain ⟨x3, hf2, h⟩ := bno h
   refine wx tbk [(1, ⟨[fu 87, (.tmp 35, (Qhl p0 p1))], [(1, .unused)], (.own 1 1 (0) ((⟨p0, p1⟩ : GShared).heads.length)), [(1, (Qu0 x3))], false⟩)] ⟨Qam (first := []) (cap := []) (vs := [(.agg [(.dat 1 (((⟨p0, p1⟩ : GShared).heads : List Int).map Qad)), (.dat 2 (((⟨p0, p1⟩ : GShared).units : List GUnit).map Qbo))])]) (σr := []) (σr' := [(Qu0 x3)]) (res' := (.own 1 1 (0) ((⟨p0, p1⟩ : GShared).heads.length))) [1] rfl Qtw (Qfj N (⟨p0, p1⟩ : GShared) _ hf2) rfl (Qbi (rnc (.plain _ (NLt.agg _ (nlc (nld Qaa _) (nlc (nld Qan _) nl0)))) rn0)) Qal (slc (Qcn Qaa) Qal) (Qhs rfl) rfl rfl rfl, trivial⟩ ?_
   obtain ⟨k5, hk_k5, h⟩ := jko h
   refine wjn (τ := (List Int)) (fun t => k5 t = some r) (fun y4 => ⟨mk 90 [(2, (Qea p2)), (3, I p3), (4, (Qgt p4)), (11, .ref 0 2 0 0), (12, (.own 1 1 (0) ((⟨p0, p1⟩ : GShared).heads.length)))], [(Qjf p0 p1), (Qhq y4)]⟩) (fun y4 h => ?_) ?_
   ·subst hk_k5
    obtain ⟨x7, hf6, h⟩ := bno h
    rcases bft ((decide (x7 ≥ 0))) with hb8 | hb8
    ·replace h := Qav hb8 h
     obtain ⟨x10, hf9, h⟩ := bno h
     rcases bft ((x10 == p3)) with hb11 | hb11
     ·replace h := Qav hb11 h
      obtain ⟨x13, hf12, h⟩ := bno h
      refine wx tbk [(1, ⟨[fu 88, (.tmp 73, (.own 1 1 (0) ((⟨p0, p1⟩ : GShared).heads.length)))], [(1, (Qhq y4))], I x7, [(1, (Qhq y4))], false⟩), (3, rp [(.tmp 75, (B ((decide (x7 ≥ 0)))))] (B true)), (6, rp [(.tmp 76, B true), fu 82, (.tmp 77, (Qhl p0 p1)), (.tmp 78, (Qea p2))] (I x10)), (10, rp [(.tmp 82, (B ((x10 == p3))))] (B true)), (13, rp [(.tmp 83, B true), fu 84, (.tmp 84, (Qhl p0 p1)), (.tmp 85, (Qgt p4))] (I x13))] ⟨Qam (first := []) (cap := []) (vs := [(.own 1 1 (0) (((⟨p0, p1⟩ : GShared).heads.length)))]) (σr := [(Qhq y4)]) (σr' := [(Qhq y4)]) (res' := (I x7)) [1] rfl Qqw (Qd4 N ((⟨p0, p1⟩ : GShared).heads.length) y4 _ hf6) rfl (Qbi (rnc (Qej rfl) rn0)) (slc (Qcn Qaa) Qal) (slc (Qcn Qaa) Qal) (.plain _ nll) rfl rfl rfl, asb hb8 (amv rfl), ag_ (apc (first := []) (cap := []) (vs := [(Qhl p0 p1), (Qea p2)]) rfl Qty (Qf2 N (⟨p0, p1⟩ : GShared) p2 _ hf9) rfl rfl (nlc (NLt.agg _ (nlc (nld Qaa _) (nlc (nld Qan _) nl0))) (nlc (nld Qaa _) nl0)) nll rfl), asb hb11 (amv rfl), ag_ (apc (first := []) (cap := []) (vs := [(Qhl p0 p1), (Qgt p4)]) rfl enter84 (Qhn N (⟨p0, p1⟩ : GShared) p4 _ hf12) rfl rfl (nlc (NLt.agg _ (nlc (nld Qaa _) (nlc (nld Qan _) nl0))) (nlc (nld Qaa _) nl0)) nll rfl), trivial⟩ ?_
      refine Qab ?_
      obtain rfl := osi h
      exact fend ⟨[(B ((x13 == p3)))], ⟨rot (by kernel_rfl), trivial⟩, rfl⟩ nll
     ·replace h := Qaw hb11 h
      refine wx tbk [(1, ⟨[fu 88, (.tmp 73, (.own 1 1 (0) ((⟨p0, p1⟩ : GShared).heads.length)))], [(1, (Qhq y4))], I x7, [(1, (Qhq y4))], false⟩), (3, rp [(.tmp 75, (B ((decide (x7 ≥ 0)))))] (B true)), (6, rp [(.tmp 76, B true), fu 82, (.tmp 77, (Qhl p0 p1)), (.tmp 78, (Qea p2))] (I x10)), (10, rp [(.tmp 82, (B ((x10 == p3))))] (B false))] ⟨Qam (first := []) (cap := []) (vs := [(.own 1 1 (0) (((⟨p0, p1⟩ : GShared).heads.length)))]) (σr := [(Qhq y4)]) (σr' := [(Qhq y4)]) (res' := (I x7)) [1] rfl Qqw (Qd4 N ((⟨p0, p1⟩ : GShared).heads.length) y4 _ hf6) rfl (Qbi (rnc (Qej rfl) rn0)) (slc (Qcn Qaa) Qal) (slc (Qcn Qaa) Qal) (.plain _ nll) rfl rfl rfl, asb hb8 (amv rfl), ag_ (apc (first := []) (cap := []) (vs := [(Qhl p0 p1), (Qea p2)]) rfl Qty (Qf2 N (⟨p0, p1⟩ : GShared) p2 _ hf9) rfl rfl (nlc (NLt.agg _ (nlc (nld Qaa _) (nlc (nld Qan _) nl0))) (nlc (nld Qaa _) nl0)) nll rfl), asb hb11 (amv rfl), trivial⟩ ?_
      refine Qab ?_
      obtain rfl := osi h
      exact fend ⟨[B false], ⟨rot (by kernel_rfl), trivial⟩, rfl⟩ nll
    ·replace h := Qaw hb8 h
     refine wx tbk [(1, ⟨[fu 88, (.tmp 73, (.own 1 1 (0) ((⟨p0, p1⟩ : GShared).heads.length)))], [(1, (Qhq y4))], I x7, [(1, (Qhq y4))], false⟩), (3, rp [(.tmp 75, (B ((decide (x7 ≥ 0)))))] (B false))] ⟨Qam (first := []) (cap := []) (vs := [(.own 1 1 (0) (((⟨p0, p1⟩ : GShared).heads.length)))]) (σr := [(Qhq y4)]) (σr' := [(Qhq y4)]) (res' := (I x7)) [1] rfl Qqw (Qd4 N ((⟨p0, p1⟩ : GShared).heads.length) y4 _ hf6) rfl (Qbi (rnc (Qej rfl) rn0)) (slc (Qcn Qaa) Qal) (slc (Qcn Qaa) Qal) (.plain _ nll) rfl rfl rfl, asb hb8 (amv rfl), trivial⟩ ?_
     refine Qab ?_
     obtain rfl := osi h
     exact fend ⟨[B false], ⟨rot (by kernel_rfl), trivial⟩, rfl⟩ nll
   ·skip
    refine wx tbk [(1, rp [(.tmp 37, (Qea p2))] (I ((p2.length : Int))))] ⟨alm (c := Qad) (l := p2) (aln rfl Try.underlying37 rfl), trivial⟩ ?_
    refine Qak ?_
    refine wmr (mto (n := 90) (l' := [(1, (Qg0 p1)), (2, (Qea p2)), (3, I p3), (4, (Qgt p4)), (11, .ref 0 2 0 0), (12, (.own 1 1 (0) ((⟨p0, p1⟩ : GShared).heads.length))), (37, (Qea p2)), (38, (I ((p2.length : Int)))), (39, I 0)]) (own' := [(Qjf p0 p1), (Qu0 x3)]) [(1, (Qg0 p1)), (2, (Qea p2)), (3, I p3), (4, (Qgt p4)), (11, .ref 0 2 0 0), (12, (.own 1 1 (0) ((⟨p0, p1⟩ : GShared).heads.length))), (37, (Qea p2)), (38, (I ((p2.length : Int)))), (39, I 0)] [0, 1] [(Qjf p0 p1), (Qu0 x3)] hφ0 (pc (.rn (.plain _ (nld Qan _))) (pc (.rn (.plain _ (nld Qaa _))) (pc rwl (pc (.rn (.plain _ (nld Qaa _))) (pc (.rn (rqr rfl)) (pc (.rn (Qaf rfl)) (pc (.rn (.plain _ (nld Qaa _))) (pc rwl (pc rwl pn))))))))) (qc (spb (lc (.rn (.plain _ (nld Qaa _))) (lc (.rn (.plain _ (nld Qan _))) ln))) (qc (spr Qaa) qn))) ?_
    refine Qb1 (τ := Int × (List Int)) (fun n t => Qdo N p0 p1 p2 k5 n t.1 t.2 = some r) (fun ⟨y14, y15⟩ => ⟨mk 90 [(1, (Qg0 p1)), (2, (Qea p2)), (3, I p3), (4, (Qgt p4)), (11, .ref 0 2 0 0), (12, (.own 1 1 (0) ((⟨p0, p1⟩ : GShared).heads.length))), (37, (Qea p2)), (38, (I ((p2.length : Int)))), (39, I y14)], [(Qjf p0 p1), (Qol y15)]⟩) (fun t h => by rw [Qdo] at h; cases h) (fun n18 ih t h => ?_) N (0, x3) h
    obtain ⟨y14, y15⟩ := t
    rw [Qdo] at h
    skip
    refine wx tbk [] trivial ?_
    refine wsq ?_
    rcases bft ((decide (y14 < (p2.length : Int)))) with hc19 | hc19
    ·replace h := Qav hc19 h
     refine wft hc19 (by kernel_rfl) ?_
     refine Qao ?_
     refine thn ?_
     obtain ⟨k21, hk_k21, h⟩ := jko h
     refine wjn (τ := (List Int)) (fun t => k21 t = some r) (fun y20 => ⟨mk 90 [(1, (Qg0 p1)), (2, (Qea p2)), (3, I p3), (4, (Qgt p4)), (11, .ref 0 2 0 0), (12, (.own 1 1 (0) ((⟨p0, p1⟩ : GShared).heads.length))), (37, (Qea p2)), (38, (I ((p2.length : Int)))), (39, I y14)], [(Qjf p0 p1), (.own 1 ((y20 : List Int).map Qad))]⟩) (fun y20 h => ?_) ?_
     ·subst hk_k21
      refine wx1 tbk [] trivial ?_
      refine thn ?_
      exact arm (mto (n := 90) [(1, (Qg0 p1)), (2, (Qea p2)), (3, I p3), (4, (Qgt p4)), (11, .ref 0 2 0 0), (12, (.own 1 1 (0) ((⟨p0, p1⟩ : GShared).heads.length))), (37, (Qea p2)), (38, (I ((p2.length : Int)))), (39, (I (w64 (y14 + 1))))] [0, 1] [(Qjf p0 p1), (.own 1 ((y20 : List Int).map Qad))] hφ0 (pc (.rn (.plain _ (nld Qan _))) (pc (.rn (.plain _ (nld Qaa _))) (pc rwl (pc (.rn (.plain _ (nld Qaa _))) (pc (.rn (rqr rfl)) (pc (.rn (Qaf rfl)) (pc (.rn (.plain _ (nld Qaa _))) (pc rwl (pc rwl pn))))))))) (qc (spb (lc (.rn (.plain _ (nld Qaa _))) (lc (.rn (.plain _ (nld Qan _))) ln))) (qc (spr Qaa) qn))) (ih (w64 (y14 + 1), y20) h)
     ·skip
      refine Qak ?_
      obtain ⟨x22, hg23, h⟩ := bno h
      obtain ⟨hi24, hj25⟩ := gsm hg23
      refine wx tbk [(1, rp [(.tmp 37, (Qea p2)), (.tmp 39, I y14)] (.dptr (Qad (x22)) 0))] ⟨aid rfl Try.underlying37 ti3 rfl rfl hi24 (mgt Qad hj25) rfl, trivial⟩ ?_
      refine wsq ?_
      obtain ⟨x26, hg27, h⟩ := bno h
      obtain ⟨hi28, hj29⟩ := gsm hg27
      obtain ⟨x31, hf30, h⟩ := bno h
      obtain ⟨x33, hf32, h⟩ := bno h
      refine wx tbk [(3, rp [(.tmp 45, (Qg0 p1)), (.tmp 46, I y14)] (.dptr (Qbo (x26)) 0)), (5, rp [fu 66, (.tmp 48, (.agg [I x26.Inlet, (.dat 2 ((x26.Parts : List GPart).map Qby))]))] (I x31)), (6, rp [fu 65, (.tmp 44, I x22), ci 0, (.tmp 49, I x31)] (B x33))] ⟨aid rfl Try.underlying89 ti34 rfl rfl hi28 (mgt Qbo hj29) rfl, apc (first := []) (cap := []) (vs := [(.agg [I x26.Inlet, (.dat 2 ((x26.Parts : List GPart).map Qby))])]) rfl Qt2 (Qfp N x26 _ hf30) rfl rfl (nlc (NLt.agg _ (nlc nll (nlc (nld Qbc _) nl0))) nl0) nll rfl, apc (first := []) (cap := []) (vs := [I x22, I 0, I x31]) rfl Qbs (Qae N x22 0 x31 _ hf32) rfl rfl (nlc nll (nlc nll (nlc nll nl0))) nll rfl, trivial⟩ ?_
      rcases bft ((!x33)) with hc34 | hc34
      ·replace h := Qav hc34 h
       refine wft hc34 (by kernel_rfl) ?_
       refine wx tbk [] trivial ?_
       refine Qab ?_
       refine Qau ?_
       refine Qb2 ?_
       refine Qau ?_
       refine Qau ?_
       refine Qb2 ?_
       refine Qau ?_
       obtain rfl := osi h
       exact fend ⟨[B false], ⟨rot (by kernel_rfl), trivial⟩, rfl⟩ nll
      ·replace h := Qaw hc34 h
       refine wfn hc34 (by kernel_rfl) ?_
       refine Qao ?_
       refine thn ?_
       obtain ⟨hs35, h⟩ := cko h
       obtain ⟨hs36, h⟩ := cko h
       obtain ⟨x37, hl38, h⟩ := bno h
       refine wx tbk [(3, rp [(.tmp 53, (Qg0 p1)), (.tmp 54, I y14)] (.dptr (Qbo (x26)) 0)), (7, rb [(.tmp 52, (.own 1 1 (0) ((⟨p0, p1⟩ : GShared).heads.length))), (.tmp 58, (I (w64 (x26.Inlet + 1))))] [(1, (Qol y15))] (.own 1 1 (0) ((w64 (x26.Inlet + 1)).toNat - (0 : Int).toNat))), (8, rp [(.tmp 59, (.own 1 1 (0) ((w64 (x26.Inlet + 1)).toNat - (0 : Int).toNat)))] (I x37))] ⟨aid rfl Try.underlying89 ti34 rfl rfl hi28 (mgt Qbo hj29) rfl, Qnu (k := .i64) (k' := .i64) (lo := none) (hi := some (.tmp 58)) (l := 0) (hh := w64 (x26.Inlet + 1)) rfl Try.underlying37 ti3 (fun _ => rfl) (fun e => nomatch e) (Qrd hs35) (Qrc hs35) (odt (Qaz hs35).2) (odt hs36) rfl rfl, Qep hl38 (aln rfl Try.underlying37 rfl), trivial⟩ ?_
       refine Qak ?_
       refine wmr (mto (n := 90) (l' := [(1, (Qg0 p1)), (2, (Qea p2)), (3, I p3), (4, (Qgt p4)), (11, .ref 0 2 0 0), (12, (.own 1 1 (0) ((⟨p0, p1⟩ : GShared).heads.length))), (14, I x22), (37, (Qea p2)), (38, (I ((p2.length : Int)))), (39, I y14), (60, I x37), (61, I 0)]) (own' := [(Qjf p0 p1), (Qol y15)]) [(1, (Qg0 p1)), (2, (Qea p2)), (3, I p3), (4, (Qgt p4)), (11, .ref 0 2 0 0), (12, (.own 1 1 (0) ((⟨p0, p1⟩ : GShared).heads.length))), (14, I x22), (37, (Qea p2)), (38, (I ((p2.length : Int)))), (39, I y14), (60, I x37), (61, I 0)] [0, 1] [(Qjf p0 p1), (Qol y15)] hφ0 (pc (.rn (.plain _ (nld Qan _))) (pc (.rn (.plain _ (nld Qaa _))) (pc rwl (pc (.rn (.plain _ (nld Qaa _))) (pc (.rn (rqr rfl)) (pc (.rn (Qaf rfl)) (pc rwl (pc (.rn (.plain _ (nld Qaa _))) (pc rwl (pc rwl (pc rwl (pc rwl pn)))))))))))) (qc (spb (lc (.rn (.plain _ (nld Qaa _))) (lc (.rn (.plain _ (nld Qan _))) ln))) (qc (spr Qaa) qn))) ?_
       refine Qb1 (τ := Int × (List Int)) (fun n t => Qdn N p0 p1 k21 x22 x37 n t.1 t.2 = some r) (fun ⟨y39, y40⟩ => ⟨mk 90 [(1, (Qg0 p1)), (2, (Qea p2)), (3, I p3), (4, (Qgt p4)), (11, .ref 0 2 0 0), (12, (.own 1 1 (0) ((⟨p0, p1⟩ : GShared).heads.length))), (14, I x22), (37, (Qea p2)), (38, (I ((p2.length : Int)))), (39, I y14), (60, I x37), (61, I y39)], [(Qjf p0 p1), (Qm8 y40)]⟩) (fun t h => by rw [Qdn] at h; cases h) (fun n43 ih t h => ?_) N (0, y15) h
       obtain ⟨y39, y40⟩ := t
       rw [Qdn] at h
       skip
       refine wx tbk [] trivial ?_
       refine wsq ?_
       rcases bft ((decide (y39 < x37))) with hc44 | hc44
       ·replace h := Qav hc44 h
        refine wft hc44 (by kernel_rfl) ?_
        refine Qao ?_
        refine thn ?_
        refine wsq ?_
        refine Qak ?_
        refine wx tbk [] trivial ?_
        obtain ⟨hi45, h⟩ := cko h
        obtain ⟨hi45a, hi45b⟩ := Qaz hi45
        obtain ⟨x46, hg47, h⟩ := bno h
        obtain ⟨hi48, h⟩ := cko h
        obtain ⟨hi48a, hi48b⟩ := Qaz hi48
        obtain ⟨x49, hg50, h⟩ := bno h
        refine wx1 tbk [(2, rb [(.tmp 64, (.own 1 1 (0) ((⟨p0, p1⟩ : GShared).heads.length))), (.tmp 65, I y39)] [(1, (Qm8 y40))] (.ref 1 1 (y39.toNat) 0)), (3, rb [(.tmp 66, (.ref 1 1 (y39.toNat) 0))] [(1, (Qm8 y40))] (I x46)), (6, rb [(.tmp 64, (.own 1 1 (0) ((⟨p0, p1⟩ : GShared).heads.length))), (.tmp 65, I y39)] [(1, (Qm8 y40))] (.ref 1 1 (y39.toNat) 0)), (7, ⟨[(.tmp 70, (.ref 1 1 (y39.toNat) 0)), (.tmp 69, (I (w64 (x46 - x22))))], [(1, (Qm8 y40))], .any, [(1, (.own 1 ((y40.set y39.toNat (w64 (x46 - x22)) : List Int).map Qad)))], false⟩)] ⟨aio rfl Try.underlying37 ti3 (odt hi45a) (odt hi45b) (Nat.zero_add _), ald rfl ti3 (by decide) (mgt Qad hg47) (nle rfl) rfl, aio rfl Try.underlying37 ti3 (odt hi48a) (odt hi48b) (Nat.zero_add _), ast rfl ti3 (by rfl) (mgt Qad hg50) (nle rfl) (Qfx Qad rfl), trivial⟩ ?_
        refine bln ?_
        refine thn ?_
        refine wx1 tbk [] trivial ?_
        refine thn ?_
        exact arm (mto (n := 90) [(1, (Qg0 p1)), (2, (Qea p2)), (3, I p3), (4, (Qgt p4)), (11, .ref 0 2 0 0), (12, (.own 1 1 (0) ((⟨p0, p1⟩ : GShared).heads.length))), (14, I x22), (37, (Qea p2)), (38, (I ((p2.length : Int)))), (39, I y14), (60, I x37), (61, (I (w64 (y39 + 1))))] [0, 1] [(Qjf p0 p1), (.own 1 ((y40.set y39.toNat (w64 (x46 - x22)) : List Int).map Qad))] hφ0 (pc (.rn (.plain _ (nld Qan _))) (pc (.rn (.plain _ (nld Qaa _))) (pc rwl (pc (.rn (.plain _ (nld Qaa _))) (pc (.rn (rqr rfl)) (pc (.rn (Qaf rfl)) (pc rwl (pc (.rn (.plain _ (nld Qaa _))) (pc rwl (pc rwl (pc rwl (pc rwl pn)))))))))))) (qc (spb (lc (.rn (.plain _ (nld Qaa _))) (lc (.rn (.plain _ (nld Qan _))) ln))) (qc (spr Qaa) qn))) (ih (w64 (y39 + 1), y40.set y39.toNat (w64 (x46 - x22))) h)
       ·replace h := Qaw hc44 h
        refine wfn hc44 (by kernel_rfl) ?_
        refine Qbh ?_
        refine Qar ?_
        refine Qar ?_
        refine Qbg rfl ?_
        refine bln ?_
        refine thn ?_
        exact ⟨(y40), h, (mto (n := 90) [(1, (Qg0 p1)), (2, (Qea p2)), (3, I p3), (4, (Qgt p4)), (11, .ref 0 2 0 0), (12, (.own 1 1 (0) ((⟨p0, p1⟩ : GShared).heads.length))), (37, (Qea p2)), (38, (I ((p2.length : Int)))), (39, I y14)] [0, 1] [(Qjf p0 p1), (Qm8 y40)] hφ0 (pc (.rn (.plain _ (nld Qan _))) (pc (.rn (.plain _ (nld Qaa _))) (pc rwl (pc (.rn (.plain _ (nld Qaa _))) (pc (.rn (rqr rfl)) (pc (.rn (Qaf rfl)) (pc (.rn (.plain _ (nld Qaa _))) (pc rwl (pc rwl pn))))))))) (qc (spb (lc (.rn (.plain _ (nld Qaa _))) (lc (.rn (.plain _ (nld Qan _))) ln))) (qc (spr Qaa) qn)))⟩
    ·replace h := Qaw hc19 h
     refine wfn hc19 (by kernel_rfl) ?_
     refine Qbh ?_
     refine Qar ?_
     refine Qar ?_
     refine Qbg rfl ?_
     refine thn ?_
     exact ⟨(y15), h, (mto (n := 90) [(2, (Qea p2)), (3, I p3), (4, (Qgt p4)), (11, .ref 0 2 0 0), (12, (.own 1 1 (0) ((⟨p0, p1⟩ : GShared).heads.length)))] [0, 1] [(Qjf p0 p1), (Qol y15)] hφ0 (pc (.rn (.plain _ (nld Qaa _))) (pc rwl (pc (.rn (.plain _ (nld Qaa _))) (pc (.rn (rqr rfl)) (pc (.rn (Qaf rfl)) pn))))) (qc (spb (lc (.rn (.plain _ (nld Qaa _))) (lc (.rn (.plain _ (nld Qan _))) ln))) (qc (spr Qaa) qn)))⟩
  ·skip
   obtain ⟨x52, hf51, h⟩ := bno h
   rcases bft ((!x52)) with hb53 | hb53
   ·replace h := Qav hb53 h
    refine wx tbk [(1, rp [fu 80, (.tmp 19, (Qhl p0 p1))] (B x52)), (3, rp [(.tmp 21, (B ((!x52))))] (B true))] ⟨apc (first := []) (cap := []) (vs := [(Qhl p0 p1)]) rfl Qnl (Qc7 N (⟨p0, p1⟩ : GShared) _ hf51) rfl rfl (nlc (NLt.agg _ (nlc (nld Qaa _) (nlc (nld Qan _) nl0))) nl0) nll rfl, asb hb53 (amv rfl), trivial⟩ ?_
    refine Qcy (by kernel_rfl) ?_
    refine wx tbk [] trivial ?_
    refine Qab ?_
    refine Qau ?_
    obtain rfl := osi h
    exact fend ⟨[B false], ⟨rot (by kernel_rfl), trivial⟩, rfl⟩ nll
   ·replace h := Qaw hb53 h
    obtain ⟨x55, hf54, h⟩ := bno h
    rcases bft ((!x55)) with hb56 | hb56
    ·replace h := Qav hb56 h
     refine wx tbk [(1, rp [fu 80, (.tmp 19, (Qhl p0 p1))] (B x52)), (3, rp [(.tmp 21, (B ((!x52))))] (B false)), (6, rp [(.tmp 22, B false), fu 83, (.tmp 23, (Qhl p0 p1)), (.tmp 24, (Qgt p4))] (B x55)), (9, rp [(.tmp 27, (B ((!x55))))] (B true))] ⟨apc (first := []) (cap := []) (vs := [(Qhl p0 p1)]) rfl Qnl (Qc7 N (⟨p0, p1⟩ : GShared) _ hf51) rfl rfl (nlc (NLt.agg _ (nlc (nld Qaa _) (nlc (nld Qan _) nl0))) nl0) nll rfl, asb hb53 (amv rfl), ag_ (apc (first := []) (cap := []) (vs := [(Qhl p0 p1), (Qgt p4)]) rfl Qtx (Qfk N (⟨p0, p1⟩ : GShared) p4 _ hf54) rfl rfl (nlc (NLt.agg _ (nlc (nld Qaa _) (nlc (nld Qan _) nl0))) (nlc (nld Qaa _) nl0)) nll rfl), asb hb56 (amv rfl), trivial⟩ ?_
     refine Qcy (by kernel_rfl) ?_
     refine wx tbk [] trivial ?_
     refine Qab ?_
     refine Qau ?_
     obtain rfl := osi h
     exact fend ⟨[B false], ⟨rot (by kernel_rfl), trivial⟩, rfl⟩ nll
    ·replace h := Qaw hb56 h
     refine wx tbk [(1, rp [fu 80, (.tmp 19, (Qhl p0 p1))] (B x52)), (3, rp [(.tmp 21, (B ((!x52))))] (B false)), (6, rp [(.tmp 22, B false), fu 83, (.tmp 23, (Qhl p0 p1)), (.tmp 24, (Qgt p4))] (B x55)), (9, rp [(.tmp 27, (B ((!x55))))] (B false)), (11, rp [(.tmp 28, B false), (.tmp 29, (Qea p2))] (I ((p2.length : Int)))), (13, rp [(.tmp 28, B false), (.tmp 31, (Qg0 p1))] (I ((p1.length : Int))))] ⟨apc (first := []) (cap := []) (vs := [(Qhl p0 p1)]) rfl Qnl (Qc7 N (⟨p0, p1⟩ : GShared) _ hf51) rfl rfl (nlc (NLt.agg _ (nlc (nld Qaa _) (nlc (nld Qan _) nl0))) nl0) nll rfl, asb hb53 (amv rfl), ag_ (apc (first := []) (cap := []) (vs := [(Qhl p0 p1), (Qgt p4)]) rfl Qtx (Qfk N (⟨p0, p1⟩ : GShared) p4 _ hf54) rfl rfl (nlc (NLt.agg _ (nlc (nld Qaa _) (nlc (nld Qan _) nl0))) (nlc (nld Qaa _) nl0)) nll rfl), asb hb56 (amv rfl), ag_ (alm (c := Qad) (l := p2) (aln rfl Try.underlying37 rfl)), ag_ (alm (c := Qbo) (l := p1) (aln rfl Try.underlying89 rfl)), trivial⟩ ?_
     rcases bft (((p2.length : Int) != (p1.length : Int))) with hc57 | hc57
     ·replace h := Qav hc57 h
      refine wft hc57 (by kernel_rfl) ?_
      refine wx tbk [] trivial ?_
      refine Qab ?_
      refine Qau ?_
      obtain rfl := osi h
      exact fend ⟨[B false], ⟨rot (by kernel_rfl), trivial⟩, rfl⟩ nll
     ·replace h := Qaw hc57 h
      refine wfn hc57 (by kernel_rfl) ?_
      refine Qao ?_
      refine thn ?_
      exact ⟨(), h, (mto (n := 90) [(1, (Qg0 p1)), (2, (Qea p2)), (3, I p3), (4, (Qgt p4)), (11, .ref 0 2 0 0)] [0] [(Qjf p0 p1)] hφ0 (pc (.rn (.plain _ (nld Qan _))) (pc (.rn (.plain _ (nld Qaa _))) (pc rwl (pc (.rn (.plain _ (nld Qaa _))) (pc (.rn (rqr rfl)) pn))))) (qc (spb (lc (.rn (.plain _ (nld Qaa _))) (lc (.rn (.plain _ (nld Qan _))) ln))) qn))⟩
end Go.Proofs.Ytlhakkkjgdbdpaa
