/-
  Functions of the program: what they compute, as plain functions, and that they do. No conditions.
-/
import Derived.Test.YtmbhnllcfmiajaaX2
namespace Go.Proofs.Ytmbhnllcfmiajaa
set_option maxRecDepth 100000
set_option maxHeartbeats 4000000
open Go.RowKit
def Qif (N : Nat) (p0 : Int) : Option Bool :=
  (Qcs N p0 0 1000000000000).bind fun x2 =>
  some x2
theorem Qon (N : Nat) (p0 : Int) (r : Bool) (h : Qif N p0 = some r) : Spec Try.prog 61 [(I p0)] [] (B r) [] := by
  refine Qag Try.func61 rfl 0 (nle rfl) (fun X φ0 w0 hφ0 hd0 => ?_)
  unfold Qif at h
  refine wx tbk [] trivial ?_
  obtain ⟨x2, hf1, h⟩ := bno h
  refine wx tbk [(1, rp [fu 56, (.tmp 3, I p0), ci 0, ci 1000000000000] (B x2))] ⟨apc (first := []) (cap := []) (vs := [I p0, I 0, I 1000000000000]) rfl Qfx (Qbl N p0 0 1000000000000 _ hf1) rfl rfl (nlc nll (nlc nll (nlc nll nl0))) nll rfl, trivial⟩ ?_
  refine Qad ?_
  obtain rfl := osi h
  exact fend ⟨[B x2], ⟨rot (by kernel_rfl), trivial⟩, rfl⟩ nll
def Qf9 (N : Nat) (p0 : Int) : Option Bool :=
  (Qif N p0).bind fun x3 =>
  some (!x3)
def Q75 : Slot := .own 1 [[(.fn (.func 61) [] [])]]
theorem Qmh (N : Nat) (p0 : Int) (r : Bool) (h : Qf9 N p0 = some r) : Spec Try.prog 83 [(I (p0)), (.ref 0 1 (0) 0)] [Q75] (B (r)) [Q75] := by
  refine Qag Try.func83 rfl 1 (nle rfl) (fun X φ0 w0 hφ0 hd0 => ?_)
  unfold Qf9 at h
  refine Qbs ?_
  refine wx tbk [] trivial ?_
  obtain ⟨x3, hf2, h⟩ := bno h
  refine wx tbk [(2, rp [(.tmp 4, (.fn (.func 61) [] [])), (.tmp 5, I p0)] (B x3))] ⟨apc (first := []) (cap := []) (vs := [I p0]) rfl Zep (Qon N p0 _ hf2) rfl rfl (nlc nll nl0) nll rfl, trivial⟩ ?_
  refine wmr (mto (n := 8) (l' := [(3, (B ((!x3))))]) (own' := [Q75]) [(3, (B ((!x3))))] [0] [Q75] hφ0 (pc rwl pn) (qc (spb (lc (.rn (Qbe rn0 rn0)) ln)) qn)) ?_
  refine Qad ?_
  obtain rfl := osi h
  exact ⟨_, Mor.rfl, Qcx (vs := [(B ((!x3)))]) ⟨rot (by kernel_rfl), trivial⟩ rfl (NLt.of0 nll) (by kernel_rfl) (Qak (Qa6 (nlc (NLt.of0 (NLt.fn _ _ _ nl0 nl0)) nl0)) Qbo)⟩
def Qb6 (N : Nat) (p0 : (List Int)) (k2 : Unit → Option Int) : Nat → Int → Option Int
  | 0, _ => none
  | n5 + 1, y3 =>
    bif (decide (y3 < (p0.length : Int))) then
     (getI p0 y3).bind fun x7 =>
     (Qf9 N x7).bind fun x12 =>
     bif x12 then
      some y3
     else
      Qb6 N p0 k2 n5 (w64 (y3 + 1))
    else
     k2 ()
def Qd3 (N : Nat) (p0 : (List Int)) : Option Int :=
  Qcv (fun _ =>
    some (-1)) fun k2 : Unit → Option Int =>
  Qb6 N p0 k2 N 0
def Qwr (p0 : (List Int)) : AV := .dat 1 ((p0 : List Int).map Qam)
def Q1q : AV := .fn (.func 83) [] [(.ref 0 1 (0) 0)]
def Qmb : Slot := .own 1 [[(.fn (.func 61) [] [])]]
theorem Qip (N : Nat) (p0 : (List Int)) (r : Int) (h : Qd3 N p0 = some r) : Spec Try.prog 86 [(Qwr p0), Q1q] [Qmb] (I (r)) [Qmb] := by
  refine Qag Try.func86 rfl 1 (nle rfl) (fun X φ0 w0 hφ0 hd0 => ?_)
  unfold Qd3 at h
  refine Qbs ?_
  refine wx tbk [] trivial ?_
  obtain ⟨k2, hk_k2, h⟩ := jko h
  refine wjn (τ := Unit) (fun t => k2 t = some r) (fun _ => ⟨mk 19 [], [Qmb]⟩) (fun t h => ?_) ?_
  ·subst hk_k2
   refine wx tbk [] trivial ?_
   refine wmr (mto (n := 19) (l' := [(4, (I ((-1))))]) (own' := [Qmb]) [(4, (I ((-1))))] [0] [Qmb] hφ0 (pc rwl pn) (qc (spb (lc (.rn (Qbe rn0 rn0)) ln)) qn)) ?_
   refine Qad ?_
   obtain rfl := osi h
   exact ⟨_, Mor.rfl, Qcx (vs := [(I ((-1)))]) ⟨rot (by kernel_rfl), trivial⟩ rfl (NLt.of0 nll) (by kernel_rfl) (Qak (Qa6 (nlc (NLt.of0 (NLt.fn _ _ _ nl0 nl0)) nl0)) Qbo)⟩
  ·skip
   refine wx tbk [(1, rp [(.tmp 6, (Qwr p0))] (I ((p0.length : Int))))] ⟨alm (c := Qam) (l := p0) (aln rfl Try.underlying27 rfl), trivial⟩ ?_
   refine Qaq ?_
   refine wmr (mto (n := 19) (l' := [(0, (Qwr p0)), (1, Q1q), (7, (I ((p0.length : Int)))), (8, I 0)]) (own' := [Qmb]) [(0, (Qwr p0)), (1, Q1q), (7, (I ((p0.length : Int)))), (8, I 0)] [0] [Qmb] hφ0 (pc (.rn (.plain _ (nld Qaf _))) (pc (.rn (Qbe rn0 (rnc (rqr rfl) rn0))) (pc rwl (pc rwl pn)))) (qc (spb (lc (.rn (Qbe rn0 rn0)) ln)) qn)) ?_
   refine Qc9 (τ := Int) (fun n t => Qb6 N p0 k2 n t = some r) (fun y3 => ⟨mk 19 [(0, (Qwr p0)), (1, Q1q), (7, (I ((p0.length : Int)))), (8, I y3)], [Qmb]⟩) (fun t h => by rw [Qb6] at h; cases h) (fun n5 ih y3 h => ?_) N (0) h
   rw [Qb6] at h
   skip
   refine wx tbk [] trivial ?_
   refine wsq ?_
   rcases bft ((decide (y3 < (p0.length : Int)))) with hc6 | hc6
   ·replace h := Qa2 hc6 h
    refine wft hc6 (by kernel_rfl) ?_
    refine Qar ?_
    refine thn ?_
    refine wsq ?_
    refine Qaq ?_
    refine wx tbk [] trivial ?_
    obtain ⟨x7, hg8, h⟩ := bno h
    obtain ⟨hi9, hj10⟩ := gsm hg8
    obtain ⟨x12, hf11, h⟩ := bno h
    refine wx tbk [(3, rp [(.tmp 12, (Qwr p0)), (.tmp 13, I y3)] (.dptr (Qam (x7)) 0)), (5, ⟨[(.tmp 11, Q1q), (.tmp 15, I x7)], [(0, Qmb)], B x12, [(0, Qmb)], false⟩)] ⟨aid rfl Try.underlying27 ti3 rfl rfl hi9 (mgt Qam hj10) rfl, Qao (first := []) (cap := [.ref 0 1 0 0]) (vs := [I x7]) (σr := [Qmb]) (σr' := [Qmb]) (res' := (B x12)) [0] rfl Q6g (Qmh N x7 _ hf11) rfl (Qbr (rnc (.plain _ nll) (rnc (Qbb rfl) rn0))) (slc (Qal (rnc (.plain _ (NLt.fn _ _ _ nl0 nl0)) rn0)) Qan) (slc (Qal (rnc (.plain _ (NLt.fn _ _ _ nl0 nl0)) rn0)) Qan) (.plain _ nll) rfl rfl rfl, trivial⟩ ?_
    rcases bft (x12) with hc13 | hc13
    ·replace h := Qa2 hc13 h
     refine wft hc13 (by kernel_rfl) ?_
     refine wx tbk [] trivial ?_
     refine wmr (mto (n := 19) (l' := [(4, I y3)]) (own' := [Qmb]) [(4, I y3)] [0] [Qmb] hφ0 (pc rwl pn) (qc (spb (lc (.rn (Qbe rn0 rn0)) ln)) qn)) ?_
     refine Qad ?_
     refine Qaw ?_
     refine Qaj ?_
     refine Qaj ?_
     refine Qaw ?_
     refine Qaj ?_
     obtain rfl := osi h
     exact ⟨_, Mor.rfl, Qcx (vs := [I y3]) ⟨rot (by kernel_rfl), trivial⟩ rfl (NLt.of0 nll) (by kernel_rfl) (Qak (Qa6 (nlc (NLt.of0 (NLt.fn _ _ _ nl0 nl0)) nl0)) Qbo)⟩
    ·replace h := Qa3 hc13 h
     refine wfn hc13 (by kernel_rfl) ?_
     refine Qar ?_
     refine bln ?_
     refine thn ?_
     refine wx1 tbk [] trivial ?_
     refine thn ?_
     exact arm (mto (n := 19) [(0, (Qwr p0)), (1, Q1q), (7, (I ((p0.length : Int)))), (8, (I (w64 (y3 + 1))))] [0] [Qmb] hφ0 (pc (.rn (.plain _ (nld Qaf _))) (pc (.rn (Qbe rn0 (rnc (rqr rfl) rn0))) (pc rwl (pc rwl pn)))) (qc (spb (lc (.rn (Qbe rn0 rn0)) ln)) qn)) (ih (w64 (y3 + 1)) h)
   ·replace h := Qa3 hc6 h
    refine wfn hc6 (by kernel_rfl) ?_
    refine Qcf ?_
    refine Qa8 ?_
    refine Qa8 ?_
    refine Qce rfl ?_
    refine thn ?_
    exact ⟨(), h, (mto (n := 19) [] [0] [Qmb] hφ0 pn (qc (spb (lc (.rn (Qbe rn0 rn0)) ln)) qn))⟩
def Qc0 (N : Nat) (p0 : (List Int)) : Option Bool :=
  (Qd3 N p0).bind fun x3 =>
  some (decide (x3 ≥ 0))
def Zca (p0 : (List Int)) : AV := .dat 1 ((p0 : List Int).map Qam)
def Zb9 : AV := .fn (.func 83) [] [(.ref 0 1 (0) 0)]
def Quo : Slot := .own 1 [[(.fn (.func 61) [] [])]]
theorem Qhp (N : Nat) (p0 : (List Int)) (r : Bool) (h : Qc0 N p0 = some r) : Spec Try.prog 66 [(Zca p0), Zb9] [Quo] (B (r)) [Quo] := by
  refine Qag Try.func66 rfl 1 (nle rfl) (fun X φ0 w0 hφ0 hd0 => ?_)
  unfold Qc0 at h
  refine Qbs ?_
  refine wx tbk [] trivial ?_
  obtain ⟨x3, hf2, h⟩ := bno h
  refine wx tbk [(2, ⟨[fu 86, (.tmp 5, (Zca p0)), (.tmp 6, Zb9)], [(0, Quo)], I x3, [(0, Quo)], false⟩)] ⟨Qao (first := []) (cap := []) (vs := [(Zca p0), Zb9]) (σr := [Quo]) (σr' := [Quo]) (res' := (I x3)) [0] rfl Qou (Qip N p0 _ hf2) rfl (Qbr (rnc (.plain _ (nld Qaf _)) (rnc (Qbe rn0 (rnc (Qbb rfl) rn0)) rn0))) (slc (Qal (rnc (.plain _ (NLt.fn _ _ _ nl0 nl0)) rn0)) Qan) (slc (Qal (rnc (.plain _ (NLt.fn _ _ _ nl0 nl0)) rn0)) Qan) (.plain _ nll) rfl rfl rfl, trivial⟩ ?_
  refine wmr (mto (n := 9) (l' := [(4, (B ((decide (x3 ≥ 0)))))]) (own' := [Quo]) [(4, (B ((decide (x3 ≥ 0)))))] [0] [Quo] hφ0 (pc rwl pn) (qc (spb (lc (.rn (Qbe rn0 rn0)) ln)) qn)) ?_
  refine Qad ?_
  obtain rfl := osi h
  exact ⟨_, Mor.rfl, Qcx (vs := [(B ((decide (x3 ≥ 0))))]) ⟨rot (by kernel_rfl), trivial⟩ rfl (NLt.of0 nll) (by kernel_rfl) (Qak (Qa6 (nlc (NLt.of0 (NLt.fn _ _ _ nl0 nl0)) nl0)) Qbo)⟩
def Qhv (N : Nat) (p0 : (List Int)) : Option Bool :=
  (Qc0 N p0).bind fun x2 =>
  some (!x2)
def Zcc (p0 : (List Int)) : AV := .dat 1 ((p0 : List Int).map Qam)
def Zcb : AV := .fn (.func 83) [] [(.ref 0 1 (0) 0)]
def Q76 : Slot := .own 1 [[(.fn (.func 61) [] [])]]
theorem Qno (N : Nat) (p0 : (List Int)) (r : Bool) (h : Qhv N p0 = some r) : Spec Try.prog 60 [(Zcc p0), (.fn (.func 61) [] [])] [] (B (r)) [] := by
  refine Qag Try.func60 rfl 0 (nle rfl) (fun X φ0 w0 hφ0 hd0 => ?_)
  unfold Qhv at h
  refine wx tbk [] trivial ?_
  obtain ⟨x2, hf1, h⟩ := bno h
  refine wx tbk [(1, rp [(.tmp 3, .ref 0 1 0 0)] Zcb), (2, ⟨[fu 66, (.tmp 5, (Zcc p0)), (.tmp 6, Zcb)], [(0, Q76)], B x2, [(0, Q76)], false⟩)] ⟨Qej (fs := []) (cs := [.ref 0 1 0 0]) rfl rfl rfl rfl, Qao (first := []) (cap := []) (vs := [(Zcc p0), Zcb]) (σr := [Q76]) (σr' := [Q76]) (res' := (B x2)) [0] rfl Qov (Qhp N p0 _ hf1) rfl (Qbr (rnc (.plain _ (nld Qaf _)) (rnc (Qbe rn0 (rnc (Qbb rfl) rn0)) rn0))) (slc (Qal (rnc (.plain _ (NLt.fn _ _ _ nl0 nl0)) rn0)) Qan) (slc (Qal (rnc (.plain _ (NLt.fn _ _ _ nl0 nl0)) rn0)) Qan) (.plain _ nll) rfl rfl rfl, trivial⟩ ?_
  refine Qad ?_
  obtain rfl := osi h
  exact fend ⟨[(B ((!x2)))], ⟨rot (by kernel_rfl), trivial⟩, rfl⟩ nll
def Qiw (N : Nat) (p0 : GNet) (p1 : (List Int)) : Option Int :=
  (Qgc N p0).bind fun x2 =>
  bif (!x2) then
   some 1
  else
   bif ((p1.length : Int) != (p0.Elements.length : Int)) then
    some 1
   else
    (Qhv N p1).bind fun x6 =>
    bif (!x6) then
     some 1
    else
     some 0
def Zcd (p0 : GNet) : AV := .dat 7 ((p0.Elements : List GElement).map Qah)
def Q1r (p0 : GNet) : AV := .agg [(.dat 5 ((p0.Table : List GRow).map Qav)), (Zcd p0)]
def Q77 (p1 : (List Int)) : AV := .dat 1 ((p1 : List Int).map Qam)
theorem Qqs (N : Nat) (p0 : GNet) (p1 : (List Int)) (r : Int) (h : Qiw N p0 p1 = some r) : Spec Try.prog 35 [(.agg (Qpg p0)), (.dat 1 (p1.map Qam))] [] (I r) [] := by
  refine Qag Try.func35 rfl 0 (nle rfl) (fun X φ0 w0 hφ0 hd0 => ?_)
  unfold Qiw at h
  refine wx tbk [] trivial ?_
  refine wsq ?_
  obtain ⟨x2, hf1, h⟩ := bno h
  rcases bft ((!x2)) with hb3 | hb3
  ·replace h := Qa2 hb3 h
   refine wx tbk [(1, rp [fu 32, (.tmp 5, (Q1r p0))] (B x2)), (3, rp [(.tmp 7, (B ((!x2))))] (B true))] ⟨apc (first := []) (cap := []) (vs := [(Q1r p0)]) rfl Qtx (Qgq N p0 _ hf1) rfl rfl (nlc (NLt.agg _ (nlc (nld Qai _) (nlc (nld Qac _) nl0))) nl0) nll rfl, asb hb3 (amv rfl), trivial⟩ ?_
   refine Qbq (by kernel_rfl) ?_
   refine wx tbk [] trivial ?_
   refine Qad ?_
   refine Qaj ?_
   obtain rfl := osi h
   exact fend ⟨[I 1], ⟨rot (by kernel_rfl), trivial⟩, rfl⟩ nll
  ·replace h := Qa3 hb3 h
   rcases bft (((p1.length : Int) != (p0.Elements.length : Int))) with hb4 | hb4
   ·replace h := Qa2 hb4 h
    refine wx tbk [(1, rp [fu 32, (.tmp 5, (Q1r p0))] (B x2)), (3, rp [(.tmp 7, (B ((!x2))))] (B false)), (5, rp [(.tmp 8, B false), (.tmp 9, (Q77 p1))] (I ((p1.length : Int)))), (8, rp [(.tmp 8, B false), (.tmp 12, (Zcd p0))] (I ((p0.Elements.length : Int)))), (11, rp [(.tmp 15, (B (((p1.length : Int) != (p0.Elements.length : Int)))))] (B true))] ⟨apc (first := []) (cap := []) (vs := [(Q1r p0)]) rfl Qtx (Qgq N p0 _ hf1) rfl rfl (nlc (NLt.agg _ (nlc (nld Qai _) (nlc (nld Qac _) nl0))) nl0) nll rfl, asb hb3 (amv rfl), ag_ (alm (c := Qam) (l := p1) (aln rfl Try.underlying27 rfl)), ag_ (alm (c := Qah) (l := p0.Elements) (aln rfl Try.underlying40 rfl)), asb hb4 (amv rfl), trivial⟩ ?_
    refine Qbq (by kernel_rfl) ?_
    refine wx tbk [] trivial ?_
    refine Qad ?_
    refine Qaj ?_
    obtain rfl := osi h
    exact fend ⟨[I 1], ⟨rot (by kernel_rfl), trivial⟩, rfl⟩ nll
   ·replace h := Qa3 hb4 h
    obtain ⟨x6, hf5, h⟩ := bno h
    refine wx tbk [(1, rp [fu 32, (.tmp 5, (Q1r p0))] (B x2)), (3, rp [(.tmp 7, (B ((!x2))))] (B false)), (5, rp [(.tmp 8, B false), (.tmp 9, (Q77 p1))] (I ((p1.length : Int)))), (8, rp [(.tmp 8, B false), (.tmp 12, (Zcd p0))] (I ((p0.Elements.length : Int)))), (11, rp [(.tmp 15, (B (((p1.length : Int) != (p0.Elements.length : Int)))))] (B false)), (13, rp [(.tmp 16, B false), fu 60, (.tmp 17, (Q77 p1)), fu 61] (B x6))] ⟨apc (first := []) (cap := []) (vs := [(Q1r p0)]) rfl Qtx (Qgq N p0 _ hf1) rfl rfl (nlc (NLt.agg _ (nlc (nld Qai _) (nlc (nld Qac _) nl0))) nl0) nll rfl, asb hb3 (amv rfl), ag_ (alm (c := Qam) (l := p1) (aln rfl Try.underlying27 rfl)), ag_ (alm (c := Qah) (l := p0.Elements) (aln rfl Try.underlying40 rfl)), asb hb4 (amv rfl), ag_ (Qao (first := []) (cap := []) (vs := [(Q77 p1), (.fn (.func 61) [] [])]) (σr := []) (σr' := []) (res' := (B x6)) [] rfl Qx1 (Qno N p1 _ hf5) rfl (Qbr (rnc (.plain _ (nld Qaf _)) (rnc (.plain _ (NLt.fn _ _ _ nl0 nl0)) rn0))) Qan Qan (.plain _ nll) rfl rfl rfl), trivial⟩ ?_
    rcases bft ((!x6)) with hc7 | hc7
    ·replace h := Qa2 hc7 h
     refine wft hc7 (by kernel_rfl) ?_
     refine wx tbk [] trivial ?_
     refine Qad ?_
     refine Qaj ?_
     obtain rfl := osi h
     exact fend ⟨[I 1], ⟨rot (by kernel_rfl), trivial⟩, rfl⟩ nll
    ·replace h := Qa3 hc7 h
     refine wfn hc7 (by kernel_rfl) ?_
     refine Qar ?_
     refine thn ?_
     refine wx tbk [] trivial ?_
     refine Qad ?_
     obtain rfl := osi h
     exact fend ⟨[I 0], ⟨rot (by kernel_rfl), trivial⟩, rfl⟩ nll
def Qdk (N : Nat) (p0 : GNet) (p1 : Int) (k2 : (List Int) → Option (List Int)) : Nat → (List Int) → Int → Option (List Int)
  | 0, _, _ => none
  | n7 + 1, y3, y4 =>
    bif (decide (y4 < (p0.Elements.length : Int))) then
     (getI p0.Elements y4).bind fun x9 =>
     bif (x9.Kind == p1) then
      chk (decide ((y3.length + ([y4]).length) * 8 ≤ 140737488355328)) <|
      Qdk N p0 p1 k2 n7 (y3 ++ ([y4])) (w64 (y4 + 1))
     else
      Qdk N p0 p1 k2 n7 y3 (w64 (y4 + 1))
    else
     k2 (y3)
def Qhh (N : Nat) (p0 : GNet) (p1 : Int) : Option (List Int) :=
  Qcv (fun y1 =>
    some y1) fun k2 : (List Int) → Option (List Int) =>
  Qdk N p0 p1 k2 N ([]) 0
def Qwq (p0 : GNet) : AV := .dat 7 ((p0.Elements : List GElement).map Qah)
def Qzt (y3 : (List Int)) : AV := .acc 0 3 1 ((y3 : List Int).map Qam)
theorem Qhw (N : Nat) (p0 : GNet) (p1 : Int) (r : (List Int)) (h : Qhh N p0 p1 = some r) : Spec Try.prog 70 [(.agg (Qpg p0)), (K .u8 p1)] [] (.dat 1 (r.map Qam)) [] := by
  refine Qag Try.func70 rfl 0 (nle rfl) (fun X φ0 w0 hφ0 hd0 => ?_)
  unfold Qhh at h
  refine wx tbk [] trivial ?_
  obtain ⟨k2, hk_k2, h⟩ := jko h
  refine wjn (τ := (List Int)) (fun t => k2 t = some r) (fun y1 => ⟨mk 25 [(4, (.acc 0 3 1 ((y1 : List Int).map Qam)))], [.tok]⟩) (fun y1 h => ?_) ?_
  ·subst hk_k2
   refine wx tbk [] trivial ?_
   refine Qad ?_
   obtain rfl := osi h
   exact fend ⟨[(.dat 1 ((y1 : List Int).map Qam))], ⟨Qe4 (v := (.acc 0 3 1 ((y1 : List Int).map Qam))) (rot (by kernel_rfl)) Less.acc, trivial⟩, rfl⟩ (nld Qaf _)
  ·skip
   refine wx tbk [(2, rp [(.tmp 8, (Qwq p0))] (I ((p0.Elements.length : Int))))] ⟨alm (c := Qah) (l := p0.Elements) (aln rfl Try.underlying40 rfl), trivial⟩ ?_
   refine Qaq ?_
   refine wmr (Mor.trans (Qxq 1 3 1 4 (by kernel_rfl) (by kernel_rfl)) (mto (n := 25) (l' := [(1, (K .u8 (p1))), (4, (.acc 0 3 1 ((([]) : List Int).map Qam))), (8, (Qwq p0)), (9, (I ((p0.Elements.length : Int)))), (10, I 0)]) (own' := [.tok]) [(1, (K .u8 (p1))), (4, (.acc 1 3 1 (([] : List Int).map Qam))), (8, (Qwq p0)), (9, (I ((p0.Elements.length : Int)))), (10, I 0)] [1] [.tok] hφ0 (pc rwl (pc (.rn (Qgn rfl (Qei Qaf _))) (pc (.rn (.plain _ (nld Qac _))) (pc rwl (pc rwl pn))))) (qc .tok qn))) ?_
   refine Qc9 (τ := (List Int) × Int) (fun n t => Qdk N p0 p1 k2 n t.1 t.2 = some r) (fun ⟨y3, y4⟩ => ⟨mk 25 [(1, (K .u8 (p1))), (4, (Qzt y3)), (8, (Qwq p0)), (9, (I ((p0.Elements.length : Int)))), (10, I y4)], [.tok]⟩) (fun t h => by rw [Qdk] at h; cases h) (fun n7 ih t h => ?_) N ([], 0) h
   obtain ⟨y3, y4⟩ := t
   rw [Qdk] at h
   skip
   refine wx tbk [] trivial ?_
   refine wsq ?_
   rcases bft ((decide (y4 < (p0.Elements.length : Int)))) with hc8 | hc8
   ·replace h := Qa2 hc8 h
    refine wft hc8 (by kernel_rfl) ?_
    refine Qar ?_
    refine thn ?_
    refine wsq ?_
    refine Qaq ?_
    obtain ⟨x9, hg10, h⟩ := bno h
    obtain ⟨hi11, hj12⟩ := gsm hg10
    refine wx tbk [(1, rp [(.tmp 8, (Qwq p0)), (.tmp 10, I y4)] (.dptr (Qah (x9)) 0))] ⟨aid rfl Try.underlying40 ti76 rfl rfl hi11 (mgt Qah hj12) rfl, trivial⟩ ?_
    refine wx tbk [] trivial ?_
    rcases bft ((x9.Kind == p1)) with hc13 | hc13
    ·replace h := Qa2 hc13 h
     refine wft hc13 (by kernel_rfl) ?_
     obtain ⟨ha14, h⟩ := cko h
     refine wx1 tbk [(2, rp [(.tmp 20, I y4)] (.dat 1 (([y4] : List Int).map Qam))), (3, ⟨[(.tmp 19, (Qzt y3)), (.tmp 21, (.dat 1 (([y4] : List Int).map Qam)))], [(0, .tok), (2, .unused)], (.acc 2 3 1 ((y3 ++ ([y4]) : List Int).map Qam)), [(0, .dead), (2, .tok)], false⟩)] ⟨Qbp (vs := [I y4]) rfl Try.underlying27 ti3 tz3 rfl (by decide) rfl (by decide) (by rfl) (by rfl) (by rfl) rfl, Qkv rfl Try.underlying27 te3 (Base.acc _ _) rfl rfl (by rfl) (Qo3 Qam ha14) (Qo2 Qam ha14 (by decide)) (Qo1 Qam) rfl rfl, trivial⟩ ?_
     refine bln ?_
     refine thn ?_
     refine wx1 tbk [] trivial ?_
     refine thn ?_
     exact arm (mto (n := 25) [(1, (K .u8 (p1))), (4, (.acc 2 3 1 ((y3 ++ ([y4]) : List Int).map Qam))), (8, (Qwq p0)), (9, (I ((p0.Elements.length : Int)))), (10, (I (w64 (y4 + 1))))] [2] [.tok] hφ0 (pc rwl (pc (.rn (Qgn rfl (Qei Qaf _))) (pc (.rn (.plain _ (nld Qac _))) (pc rwl (pc rwl pn))))) (qc .tok qn)) (ih (y3 ++ ([y4]), w64 (y4 + 1)) h)
    ·replace h := Qa3 hc13 h
     refine wfn hc13 (by kernel_rfl) ?_
     refine Qar ?_
     refine bln ?_
     refine thn ?_
     refine wx1 tbk [] trivial ?_
     refine thn ?_
     exact arm (mto (n := 25) [(1, (K .u8 (p1))), (4, (Qzt y3)), (8, (Qwq p0)), (9, (I ((p0.Elements.length : Int)))), (10, (I (w64 (y4 + 1))))] [0] [.tok] hφ0 (pc rwl (pc (.rn (Qgn rfl (Qei Qaf _))) (pc (.rn (.plain _ (nld Qac _))) (pc rwl (pc rwl pn))))) (qc .tok qn)) (ih (y3, w64 (y4 + 1)) h)
   ·replace h := Qa3 hc8 h
    refine wfn hc8 (by kernel_rfl) ?_
    refine Qcf ?_
    refine Qa8 ?_
    refine Qa8 ?_
    refine Qce rfl ?_
    refine thn ?_
    exact ⟨(y3), h, (mto (n := 25) [(4, (Qzt y3))] [0] [.tok] hφ0 (pc (.rn (Qgn rfl (Qei Qaf _))) pn) (qc .tok qn))⟩
def Qda (N : Nat) (p0 : GStream) : Option Bool :=
  (Qct N p0.Mass 0 1000000).bind fun x2 =>
  bif x2 then
   (Qct N p0.Heat 0 (w64 (4000 * p0.Mass))).bind fun x5 =>
   bif x5 then
    (Qct N p0.Silica 0 (w64 (10000 * p0.Mass))).bind fun x8 =>
    bif x8 then
     (Qct N p0.Gas 0 1000000000).bind fun x11 =>
     some x11
    else
     some false
   else
    some false
  else
   some false
theorem Qc6 (N : Nat) (p0 : GStream) (r : Bool) (h : Qda N p0 = some r) : Spec Try.prog 34 [(.agg (Qaa p0))] [] (B r) [] := by
  refine Qag Try.func34 rfl 0 (nle rfl) (fun X φ0 w0 hφ0 hd0 => ?_)
  unfold Qda at h
  refine wx tbk [] trivial ?_
  obtain ⟨x2, hf1, h⟩ := bno h
  rcases bft (x2) with hb3 | hb3
  ·replace h := Qa2 hb3 h
   obtain ⟨x5, hf4, h⟩ := bno h
   rcases bft (x5) with hb6 | hb6
   ·replace h := Qa2 hb6 h
    obtain ⟨x8, hf7, h⟩ := bno h
    rcases bft (x8) with hb9 | hb9
    ·replace h := Qa2 hb9 h
     obtain ⟨x11, hf10, h⟩ := bno h
     refine wx tbk [(2, rp [fu 45, (.tmp 4, I p0.Mass), ci 0, ci 1000000] (B x2)), (3, rp [(.tmp 5, B x2)] (B true)), (9, rp [(.tmp 6, B true), fu 45, (.tmp 8, I p0.Heat), ci 0, (.tmp 11, (I (w64 (4000 * p0.Mass))))] (B x5)), (11, rp [(.tmp 13, B x5)] (B true)), (17, rp [(.tmp 14, B true), fu 45, (.tmp 16, I p0.Silica), ci 0, (.tmp 19, (I (w64 (10000 * p0.Mass))))] (B x8)), (19, rp [(.tmp 21, B x8)] (B true)), (22, rp [(.tmp 22, B true), fu 45, (.tmp 24, I p0.Gas), ci 0, ci 1000000000] (B x11))] ⟨apc (first := []) (cap := []) (vs := [I p0.Mass, I 0, I 1000000]) rfl Qdf (Qas N p0.Mass 0 1000000 _ hf1) rfl rfl (nlc nll (nlc nll (nlc nll nl0))) nll rfl, asb hb3 (amv rfl), ag_ (apc (first := []) (cap := []) (vs := [I p0.Heat, I 0, (I (w64 (4000 * p0.Mass)))]) rfl Qdf (Qas N p0.Heat 0 (w64 (4000 * p0.Mass)) _ hf4) rfl rfl (nlc nll (nlc nll (nlc nll nl0))) nll rfl), asb hb6 (amv rfl), ag_ (apc (first := []) (cap := []) (vs := [I p0.Silica, I 0, (I (w64 (10000 * p0.Mass)))]) rfl Qdf (Qas N p0.Silica 0 (w64 (10000 * p0.Mass)) _ hf7) rfl rfl (nlc nll (nlc nll (nlc nll nl0))) nll rfl), asb hb9 (amv rfl), ag_ (apc (first := []) (cap := []) (vs := [I p0.Gas, I 0, I 1000000000]) rfl Qdf (Qas N p0.Gas 0 1000000000 _ hf10) rfl rfl (nlc nll (nlc nll (nlc nll nl0))) nll rfl), trivial⟩ ?_
     refine Qad ?_
     obtain rfl := osi h
     exact fend ⟨[B x11], ⟨rot (by kernel_rfl), trivial⟩, rfl⟩ nll
    ·replace h := Qa3 hb9 h
     refine wx tbk [(2, rp [fu 45, (.tmp 4, I p0.Mass), ci 0, ci 1000000] (B x2)), (3, rp [(.tmp 5, B x2)] (B true)), (9, rp [(.tmp 6, B true), fu 45, (.tmp 8, I p0.Heat), ci 0, (.tmp 11, (I (w64 (4000 * p0.Mass))))] (B x5)), (11, rp [(.tmp 13, B x5)] (B true)), (17, rp [(.tmp 14, B true), fu 45, (.tmp 16, I p0.Silica), ci 0, (.tmp 19, (I (w64 (10000 * p0.Mass))))] (B x8)), (19, rp [(.tmp 21, B x8)] (B false))] ⟨apc (first := []) (cap := []) (vs := [I p0.Mass, I 0, I 1000000]) rfl Qdf (Qas N p0.Mass 0 1000000 _ hf1) rfl rfl (nlc nll (nlc nll (nlc nll nl0))) nll rfl, asb hb3 (amv rfl), ag_ (apc (first := []) (cap := []) (vs := [I p0.Heat, I 0, (I (w64 (4000 * p0.Mass)))]) rfl Qdf (Qas N p0.Heat 0 (w64 (4000 * p0.Mass)) _ hf4) rfl rfl (nlc nll (nlc nll (nlc nll nl0))) nll rfl), asb hb6 (amv rfl), ag_ (apc (first := []) (cap := []) (vs := [I p0.Silica, I 0, (I (w64 (10000 * p0.Mass)))]) rfl Qdf (Qas N p0.Silica 0 (w64 (10000 * p0.Mass)) _ hf7) rfl rfl (nlc nll (nlc nll (nlc nll nl0))) nll rfl), asb hb9 (amv rfl), trivial⟩ ?_
     refine Qad ?_
     obtain rfl := osi h
     exact fend ⟨[B false], ⟨rot (by kernel_rfl), trivial⟩, rfl⟩ nll
   ·replace h := Qa3 hb6 h
    refine wx tbk [(2, rp [fu 45, (.tmp 4, I p0.Mass), ci 0, ci 1000000] (B x2)), (3, rp [(.tmp 5, B x2)] (B true)), (9, rp [(.tmp 6, B true), fu 45, (.tmp 8, I p0.Heat), ci 0, (.tmp 11, (I (w64 (4000 * p0.Mass))))] (B x5)), (11, rp [(.tmp 13, B x5)] (B false))] ⟨apc (first := []) (cap := []) (vs := [I p0.Mass, I 0, I 1000000]) rfl Qdf (Qas N p0.Mass 0 1000000 _ hf1) rfl rfl (nlc nll (nlc nll (nlc nll nl0))) nll rfl, asb hb3 (amv rfl), ag_ (apc (first := []) (cap := []) (vs := [I p0.Heat, I 0, (I (w64 (4000 * p0.Mass)))]) rfl Qdf (Qas N p0.Heat 0 (w64 (4000 * p0.Mass)) _ hf4) rfl rfl (nlc nll (nlc nll (nlc nll nl0))) nll rfl), asb hb6 (amv rfl), trivial⟩ ?_
    refine Qad ?_
    obtain rfl := osi h
    exact fend ⟨[B false], ⟨rot (by kernel_rfl), trivial⟩, rfl⟩ nll
  ·replace h := Qa3 hb3 h
   refine wx tbk [(2, rp [fu 45, (.tmp 4, I p0.Mass), ci 0, ci 1000000] (B x2)), (3, rp [(.tmp 5, B x2)] (B false))] ⟨apc (first := []) (cap := []) (vs := [I p0.Mass, I 0, I 1000000]) rfl Qdf (Qas N p0.Mass 0 1000000 _ hf1) rfl rfl (nlc nll (nlc nll (nlc nll nl0))) nll rfl, asb hb3 (amv rfl), trivial⟩ ?_
   refine Qad ?_
   obtain rfl := osi h
   exact fend ⟨[B false], ⟨rot (by kernel_rfl), trivial⟩, rfl⟩ nll
def Qfp (N : Nat) (p0 : GStream) : Option Int :=
  (Qda N p0).bind fun x2 =>
  bif (!x2) then
   some 1
  else
   some 0
def Zf2 (p0 : GStream) : AV := .agg [(I (p0.Mass)), (I (p0.Heat)), (I (p0.Silica)), (I (p0.Gas))]
theorem Qlt (N : Nat) (p0 : GStream) (r : Int) (h : Qfp N p0 = some r) : Spec Try.prog 14 [(.agg (Qaa p0))] [] (I r) [] := by
  refine Qag Try.func14 rfl 0 (nle rfl) (fun X φ0 w0 hφ0 hd0 => ?_)
  unfold Qfp at h
  refine wx tbk [] trivial ?_
  refine wsq ?_
  obtain ⟨x2, hf1, h⟩ := bno h
  refine wx tbk [(1, rp [fu 34, (.tmp 3, (Zf2 p0))] (B x2))] ⟨apc (first := []) (cap := []) (vs := [(Zf2 p0)]) rfl Qna (Qc6 N p0 _ hf1) rfl rfl (nlc (NLt.agg _ (nlc nll (nlc nll (nlc nll (nlc nll nl0))))) nl0) nll rfl, trivial⟩ ?_
  rcases bft ((!x2)) with hc3 | hc3
  ·replace h := Qa2 hc3 h
   refine wft hc3 (by kernel_rfl) ?_
   refine wx tbk [] trivial ?_
   refine Qad ?_
   refine Qaj ?_
   obtain rfl := osi h
   exact fend ⟨[I 1], ⟨rot (by kernel_rfl), trivial⟩, rfl⟩ nll
  ·replace h := Qa3 hc3 h
   refine wfn hc3 (by kernel_rfl) ?_
   refine Qar ?_
   refine thn ?_
   refine wx tbk [] trivial ?_
   refine Qad ?_
   obtain rfl := osi h
   exact fend ⟨[I 0], ⟨rot (by kernel_rfl), trivial⟩, rfl⟩ nll
def Qhx (N : Nat) (p0 : GStream) : Option Bool :=
  (Qfp N p0).bind fun x2 =>
  some (x2 == 0)
def Zf3 (p0 : GStream) : AV := .agg [(I (p0.Mass)), (I (p0.Heat)), (I (p0.Silica)), (I (p0.Gas))]
theorem Qnp (N : Nat) (p0 : GStream) (r : Bool) (h : Qhx N p0 = some r) : Spec Try.prog 72 [(.agg (Qaa p0))] [] (B r) [] := by
  refine Qag Try.func72 rfl 0 (nle rfl) (fun X φ0 w0 hφ0 hd0 => ?_)
  unfold Qhx at h
  refine wx tbk [] trivial ?_
  obtain ⟨x2, hf1, h⟩ := bno h
  refine wx tbk [(1, rp [fu 14, (.tmp 3, (Zf3 p0))] (I x2))] ⟨apc (first := []) (cap := []) (vs := [(Zf3 p0)]) rfl Ze6 (Qlt N p0 _ hf1) rfl rfl (nlc (NLt.agg _ (nlc nll (nlc nll (nlc nll (nlc nll nl0))))) nl0) nll rfl, trivial⟩ ?_
  refine Qad ?_
  obtain rfl := osi h
  exact fend ⟨[(B ((x2 == 0)))], ⟨rot (by kernel_rfl), trivial⟩, rfl⟩ nll
def Qdh (N : Nat) (p0 : GStream) : Option Bool :=
  (Qhx N p0).bind fun x3 =>
  some (!x3)
def Zb4 (p0 : GStream) : AV := .agg [(I (p0.Mass)), (I (p0.Heat)), (I (p0.Silica)), (I (p0.Gas))]
def Q71 : Slot := .own 1 [[(.fn (.func 72) [] [])]]
theorem Qi0 (N : Nat) (p0 : GStream) (r : Bool) (h : Qdh N p0 = some r) : Spec Try.prog 88 [(Zb4 p0), (.ref 0 1 (0) 0)] [Q71] (B (r)) [Q71] := by
  refine Qag Try.func88 rfl 1 (nle rfl) (fun X φ0 w0 hφ0 hd0 => ?_)
  unfold Qdh at h
  refine Qbs ?_
  refine wx tbk [] trivial ?_
  obtain ⟨x3, hf2, h⟩ := bno h
  refine wx tbk [(2, rp [(.tmp 4, (.fn (.func 72) [] [])), (.tmp 5, (Zb4 p0))] (B x3))] ⟨apc (first := []) (cap := []) (vs := [(Zb4 p0)]) rfl Zei (Qnp N p0 _ hf2) rfl rfl (nlc (NLt.agg _ (nlc nll (nlc nll (nlc nll (nlc nll nl0))))) nl0) nll rfl, trivial⟩ ?_
  refine wmr (mto (n := 8) (l' := [(3, (B ((!x3))))]) (own' := [Q71]) [(3, (B ((!x3))))] [0] [Q71] hφ0 (pc rwl pn) (qc (spb (lc (.rn (Qbe rn0 rn0)) ln)) qn)) ?_
  refine Qad ?_
  obtain rfl := osi h
  exact ⟨_, Mor.rfl, Qcx (vs := [(B ((!x3)))]) ⟨rot (by kernel_rfl), trivial⟩ rfl (NLt.of0 nll) (by kernel_rfl) (Qak (Qa6 (nlc (NLt.of0 (NLt.fn _ _ _ nl0 nl0)) nl0)) Qbo)⟩
def Qa4 (N : Nat) (p0 : (List GStream)) (k2 : Unit → Option Int) : Nat → Int → Option Int
  | 0, _ => none
  | n5 + 1, y3 =>
    bif (decide (y3 < (p0.length : Int))) then
     (getI p0 y3).bind fun x7 =>
     (Qdh N x7).bind fun x12 =>
     bif x12 then
      some y3
     else
      Qa4 N p0 k2 n5 (w64 (y3 + 1))
    else
     k2 ()
def Qb1 (N : Nat) (p0 : (List GStream)) : Option Int :=
  Qcv (fun _ =>
    some (-1)) fun k2 : Unit → Option Int =>
  Qa4 N p0 k2 N 0
def Qwp (p0 : (List GStream)) : AV := .dat 4 ((p0 : List GStream).map Qaa)
def Q1p : AV := .fn (.func 88) [] [(.ref 0 1 (0) 0)]
def Qma : Slot := .own 1 [[(.fn (.func 72) [] [])]]
def Zf4 (x7 : GStream) : AV := .agg [(I (x7.Mass)), (I (x7.Heat)), (I (x7.Silica)), (I (x7.Gas))]
theorem Qfq (N : Nat) (p0 : (List GStream)) (r : Int) (h : Qb1 N p0 = some r) : Spec Try.prog 95 [(Qwp p0), Q1p] [Qma] (I (r)) [Qma] := by
  refine Qag Try.func95 rfl 1 (nle rfl) (fun X φ0 w0 hφ0 hd0 => ?_)
  unfold Qb1 at h
  refine Qbs ?_
  refine wx tbk [] trivial ?_
  obtain ⟨k2, hk_k2, h⟩ := jko h
  refine wjn (τ := Unit) (fun t => k2 t = some r) (fun _ => ⟨mk 19 [], [Qma]⟩) (fun t h => ?_) ?_
  ·subst hk_k2
   refine wx tbk [] trivial ?_
   refine wmr (mto (n := 19) (l' := [(4, (I ((-1))))]) (own' := [Qma]) [(4, (I ((-1))))] [0] [Qma] hφ0 (pc rwl pn) (qc (spb (lc (.rn (Qbe rn0 rn0)) ln)) qn)) ?_
   refine Qad ?_
   obtain rfl := osi h
   exact ⟨_, Mor.rfl, Qcx (vs := [(I ((-1)))]) ⟨rot (by kernel_rfl), trivial⟩ rfl (NLt.of0 nll) (by kernel_rfl) (Qak (Qa6 (nlc (NLt.of0 (NLt.fn _ _ _ nl0 nl0)) nl0)) Qbo)⟩
  ·skip
   refine wx tbk [(1, rp [(.tmp 6, (Qwp p0))] (I ((p0.length : Int))))] ⟨alm (c := Qaa) (l := p0) (aln rfl Try.underlying45 rfl), trivial⟩ ?_
   refine Qaq ?_
   refine wmr (mto (n := 19) (l' := [(0, (Qwp p0)), (1, Q1p), (7, (I ((p0.length : Int)))), (8, I 0)]) (own' := [Qma]) [(0, (Qwp p0)), (1, Q1p), (7, (I ((p0.length : Int)))), (8, I 0)] [0] [Qma] hφ0 (pc (.rn (.plain _ (nld Qae _))) (pc (.rn (Qbe rn0 (rnc (rqr rfl) rn0))) (pc rwl (pc rwl pn)))) (qc (spb (lc (.rn (Qbe rn0 rn0)) ln)) qn)) ?_
   refine Qc9 (τ := Int) (fun n t => Qa4 N p0 k2 n t = some r) (fun y3 => ⟨mk 19 [(0, (Qwp p0)), (1, Q1p), (7, (I ((p0.length : Int)))), (8, I y3)], [Qma]⟩) (fun t h => by rw [Qa4] at h; cases h) (fun n5 ih y3 h => ?_) N (0) h
   rw [Qa4] at h
   skip
   refine wx tbk [] trivial ?_
   refine wsq ?_
   rcases bft ((decide (y3 < (p0.length : Int)))) with hc6 | hc6
   ·replace h := Qa2 hc6 h
    refine wft hc6 (by kernel_rfl) ?_
    refine Qar ?_
    refine thn ?_
    refine wsq ?_
    refine Qaq ?_
    refine wx tbk [] trivial ?_
    obtain ⟨x7, hg8, h⟩ := bno h
    obtain ⟨hi9, hj10⟩ := gsm hg8
    obtain ⟨x12, hf11, h⟩ := bno h
    refine wx tbk [(3, rp [(.tmp 12, (Qwp p0)), (.tmp 13, I y3)] (.dptr (Qaa (x7)) 0)), (5, ⟨[(.tmp 11, Q1p), (.tmp 15, (Zf4 x7))], [(0, Qma)], B x12, [(0, Qma)], false⟩)] ⟨aid rfl Try.underlying45 ti48 rfl rfl hi9 (mgt Qaa hj10) rfl, Qao (first := []) (cap := [.ref 0 1 0 0]) (vs := [(Zf4 x7)]) (σr := [Qma]) (σr' := [Qma]) (res' := (B x12)) [0] rfl Zd5 (Qi0 N x7 _ hf11) rfl (Qbr (rnc (.plain _ (NLt.agg _ (nlc nll (nlc nll (nlc nll (nlc nll nl0)))))) (rnc (Qbb rfl) rn0))) (slc (Qal (rnc (.plain _ (NLt.fn _ _ _ nl0 nl0)) rn0)) Qan) (slc (Qal (rnc (.plain _ (NLt.fn _ _ _ nl0 nl0)) rn0)) Qan) (.plain _ nll) rfl rfl rfl, trivial⟩ ?_
    rcases bft (x12) with hc13 | hc13
    ·replace h := Qa2 hc13 h
     refine wft hc13 (by kernel_rfl) ?_
     refine wx tbk [] trivial ?_
     refine wmr (mto (n := 19) (l' := [(4, I y3)]) (own' := [Qma]) [(4, I y3)] [0] [Qma] hφ0 (pc rwl pn) (qc (spb (lc (.rn (Qbe rn0 rn0)) ln)) qn)) ?_
     refine Qad ?_
     refine Qaw ?_
     refine Qaj ?_
     refine Qaj ?_
     refine Qaw ?_
     refine Qaj ?_
     obtain rfl := osi h
     exact ⟨_, Mor.rfl, Qcx (vs := [I y3]) ⟨rot (by kernel_rfl), trivial⟩ rfl (NLt.of0 nll) (by kernel_rfl) (Qak (Qa6 (nlc (NLt.of0 (NLt.fn _ _ _ nl0 nl0)) nl0)) Qbo)⟩
    ·replace h := Qa3 hc13 h
     refine wfn hc13 (by kernel_rfl) ?_
     refine Qar ?_
     refine bln ?_
     refine thn ?_
     refine wx1 tbk [] trivial ?_
     refine thn ?_
     exact arm (mto (n := 19) [(0, (Qwp p0)), (1, Q1p), (7, (I ((p0.length : Int)))), (8, (I (w64 (y3 + 1))))] [0] [Qma] hφ0 (pc (.rn (.plain _ (nld Qae _))) (pc (.rn (Qbe rn0 (rnc (rqr rfl) rn0))) (pc rwl (pc rwl pn)))) (qc (spb (lc (.rn (Qbe rn0 rn0)) ln)) qn)) (ih (w64 (y3 + 1)) h)
   ·replace h := Qa3 hc6 h
    refine wfn hc6 (by kernel_rfl) ?_
    refine Qcf ?_
    refine Qa8 ?_
    refine Qa8 ?_
    refine Qce rfl ?_
    refine thn ?_
    exact ⟨(), h, (mto (n := 19) [] [0] [Qma] hφ0 pn (qc (spb (lc (.rn (Qbe rn0 rn0)) ln)) qn))⟩
def Qbi (N : Nat) (p0 : (List GStream)) : Option Bool :=
  (Qb1 N p0).bind fun x3 =>
  some (decide (x3 ≥ 0))
def Zb6 (p0 : (List GStream)) : AV := .dat 4 ((p0 : List GStream).map Qaa)
def Zb5 : AV := .fn (.func 88) [] [(.ref 0 1 (0) 0)]
def Qum : Slot := .own 1 [[(.fn (.func 72) [] [])]]
theorem Qe8 (N : Nat) (p0 : (List GStream)) (r : Bool) (h : Qbi N p0 = some r) : Spec Try.prog 87 [(Zb6 p0), Zb5] [Qum] (B (r)) [Qum] := by
  refine Qag Try.func87 rfl 1 (nle rfl) (fun X φ0 w0 hφ0 hd0 => ?_)
  unfold Qbi at h
  refine Qbs ?_
  refine wx tbk [] trivial ?_
  obtain ⟨x3, hf2, h⟩ := bno h
  refine wx tbk [(2, ⟨[fu 95, (.tmp 5, (Zb6 p0)), (.tmp 6, Zb5)], [(0, Qum)], I x3, [(0, Qum)], false⟩)] ⟨Qao (first := []) (cap := []) (vs := [(Zb6 p0), Zb5]) (σr := [Qum]) (σr' := [Qum]) (res' := (I x3)) [0] rfl Zd0 (Qfq N p0 _ hf2) rfl (Qbr (rnc (.plain _ (nld Qae _)) (rnc (Qbe rn0 (rnc (Qbb rfl) rn0)) rn0))) (slc (Qal (rnc (.plain _ (NLt.fn _ _ _ nl0 nl0)) rn0)) Qan) (slc (Qal (rnc (.plain _ (NLt.fn _ _ _ nl0 nl0)) rn0)) Qan) (.plain _ nll) rfl rfl rfl, trivial⟩ ?_
  refine wmr (mto (n := 9) (l' := [(4, (B ((decide (x3 ≥ 0)))))]) (own' := [Qum]) [(4, (B ((decide (x3 ≥ 0)))))] [0] [Qum] hφ0 (pc rwl pn) (qc (spb (lc (.rn (Qbe rn0 rn0)) ln)) qn)) ?_
  refine Qad ?_
  obtain rfl := osi h
  exact ⟨_, Mor.rfl, Qcx (vs := [(B ((decide (x3 ≥ 0))))]) ⟨rot (by kernel_rfl), trivial⟩ rfl (NLt.of0 nll) (by kernel_rfl) (Qak (Qa6 (nlc (NLt.of0 (NLt.fn _ _ _ nl0 nl0)) nl0)) Qbo)⟩
def Qet (N : Nat) (p0 : (List GStream)) : Option Bool :=
  (Qbi N p0).bind fun x2 =>
  some (!x2)
def Zb8 (p0 : (List GStream)) : AV := .dat 4 ((p0 : List GStream).map Qaa)
def Zb7 : AV := .fn (.func 88) [] [(.ref 0 1 (0) 0)]
def Q72 : Slot := .own 1 [[(.fn (.func 72) [] [])]]
theorem Qjp (N : Nat) (p0 : (List GStream)) (r : Bool) (h : Qet N p0 = some r) : Spec Try.prog 71 [(Zb8 p0), (.fn (.func 72) [] [])] [] (B (r)) [] := by
  refine Qag Try.func71 rfl 0 (nle rfl) (fun X φ0 w0 hφ0 hd0 => ?_)
  unfold Qet at h
  refine wx tbk [] trivial ?_
  obtain ⟨x2, hf1, h⟩ := bno h
  refine wx tbk [(1, rp [(.tmp 3, .ref 0 1 0 0)] Zb7), (2, ⟨[fu 87, (.tmp 5, (Zb8 p0)), (.tmp 6, Zb7)], [(0, Q72)], B x2, [(0, Q72)], false⟩)] ⟨Qej (fs := []) (cs := [.ref 0 1 0 0]) rfl rfl rfl rfl, Qao (first := []) (cap := []) (vs := [(Zb8 p0), Zb7]) (σr := [Q72]) (σr' := [Q72]) (res' := (B x2)) [0] rfl Zd6 (Qe8 N p0 _ hf1) rfl (Qbr (rnc (.plain _ (nld Qae _)) (rnc (Qbe rn0 (rnc (Qbb rfl) rn0)) rn0))) (slc (Qal (rnc (.plain _ (NLt.fn _ _ _ nl0 nl0)) rn0)) Qan) (slc (Qal (rnc (.plain _ (NLt.fn _ _ _ nl0 nl0)) rn0)) Qan) (.plain _ nll) rfl rfl rfl, trivial⟩ ?_
  refine Qad ?_
  obtain rfl := osi h
  exact fend ⟨[(B ((!x2)))], ⟨rot (by kernel_rfl), trivial⟩, rfl⟩ nll
def Qeh (N : Nat) (p0 : (List GStream)) (k5 : Int × Int × Int × Int → Option GStream) : Nat → Int → Int → Int → Int → Int → Option GStream
  | 0, _, _, _, _, _ => none
  | n16 + 1, y6, y7, y8, y9, y10 =>
    bif (decide (y6 < (p0.length : Int))) then
     (getI p0 y6).bind fun x18 =>
     Qeh N p0 k5 n16 (w64 (y6 + 1)) (w64 (y7 + x18.Mass)) (w64 (y8 + x18.Heat)) (w64 (y9 + x18.Silica)) (w64 (y10 + x18.Gas))
    else
     k5 (y7, y8, y9, y10)
def Qfb (N : Nat) (p0 : (List GStream)) : Option GStream :=
  Qcv (fun ⟨y1, y2, y3, y4⟩ =>
    some (⟨y1, y2, y3, y4⟩ : GStream)) fun k5 : Int × Int × Int × Int → Option GStream =>
  Qeh N p0 k5 N 0 0 0 0 0
def Q1o (p0 : (List GStream)) : AV := .dat 4 ((p0 : List GStream).map Qaa)
def Zf1 : Slot := .own 4 [[(I (0)), (I (0)), (I (0)), (I (0))]]
theorem Qkd (N : Nat) (p0 : (List GStream)) (r : GStream) (h : Qfb N p0 = some r) : Spec Try.prog 31 [(.dat 4 (p0.map Qaa))] [] (.agg (Qaa r)) [] := by
  refine Qag Try.func31 rfl 0 (nle rfl) (fun X φ0 w0 hφ0 hd0 => ?_)
  unfold Qfb at h
  refine wx tbk [] trivial ?_
  obtain ⟨k5, hk_k5, h⟩ := jko h
  refine wjn (τ := Int × Int × Int × Int) (fun t => k5 t = some r) (fun ⟨y1, y2, y3, y4⟩ => ⟨mk 34 [(2, .ref 0 4 0 0)], [(.own 4 [[I y1, I y2, I y3, I y4]])]⟩) (fun t h => ?_) ?_
  ·subst hk_k5
   obtain ⟨y1, y2, y3, y4⟩ := t
   refine wx tbk [] trivial ?_
   refine Qad ?_
   obtain rfl := osi h
   exact fend ⟨[(.agg [I y1, I y2, I y3, I y4])], ⟨Qcm (n := 0) (m := 4) (j := 0) (i := 0) (xs := [[I y1, I y2, I y3, I y4]]) (by kernel_rfl) (by kernel_rfl) ti48 (by decide) rfl (nle rfl) rfl, trivial⟩, rfl⟩ (NLt.agg _ (nlc nll (nlc nll (nlc nll (nlc nll nl0)))))
  ·skip
   refine wx tbk [(1, rp [(.tmp 5, (Q1o p0))] (I ((p0.length : Int))))] ⟨alm (c := Qaa) (l := p0) (aln rfl Try.underlying45 rfl), trivial⟩ ?_
   refine Qaq ?_
   refine wmr (mto (n := 34) (l' := [(2, .ref 0 4 0 0), (5, (Q1o p0)), (6, (I ((p0.length : Int)))), (7, I 0)]) (own' := [Zf1]) [(2, .ref 0 4 0 0), (5, (Q1o p0)), (6, (I ((p0.length : Int)))), (7, I 0)] [0] [Zf1] hφ0 (pc (.rn (rqr rfl)) (pc (.rn (.plain _ (nld Qae _))) (pc rwl (pc rwl pn)))) (qc (spb (lc rwl (lc rwl (lc rwl (lc rwl ln))))) qn)) ?_
   refine Qc9 (τ := Int × Int × Int × Int × Int) (fun n t => Qeh N p0 k5 n t.1 t.2.1 t.2.2.1 t.2.2.2.1 t.2.2.2.2 = some r) (fun ⟨y6, y7, y8, y9, y10⟩ => ⟨mk 34 [(2, .ref 0 4 0 0), (5, (Q1o p0)), (6, (I ((p0.length : Int)))), (7, I y6)], [(.own 4 [[I y7, I y8, I y9, I y10]])]⟩) (fun t h => by rw [Qeh] at h; cases h) (fun n16 ih t h => ?_) N (0, 0, 0, 0, 0) h
   obtain ⟨y6, y7, y8, y9, y10⟩ := t
   rw [Qeh] at h
   skip
   refine wx tbk [] trivial ?_
   refine wsq ?_
   rcases bft ((decide (y6 < (p0.length : Int)))) with hc17 | hc17
   ·replace h := Qa2 hc17 h
    refine wft hc17 (by kernel_rfl) ?_
    refine Qar ?_
    refine thn ?_
    refine wsq ?_
    refine Qaq ?_
    obtain ⟨x18, hg19, h⟩ := bno h
    obtain ⟨hi20, hj21⟩ := gsm hg19
    refine wx tbk [(0, rp [(.tmp 5, (Q1o p0)), (.tmp 7, I y6)] (.dptr (Qaa (x18)) 0))] ⟨aid rfl Try.underlying45 ti48 rfl rfl hi20 (mgt Qaa hj21) rfl, trivial⟩ ?_
    refine wx1 tbk [(20, rp [(.tmp 15, (I (w64 (y7 + x18.Mass)))), (.tmp 20, (I (w64 (y8 + x18.Heat)))), (.tmp 25, (I (w64 (y9 + x18.Silica)))), (.tmp 30, (I (w64 (y10 + x18.Gas))))] (.agg [(I (w64 (y7 + x18.Mass))), (I (w64 (y8 + x18.Heat))), (I (w64 (y9 + x18.Silica))), (I (w64 (y10 + x18.Gas)))]))] ⟨Qat (vs := [(I (w64 (y7 + x18.Mass))), (I (w64 (y8 + x18.Heat))), (I (w64 (y9 + x18.Silica))), (I (w64 (y10 + x18.Gas)))]) rfl ts48 tz48 rfl (by rfl) rfl, trivial⟩ ?_
    refine bln ?_
    refine thn ?_
    refine wx1 tbk [] trivial ?_
    refine thn ?_
    exact arm (mto (n := 34) [(2, .ref 0 4 0 0), (5, (Q1o p0)), (6, (I ((p0.length : Int)))), (7, (I (w64 (y6 + 1))))] [0] [(.own 4 [[(I (w64 (y7 + x18.Mass))), (I (w64 (y8 + x18.Heat))), (I (w64 (y9 + x18.Silica))), (I (w64 (y10 + x18.Gas)))]])] hφ0 (pc (.rn (rqr rfl)) (pc (.rn (.plain _ (nld Qae _))) (pc rwl (pc rwl pn)))) (qc (spb (lc rwl (lc rwl (lc rwl (lc rwl ln))))) qn)) (ih (w64 (y6 + 1), w64 (y7 + x18.Mass), w64 (y8 + x18.Heat), w64 (y9 + x18.Silica), w64 (y10 + x18.Gas)) h)
   ·replace h := Qa3 hc17 h
    refine wfn hc17 (by kernel_rfl) ?_
    refine Qcf ?_
    refine Qa8 ?_
    refine Qa8 ?_
    refine Qce rfl ?_
    refine thn ?_
    exact ⟨(y7, y8, y9, y10), h, (mto (n := 34) [(2, .ref 0 4 0 0)] [0] [(.own 4 [[I y7, I y8, I y9, I y10]])] hφ0 (pc (.rn (rqr rfl)) pn) (qc (spb (lc rwl (lc rwl (lc rwl (lc rwl ln))))) qn))⟩
def Qhy (N : Nat) (p0 : GNet) (p1 : (List GStream)) : Option Int :=
  Qcv (fun _ =>
    (Qfb N p1).bind fun x3 =>
    bif (decide (x3.Mass > 1000000)) then
     some 3
    else
     bif (decide (x3.Gas > 1000000000)) then
      some 3
     else
      some 0) fun k1 : Unit → Option Int =>
  (Qhh N p0 1).bind fun x7 =>
  bif ((p1.length : Int) != (x7.length : Int)) then
   some 1
  else
   (Qet N p1).bind fun x10 =>
   bif (!x10) then
    some 1
   else
    k1 ()
def Qun (p1 : (List GStream)) : AV := .dat 4 ((p1 : List GStream).map Qaa)
def Zg3 (p0 : GNet) : AV := .dat 7 ((p0.Elements : List GElement).map Qah)
def Q74 (p0 : GNet) : AV := .agg [(.dat 5 ((p0.Table : List GRow).map Qav)), (Zg3 p0)]
def Q73 (x7 : (List Int)) : AV := .dat 1 ((x7 : List Int).map Qam)
theorem Qpq (N : Nat) (p0 : GNet) (p1 : (List GStream)) (r : Int) (h : Qhy N p0 p1 = some r) : Spec Try.prog 49 [(.agg (Qpg p0)), (.dat 4 (p1.map Qaa))] [] (I r) [] := by
  refine Qag Try.func49 rfl 0 (nle rfl) (fun X φ0 w0 hφ0 hd0 => ?_)
  unfold Qhy at h
  refine wx tbk [] trivial ?_
  obtain ⟨k1, hk_k1, h⟩ := jko h
  refine wjn (τ := Unit) (fun t => k1 t = some r) (fun _ => ⟨mk 27 [(1, (Qun p1))], []⟩) (fun t h => ?_) ?_
  ·subst hk_k1
   refine wsq ?_
   obtain ⟨x3, hf2, h⟩ := bno h
   refine wx tbk [(1, rp [fu 31, (.tmp 17, (Qun p1))] (.agg [I x3.Mass, I x3.Heat, I x3.Silica, I x3.Gas]))] ⟨apc (first := []) (cap := []) (vs := [(Qun p1)]) rfl Qx5 (Qkd N p1 _ hf2) rfl rfl (nlc (nld Qae _) nl0) (NLt.agg _ (nlc nll (nlc nll (nlc nll (nlc nll nl0))))) rfl, trivial⟩ ?_
   rcases bft ((decide (x3.Mass > 1000000))) with hb4 | hb4
   ·replace h := Qa2 hb4 h
    refine wx tbk [(3, rp [(.tmp 21, (B ((decide (x3.Mass > 1000000)))))] (B true))] ⟨asb hb4 (amv rfl), trivial⟩ ?_
    refine Qbq (by kernel_rfl) ?_
    refine wx tbk [] trivial ?_
    refine Qad ?_
    refine Qaj ?_
    obtain rfl := osi h
    exact fend ⟨[I 3], ⟨rot (by kernel_rfl), trivial⟩, rfl⟩ nll
   ·replace h := Qa3 hb4 h
    refine wx tbk [(3, rp [(.tmp 21, (B ((decide (x3.Mass > 1000000)))))] (B false))] ⟨asb hb4 (amv rfl), trivial⟩ ?_
    rcases bft ((decide (x3.Gas > 1000000000))) with hc5 | hc5
    ·replace h := Qa2 hc5 h
     refine wft hc5 (by kernel_rfl) ?_
     refine wx tbk [] trivial ?_
     refine Qad ?_
     refine Qaj ?_
     obtain rfl := osi h
     exact fend ⟨[I 3], ⟨rot (by kernel_rfl), trivial⟩, rfl⟩ nll
    ·replace h := Qa3 hc5 h
     refine wfn hc5 (by kernel_rfl) ?_
     refine Qar ?_
     refine thn ?_
     refine wx tbk [] trivial ?_
     refine Qad ?_
     obtain rfl := osi h
     exact fend ⟨[I 0], ⟨rot (by kernel_rfl), trivial⟩, rfl⟩ nll
  ·skip
   obtain ⟨x7, hf6, h⟩ := bno h
   rcases bft (((p1.length : Int) != (x7.length : Int))) with hb8 | hb8
   ·replace h := Qa2 hb8 h
    refine wx tbk [(1, rp [(.tmp 6, (Qun p1))] (I ((p1.length : Int)))), (3, rp [fu 70, (.tmp 8, (Q74 p0)), (.const (.int .u8 1), (K .u8 (1)))] (Q73 x7)), (4, rp [(.tmp 9, (Q73 x7))] (I ((x7.length : Int)))), (6, rp [(.tmp 11, (B (((p1.length : Int) != (x7.length : Int)))))] (B true))] ⟨alm (c := Qaa) (l := p1) (aln rfl Try.underlying45 rfl), apc (first := []) (cap := []) (vs := [(Q74 p0), (K .u8 (1))]) rfl Qtv (Qhw N p0 1 _ hf6) rfl rfl (nlc (NLt.agg _ (nlc (nld Qai _) (nlc (nld Qac _) nl0))) (nlc nll nl0)) (nld Qaf _) rfl, alm (c := Qam) (l := x7) (aln rfl Try.underlying27 rfl), asb hb8 (amv rfl), trivial⟩ ?_
    refine Qbq (by kernel_rfl) ?_
    refine wx tbk [] trivial ?_
    refine Qad ?_
    refine Qaj ?_
    obtain rfl := osi h
    exact fend ⟨[I 1], ⟨rot (by kernel_rfl), trivial⟩, rfl⟩ nll
   ·replace h := Qa3 hb8 h
    obtain ⟨x10, hf9, h⟩ := bno h
    refine wx tbk [(1, rp [(.tmp 6, (Qun p1))] (I ((p1.length : Int)))), (3, rp [fu 70, (.tmp 8, (Q74 p0)), (.const (.int .u8 1), (K .u8 (1)))] (Q73 x7)), (4, rp [(.tmp 9, (Q73 x7))] (I ((x7.length : Int)))), (6, rp [(.tmp 11, (B (((p1.length : Int) != (x7.length : Int)))))] (B false)), (8, rp [(.tmp 12, B false), fu 71, (.tmp 13, (Qun p1)), fu 72] (B x10))] ⟨alm (c := Qaa) (l := p1) (aln rfl Try.underlying45 rfl), apc (first := []) (cap := []) (vs := [(Q74 p0), (K .u8 (1))]) rfl Qtv (Qhw N p0 1 _ hf6) rfl rfl (nlc (NLt.agg _ (nlc (nld Qai _) (nlc (nld Qac _) nl0))) (nlc nll nl0)) (nld Qaf _) rfl, alm (c := Qam) (l := x7) (aln rfl Try.underlying27 rfl), asb hb8 (amv rfl), ag_ (Qao (first := []) (cap := []) (vs := [(Qun p1), (.fn (.func 72) [] [])]) (σr := []) (σr' := []) (res' := (B x10)) [] rfl Zej (Qjp N p1 _ hf9) rfl (Qbr (rnc (.plain _ (nld Qae _)) (rnc (.plain _ (NLt.fn _ _ _ nl0 nl0)) rn0))) Qan Qan (.plain _ nll) rfl rfl rfl), trivial⟩ ?_
    rcases bft ((!x10)) with hc11 | hc11
    ·replace h := Qa2 hc11 h
     refine wft hc11 (by kernel_rfl) ?_
     refine wx tbk [] trivial ?_
     refine Qad ?_
     refine Qaj ?_
     obtain rfl := osi h
     exact fend ⟨[I 1], ⟨rot (by kernel_rfl), trivial⟩, rfl⟩ nll
    ·replace h := Qa3 hc11 h
     refine wfn hc11 (by kernel_rfl) ?_
     refine Qar ?_
     refine thn ?_
     exact ⟨(), h, (mto (n := 27) [(1, (Qun p1))] [] [] hφ0 (pc (.rn (.plain _ (nld Qae _))) pn) qn)⟩
def Qjo (N : Nat) (p0 : GNet) (p1 : (List Int)) (p2 : (List GStream)) : Option Int :=
  (Qiw N p0 p1).bind fun x2 =>
  bif (x2 != 0) then
   some x2
  else
   (Qhy N p0 p2).bind fun x5 =>
   some x5
def Zg4 (p0 : GNet) : AV := .dat 7 ((p0.Elements : List GElement).map Qah)
def Q78 (p0 : GNet) : AV := .agg [(.dat 5 ((p0.Table : List GRow).map Qav)), (Zg4 p0)]
theorem Qry (N : Nat) (p0 : GNet) (p1 : (List Int)) (p2 : (List GStream)) (r : Int) (h : Qjo N p0 p1 p2 = some r) : Spec Try.prog 28 [(.agg (Qpg p0)), (.dat 1 (p1.map Qam)), (.dat 4 (p2.map Qaa))] [] (I r) [] := by
  refine Qag Try.func28 rfl 0 (nle rfl) (fun X φ0 w0 hφ0 hd0 => ?_)
  unfold Qjo at h
  refine wx tbk [] trivial ?_
  refine wsq ?_
  obtain ⟨x2, hf1, h⟩ := bno h
  refine wx tbk [(2, rp [fu 35, (.tmp 8, (Q78 p0)), (.tmp 9, (.dat 1 ((p1 : List Int).map Qam)))] (I x2))] ⟨apc (first := []) (cap := []) (vs := [(Q78 p0), (.dat 1 ((p1 : List Int).map Qam))]) rfl Zez (Qqs N p0 p1 _ hf1) rfl rfl (nlc (NLt.agg _ (nlc (nld Qai _) (nlc (nld Qac _) nl0))) (nlc (nld Qaf _) nl0)) nll rfl, trivial⟩ ?_
  refine wx tbk [] trivial ?_
  rcases bft ((x2 != 0)) with hc3 | hc3
  ·replace h := Qa2 hc3 h
   refine wft hc3 (by kernel_rfl) ?_
   refine wx tbk [] trivial ?_
   refine Qad ?_
   refine Qaj ?_
   obtain rfl := osi h
   exact fend ⟨[I x2], ⟨rot (by kernel_rfl), trivial⟩, rfl⟩ nll
  ·replace h := Qa3 hc3 h
   refine wfn hc3 (by kernel_rfl) ?_
   refine Qar ?_
   refine thn ?_
   obtain ⟨x5, hf4, h⟩ := bno h
   refine wx tbk [(2, rp [fu 49, (.tmp 14, (Q78 p0)), (.tmp 15, (.dat 4 ((p2 : List GStream).map Qaa)))] (I x5))] ⟨apc (first := []) (cap := []) (vs := [(Q78 p0), (.dat 4 ((p2 : List GStream).map Qaa))]) rfl Zew (Qpq N p0 p2 _ hf4) rfl rfl (nlc (NLt.agg _ (nlc (nld Qai _) (nlc (nld Qac _) nl0))) (nlc (nld Qae _) nl0)) nll rfl, trivial⟩ ?_
   refine Qad ?_
   obtain rfl := osi h
   exact fend ⟨[I x5], ⟨rot (by kernel_rfl), trivial⟩, rfl⟩ nll
def Qie (N : Nat) (p0 : Int) : Option Bool :=
  (Qct N p0 0 1000).bind fun x2 =>
  some x2
theorem Qoj (N : Nat) (p0 : Int) (r : Bool) (h : Qie N p0 = some r) : Spec Try.prog 97 [(I p0)] [] (B r) [] := by
  refine Qag Try.func97 rfl 0 (nle rfl) (fun X φ0 w0 hφ0 hd0 => ?_)
  unfold Qie at h
  refine wx tbk [] trivial ?_
  obtain ⟨x2, hf1, h⟩ := bno h
  refine wx tbk [(1, rp [fu 45, (.tmp 3, I p0), ci 0, ci 1000] (B x2))] ⟨apc (first := []) (cap := []) (vs := [I p0, I 0, I 1000]) rfl Qdf (Qas N p0 0 1000 _ hf1) rfl rfl (nlc nll (nlc nll (nlc nll nl0))) nll rfl, trivial⟩ ?_
  refine Qad ?_
  obtain rfl := osi h
  exact fend ⟨[B x2], ⟨rot (by kernel_rfl), trivial⟩, rfl⟩ nll
def Qfo (N : Nat) (p0 : Int) : Option Bool :=
  (Qie N p0).bind fun x3 =>
  some (!x3)
def Q7z : Slot := .own 1 [[(.fn (.func 97) [] [])]]
theorem Qlr (N : Nat) (p0 : Int) (r : Bool) (h : Qfo N p0 = some r) : Spec Try.prog 67 [(I (p0)), (.ref 0 1 (0) 0)] [Q7z] (B (r)) [Q7z] := by
  refine Qag Try.func67 rfl 1 (nle rfl) (fun X φ0 w0 hφ0 hd0 => ?_)
  unfold Qfo at h
  refine Qbs ?_
  refine wx tbk [] trivial ?_
  obtain ⟨x3, hf2, h⟩ := bno h
  refine wx tbk [(2, rp [(.tmp 4, (.fn (.func 97) [] [])), (.tmp 5, I p0)] (B x3))] ⟨apc (first := []) (cap := []) (vs := [I p0]) rfl Zdy (Qoj N p0 _ hf2) rfl rfl (nlc nll nl0) nll rfl, trivial⟩ ?_
  refine wmr (mto (n := 8) (l' := [(3, (B ((!x3))))]) (own' := [Q7z]) [(3, (B ((!x3))))] [0] [Q7z] hφ0 (pc rwl pn) (qc (spb (lc (.rn (Qbe rn0 rn0)) ln)) qn)) ?_
  refine Qad ?_
  obtain rfl := osi h
  exact ⟨_, Mor.rfl, Qcx (vs := [(B ((!x3)))]) ⟨rot (by kernel_rfl), trivial⟩ rfl (NLt.of0 nll) (by kernel_rfl) (Qak (Qa6 (nlc (NLt.of0 (NLt.fn _ _ _ nl0 nl0)) nl0)) Qbo)⟩
def Qb5 (N : Nat) (p0 : (List Int)) (k2 : Unit → Option Int) : Nat → Int → Option Int
  | 0, _ => none
  | n5 + 1, y3 =>
    bif (decide (y3 < (p0.length : Int))) then
     (getI p0 y3).bind fun x7 =>
     (Qfo N x7).bind fun x12 =>
     bif x12 then
      some y3
     else
      Qb5 N p0 k2 n5 (w64 (y3 + 1))
    else
     k2 ()
def Qd2 (N : Nat) (p0 : (List Int)) : Option Int :=
  Qcv (fun _ =>
    some (-1)) fun k2 : Unit → Option Int =>
  Qb5 N p0 k2 N 0
def Qwo (p0 : (List Int)) : AV := .dat 1 ((p0 : List Int).map Qam)
def Q1n : AV := .fn (.func 67) [] [(.ref 0 1 (0) 0)]
def Ql9 : Slot := .own 1 [[(.fn (.func 97) [] [])]]
theorem Qio (N : Nat) (p0 : (List Int)) (r : Int) (h : Qd2 N p0 = some r) : Spec Try.prog 86 [(Qwo p0), Q1n] [Ql9] (I (r)) [Ql9] := by
  refine Qag Try.func86 rfl 1 (nle rfl) (fun X φ0 w0 hφ0 hd0 => ?_)
  unfold Qd2 at h
  refine Qbs ?_
  refine wx tbk [] trivial ?_
  obtain ⟨k2, hk_k2, h⟩ := jko h
  refine wjn (τ := Unit) (fun t => k2 t = some r) (fun _ => ⟨mk 19 [], [Ql9]⟩) (fun t h => ?_) ?_
  ·subst hk_k2
   refine wx tbk [] trivial ?_
   refine wmr (mto (n := 19) (l' := [(4, (I ((-1))))]) (own' := [Ql9]) [(4, (I ((-1))))] [0] [Ql9] hφ0 (pc rwl pn) (qc (spb (lc (.rn (Qbe rn0 rn0)) ln)) qn)) ?_
   refine Qad ?_
   obtain rfl := osi h
   exact ⟨_, Mor.rfl, Qcx (vs := [(I ((-1)))]) ⟨rot (by kernel_rfl), trivial⟩ rfl (NLt.of0 nll) (by kernel_rfl) (Qak (Qa6 (nlc (NLt.of0 (NLt.fn _ _ _ nl0 nl0)) nl0)) Qbo)⟩
  ·skip
   refine wx tbk [(1, rp [(.tmp 6, (Qwo p0))] (I ((p0.length : Int))))] ⟨alm (c := Qam) (l := p0) (aln rfl Try.underlying27 rfl), trivial⟩ ?_
   refine Qaq ?_
   refine wmr (mto (n := 19) (l' := [(0, (Qwo p0)), (1, Q1n), (7, (I ((p0.length : Int)))), (8, I 0)]) (own' := [Ql9]) [(0, (Qwo p0)), (1, Q1n), (7, (I ((p0.length : Int)))), (8, I 0)] [0] [Ql9] hφ0 (pc (.rn (.plain _ (nld Qaf _))) (pc (.rn (Qbe rn0 (rnc (rqr rfl) rn0))) (pc rwl (pc rwl pn)))) (qc (spb (lc (.rn (Qbe rn0 rn0)) ln)) qn)) ?_
   refine Qc9 (τ := Int) (fun n t => Qb5 N p0 k2 n t = some r) (fun y3 => ⟨mk 19 [(0, (Qwo p0)), (1, Q1n), (7, (I ((p0.length : Int)))), (8, I y3)], [Ql9]⟩) (fun t h => by rw [Qb5] at h; cases h) (fun n5 ih y3 h => ?_) N (0) h
   rw [Qb5] at h
   skip
   refine wx tbk [] trivial ?_
   refine wsq ?_
   rcases bft ((decide (y3 < (p0.length : Int)))) with hc6 | hc6
   ·replace h := Qa2 hc6 h
    refine wft hc6 (by kernel_rfl) ?_
    refine Qar ?_
    refine thn ?_
    refine wsq ?_
    refine Qaq ?_
    refine wx tbk [] trivial ?_
    obtain ⟨x7, hg8, h⟩ := bno h
    obtain ⟨hi9, hj10⟩ := gsm hg8
    obtain ⟨x12, hf11, h⟩ := bno h
    refine wx tbk [(3, rp [(.tmp 12, (Qwo p0)), (.tmp 13, I y3)] (.dptr (Qam (x7)) 0)), (5, ⟨[(.tmp 11, Q1n), (.tmp 15, I x7)], [(0, Ql9)], B x12, [(0, Ql9)], false⟩)] ⟨aid rfl Try.underlying27 ti3 rfl rfl hi9 (mgt Qam hj10) rfl, Qao (first := []) (cap := [.ref 0 1 0 0]) (vs := [I x7]) (σr := [Ql9]) (σr' := [Ql9]) (res' := (B x12)) [0] rfl Q6j (Qlr N x7 _ hf11) rfl (Qbr (rnc (.plain _ nll) (rnc (Qbb rfl) rn0))) (slc (Qal (rnc (.plain _ (NLt.fn _ _ _ nl0 nl0)) rn0)) Qan) (slc (Qal (rnc (.plain _ (NLt.fn _ _ _ nl0 nl0)) rn0)) Qan) (.plain _ nll) rfl rfl rfl, trivial⟩ ?_
    rcases bft (x12) with hc13 | hc13
    ·replace h := Qa2 hc13 h
     refine wft hc13 (by kernel_rfl) ?_
     refine wx tbk [] trivial ?_
     refine wmr (mto (n := 19) (l' := [(4, I y3)]) (own' := [Ql9]) [(4, I y3)] [0] [Ql9] hφ0 (pc rwl pn) (qc (spb (lc (.rn (Qbe rn0 rn0)) ln)) qn)) ?_
     refine Qad ?_
     refine Qaw ?_
     refine Qaj ?_
     refine Qaj ?_
     refine Qaw ?_
     refine Qaj ?_
     obtain rfl := osi h
     exact ⟨_, Mor.rfl, Qcx (vs := [I y3]) ⟨rot (by kernel_rfl), trivial⟩ rfl (NLt.of0 nll) (by kernel_rfl) (Qak (Qa6 (nlc (NLt.of0 (NLt.fn _ _ _ nl0 nl0)) nl0)) Qbo)⟩
    ·replace h := Qa3 hc13 h
     refine wfn hc13 (by kernel_rfl) ?_
     refine Qar ?_
     refine bln ?_
     refine thn ?_
     refine wx1 tbk [] trivial ?_
     refine thn ?_
     exact arm (mto (n := 19) [(0, (Qwo p0)), (1, Q1n), (7, (I ((p0.length : Int)))), (8, (I (w64 (y3 + 1))))] [0] [Ql9] hφ0 (pc (.rn (.plain _ (nld Qaf _))) (pc (.rn (Qbe rn0 (rnc (rqr rfl) rn0))) (pc rwl (pc rwl pn)))) (qc (spb (lc (.rn (Qbe rn0 rn0)) ln)) qn)) (ih (w64 (y3 + 1)) h)
   ·replace h := Qa3 hc6 h
    refine wfn hc6 (by kernel_rfl) ?_
    refine Qcf ?_
    refine Qa8 ?_
    refine Qa8 ?_
    refine Qce rfl ?_
    refine thn ?_
    exact ⟨(), h, (mto (n := 19) [] [0] [Ql9] hφ0 pn (qc (spb (lc (.rn (Qbe rn0 rn0)) ln)) qn))⟩
def Qcz (N : Nat) (p0 : (List Int)) : Option Bool :=
  (Qd2 N p0).bind fun x3 =>
  some (decide (x3 ≥ 0))
def Zb1 (p0 : (List Int)) : AV := .dat 1 ((p0 : List Int).map Qam)
def Zb0 : AV := .fn (.func 67) [] [(.ref 0 1 (0) 0)]
def Qui : Slot := .own 1 [[(.fn (.func 97) [] [])]]
theorem Qho (N : Nat) (p0 : (List Int)) (r : Bool) (h : Qcz N p0 = some r) : Spec Try.prog 66 [(Zb1 p0), Zb0] [Qui] (B (r)) [Qui] := by
  refine Qag Try.func66 rfl 1 (nle rfl) (fun X φ0 w0 hφ0 hd0 => ?_)
  unfold Qcz at h
  refine Qbs ?_
  refine wx tbk [] trivial ?_
  obtain ⟨x3, hf2, h⟩ := bno h
  refine wx tbk [(2, ⟨[fu 86, (.tmp 5, (Zb1 p0)), (.tmp 6, Zb0)], [(0, Qui)], I x3, [(0, Qui)], false⟩)] ⟨Qao (first := []) (cap := []) (vs := [(Zb1 p0), Zb0]) (σr := [Qui]) (σr' := [Qui]) (res' := (I x3)) [0] rfl Qou (Qio N p0 _ hf2) rfl (Qbr (rnc (.plain _ (nld Qaf _)) (rnc (Qbe rn0 (rnc (Qbb rfl) rn0)) rn0))) (slc (Qal (rnc (.plain _ (NLt.fn _ _ _ nl0 nl0)) rn0)) Qan) (slc (Qal (rnc (.plain _ (NLt.fn _ _ _ nl0 nl0)) rn0)) Qan) (.plain _ nll) rfl rfl rfl, trivial⟩ ?_
  refine wmr (mto (n := 9) (l' := [(4, (B ((decide (x3 ≥ 0)))))]) (own' := [Qui]) [(4, (B ((decide (x3 ≥ 0)))))] [0] [Qui] hφ0 (pc rwl pn) (qc (spb (lc (.rn (Qbe rn0 rn0)) ln)) qn)) ?_
  refine Qad ?_
  obtain rfl := osi h
  exact ⟨_, Mor.rfl, Qcx (vs := [(B ((decide (x3 ≥ 0))))]) ⟨rot (by kernel_rfl), trivial⟩ rfl (NLt.of0 nll) (by kernel_rfl) (Qak (Qa6 (nlc (NLt.of0 (NLt.fn _ _ _ nl0 nl0)) nl0)) Qbo)⟩
def Qgg (N : Nat) (p0 : (List Int)) : Option Bool :=
  (Qcz N p0).bind fun x2 =>
  some (!x2)
def Zb3 (p0 : (List Int)) : AV := .dat 1 ((p0 : List Int).map Qam)
def Zb2 : AV := .fn (.func 67) [] [(.ref 0 1 (0) 0)]
def Q70 : Slot := .own 1 [[(.fn (.func 97) [] [])]]
theorem Qjk (N : Nat) (p0 : (List Int)) (r : Bool) (h : Qgg N p0 = some r) : Spec Try.prog 46 [(Zb3 p0), (.fn (.func 97) [] [])] [] (B (r)) [] := by
  refine Qag Try.func46 rfl 0 (nle rfl) (fun X φ0 w0 hφ0 hd0 => ?_)
  unfold Qgg at h
  refine wx tbk [] trivial ?_
  obtain ⟨x2, hf1, h⟩ := bno h
  refine wx tbk [(1, rp [(.tmp 3, .ref 0 1 0 0)] Zb2), (2, ⟨[fu 66, (.tmp 5, (Zb3 p0)), (.tmp 6, Zb2)], [(0, Q70)], B x2, [(0, Q70)], false⟩)] ⟨Qej (fs := []) (cs := [.ref 0 1 0 0]) rfl rfl rfl rfl, Qao (first := []) (cap := []) (vs := [(Zb3 p0), Zb2]) (σr := [Q70]) (σr' := [Q70]) (res' := (B x2)) [0] rfl Qov (Qho N p0 _ hf1) rfl (Qbr (rnc (.plain _ (nld Qaf _)) (rnc (Qbe rn0 (rnc (Qbb rfl) rn0)) rn0))) (slc (Qal (rnc (.plain _ (NLt.fn _ _ _ nl0 nl0)) rn0)) Qan) (slc (Qal (rnc (.plain _ (NLt.fn _ _ _ nl0 nl0)) rn0)) Qan) (.plain _ nll) rfl rfl rfl, trivial⟩ ?_
  refine Qad ?_
  obtain rfl := osi h
  exact fend ⟨[(B ((!x2)))], ⟨rot (by kernel_rfl), trivial⟩, rfl⟩ nll
def Qid (_N : Nat) (p0 : Int) : Option Bool :=
  some (decide (p0 > 0))
theorem Qoi (N : Nat) (p0 : Int) (r : Bool) (h : Qid N p0 = some r) : Spec Try.prog 98 [(I p0)] [] (B r) [] := by
  refine Qag Try.func98 rfl 0 (nle rfl) (fun X φ0 w0 hφ0 hd0 => ?_)
  unfold Qid at h
  refine wx tbk [] trivial ?_
  refine wx tbk [] trivial ?_
  refine Qad ?_
  obtain rfl := osi h
  exact fend ⟨[(B ((decide (p0 > 0))))], ⟨rot (by kernel_rfl), trivial⟩, rfl⟩ nll
def Qb4 (N : Nat) (p0 : (List Int)) (k1 : Unit → Option Int) : Nat → Int → Option Int
  | 0, _ => none
  | n4 + 1, y2 =>
    bif (decide (y2 < (p0.length : Int))) then
     (getI p0 y2).bind fun x6 =>
     (Qid N x6).bind fun x11 =>
     bif x11 then
      some y2
     else
      Qb4 N p0 k1 n4 (w64 (y2 + 1))
    else
     k1 ()
def Qd1 (N : Nat) (p0 : (List Int)) : Option Int :=
  Qcv (fun _ =>
    some (-1)) fun k1 : Unit → Option Int =>
  Qb4 N p0 k1 N 0
def Qwn (p0 : (List Int)) : AV := .dat 1 ((p0 : List Int).map Qam)
theorem Qin (N : Nat) (p0 : (List Int)) (r : Int) (h : Qd1 N p0 = some r) : Spec Try.prog 86 [(Qwn p0), (.fn (.func 98) [] [])] [] (I (r)) [] := by
  refine Qag Try.func86 rfl 0 (nle rfl) (fun X φ0 w0 hφ0 hd0 => ?_)
  unfold Qd1 at h
  refine wx tbk [] trivial ?_
  obtain ⟨k1, hk_k1, h⟩ := jko h
  refine wjn (τ := Unit) (fun t => k1 t = some r) (fun _ => ⟨mk 19 [], []⟩) (fun t h => ?_) ?_
  ·subst hk_k1
   refine wx tbk [] trivial ?_
   refine Qad ?_
   obtain rfl := osi h
   exact fend ⟨[(I ((-1)))], ⟨rot (by kernel_rfl), trivial⟩, rfl⟩ nll
  ·skip
   refine wx tbk [(1, rp [(.tmp 6, (Qwn p0))] (I ((p0.length : Int))))] ⟨alm (c := Qam) (l := p0) (aln rfl Try.underlying27 rfl), trivial⟩ ?_
   refine Qaq ?_
   refine wmr (mto (n := 19) (l' := [(0, (Qwn p0)), (1, (.fn (.func 98) [] [])), (7, (I ((p0.length : Int)))), (8, I 0)]) (own' := []) [(0, (Qwn p0)), (1, (.fn (.func 98) [] [])), (7, (I ((p0.length : Int)))), (8, I 0)] [] [] hφ0 (pc (.rn (.plain _ (nld Qaf _))) (pc (.rn (Qbe rn0 rn0)) (pc rwl (pc rwl pn)))) qn) ?_
   refine Qc9 (τ := Int) (fun n t => Qb4 N p0 k1 n t = some r) (fun y2 => ⟨mk 19 [(0, (Qwn p0)), (1, (.fn (.func 98) [] [])), (7, (I ((p0.length : Int)))), (8, I y2)], []⟩) (fun t h => by rw [Qb4] at h; cases h) (fun n4 ih y2 h => ?_) N (0) h
   rw [Qb4] at h
   skip
   refine wx tbk [] trivial ?_
   refine wsq ?_
   rcases bft ((decide (y2 < (p0.length : Int)))) with hc5 | hc5
   ·replace h := Qa2 hc5 h
    refine wft hc5 (by kernel_rfl) ?_
    refine Qar ?_
    refine thn ?_
    refine wsq ?_
    refine Qaq ?_
    refine wx tbk [] trivial ?_
    obtain ⟨x6, hg7, h⟩ := bno h
    obtain ⟨hi8, hj9⟩ := gsm hg7
    obtain ⟨x11, hf10, h⟩ := bno h
    refine wx tbk [(3, rp [(.tmp 12, (Qwn p0)), (.tmp 13, I y2)] (.dptr (Qam (x6)) 0)), (5, rp [(.tmp 11, (.fn (.func 98) [] [])), (.tmp 15, I x6)] (B x11))] ⟨aid rfl Try.underlying27 ti3 rfl rfl hi8 (mgt Qam hj9) rfl, apc (first := []) (cap := []) (vs := [I x6]) rfl Zdx (Qoi N x6 _ hf10) rfl rfl (nlc nll nl0) nll rfl, trivial⟩ ?_
    rcases bft (x11) with hc12 | hc12
    ·replace h := Qa2 hc12 h
     refine wft hc12 (by kernel_rfl) ?_
     refine wx tbk [] trivial ?_
     refine Qad ?_
     refine Qaw ?_
     refine Qaj ?_
     refine Qaj ?_
     refine Qaw ?_
     refine Qaj ?_
     obtain rfl := osi h
     exact fend ⟨[I y2], ⟨rot (by kernel_rfl), trivial⟩, rfl⟩ nll
    ·replace h := Qa3 hc12 h
     refine wfn hc12 (by kernel_rfl) ?_
     refine Qar ?_
     refine bln ?_
     refine thn ?_
     refine wx1 tbk [] trivial ?_
     refine thn ?_
     exact arm (mto (n := 19) [(0, (Qwn p0)), (1, (.fn (.func 98) [] [])), (7, (I ((p0.length : Int)))), (8, (I (w64 (y2 + 1))))] [] [] hφ0 (pc (.rn (.plain _ (nld Qaf _))) (pc (.rn (Qbe rn0 rn0)) (pc rwl (pc rwl pn)))) qn) (ih (w64 (y2 + 1)) h)
   ·replace h := Qa3 hc5 h
    refine wfn hc5 (by kernel_rfl) ?_
    refine Qcf ?_
    refine Qa8 ?_
    refine Qa8 ?_
    refine Qce rfl ?_
    refine thn ?_
    exact ⟨(), h, (mto (n := 19) [] [] [] hφ0 pn qn)⟩
def Qcj (N : Nat) (p0 : (List Int)) : Option Bool :=
  (Qd1 N p0).bind fun x2 =>
  some (decide (x2 ≥ 0))
def Zbz (p0 : (List Int)) : AV := .dat 1 ((p0 : List Int).map Qam)
theorem Qhn (N : Nat) (p0 : (List Int)) (r : Bool) (h : Qcj N p0 = some r) : Spec Try.prog 66 [(Zbz p0), (.fn (.func 98) [] [])] [] (B (r)) [] := by
  refine Qag Try.func66 rfl 0 (nle rfl) (fun X φ0 w0 hφ0 hd0 => ?_)
  unfold Qcj at h
  refine wx tbk [] trivial ?_
  obtain ⟨x2, hf1, h⟩ := bno h
  refine wx tbk [(2, rp [fu 86, (.tmp 5, (Zbz p0)), (.tmp 6, (.fn (.func 98) [] []))] (I x2))] ⟨Qao (first := []) (cap := []) (vs := [(Zbz p0), (.fn (.func 98) [] [])]) (σr := []) (σr' := []) (res' := (I x2)) [] rfl Qou (Qin N p0 _ hf1) rfl (Qbr (rnc (.plain _ (nld Qaf _)) (rnc (.plain _ (NLt.fn _ _ _ nl0 nl0)) rn0))) Qan Qan (.plain _ nll) rfl rfl rfl, trivial⟩ ?_
  refine Qad ?_
  obtain rfl := osi h
  exact fend ⟨[(B ((decide (x2 ≥ 0))))], ⟨rot (by kernel_rfl), trivial⟩, rfl⟩ nll
def Qe3 (_N : Nat) (p0 : Int) (p1 : Int) (p2 : Int) : Option Int :=
  chk (p2 != 0) <|
  some ((w64 (p1 * p0)).tmod p2)
theorem Qi7 (N : Nat) (p0 : Int) (p1 : Int) (p2 : Int) (r : Int) (h : Qe3 N p0 p1 p2 = some r) : Spec Try.prog 103 [(I (p0)), (.ref 0 1 (0) 0), (.ref 1 1 (0) 0)] [(.own 1 [[(I (p1))]]), (.own 1 [[(I (p2))]])] (I (r)) [(.own 1 [[(I (p1))]]), (.own 1 [[(I (p2))]])] := by
  refine Qag Try.func103 rfl 2 (nle rfl) (fun X φ0 w0 hφ0 hd0 => ?_)
  unfold Qe3 at h
  refine Qbs ?_
  refine wx tbk [] trivial ?_
  obtain ⟨hz2, h⟩ := cko h
  refine wx tbk [(4, rp [(.tmp 7, (I (w64 (p1 * p0)))), (.tmp 8, I p2)] (I ((w64 (p1 * p0)).tmod p2)))] ⟨Qrh rfl (Qnb hz2), trivial⟩ ?_
  refine wmr (mto (n := 10) (l' := [(4, (I ((w64 (p1 * p0)).tmod p2)))]) (own' := [(.own 1 [[I p1]]), (.own 1 [[I p2]])]) [(4, (I ((w64 (p1 * p0)).tmod p2)))] [0, 1] [(.own 1 [[I p1]]), (.own 1 [[I p2]])] hφ0 (pc rwl pn) (qc (spb (lc rwl ln)) (qc (spb (lc rwl ln)) qn))) ?_
  refine Qad ?_
  obtain rfl := osi h
  exact ⟨_, Mor.rfl, Qcx (vs := [(I ((w64 (p1 * p0)).tmod p2))]) ⟨rot (by kernel_rfl), trivial⟩ rfl (NLt.of0 nll) (by kernel_rfl) (Qak (Qa6 (nlc (NLt.of0 nll) nl0)) (Qak (Qa6 (nlc (NLt.of0 nll) nl0)) Qbo))⟩
def Qen (N : Nat) (p0 : Int) (p1 : Int) (p2 : (List Int)) (p3 : Int) (p4 : Int) : Option Int :=
  (getI p2 p1).bind fun x2 =>
  (Qe3 N x2 p3 p4).bind fun x7 =>
  (getI p2 p0).bind fun x8 =>
  (Qe3 N x8 p3 p4).bind fun x13 =>
  some (w64 (x7 - x13))
def Q1m : AV := .fn (.func 103) [] [(.ref 2 1 (0) 0), (.ref 3 1 (0) 0)]
def Q1l (p2 : (List Int)) : AV := .dat 1 ((p2 : List Int).map Qam)
theorem Qki (N : Nat) (p0 : Int) (p1 : Int) (p2 : (List Int)) (p3 : Int) (p4 : Int) (r : Int) (h : Qen N p0 p1 p2 p3 p4 = some r) : Spec Try.prog 107 [(I (p0)), (I (p1)), (.ref 0 1 (0) 0), (.ref 1 1 (0) 0)] [(.own 1 [[Q1m]]), (.own 1 [[(Q1l p2)]]), (.own 1 [[(I (p3))]]), (.own 1 [[(I (p4))]])] (I (r)) [(.own 1 [[Q1m]]), (.own 1 [[(Q1l p2)]]), (.own 1 [[(I (p3))]]), (.own 1 [[(I (p4))]])] := by
  refine Qag Try.func107 rfl 4 (nle rfl) (fun X φ0 w0 hφ0 hd0 => ?_)
  unfold Qen at h
  refine Qbs ?_
  refine wx tbk [] trivial ?_
  obtain ⟨x2, hg3, h⟩ := bno h
  obtain ⟨hi4, hj5⟩ := gsm hg3
  obtain ⟨x7, hf6, h⟩ := bno h
  obtain ⟨x8, hg9, h⟩ := bno h
  obtain ⟨hi10, hj11⟩ := gsm hg9
  obtain ⟨x13, hf12, h⟩ := bno h
  refine wxd tbk [(3, rp [(.tmp 8, (Q1l p2)), (.tmp 9, I p1)] (.dptr (Qam (x2)) 0)), (5, ⟨[(.tmp 7, Q1m), (.tmp 11, I x2)], [(2, .own 1 [[I p3]]), (3, .own 1 [[I p4]])], I x7, [(2, .own 1 [[I p3]]), (3, .own 1 [[I p4]])], false⟩), (9, rp [(.tmp 14, (Q1l p2)), (.tmp 15, I p0)] (.dptr (Qam (x8)) 0)), (11, ⟨[(.tmp 13, Q1m), (.tmp 17, I x8)], [(2, .own 1 [[I p3]]), (3, .own 1 [[I p4]])], I x13, [(2, .own 1 [[I p3]]), (3, .own 1 [[I p4]])], false⟩)] ⟨aid rfl Try.underlying27 ti3 rfl rfl hi4 (mgt Qam hj5) rfl, Qao (first := []) (cap := [.ref 2 1 0 0, .ref 3 1 0 0]) (vs := [I x2]) (σr := [(.own 1 [[I p3]]), (.own 1 [[I p4]])]) (σr' := [(.own 1 [[I p3]]), (.own 1 [[I p4]])]) (res' := (I x7)) [2, 3] rfl Q0r (Qi7 N x2 p3 p4 _ hf6) rfl (Qbr (rnc (.plain _ nll) (rnc (Qbb rfl) (rnc (Qbb rfl) rn0)))) (slc (Qal (rnc (.plain _ nll) rn0)) (slc (Qal (rnc (.plain _ nll) rn0)) Qan)) (slc (Qal (rnc (.plain _ nll) rn0)) (slc (Qal (rnc (.plain _ nll) rn0)) Qan)) (.plain _ nll) rfl rfl rfl, aid rfl Try.underlying27 ti3 rfl rfl hi10 (mgt Qam hj11) rfl, Qao (first := []) (cap := [.ref 2 1 0 0, .ref 3 1 0 0]) (vs := [I x8]) (σr := [(.own 1 [[I p3]]), (.own 1 [[I p4]])]) (σr' := [(.own 1 [[I p3]]), (.own 1 [[I p4]])]) (res' := (I x13)) [2, 3] rfl Q0r (Qi7 N x8 p3 p4 _ hf12) rfl (Qbr (rnc (.plain _ nll) (rnc (Qbb rfl) (rnc (Qbb rfl) rn0)))) (slc (Qal (rnc (.plain _ nll) rn0)) (slc (Qal (rnc (.plain _ nll) rn0)) Qan)) (slc (Qal (rnc (.plain _ nll) rn0)) (slc (Qal (rnc (.plain _ nll) rn0)) Qan)) (.plain _ nll) rfl rfl rfl, trivial⟩ ?_
  refine wmr (mto (n := 20) (l' := [(6, (I (w64 (x7 - x13))))]) (own' := [(.own 1 [[Q1m]]), (.own 1 [[(Q1l p2)]]), (.own 1 [[I p3]]), (.own 1 [[I p4]])]) [(6, (I (w64 (x7 - x13))))] [0, 1, 2, 3] [(.own 1 [[Q1m]]), (.own 1 [[(Q1l p2)]]), (.own 1 [[I p3]]), (.own 1 [[I p4]])] hφ0 (pc rwl pn) (qc (spb (lc (.rn (Qbe rn0 (rnc (rqr rfl) (rnc (rqr rfl) rn0)))) ln)) (qc (spb (lc (.rn (.plain _ (nld Qaf _))) ln)) (qc (spb (lc rwl ln)) (qc (spb (lc rwl ln)) qn))))) ?_
  refine Qad ?_
  obtain rfl := osi h
  exact ⟨_, Mor.rfl, Qcx (vs := [(I (w64 (x7 - x13)))]) ⟨rot (by kernel_rfl), trivial⟩ rfl (NLt.of0 nll) (by kernel_rfl) (Qak (Qa6 (nlc (NLt.fn _ _ _ nl0 (nlc (NLt.ref _ _ _ _ (by decide)) (nlc (NLt.ref _ _ _ _ (by decide)) nl0))) nl0)) (Qak (Qa6 (nlc (NLt.of0 (nld Qaf _)) nl0)) (Qak (Qa6 (nlc (NLt.of0 nll) nl0)) (Qak (Qa6 (nlc (NLt.of0 nll) nl0)) Qbo))))⟩
def Qbc (N : Nat) (p0 : Nat) (p1 : Int) (p4 : (List Int)) (p5 : Int) (p6 : Int) (k9 : (List Int) → Option (List Int)) : Nat → Int → (List Int) → Option (List Int)
  | 0, _, _ => none
  | n14 + 1, y10, y11 =>
    Qcv (fun _ =>
      chk (decide (0 ≤ w64 (y10 - 1)) && decide ((w64 (y10 - 1)).toNat < p0)) <|
      (y11[(w64 (y10 - 1)).toNat]?).bind fun x17 =>
      chk (decide (0 ≤ y10) && decide (y10.toNat < p0)) <|
      (y11[y10.toNat]?).bind fun x20 =>
      chk (decide (0 ≤ y10) && decide (y10.toNat < p0)) <|
      (y11[y10.toNat]?).bind fun _ =>
      chk (decide (0 ≤ w64 (y10 - 1)) && decide ((w64 (y10 - 1)).toNat < p0)) <|
      ((y11.set y10.toNat x17)[(w64 (y10 - 1)).toNat]?).bind fun _ =>
      Qbc N p0 p1 p4 p5 p6 k9 n14 (w64 (y10 - 1)) ((y11.set y10.toNat x17).set ((w64 (y10 - 1)).toNat) x20)) fun k15 : Unit → Option (List Int) =>
    bif (decide (y10 > p1)) then
     chk (decide (0 ≤ y10) && decide (y10.toNat < p0)) <|
     (y11[y10.toNat]?).bind fun x30 =>
     chk (decide (0 ≤ w64 (y10 - 1)) && decide ((w64 (y10 - 1)).toNat < p0)) <|
     (y11[(w64 (y10 - 1)).toNat]?).bind fun x33 =>
     (Qen N x30 x33 p4 p5 p6).bind fun x36 =>
     bif (decide (x36 < 0)) then
      k15 ()
     else
      k9 (y11)
    else
     k9 (y11)
def Qaz (N : Nat) (p0 : Nat) (p1 : Int) (p2 : Int) (p4 : (List Int)) (p5 : Int) (p6 : Int) : Nat → Int → (List Int) → Option (List Int)
  | 0, _, _ => none
  | n6 + 1, y2, y3 =>
    bif (decide (y2 < p2)) then
     Qcv (fun y8 =>
       Qaz N p0 p1 p2 p4 p5 p6 n6 (w64 (y2 + 1)) y8) fun k9 : (List Int) → Option (List Int) =>
     Qbc N p0 p1 p4 p5 p6 k9 N y2 y3
    else
     some y3
def Qbh (N : Nat) (p0 : Nat) (p1 : Int) (p2 : Int) (p3 : (List Int)) (p4 : (List Int)) (p5 : Int) (p6 : Int) : Option (List Int) :=
  Qaz N p0 p1 p2 p4 p5 p6 N (w64 (p1 + 1)) p3
def Qmu : AV := .fn (.func 107) [] [(.ref 1 1 (0) 0), (.ref 2 1 (0) 0)]
def Zbu (p3 : (List Int)) : Slot := .own 1 ((p3 : List Int).map Qam)
def Qj9 : AV := .fn (.func 103) [] [(.ref 3 1 (0) 0), (.ref 4 1 (0) 0)]
def Qj8 (p4 : (List Int)) : AV := .dat 1 ((p4 : List Int).map Qam)
def Q3v (y3 : (List Int)) : Slot := .own 1 ((y3 : List Int).map Qam)
def Qjh (y11 : (List Int)) : Slot := .own 1 ((y11 : List Int).map Qam)
theorem Qex (N : Nat) (p0 : Nat) (p1 : Int) (p2 : Int) (p3 : (List Int)) (p4 : (List Int)) (p5 : Int) (p6 : Int) (r : (List Int)) (h : Qbh N p0 p1 p2 p3 p4 p5 p6 = some r) : Spec Try.prog 109 [(.own 0 1 (0) (p0)), (I (p1)), (I (p2)), Qmu] [(Zbu p3), (.own 1 [[Qj9]]), (.own 1 [[(Qj8 p4)]]), (.own 1 [[(I (p5))]]), (.own 1 [[(I (p6))]])] (.tup []) [(.own 1 ((r : List Int).map Qam)), (.own 1 [[Qj9]]), (.own 1 [[(Qj8 p4)]]), (.own 1 [[(I (p5))]]), (.own 1 [[(I (p6))]])] := by
  refine Qag Try.func109 rfl 5 (nle rfl) (fun X φ0 w0 hφ0 hd0 => ?_)
  unfold Qbh at h
  refine Qbs ?_
  refine wx tbk [] trivial ?_
  refine Qaq ?_
  refine wmr (mto (n := 53) (l' := [(0, (.own 0 1 (0) (p0))), (1, I p1), (2, I p2), (3, Qmu), (8, (I ((w64 (p1 + 1)))))]) (own' := [(Zbu p3), (.own 1 [[Qj9]]), (.own 1 [[(Qj8 p4)]]), (.own 1 [[I p5]]), (.own 1 [[I p6]])]) [(0, (.own 0 1 (0) (p0))), (1, I p1), (2, I p2), (3, Qmu), (8, (I (w64 (p1 + 1))))] [0, 1, 2, 3, 4] [(Zbu p3), (.own 1 [[Qj9]]), (.own 1 [[(Qj8 p4)]]), (.own 1 [[I p5]]), (.own 1 [[I p6]])] hφ0 (pc (.rn (Qba rfl)) (pc rwl (pc rwl (pc (.rn (Qbe rn0 (rnc (rqr rfl) (rnc (rqr rfl) rn0)))) (pc rwl pn))))) (qc (spr Qaf) (qc (spb (lc (.rn (Qbe rn0 (rnc (rqr rfl) (rnc (rqr rfl) rn0)))) ln)) (qc (spb (lc (.rn (.plain _ (nld Qaf _))) ln)) (qc (spb (lc rwl ln)) (qc (spb (lc rwl ln)) qn)))))) ?_
  refine Qc9 (τ := Int × (List Int)) (fun n t => Qaz N p0 p1 p2 p4 p5 p6 n t.1 t.2 = some r) (fun ⟨y2, y3⟩ => ⟨mk 53 [(0, (.own 0 1 (0) (p0))), (1, I p1), (2, I p2), (3, Qmu), (8, I y2)], [(Q3v y3), (.own 1 [[Qj9]]), (.own 1 [[(Qj8 p4)]]), (.own 1 [[I p5]]), (.own 1 [[I p6]])]⟩) (fun t h => by rw [Qaz] at h; cases h) (fun n6 ih t h => ?_) N (w64 (p1 + 1), p3) h
  obtain ⟨y2, y3⟩ := t
  rw [Qaz] at h
  skip
  refine wsq ?_
  refine wx tbk [] trivial ?_
  rcases bft ((decide (y2 < p2))) with hc7 | hc7
  ·replace h := Qa2 hc7 h
   refine wft hc7 (by kernel_rfl) ?_
   refine Qar ?_
   refine thn ?_
   obtain ⟨k9, hk_k9, h⟩ := jko h
   refine wjn (τ := (List Int)) (fun t => k9 t = some r) (fun y8 => ⟨mk 53 [(0, (.own 0 1 (0) (p0))), (1, I p1), (2, I p2), (3, Qmu), (8, I y2)], [(.own 1 ((y8 : List Int).map Qam)), (.own 1 [[Qj9]]), (.own 1 [[(Qj8 p4)]]), (.own 1 [[I p5]]), (.own 1 [[I p6]])]⟩) (fun y8 h => ?_) ?_
   ·subst hk_k9
    refine wx1 tbk [] trivial ?_
    refine thn ?_
    exact arm (mto (n := 53) [(0, (.own 0 1 (0) (p0))), (1, I p1), (2, I p2), (3, Qmu), (8, (I (w64 (y2 + 1))))] [0, 1, 2, 3, 4] [(.own 1 ((y8 : List Int).map Qam)), (.own 1 [[Qj9]]), (.own 1 [[(Qj8 p4)]]), (.own 1 [[I p5]]), (.own 1 [[I p6]])] hφ0 (pc (.rn (Qba rfl)) (pc rwl (pc rwl (pc (.rn (Qbe rn0 (rnc (rqr rfl) (rnc (rqr rfl) rn0)))) (pc rwl pn))))) (qc (spr Qaf) (qc (spb (lc (.rn (Qbe rn0 (rnc (rqr rfl) (rnc (rqr rfl) rn0)))) ln)) (qc (spb (lc (.rn (.plain _ (nld Qaf _))) ln)) (qc (spb (lc rwl ln)) (qc (spb (lc rwl ln)) qn)))))) (ih (w64 (y2 + 1), y8) h)
   ·skip
    refine Qaq ?_
    refine wx tbk [] trivial ?_
    refine Qaq ?_
    refine wmr (mto (n := 53) (l' := [(0, (.own 0 1 (0) (p0))), (1, I p1), (2, I p2), (3, Qmu), (8, I y2), (9, I y2)]) (own' := [(Q3v y3), (.own 1 [[Qj9]]), (.own 1 [[(Qj8 p4)]]), (.own 1 [[I p5]]), (.own 1 [[I p6]])]) [(0, (.own 0 1 (0) (p0))), (1, I p1), (2, I p2), (3, Qmu), (8, I y2), (9, I y2)] [0, 1, 2, 3, 4] [(Q3v y3), (.own 1 [[Qj9]]), (.own 1 [[(Qj8 p4)]]), (.own 1 [[I p5]]), (.own 1 [[I p6]])] hφ0 (pc (.rn (Qba rfl)) (pc rwl (pc rwl (pc (.rn (Qbe rn0 (rnc (rqr rfl) (rnc (rqr rfl) rn0)))) (pc rwl (pc rwl pn)))))) (qc (spr Qaf) (qc (spb (lc (.rn (Qbe rn0 (rnc (rqr rfl) (rnc (rqr rfl) rn0)))) ln)) (qc (spb (lc (.rn (.plain _ (nld Qaf _))) ln)) (qc (spb (lc rwl ln)) (qc (spb (lc rwl ln)) qn)))))) ?_
    refine Qc9 (τ := Int × (List Int)) (fun n t => Qbc N p0 p1 p4 p5 p6 k9 n t.1 t.2 = some r) (fun ⟨y10, y11⟩ => ⟨mk 53 [(0, (.own 0 1 (0) (p0))), (1, I p1), (2, I p2), (3, Qmu), (8, I y2), (9, I y10)], [(Qjh y11), (.own 1 [[Qj9]]), (.own 1 [[(Qj8 p4)]]), (.own 1 [[I p5]]), (.own 1 [[I p6]])]⟩) (fun t h => by rw [Qbc] at h; cases h) (fun n14 ih t h => ?_) N (y2, y3) h
    obtain ⟨y10, y11⟩ := t
    rw [Qbc] at h
    skip
    obtain ⟨k15, hk_k15, h⟩ := jko h
    refine wjn (τ := Unit) (fun t => k15 t = some r) (fun _ => ⟨mk 53 [(0, (.own 0 1 (0) (p0))), (1, I p1), (2, I p2), (3, Qmu), (8, I y2), (9, I y10)], [(Qjh y11), (.own 1 [[Qj9]]), (.own 1 [[(Qj8 p4)]]), (.own 1 [[I p5]]), (.own 1 [[I p6]])]⟩) (fun t h => ?_) ?_
    ·subst hk_k15
     refine wsq ?_
     refine Qaq ?_
     obtain ⟨hi16, h⟩ := cko h
     obtain ⟨hi16a, hi16b⟩ := Qfe hi16
     obtain ⟨x17, hg18, h⟩ := bno h
     obtain ⟨hi19, h⟩ := cko h
     obtain ⟨hi19a, hi19b⟩ := Qfe hi19
     obtain ⟨x20, hg21, h⟩ := bno h
     obtain ⟨hi22, h⟩ := cko h
     obtain ⟨hi22a, hi22b⟩ := Qfe hi22
     obtain ⟨x23, hg24, h⟩ := bno h
     obtain ⟨hi25, h⟩ := cko h
     obtain ⟨hi25a, hi25b⟩ := Qfe hi25
     obtain ⟨x26, hg27, h⟩ := bno h
     refine wy1 tbk [(8, rb [(.tmp 42, (.own 0 1 (0) (p0))), (.tmp 44, (I (w64 (y10 - 1))))] [(0, (Qjh y11))] (.ref 0 1 ((w64 (y10 - 1)).toNat) 0)), (9, rb [(.tmp 45, (.ref 0 1 ((w64 (y10 - 1)).toNat) 0))] [(0, (Qjh y11))] (I x17)), (12, rb [(.tmp 47, (.own 0 1 (0) (p0))), (.tmp 48, I y10)] [(0, (Qjh y11))] (.ref 0 1 (y10.toNat) 0)), (13, rb [(.tmp 49, (.ref 0 1 (y10.toNat) 0))] [(0, (Qjh y11))] (I x20)), (14, rb [(.tmp 37, (.own 0 1 (0) (p0))), (.tmp 38, I y10)] [(0, (Qjh y11))] (.ref 0 1 (y10.toNat) 0)), (15, ⟨[(.tmp 51, (.ref 0 1 (y10.toNat) 0)), (.tmp 46, I x17)], [(0, (Qjh y11))], .any, [(0, (.own 1 ((y11.set y10.toNat x17 : List Int).map Qam)))], false⟩), (16, rb [(.tmp 39, (.own 0 1 (0) (p0))), (.tmp 41, (I (w64 (y10 - 1))))] [(0, (.own 1 ((y11.set y10.toNat x17 : List Int).map Qam)))] (.ref 0 1 ((w64 (y10 - 1)).toNat) 0)), (17, ⟨[(.tmp 52, (.ref 0 1 ((w64 (y10 - 1)).toNat) 0)), (.tmp 50, I x20)], [(0, (.own 1 ((y11.set y10.toNat x17 : List Int).map Qam)))], .any, [(0, (.own 1 (((y11.set y10.toNat x17).set ((w64 (y10 - 1)).toNat) x20 : List Int).map Qam)))], false⟩)] ⟨aio rfl Try.underlying27 ti3 (odt hi16a) (odt hi16b) (Nat.zero_add _), ald rfl ti3 (by decide) (mgt Qam hg18) (nle rfl) rfl, aio rfl Try.underlying27 ti3 (odt hi19a) (odt hi19b) (Nat.zero_add _), ald rfl ti3 (by decide) (mgt Qam hg21) (nle rfl) rfl, aio rfl Try.underlying27 ti3 (odt hi22a) (odt hi22b) (Nat.zero_add _), ast rfl ti3 (by rfl) (mgt Qam hg24) (nle rfl) (Qg2 Qam rfl), aio rfl Try.underlying27 ti3 (odt hi25a) (odt hi25b) (Nat.zero_add _), ast rfl ti3 (by rfl) (mgt Qam hg27) (nle rfl) (Qg2 Qam rfl), trivial⟩ ?_
     refine bln ?_
     refine thn ?_
     refine wx1 tbk [] trivial ?_
     refine thn ?_
     exact arm (mto (n := 53) [(0, (.own 0 1 (0) (p0))), (1, I p1), (2, I p2), (3, Qmu), (8, I y2), (9, (I (w64 (y10 - 1))))] [0, 1, 2, 3, 4] [(.own 1 (((y11.set y10.toNat x17).set ((w64 (y10 - 1)).toNat) x20 : List Int).map Qam)), (.own 1 [[Qj9]]), (.own 1 [[(Qj8 p4)]]), (.own 1 [[I p5]]), (.own 1 [[I p6]])] hφ0 (pc (.rn (Qba rfl)) (pc rwl (pc rwl (pc (.rn (Qbe rn0 (rnc (rqr rfl) (rnc (rqr rfl) rn0)))) (pc rwl (pc rwl pn)))))) (qc (spr Qaf) (qc (spb (lc (.rn (Qbe rn0 (rnc (rqr rfl) (rnc (rqr rfl) rn0)))) ln)) (qc (spb (lc (.rn (.plain _ (nld Qaf _))) ln)) (qc (spb (lc rwl ln)) (qc (spb (lc rwl ln)) qn)))))) (ih (w64 (y10 - 1), (y11.set y10.toNat x17).set ((w64 (y10 - 1)).toNat) x20) h)
    ·skip
     rcases bft ((decide (y10 > p1))) with hb28 | hb28
     ·replace h := Qa2 hb28 h
      obtain ⟨hi29, h⟩ := cko h
      obtain ⟨hi29a, hi29b⟩ := Qfe hi29
      obtain ⟨x30, hg31, h⟩ := bno h
      obtain ⟨hi32, h⟩ := cko h
      obtain ⟨hi32a, hi32b⟩ := Qfe hi32
      obtain ⟨x33, hg34, h⟩ := bno h
      obtain ⟨x36, hf35, h⟩ := bno h
      refine wxd tbk [(3, rp [(.tmp 20, (B ((decide (y10 > p1)))))] (B true)), (7, rb [(.tmp 21, B true), (.tmp 23, (.own 0 1 (0) (p0))), (.tmp 24, I y10)] [(0, (Qjh y11))] (.ref 0 1 (y10.toNat) 0)), (8, rb [(.tmp 21, B true), (.tmp 25, (.ref 0 1 (y10.toNat) 0))] [(0, (Qjh y11))] (I x30)), (12, rb [(.tmp 21, B true), (.tmp 27, (.own 0 1 (0) (p0))), (.tmp 29, (I (w64 (y10 - 1))))] [(0, (Qjh y11))] (.ref 0 1 ((w64 (y10 - 1)).toNat) 0)), (13, rb [(.tmp 21, B true), (.tmp 30, (.ref 0 1 ((w64 (y10 - 1)).toNat) 0))] [(0, (Qjh y11))] (I x33)), (14, ⟨[(.tmp 21, B true), (.tmp 22, Qmu), (.tmp 26, I x30), (.tmp 31, I x33)], [(1, .own 1 [[Qj9]]), (2, (.own 1 [[(Qj8 p4)]])), (3, .own 1 [[I p5]]), (4, .own 1 [[I p6]])], I x36, [(1, .own 1 [[Qj9]]), (2, (.own 1 [[(Qj8 p4)]])), (3, .own 1 [[I p5]]), (4, .own 1 [[I p6]])], false⟩)] ⟨asb hb28 (amv rfl), ag_ (aio rfl Try.underlying27 ti3 (odt hi29a) (odt hi29b) (Nat.zero_add _)), ag_ (ald rfl ti3 (by decide) (mgt Qam hg31) (nle rfl) rfl), ag_ (aio rfl Try.underlying27 ti3 (odt hi32a) (odt hi32b) (Nat.zero_add _)), ag_ (ald rfl ti3 (by decide) (mgt Qam hg34) (nle rfl) rfl), ag_ (Qao (first := []) (cap := [.ref 1 1 0 0, .ref 2 1 0 0]) (vs := [I x30, I x33]) (σr := [(.own 1 [[Qj9]]), (.own 1 [[(Qj8 p4)]]), (.own 1 [[I p5]]), (.own 1 [[I p6]])]) (σr' := [(.own 1 [[Qj9]]), (.own 1 [[(Qj8 p4)]]), (.own 1 [[I p5]]), (.own 1 [[I p6]])]) (res' := (I x36)) [1, 2, 3, 4] rfl Q9d (Qki N x30 x33 p4 p5 p6 _ hf35) rfl (Qbr (rnc (.plain _ nll) (rnc (.plain _ nll) (rnc (Qbb rfl) (rnc (Qbb rfl) rn0))))) (slc (Qal (rnc (Qbe rn0 (rnc (Qbb rfl) (rnc (Qbb rfl) rn0))) rn0)) (slc (Qal (rnc (.plain _ (nld Qaf _)) rn0)) (slc (Qal (rnc (.plain _ nll) rn0)) (slc (Qal (rnc (.plain _ nll) rn0)) Qan)))) (slc (Qal (rnc (Qbe rn0 (rnc (Qbk rfl) (rnc (Qbk rfl) rn0))) rn0)) (slc (Qal (rnc (.plain _ (nld Qaf _)) rn0)) (slc (Qal (rnc (.plain _ nll) rn0)) (slc (Qal (rnc (.plain _ nll) rn0)) Qan)))) (.plain _ nll) rfl rfl rfl), trivial⟩ ?_
      rcases bft ((decide (x36 < 0))) with hc37 | hc37
      ·replace h := Qa2 hc37 h
       refine wft hc37 (by kernel_rfl) ?_
       refine Qar ?_
       refine thn ?_
       exact ⟨(), h, (mto (n := 53) [(0, (.own 0 1 (0) (p0))), (1, I p1), (2, I p2), (3, Qmu), (8, I y2), (9, I y10)] [0, 1, 2, 3, 4] [(Qjh y11), (.own 1 [[Qj9]]), (.own 1 [[(Qj8 p4)]]), (.own 1 [[I p5]]), (.own 1 [[I p6]])] hφ0 (pc (.rn (Qba rfl)) (pc rwl (pc rwl (pc (.rn (Qbe rn0 (rnc (rqr rfl) (rnc (rqr rfl) rn0)))) (pc rwl (pc rwl pn)))))) (qc (spr Qaf) (qc (spb (lc (.rn (Qbe rn0 (rnc (rqr rfl) (rnc (rqr rfl) rn0)))) ln)) (qc (spb (lc (.rn (.plain _ (nld Qaf _))) ln)) (qc (spb (lc rwl ln)) (qc (spb (lc rwl ln)) qn))))))⟩
      ·replace h := Qa3 hc37 h
       refine wfn hc37 (by kernel_rfl) ?_
       refine Qcf ?_
       refine Qa8 ?_
       refine Qa8 ?_
       refine Qce rfl ?_
       refine bln ?_
       refine thn ?_
       exact ⟨(y11), h, (mto (n := 53) [(0, (.own 0 1 (0) (p0))), (1, I p1), (2, I p2), (3, Qmu), (8, I y2)] [0, 1, 2, 3, 4] [(Qjh y11), (.own 1 [[Qj9]]), (.own 1 [[(Qj8 p4)]]), (.own 1 [[I p5]]), (.own 1 [[I p6]])] hφ0 (pc (.rn (Qba rfl)) (pc rwl (pc rwl (pc (.rn (Qbe rn0 (rnc (rqr rfl) (rnc (rqr rfl) rn0)))) (pc rwl pn))))) (qc (spr Qaf) (qc (spb (lc (.rn (Qbe rn0 (rnc (rqr rfl) (rnc (rqr rfl) rn0)))) ln)) (qc (spb (lc (.rn (.plain _ (nld Qaf _))) ln)) (qc (spb (lc rwl ln)) (qc (spb (lc rwl ln)) qn))))))⟩
     ·replace h := Qa3 hb28 h
      refine wxd tbk [(3, rp [(.tmp 20, (B ((decide (y10 > p1)))))] (B false))] ⟨asb hb28 (amv rfl), trivial⟩ ?_
      refine Qg6 (by kernel_rfl) ?_
      refine Qcf ?_
      refine Qa8 ?_
      refine Qa8 ?_
      refine Qce rfl ?_
      refine bln ?_
      refine thn ?_
      exact ⟨(y11), h, (mto (n := 53) [(0, (.own 0 1 (0) (p0))), (1, I p1), (2, I p2), (3, Qmu), (8, I y2)] [0, 1, 2, 3, 4] [(Qjh y11), (.own 1 [[Qj9]]), (.own 1 [[(Qj8 p4)]]), (.own 1 [[I p5]]), (.own 1 [[I p6]])] hφ0 (pc (.rn (Qba rfl)) (pc rwl (pc rwl (pc (.rn (Qbe rn0 (rnc (rqr rfl) (rnc (rqr rfl) rn0)))) (pc rwl pn))))) (qc (spr Qaf) (qc (spb (lc (.rn (Qbe rn0 (rnc (rqr rfl) (rnc (rqr rfl) rn0)))) ln)) (qc (spb (lc (.rn (.plain _ (nld Qaf _))) ln)) (qc (spb (lc rwl ln)) (qc (spb (lc rwl ln)) qn))))))⟩
  ·replace h := Qa3 hc7 h
   refine wfn hc7 (by kernel_rfl) ?_
   refine Qcf ?_
   refine Qa8 ?_
   refine Qa8 ?_
   refine Qce rfl ?_
   obtain rfl := osi h
   exact ⟨_, (mto (n := 53) (l' := []) (own' := [(Q3v y3), (.own 1 [[Qj9]]), (.own 1 [[(Qj8 p4)]]), (.own 1 [[I p5]]), (.own 1 [[I p6]])]) [] [0, 1, 2, 3, 4] [(Q3v y3), (.own 1 [[Qj9]]), (.own 1 [[(Qj8 p4)]]), (.own 1 [[I p5]]), (.own 1 [[I p6]])] hφ0 pn (qc (spr Qaf) (qc (spb (lc (.rn (Qbe rn0 (rnc (rqr rfl) (rnc (rqr rfl) rn0)))) ln)) (qc (spb (lc (.rn (.plain _ (nld Qaf _))) ln)) (qc (spb (lc rwl ln)) (qc (spb (lc rwl ln)) qn)))))), Qcx (vs := []) trivial rfl (NLt.tup _ nl0) (by kernel_rfl) (Qak (Qcl Qaf _) (Qak (Qa6 (nlc (NLt.fn _ _ _ nl0 (nlc (NLt.ref _ _ _ _ (by decide)) (nlc (NLt.ref _ _ _ _ (by decide)) nl0))) nl0)) (Qak (Qa6 (nlc (NLt.of0 (nld Qaf _)) nl0)) (Qak (Qa6 (nlc (NLt.of0 nll) nl0)) (Qak (Qa6 (nlc (NLt.of0 nll) nl0)) Qbo)))))⟩
def Qc8 (N : Nat) (p1 : Int) (k9 : Unit → Option (List Int)) : Nat → Option (List Int)
  | 0 => none
  | n10 + 1 =>
    bif (decide (40 ≤ p1)) then
     none
    else
     k9 ()
def Qb0 (N : Nat) (p1 : Int) (x6 : (List Int)) : Nat → Option (List Int)
  | 0 => none
  | n7 + 1 =>
    bif (decide (20 < p1)) then
     Qcv (fun _ =>
       none) fun k9 : Unit → Option (List Int) =>
     Qc8 N p1 k9 N
    else
     some x6
def Qbt (N : Nat) (p0 : Nat) (p1 : Int) (p3 : (List Int)) (k4 : Int × (List Int) → Option (List Int)) (p4 : Int) (p5 : Int) : Nat → Int → Int → (List Int) → Option (List Int)
  | 0, _, _, _ => none
  | n18 + 1, y12, y13, y14 =>
    bif (decide (y13 ≤ p1)) then
     (Qbh N p0 y12 y13 y14 p3 p4 p5).bind fun x21 =>
     Qbt N p0 p1 p3 k4 p4 p5 n18 y13 (w64 (y13 + 20)) x21
    else
     k4 (y12, y14)
def Qdz (N : Nat) (p0 : Nat) (p1 : Int) (p2 : (List Int)) (p3 : (List Int)) (p4 : Int) (p5 : Int) : Option (List Int) :=
  Qcv (fun ⟨y2, y3⟩ =>
    (Qbh N p0 y2 p1 y3 p3 p4 p5).bind fun x6 =>
    Qb0 N p1 x6 N) fun k4 : Int × (List Int) → Option (List Int) =>
  Qbt N p0 p1 p3 k4 p4 p5 N 0 20 p2
def Qkw : AV := .fn (.func 107) [] [(.ref 1 1 (0) 0), (.ref 2 1 (0) 0)]
def Zbw (p2 : (List Int)) : Slot := .own 1 ((p2 : List Int).map Qam)
def Qii : AV := .fn (.func 103) [] [(.ref 3 1 (0) 0), (.ref 4 1 (0) 0)]
def Qih (p3 : (List Int)) : AV := .dat 1 ((p3 : List Int).map Qam)
def Zbv (y3 : (List Int)) : Slot := .own 1 ((y3 : List Int).map Qam)
def Qpm (x6 : (List Int)) : Slot := .own 1 ((x6 : List Int).map Qam)
def Qzl (y14 : (List Int)) : Slot := .own 1 ((y14 : List Int).map Qam)
theorem Qil (N : Nat) (p0 : Nat) (p1 : Int) (p2 : (List Int)) (p3 : (List Int)) (p4 : Int) (p5 : Int) (r : (List Int)) (h : Qdz N p0 p1 p2 p3 p4 p5 = some r) : Spec Try.prog 108 [(.own 0 1 (0) (p0)), (I (p1)), Qkw] [(Zbw p2), (.own 1 [[Qii]]), (.own 1 [[(Qih p3)]]), (.own 1 [[(I (p4))]]), (.own 1 [[(I (p5))]])] (.tup []) [(.own 1 ((r : List Int).map Qam)), (.own 1 [[Qii]]), (.own 1 [[(Qih p3)]]), (.own 1 [[(I (p4))]]), (.own 1 [[(I (p5))]])] := by
  refine Qag Try.func108 rfl 5 (nle rfl) (fun X φ0 w0 hφ0 hd0 => ?_)
  unfold Qdz at h
  refine Qbs ?_
  refine wx tbk [] trivial ?_
  refine wx tbk [] trivial ?_
  obtain ⟨k4, hk_k4, h⟩ := jko h
  refine wjn (τ := Int × (List Int)) (fun t => k4 t = some r) (fun ⟨y2, y3⟩ => ⟨mk 63 [(0, (.own 0 1 (0) (p0))), (1, I p1), (2, Qkw), (6, I 20), (7, I y2)], [(Zbv y3), (.own 1 [[Qii]]), (.own 1 [[(Qih p3)]]), (.own 1 [[I p4]]), (.own 1 [[I p5]])]⟩) (fun t h => ?_) ?_
  ·subst hk_k4
   obtain ⟨y2, y3⟩ := t
   obtain ⟨x6, hf5, h⟩ := bno h
   refine wx tbk [(4, ⟨[fu 109, (.tmp 23, (.own 0 1 (0) (p0))), (.tmp 24, I y2), (.tmp 25, I p1), (.tmp 26, Qkw)], [(0, (Zbv y3)), (1, .own 1 [[Qii]]), (2, (.own 1 [[(Qih p3)]])), (3, .own 1 [[I p4]]), (4, .own 1 [[I p5]])], (.tup []), [(0, (Qpm x6)), (1, .own 1 [[Qii]]), (2, (.own 1 [[(Qih p3)]])), (3, .own 1 [[I p4]]), (4, .own 1 [[I p5]])], false⟩)] ⟨Qao (first := []) (cap := []) (vs := [(.own 0 1 (0) (p0)), I y2, I p1, Qkw]) (σr := [(Zbv y3), (.own 1 [[Qii]]), (.own 1 [[(Qih p3)]]), (.own 1 [[I p4]]), (.own 1 [[I p5]])]) (σr' := [(Qpm x6), (.own 1 [[Qii]]), (.own 1 [[(Qih p3)]]), (.own 1 [[I p4]]), (.own 1 [[I p5]])]) (res' := (.tup [])) [0, 1, 2, 3, 4] rfl Q0q (Qex N p0 y2 p1 y3 p3 p4 p5 _ hf5) rfl (Qbr (rnc (Qc7 rfl) (rnc (.plain _ nll) (rnc (.plain _ nll) (rnc (Qbe rn0 (rnc (Qbb rfl) (rnc (Qbb rfl) rn0))) rn0))))) (slc (Qa9 Qaf) (slc (Qal (rnc (Qbe rn0 (rnc (Qbb rfl) (rnc (Qbb rfl) rn0))) rn0)) (slc (Qal (rnc (.plain _ (nld Qaf _)) rn0)) (slc (Qal (rnc (.plain _ nll) rn0)) (slc (Qal (rnc (.plain _ nll) rn0)) Qan))))) (slc (Qa9 Qaf) (slc (Qal (rnc (Qbe rn0 (rnc (Qbk rfl) (rnc (Qbk rfl) rn0))) rn0)) (slc (Qal (rnc (.plain _ (nld Qaf _)) rn0)) (slc (Qal (rnc (.plain _ nll) rn0)) (slc (Qal (rnc (.plain _ nll) rn0)) Qan))))) (.plain _ (NLt.tup _ nl0)) rfl rfl rfl, trivial⟩ ?_
   refine Qaq ?_
   refine wmr (mto (n := 63) (l' := [(0, (.own 0 1 (0) (p0))), (1, I p1), (2, Qkw), (6, I 20)]) (own' := [(Qpm x6), (.own 1 [[Qii]]), (.own 1 [[(Qih p3)]]), (.own 1 [[I p4]]), (.own 1 [[I p5]])]) [(0, (.own 0 1 (0) (p0))), (1, I p1), (2, Qkw), (6, I 20)] [0, 1, 2, 3, 4] [(Qpm x6), (.own 1 [[Qii]]), (.own 1 [[(Qih p3)]]), (.own 1 [[I p4]]), (.own 1 [[I p5]])] hφ0 (pc (.rn (Qba rfl)) (pc rwl (pc (.rn (Qbe rn0 (rnc (rqr rfl) (rnc (rqr rfl) rn0)))) (pc rwl pn)))) (qc (spr Qaf) (qc (spb (lc (.rn (Qbe rn0 (rnc (rqr rfl) (rnc (rqr rfl) rn0)))) ln)) (qc (spb (lc (.rn (.plain _ (nld Qaf _))) ln)) (qc (spb (lc rwl ln)) (qc (spb (lc rwl ln)) qn)))))) ?_
   refine Qc9 (τ := Unit) (fun n t => Qb0 N p1 x6 n = some r) (fun _ => ⟨mk 63 [(0, (.own 0 1 (0) (p0))), (1, I p1), (2, Qkw), (6, I 20)], [(Qpm x6), (.own 1 [[Qii]]), (.own 1 [[(Qih p3)]]), (.own 1 [[I p4]]), (.own 1 [[I p5]])]⟩) (fun t h => by rw [Qb0] at h; cases h) (fun n7 ih t h => ?_) N () h
   rw [Qb0] at h
   skip
   refine wsq ?_
   refine wx tbk [] trivial ?_
   rcases bft ((decide (20 < p1))) with hc8 | hc8
   ·replace h := Qa2 hc8 h
    refine wft hc8 (by kernel_rfl) ?_
    refine Qar ?_
    refine thn ?_
    refine Qaq ?_
    refine wx tbk [] trivial ?_
    obtain ⟨k9, hk_k9, h⟩ := jko h
    refine wjn (τ := Unit) (fun t => k9 t = some r) (fun _ => ⟨mk 63 [(0, (.own 0 1 (0) (p0))), (1, I p1), (2, Qkw), (6, I 20), (7, I 0)], [(Qpm x6), (.own 1 [[Qii]]), (.own 1 [[(Qih p3)]]), (.own 1 [[I p4]]), (.own 1 [[I p5]])]⟩) (fun t h => ?_) ?_
    ·subst hk_k9
     refine wsq ?_
     refine wx tbk [] trivial ?_
     refine wx tbk [] trivial ?_
     refine wft hc8 (by kernel_rfl) ?_
     cases h
    ·skip
     refine Qaq ?_
     refine wmr (mto (n := 63) (l' := [(0, (.own 0 1 (0) (p0))), (1, I p1), (2, Qkw), (6, I 20), (7, I 0), (8, I 40)]) (own' := [(Qpm x6), (.own 1 [[Qii]]), (.own 1 [[(Qih p3)]]), (.own 1 [[I p4]]), (.own 1 [[I p5]])]) [(0, (.own 0 1 (0) (p0))), (1, I p1), (2, Qkw), (6, I 20), (7, I 0), (8, I 40)] [0, 1, 2, 3, 4] [(Qpm x6), (.own 1 [[Qii]]), (.own 1 [[(Qih p3)]]), (.own 1 [[I p4]]), (.own 1 [[I p5]])] hφ0 (pc (.rn (Qba rfl)) (pc rwl (pc (.rn (Qbe rn0 (rnc (rqr rfl) (rnc (rqr rfl) rn0)))) (pc rwl (pc rwl (pc rwl pn)))))) (qc (spr Qaf) (qc (spb (lc (.rn (Qbe rn0 (rnc (rqr rfl) (rnc (rqr rfl) rn0)))) ln)) (qc (spb (lc (.rn (.plain _ (nld Qaf _))) ln)) (qc (spb (lc rwl ln)) (qc (spb (lc rwl ln)) qn)))))) ?_
     refine Qc9 (τ := Unit) (fun n t => Qc8 N p1 k9 n = some r) (fun _ => ⟨mk 63 [(0, (.own 0 1 (0) (p0))), (1, I p1), (2, Qkw), (6, I 20), (7, I 0), (8, I 40)], [(Qpm x6), (.own 1 [[Qii]]), (.own 1 [[(Qih p3)]]), (.own 1 [[I p4]]), (.own 1 [[I p5]])]⟩) (fun t h => by rw [Qc8] at h; cases h) (fun n10 ih t h => ?_) N () h
     rw [Qc8] at h
     skip
     refine wsq ?_
     refine wx tbk [] trivial ?_
     rcases bft ((decide (40 ≤ p1))) with hc11 | hc11
     ·replace h := Qa2 hc11 h
      refine wft hc11 (by kernel_rfl) ?_
      refine Qar ?_
      refine thn ?_
      refine Qaq ?_
      cases h
     ·replace h := Qa3 hc11 h
      refine wfn hc11 (by kernel_rfl) ?_
      refine Qcf ?_
      refine Qa8 ?_
      refine Qa8 ?_
      refine Qce rfl ?_
      refine thn ?_
      exact ⟨(), h, (mto (n := 63) [(0, (.own 0 1 (0) (p0))), (1, I p1), (2, Qkw), (6, I 20), (7, I 0)] [0, 1, 2, 3, 4] [(Qpm x6), (.own 1 [[Qii]]), (.own 1 [[(Qih p3)]]), (.own 1 [[I p4]]), (.own 1 [[I p5]])] hφ0 (pc (.rn (Qba rfl)) (pc rwl (pc (.rn (Qbe rn0 (rnc (rqr rfl) (rnc (rqr rfl) rn0)))) (pc rwl (pc rwl pn))))) (qc (spr Qaf) (qc (spb (lc (.rn (Qbe rn0 (rnc (rqr rfl) (rnc (rqr rfl) rn0)))) ln)) (qc (spb (lc (.rn (.plain _ (nld Qaf _))) ln)) (qc (spb (lc rwl ln)) (qc (spb (lc rwl ln)) qn))))))⟩
   ·replace h := Qa3 hc8 h
    refine wfn hc8 (by kernel_rfl) ?_
    refine Qcf ?_
    refine Qa8 ?_
    refine Qa8 ?_
    refine Qce rfl ?_
    obtain rfl := osi h
    exact ⟨_, (mto (n := 63) (l' := []) (own' := [(Qpm x6), (.own 1 [[Qii]]), (.own 1 [[(Qih p3)]]), (.own 1 [[I p4]]), (.own 1 [[I p5]])]) [] [0, 1, 2, 3, 4] [(Qpm x6), (.own 1 [[Qii]]), (.own 1 [[(Qih p3)]]), (.own 1 [[I p4]]), (.own 1 [[I p5]])] hφ0 pn (qc (spr Qaf) (qc (spb (lc (.rn (Qbe rn0 (rnc (rqr rfl) (rnc (rqr rfl) rn0)))) ln)) (qc (spb (lc (.rn (.plain _ (nld Qaf _))) ln)) (qc (spb (lc rwl ln)) (qc (spb (lc rwl ln)) qn)))))), Qcx (vs := []) trivial rfl (NLt.tup _ nl0) (by kernel_rfl) (Qak (Qcl Qaf _) (Qak (Qa6 (nlc (NLt.fn _ _ _ nl0 (nlc (NLt.ref _ _ _ _ (by decide)) (nlc (NLt.ref _ _ _ _ (by decide)) nl0))) nl0)) (Qak (Qa6 (nlc (NLt.of0 (nld Qaf _)) nl0)) (Qak (Qa6 (nlc (NLt.of0 nll) nl0)) (Qak (Qa6 (nlc (NLt.of0 nll) nl0)) Qbo)))))⟩
  ·skip
   refine Qaq ?_
   refine wmr (mto (n := 63) (l' := [(0, (.own 0 1 (0) (p0))), (1, I p1), (2, Qkw), (6, I 20), (7, I 0), (8, I 20)]) (own' := [(Zbw p2), (.own 1 [[Qii]]), (.own 1 [[(Qih p3)]]), (.own 1 [[I p4]]), (.own 1 [[I p5]])]) [(0, (.own 0 1 (0) (p0))), (1, I p1), (2, Qkw), (6, I 20), (7, I 0), (8, I 20)] [0, 1, 2, 3, 4] [(Zbw p2), (.own 1 [[Qii]]), (.own 1 [[(Qih p3)]]), (.own 1 [[I p4]]), (.own 1 [[I p5]])] hφ0 (pc (.rn (Qba rfl)) (pc rwl (pc (.rn (Qbe rn0 (rnc (rqr rfl) (rnc (rqr rfl) rn0)))) (pc rwl (pc rwl (pc rwl pn)))))) (qc (spr Qaf) (qc (spb (lc (.rn (Qbe rn0 (rnc (rqr rfl) (rnc (rqr rfl) rn0)))) ln)) (qc (spb (lc (.rn (.plain _ (nld Qaf _))) ln)) (qc (spb (lc rwl ln)) (qc (spb (lc rwl ln)) qn)))))) ?_
   refine Qc9 (τ := Int × Int × (List Int)) (fun n t => Qbt N p0 p1 p3 k4 p4 p5 n t.1 t.2.1 t.2.2 = some r) (fun ⟨y12, y13, y14⟩ => ⟨mk 63 [(0, (.own 0 1 (0) (p0))), (1, I p1), (2, Qkw), (6, I 20), (7, I y12), (8, I y13)], [(Qzl y14), (.own 1 [[Qii]]), (.own 1 [[(Qih p3)]]), (.own 1 [[I p4]]), (.own 1 [[I p5]])]⟩) (fun t h => by rw [Qbt] at h; cases h) (fun n18 ih t h => ?_) N (0, 20, p2) h
   obtain ⟨y12, y13, y14⟩ := t
   rw [Qbt] at h
   skip
   refine wsq ?_
   refine wx tbk [] trivial ?_
   rcases bft ((decide (y13 ≤ p1))) with hc19 | hc19
   ·replace h := Qa2 hc19 h
    refine wft hc19 (by kernel_rfl) ?_
    refine Qar ?_
    refine thn ?_
    refine Qaq ?_
    obtain ⟨x21, hf20, h⟩ := bno h
    refine wx tbk [(4, ⟨[fu 109, (.tmp 14, (.own 0 1 (0) (p0))), (.tmp 15, I y12), (.tmp 16, I y13), (.tmp 17, Qkw)], [(0, (Qzl y14)), (1, .own 1 [[Qii]]), (2, (.own 1 [[(Qih p3)]])), (3, .own 1 [[I p4]]), (4, .own 1 [[I p5]])], (.tup []), [(0, (.own 1 ((x21 : List Int).map Qam))), (1, .own 1 [[Qii]]), (2, (.own 1 [[(Qih p3)]])), (3, .own 1 [[I p4]]), (4, .own 1 [[I p5]])], false⟩)] ⟨Qao (first := []) (cap := []) (vs := [(.own 0 1 (0) (p0)), I y12, I y13, Qkw]) (σr := [(Qzl y14), (.own 1 [[Qii]]), (.own 1 [[(Qih p3)]]), (.own 1 [[I p4]]), (.own 1 [[I p5]])]) (σr' := [(.own 1 ((x21 : List Int).map Qam)), (.own 1 [[Qii]]), (.own 1 [[(Qih p3)]]), (.own 1 [[I p4]]), (.own 1 [[I p5]])]) (res' := (.tup [])) [0, 1, 2, 3, 4] rfl Q0q (Qex N p0 y12 y13 y14 p3 p4 p5 _ hf20) rfl (Qbr (rnc (Qc7 rfl) (rnc (.plain _ nll) (rnc (.plain _ nll) (rnc (Qbe rn0 (rnc (Qbb rfl) (rnc (Qbb rfl) rn0))) rn0))))) (slc (Qa9 Qaf) (slc (Qal (rnc (Qbe rn0 (rnc (Qbb rfl) (rnc (Qbb rfl) rn0))) rn0)) (slc (Qal (rnc (.plain _ (nld Qaf _)) rn0)) (slc (Qal (rnc (.plain _ nll) rn0)) (slc (Qal (rnc (.plain _ nll) rn0)) Qan))))) (slc (Qa9 Qaf) (slc (Qal (rnc (Qbe rn0 (rnc (Qbk rfl) (rnc (Qbk rfl) rn0))) rn0)) (slc (Qal (rnc (.plain _ (nld Qaf _)) rn0)) (slc (Qal (rnc (.plain _ nll) rn0)) (slc (Qal (rnc (.plain _ nll) rn0)) Qan))))) (.plain _ (NLt.tup _ nl0)) rfl rfl rfl, trivial⟩ ?_
    refine wx tbk [] trivial ?_
    refine wx1 tbk [] trivial ?_
    refine bln ?_
    refine thn ?_
    exact arm (mto (n := 63) [(0, (.own 0 1 (0) (p0))), (1, I p1), (2, Qkw), (6, I 20), (7, I y13), (8, (I (w64 (y13 + 20))))] [0, 1, 2, 3, 4] [(.own 1 ((x21 : List Int).map Qam)), (.own 1 [[Qii]]), (.own 1 [[(Qih p3)]]), (.own 1 [[I p4]]), (.own 1 [[I p5]])] hφ0 (pc (.rn (Qba rfl)) (pc rwl (pc (.rn (Qbe rn0 (rnc (rqr rfl) (rnc (rqr rfl) rn0)))) (pc rwl (pc rwl (pc rwl pn)))))) (qc (spr Qaf) (qc (spb (lc (.rn (Qbe rn0 (rnc (rqr rfl) (rnc (rqr rfl) rn0)))) ln)) (qc (spb (lc (.rn (.plain _ (nld Qaf _))) ln)) (qc (spb (lc rwl ln)) (qc (spb (lc rwl ln)) qn)))))) (ih (y13, w64 (y13 + 20), x21) h)
   ·replace h := Qa3 hc19 h
    refine wfn hc19 (by kernel_rfl) ?_
    refine Qcf ?_
    refine Qa8 ?_
    refine Qa8 ?_
    refine Qce rfl ?_
    refine thn ?_
    exact ⟨(y12, y14), h, (mto (n := 63) [(0, (.own 0 1 (0) (p0))), (1, I p1), (2, Qkw), (6, I 20), (7, I y12)] [0, 1, 2, 3, 4] [(Qzl y14), (.own 1 [[Qii]]), (.own 1 [[(Qih p3)]]), (.own 1 [[I p4]]), (.own 1 [[I p5]])] hφ0 (pc (.rn (Qba rfl)) (pc rwl (pc (.rn (Qbe rn0 (rnc (rqr rfl) (rnc (rqr rfl) rn0)))) (pc rwl (pc rwl pn))))) (qc (spr Qaf) (qc (spb (lc (.rn (Qbe rn0 (rnc (rqr rfl) (rnc (rqr rfl) rn0)))) ln)) (qc (spb (lc (.rn (.plain _ (nld Qaf _))) ln)) (qc (spb (lc rwl ln)) (qc (spb (lc rwl ln)) qn))))))⟩
def Qcb (N : Nat) (p0 : Nat) (p1 : (List Int)) (p2 : (List Int)) (p3 : Int) (p4 : Int) : Option (List Int) :=
  (Qdz N p0 ((p0 : Nat) : Int) p1 p2 p3 p4).bind fun x3 =>
  some x3
def Zby : AV := .fn (.func 107) [] [(.ref 1 1 (0) 0), (.ref 2 1 (0) 0)]
def Zbx (p1 : (List Int)) : Slot := .own 1 ((p1 : List Int).map Qam)
def Quh : AV := .fn (.func 103) [] [(.ref 3 1 (0) 0), (.ref 4 1 (0) 0)]
def Qug (p2 : (List Int)) : AV := .dat 1 ((p2 : List Int).map Qam)
def Q7y (x3 : (List Int)) : Slot := .own 1 ((x3 : List Int).map Qam)
theorem Qha (N : Nat) (p0 : Nat) (p1 : (List Int)) (p2 : (List Int)) (p3 : Int) (p4 : Int) (r : (List Int)) (h : Qcb N p0 p1 p2 p3 p4 = some r) : Spec Try.prog 106 [(.own 0 1 (0) (p0)), Zby] [(Zbx p1), (.own 1 [[Quh]]), (.own 1 [[(Qug p2)]]), (.own 1 [[(I (p3))]]), (.own 1 [[(I (p4))]])] (.tup []) [(.own 1 ((r : List Int).map Qam)), (.own 1 [[Quh]]), (.own 1 [[(Qug p2)]]), (.own 1 [[(I (p3))]]), (.own 1 [[(I (p4))]])] := by
  refine Qag Try.func106 rfl 5 (nle rfl) (fun X φ0 w0 hφ0 hd0 => ?_)
  unfold Qcb at h
  refine Qbs ?_
  obtain ⟨x3, hf2, h⟩ := bno h
  refine wx1 tbk [(2, rp [(.tmp 5, (.own 0 1 (0) (p0)))] (I (((p0 : Nat) : Int)))), (4, ⟨[fu 108, (.tmp 4, (.own 0 1 (0) (p0))), (.tmp 6, (I (((p0 : Nat) : Int)))), (.tmp 7, Zby)], [(0, (Zbx p1)), (1, .own 1 [[Quh]]), (2, (.own 1 [[(Qug p2)]])), (3, .own 1 [[I p3]]), (4, .own 1 [[I p4]])], (.tup []), [(0, (Q7y x3)), (1, .own 1 [[Quh]]), (2, (.own 1 [[(Qug p2)]])), (3, .own 1 [[I p3]]), (4, .own 1 [[I p4]])], false⟩)] ⟨aln rfl Try.underlying27 rfl, Qao (first := []) (cap := []) (vs := [(.own 0 1 (0) (p0)), (I (((p0 : Nat) : Int))), Zby]) (σr := [(Zbx p1), (.own 1 [[Quh]]), (.own 1 [[(Qug p2)]]), (.own 1 [[I p3]]), (.own 1 [[I p4]])]) (σr' := [(Q7y x3), (.own 1 [[Quh]]), (.own 1 [[(Qug p2)]]), (.own 1 [[I p3]]), (.own 1 [[I p4]])]) (res' := (.tup [])) [0, 1, 2, 3, 4] rfl Q9c (Qil N p0 ((p0 : Nat) : Int) p1 p2 p3 p4 _ hf2) rfl (Qbr (rnc (Qc7 rfl) (rnc (.plain _ nll) (rnc (Qbe rn0 (rnc (Qbb rfl) (rnc (Qbb rfl) rn0))) rn0)))) (slc (Qa9 Qaf) (slc (Qal (rnc (Qbe rn0 (rnc (Qbb rfl) (rnc (Qbb rfl) rn0))) rn0)) (slc (Qal (rnc (.plain _ (nld Qaf _)) rn0)) (slc (Qal (rnc (.plain _ nll) rn0)) (slc (Qal (rnc (.plain _ nll) rn0)) Qan))))) (slc (Qa9 Qaf) (slc (Qal (rnc (Qbe rn0 (rnc (Qbk rfl) (rnc (Qbk rfl) rn0))) rn0)) (slc (Qal (rnc (.plain _ (nld Qaf _)) rn0)) (slc (Qal (rnc (.plain _ nll) rn0)) (slc (Qal (rnc (.plain _ nll) rn0)) Qan))))) (.plain _ (NLt.tup _ nl0)) rfl rfl rfl, trivial⟩ ?_
  obtain rfl := osi h
  exact ⟨_, (mto (n := 9) (l' := []) (own' := [(Q7y x3), (.own 1 [[Quh]]), (.own 1 [[(Qug p2)]]), (.own 1 [[I p3]]), (.own 1 [[I p4]])]) [] [0, 1, 2, 3, 4] [(Q7y x3), (.own 1 [[Quh]]), (.own 1 [[(Qug p2)]]), (.own 1 [[I p3]]), (.own 1 [[I p4]])] hφ0 pn (qc (spr Qaf) (qc (spb (lc (.rn (Qbe rn0 (rnc (rqr rfl) (rnc (rqr rfl) rn0)))) ln)) (qc (spb (lc (.rn (.plain _ (nld Qaf _))) ln)) (qc (spb (lc rwl ln)) (qc (spb (lc rwl ln)) qn)))))), Qcx (vs := []) trivial rfl (NLt.tup _ nl0) (by kernel_rfl) (Qak (Qcl Qaf _) (Qak (Qa6 (nlc (NLt.fn _ _ _ nl0 (nlc (NLt.ref _ _ _ _ (by decide)) (nlc (NLt.ref _ _ _ _ (by decide)) nl0))) nl0)) (Qak (Qa6 (nlc (NLt.of0 (nld Qaf _)) nl0)) (Qak (Qa6 (nlc (NLt.of0 nll) nl0)) (Qak (Qa6 (nlc (NLt.of0 nll) nl0)) Qbo)))))⟩
def Qcr (N : Nat) (p0 : (List Int)) (k4 : (List Int) → Option (List Int)) : Nat → Int → (List Int) → Option (List Int)
  | 0, _, _ => none
  | n13 + 1, y9, y10 =>
    bif (decide (y9 < (p0.length : Int))) then
     chk (decide ((y10.length + ([y9]).length) * 8 ≤ 140737488355328)) <|
     Qcr N p0 k4 n13 (w64 (y9 + 1)) (y10 ++ ([y9]))
    else
     k4 (y10)
def Qe6 (N : Nat) (p0 : (List Int)) (p1 : Int) (p2 : Int) : Option (List Int) :=
  Qcv (fun y3 =>
    chk (!y3.isEmpty) <|
    (Qcb N y3.length y3 p0 p1 p2).bind fun x7 =>
    chk (decide (y3.length ≤ x7.length)) <|
    some (x7.take y3.length)) fun k4 : (List Int) → Option (List Int) =>
  Qcr N p0 k4 N 0 ([] : List Int)
def Qoc (p0 : (List Int)) : AV := .dat 1 ((p0 : List Int).map Qam)
def Qpn : AV := .fn (.func 103) [] [(.ref 0 1 (0) 0), (.ref 1 1 (0) 0)]
def Qzn : AV := .fn (.func 107) [] [(.ref 3 1 (0) 0), (.ref 2 1 (0) 0)]
def Qzm (x7 : (List Int)) (y3 : (List Int)) : AV := .dat 1 ((x7.take y3.length : List Int).map Qam)
def Zfz : Slot := .gro 1 ((([] : List Int) : List Int).map Qam)
theorem Qlg (N : Nat) (p0 : (List Int)) (p1 : Int) (p2 : Int) (r : (List Int)) (h : Qe6 N p0 p1 p2 = some r) : Spec Try.prog 102 [(Qoc p0), Qpn] [(.own 1 [[(I (p1))]]), (.own 1 [[(I (p2))]])] (.dat 1 ((r : List Int).map Qam)) [(.own 1 [[(I (p1))]]), (.own 1 [[(I (p2))]])] := by
  refine Qag Try.func102 rfl 2 (nle rfl) (fun X φ0 w0 hφ0 hd0 => ?_)
  unfold Qe6 at h
  refine Qbs ?_
  refine wx tbk [] trivial ?_
  refine wx tbk [] trivial ?_
  obtain ⟨k4, hk_k4, h⟩ := jko h
  refine wjn (τ := (List Int)) (fun t => k4 t = some r) (fun y3 => ⟨mk 21 [(2, .ref 2 1 0 0), (3, .ref 3 1 0 0), (5, (.gro 4 3 1 (y3.length)))], [(.own 1 [[I p1]]), (.own 1 [[I p2]]), (.own 1 [[(Qoc p0)]]), (.own 1 [[Qpn]]), (.gro 1 ((y3 : List Int).map Qam))]⟩) (fun y3 h => ?_) ?_
  ·subst hk_k4
   obtain ⟨hz5, h⟩ := cko h
   obtain ⟨x7, hf6, h⟩ := bno h
   refine wx tbk [(1, rp [(.tmp 3, .ref 3 1 0 0), (.tmp 2, .ref 2 1 0 0)] Qzn), (2, ⟨[fu 106, (.tmp 17, (.gro 4 3 1 (y3.length))), (.tmp 18, Qzn)], [(4, (.gro 1 ((y3 : List Int).map Qam))), (3, .own 1 [[Qpn]]), (2, (.own 1 [[(Qoc p0)]])), (0, .own 1 [[I p1]]), (1, .own 1 [[I p2]])], (.tup []), [(4, (.own 1 ((x7 : List Int).map Qam))), (3, .own 1 [[Qpn]]), (2, (.own 1 [[(Qoc p0)]])), (0, .own 1 [[I p1]]), (1, .own 1 [[I p2]])], false⟩)] ⟨Qej (fs := []) (cs := [.ref 3 1 0 0, .ref 2 1 0 0]) rfl rfl rfl rfl, Qyi (bl' := [(4, (.own 1 ((y3 : List Int).map Qam))), (3, .own 1 [[Qpn]]), (2, (.own 1 [[(Qoc p0)]])), (0, .own 1 [[I p1]]), (1, .own 1 [[I p2]])]) ⟨rfl, SLess.gro (Qk6 hz5), rfl, SLess.rfl, rfl, SLess.rfl, rfl, SLess.rfl, rfl, SLess.rfl, trivial⟩ (awk (rd' := [fu 106, (.tmp 17, (.own 4 1 (0) (y3.length))), (.tmp 18, Qzn)]) ⟨rfl, lrf, rfl, Less.gro, rfl, lrf, trivial⟩ (Qao (first := []) (cap := []) (vs := [(.own 4 1 (0) (y3.length)), Qzn]) (σr := [(.own 1 ((y3 : List Int).map Qam)), (.own 1 [[Qpn]]), (.own 1 [[(Qoc p0)]]), (.own 1 [[I p1]]), (.own 1 [[I p2]])]) (σr' := [(.own 1 ((x7 : List Int).map Qam)), (.own 1 [[Qpn]]), (.own 1 [[(Qoc p0)]]), (.own 1 [[I p1]]), (.own 1 [[I p2]])]) (res' := (.tup [])) [4, 3, 2, 0, 1] rfl Q9e (Qha N y3.length y3 p0 p1 p2 _ hf6) rfl (Qbr (rnc (Qc7 rfl) (rnc (Qbe rn0 (rnc (Qbb rfl) (rnc (Qbb rfl) rn0))) rn0))) (slc (Qa9 Qaf) (slc (Qal (rnc (Qbe rn0 (rnc (Qbb rfl) (rnc (Qbb rfl) rn0))) rn0)) (slc (Qal (rnc (.plain _ (nld Qaf _)) rn0)) (slc (Qal (rnc (.plain _ nll) rn0)) (slc (Qal (rnc (.plain _ nll) rn0)) Qan))))) (slc (Qa9 Qaf) (slc (Qal (rnc (Qbe rn0 (rnc (Qbk rfl) (rnc (Qbk rfl) rn0))) rn0)) (slc (Qal (rnc (.plain _ (nld Qaf _)) rn0)) (slc (Qal (rnc (.plain _ nll) rn0)) (slc (Qal (rnc (.plain _ nll) rn0)) Qan))))) (.plain _ (NLt.tup _ nl0)) rfl rfl rfl)), trivial⟩ ?_
   refine wx tbk [] trivial ?_
   obtain ⟨hz8, h⟩ := cko h
   refine wmr (Q83 (n := 21) (l' := [(4, (.own 4 1 (0) (y3.length)))]) [(4, (.gro 4 3 1 (y3.length)))] (by kernel_rfl) (by kernel_rfl) ⟨rfl, Less.gro, trivial⟩) ?_
   refine wmr (Zau (n := 21) (l' := [(4, (Qzm x7 y3))]) 4 [(4, (.own 4 1 (0) (y3.length)))] (by kernel_rfl) (by kernel_rfl) (by kernel_rfl) ⟨rfl, (Qq2 hz8), trivial⟩ rfl) ?_
   refine wmr (mto (n := 21) (l' := [(4, (Qzm x7 y3))]) (own' := [(.own 1 [[I p1]]), (.own 1 [[I p2]])]) [(4, (Qzm x7 y3))] [0, 1] [(.own 1 [[I p1]]), (.own 1 [[I p2]])] hφ0 (pc (.rn (.plain _ (nld Qaf _))) pn) (qc (spb (lc rwl ln)) (qc (spb (lc rwl ln)) qn))) ?_
   refine Qad ?_
   obtain rfl := osi h
   exact ⟨_, Mor.rfl, Qcx (vs := [(Qzm x7 y3)]) ⟨rot (by kernel_rfl), trivial⟩ rfl (NLt.of0 (nld Qaf _)) (by kernel_rfl) (Qak (Qa6 (nlc (NLt.of0 nll) nl0)) (Qak (Qa6 (nlc (NLt.of0 nll) nl0)) Qbo))⟩
  ·skip
   refine wx tbk [(1, rp [(.tmp 7, (Qoc p0))] (I ((p0.length : Int))))] ⟨alm (c := Qam) (l := p0) (aln rfl Try.underlying27 rfl), trivial⟩ ?_
   refine Qaq ?_
   refine wmr (Mor.trans (Q82 4 3 1 5 (by kernel_rfl) (by kernel_rfl)) (mto (n := 21) (l' := [(2, .ref 2 1 0 0), (3, .ref 3 1 0 0), (5, (.gro 4 3 1 (([] : List Int).length))), (8, (I ((p0.length : Int)))), (9, I 0)]) (own' := [(.own 1 [[I p1]]), (.own 1 [[I p2]]), (.own 1 [[(Qoc p0)]]), (.own 1 [[Qpn]]), Zfz]) [(2, .ref 2 1 0 0), (3, .ref 3 1 0 0), (5, (.gro 4 3 1 (([] : List Int).length))), (8, (I ((p0.length : Int)))), (9, I 0)] [0, 1, 2, 3, 4] [(.own 1 [[I p1]]), (.own 1 [[I p2]]), (.own 1 [[(Qoc p0)]]), (.own 1 [[Qpn]]), Zfz] hφ0 (pc (.rn (rqr rfl)) (pc (.rn (rqr rfl)) (pc (.rn (Qxh rfl)) (pc rwl (pc rwl pn))))) (qc (spb (lc rwl ln)) (qc (spb (lc rwl ln)) (qc (spb (lc (.rn (.plain _ (nld Qaf _))) ln)) (qc (spb (lc (.rn (Qbe rn0 (rnc (rqr rfl) (rnc (rqr rfl) rn0)))) ln)) (qc (Qte Qaf) qn))))))) ?_
   refine Qc9 (τ := Int × (List Int)) (fun n t => Qcr N p0 k4 n t.1 t.2 = some r) (fun ⟨y9, y10⟩ => ⟨mk 21 [(2, .ref 2 1 0 0), (3, .ref 3 1 0 0), (5, (.gro 4 3 1 (y10.length))), (8, (I ((p0.length : Int)))), (9, I y9)], [(.own 1 [[I p1]]), (.own 1 [[I p2]]), (.own 1 [[(Qoc p0)]]), (.own 1 [[Qpn]]), (.gro 1 ((y10 : List Int).map Qam))]⟩) (fun t h => by rw [Qcr] at h; cases h) (fun n13 ih t h => ?_) N (0, ([] : List Int)) h
   obtain ⟨y9, y10⟩ := t
   rw [Qcr] at h
   skip
   refine wx tbk [] trivial ?_
   refine wsq ?_
   rcases bft ((decide (y9 < (p0.length : Int)))) with hc14 | hc14
   ·replace h := Qa2 hc14 h
    refine wft hc14 (by kernel_rfl) ?_
    refine Qar ?_
    refine thn ?_
    refine wsq ?_
    refine Qaq ?_
    refine wx tbk [] trivial ?_
    obtain ⟨ha15, h⟩ := cko h
    refine wx1 tbk [(2, rp [(.tmp 13, I y9)] (.dat 1 (([y9] : List Int).map Qam))), (3, ⟨[(.tmp 12, (.gro 4 3 1 (y10.length))), (.tmp 14, (.dat 1 (([y9] : List Int).map Qam)))], [(4, (.gro 1 ((y10 : List Int).map Qam))), (5, .unused)], (.gro 5 3 1 ((y10 ++ ([y9])).length)), [(4, .dead), (5, (.gro 1 ((y10 ++ ([y9]) : List Int).map Qam)))], false⟩)] ?_ ?_
    ·exact ⟨Qbp (vs := [I y9]) rfl Try.underlying27 ti3 tz3 rfl (by decide) rfl (by decide) (by rfl) (by rfl) (by rfl) rfl, Qyp (c := Qam) (a := y10) (b := [y9]) rfl Try.underlying27 te3 rfl (Qk6 rfl) (by rfl) ha15 (by decide), trivial⟩
    refine bln ?_
    refine thn ?_
    refine wx1 tbk [] trivial ?_
    refine thn ?_
    exact arm (mto (n := 21) [(2, .ref 2 1 0 0), (3, .ref 3 1 0 0), (5, (.gro 5 3 1 ((y10 ++ ([y9])).length))), (8, (I ((p0.length : Int)))), (9, (I (w64 (y9 + 1))))] [0, 1, 2, 3, 5] [(.own 1 [[I p1]]), (.own 1 [[I p2]]), (.own 1 [[(Qoc p0)]]), (.own 1 [[Qpn]]), (.gro 1 ((y10 ++ ([y9]) : List Int).map Qam))] hφ0 (pc (.rn (rqr rfl)) (pc (.rn (rqr rfl)) (pc (.rn (Qxh rfl)) (pc rwl (pc rwl pn))))) (qc (spb (lc rwl ln)) (qc (spb (lc rwl ln)) (qc (spb (lc (.rn (.plain _ (nld Qaf _))) ln)) (qc (spb (lc (.rn (Qbe rn0 (rnc (rqr rfl) (rnc (rqr rfl) rn0)))) ln)) (qc (Qte Qaf) qn)))))) (ih (w64 (y9 + 1), y10 ++ ([y9])) h)
   ·replace h := Qa3 hc14 h
    refine wfn hc14 (by kernel_rfl) ?_
    refine Qcf ?_
    refine Qa8 ?_
    refine Qa8 ?_
    refine Qce rfl ?_
    refine thn ?_
    exact ⟨(y10), h, (mto (n := 21) [(2, .ref 2 1 0 0), (3, .ref 3 1 0 0), (5, (.gro 4 3 1 (y10.length)))] [0, 1, 2, 3, 4] [(.own 1 [[I p1]]), (.own 1 [[I p2]]), (.own 1 [[(Qoc p0)]]), (.own 1 [[Qpn]]), (.gro 1 ((y10 : List Int).map Qam))] hφ0 (pc (.rn (rqr rfl)) (pc (.rn (rqr rfl)) (pc (.rn (Qxh rfl)) pn))) (qc (spb (lc rwl ln)) (qc (spb (lc rwl ln)) (qc (spb (lc (.rn (.plain _ (nld Qaf _))) ln)) (qc (spb (lc (.rn (Qbe rn0 (rnc (rqr rfl) (rnc (rqr rfl) rn0)))) ln)) (qc (Qte Qaf) qn))))))⟩
def Qdq (N : Nat) (p1 : (List Int)) (y6 : Int) (k10 : (List Int) → Option (List Int)) (x13 : (List Int)) : Nat → Int → (List Int) → Option (List Int)
  | 0, _, _ => none
  | n19 + 1, y15, y16 =>
    bif (decide (y15 < (((x13).take (y6.toNat - 0)).length : Int))) then
     (getI ((x13).take (y6.toNat - 0)) y15).bind fun x21 =>
     chk (decide (0 ≤ x21) && decide (x21.toNat < (p1.length : Int).toNat)) <|
     (y16[x21.toNat]?).bind fun x26 =>
     chk (decide (0 ≤ x21) && decide (x21.toNat < (p1.length : Int).toNat)) <|
     (y16[x21.toNat]?).bind fun _ =>
     Qdq N p1 y6 k10 x13 n19 (w64 (y15 + 1)) (y16.set x21.toNat (w64 (x26 + 1)))
    else
     k10 (y16)
def Qdp (N : Nat) (p0 : Int) (p1 : (List Int)) (y3 : Int) (k8 : Int × (List Int) → Option (List Int)) : Nat → Int → Int → (List Int) → Option (List Int)
  | 0, _, _, _ => none
  | n37 + 1, y31, y32, y33 =>
    bif (decide (y32 < (p1.length : Int))) then
     (getI p1 y32).bind fun x39 =>
     chk (y3 != 0) <|
     chk (decide (0 ≤ y32) && decide (y32.toNat < (p1.length : Int).toNat)) <|
     (y33[y32.toNat]?).bind fun _ =>
     chk (decide (0 ≤ y32) && decide (y32.toNat < (p1.length : Int).toNat)) <|
     ((y33.set y32.toNat (w64 ((w64 (p0 * x39)).tdiv y3)))[y32.toNat]?).bind fun x48 =>
     Qdp N p0 p1 y3 k8 n37 (w64 (y31 - x48)) (w64 (y32 + 1)) (y33.set y32.toNat (w64 ((w64 (p0 * x39)).tdiv y3)))
    else
     k8 (y31, y33)
def Qdo (N : Nat) (p1 : (List Int)) (k4 : Int → Option (List Int)) : Nat → Int → Int → Option (List Int)
  | 0, _, _ => none
  | n54 + 1, y50, y51 =>
    bif (decide (y50 < (p1.length : Int))) then
     (getI p1 y50).bind fun x56 =>
     Qdo N p1 k4 n54 (w64 (y50 + 1)) (w64 (y51 + x56))
    else
     k4 (y51)
def Qhl (N : Nat) (p0 : Int) (p1 : (List Int)) : Option (List Int) :=
  Qcv (fun y3 =>
    chk (decide (0 ≤ (p1.length : Int)) && decide (8 * (p1.length : Int) ≤ 281474976710656) && decide ((p1.length : Int) ≤ 9223372036854775807)) <|
    Qcv (fun ⟨y6, y7⟩ =>
      Qcv (fun y9 =>
        chk (decide ((p1.length : Int).toNat ≤ y9.length)) <|
        some (y9.take ((p1.length : Int).toNat))) fun k10 : (List Int) → Option (List Int) =>
      (Qe6 N p1 p0 y3).bind fun x13 =>
      chk (decide (0 ≤ 0) && decide (0 ≤ y6) && decide (y6 ≤ (x13.length : Int))) <|
      Qdq N p1 y6 k10 x13 N 0 y7) fun k8 : Int × (List Int) → Option (List Int) =>
    Qdp N p0 p1 y3 k8 N p0 0 (List.replicate (p1.length : Int).toNat 0)) fun k4 : Int → Option (List Int) =>
  Qdo N p1 k4 N 0 0
def Qh7 (p1 : (List Int)) : AV := .dat 1 ((p1 : List Int).map Qam)
def Zf0 (p1 : (List Int)) : Slot := .own 1 ((List.replicate (p1.length : Int).toNat 0 : List Int).map Qam)
def Q3x (y7 : (List Int)) : Slot := .own 1 ((y7 : List Int).map Qam)
def Qzq (y9 : (List Int)) (p1 : (List Int)) : AV := .dat 1 ((y9.take ((p1.length : Int).toNat) : List Int).map Qam)
def Q3y : AV := .fn (.func 103) [] [(.ref 0 1 (0) 0), (.ref 1 1 (0) 0)]
def Q3w (x13 : (List Int)) : AV := .dat 1 ((x13 : List Int).map Qam)
def Qp5 (x13 : (List Int)) (y6 : Int) : AV := .dat 1 (((x13).take (y6.toNat - 0) : List Int).map Qam)
def Qr9 (y16 : (List Int)) : Slot := .own 1 ((y16 : List Int).map Qam)
def Qzp (y33 : (List Int)) : Slot := .own 1 ((y33 : List Int).map Qam)
def Qzo (y33 : (List Int)) (y32 : Int) (p0 : Int) (x39 : Int) (y3 : Int) : Slot := .own 1 ((y33.set y32.toNat (w64 ((w64 (p0 * x39)).tdiv y3)) : List Int).map Qam)
theorem Qpp (N : Nat) (p0 : Int) (p1 : (List Int)) (r : (List Int)) (h : Qhl N p0 p1 = some r) : Spec Try.prog 99 [(I p0), (.dat 1 (p1.map Qam))] [] (.dat 1 ((r : List Int).map Qam)) [] := by
  refine Qag Try.func99 rfl 0 (nle rfl) (fun X φ0 w0 hφ0 hd0 => ?_)
  unfold Qhl at h
  refine Qbs ?_
  refine wx tbk [] trivial ?_
  refine wx tbk [] trivial ?_
  obtain ⟨k4, hk_k4, h⟩ := jko h
  refine wjn (τ := Int) (fun t => k4 t = some r) (fun y3 => ⟨mk 68 [(1, (Qh7 p1)), (2, .ref 0 1 0 0), (5, .ref 1 1 0 0)], [(.own 1 [[I p0]]), (.own 1 [[I y3]])]⟩) (fun y3 h => ?_) ?_
  ·subst hk_k4
   obtain ⟨hm5, h⟩ := cko h
   refine wxd tbk [(1, rp [(.tmp 24, (Qh7 p1))] (I ((p1.length : Int)))), (2, ⟨[(.tmp 25, (I ((p1.length : Int)))), (.tmp 25, (I ((p1.length : Int))))], [(2, .unused)], (.own 2 1 (0) ((p1.length : Int).toNat)), [(2, (Zf0 p1))], false⟩)] ⟨alm (c := Qam) (l := p1) (aln rfl Try.underlying27 rfl), Qoz rfl Try.underlying27 te3 tz3 rfl (Qys hm5) rfl (Qyr hm5) (Q7e hm5) (Q5c Qam rfl), trivial⟩ ?_
   obtain ⟨k8, hk_k8, h⟩ := jko h
   refine wjn (τ := Int × (List Int)) (fun t => k8 t = some r) (fun ⟨y6, y7⟩ => ⟨mk 68 [(1, (Qh7 p1)), (2, .ref 0 1 0 0), (5, .ref 1 1 0 0), (8, (.own 2 1 (0) ((p1.length : Int).toNat))), (9, I y6)], [(.own 1 [[I p0]]), (.own 1 [[I y3]]), (Q3x y7)]⟩) (fun t h => ?_) ?_
   ·subst hk_k8
    obtain ⟨y6, y7⟩ := t
    obtain ⟨k10, hk_k10, h⟩ := jko h
    refine wjn (τ := (List Int)) (fun t => k10 t = some r) (fun y9 => ⟨mk 68 [(8, (.own 0 1 (0) ((p1.length : Int).toNat)))], [(.own 1 ((y9 : List Int).map Qam))]⟩) (fun y9 h => ?_) ?_
    ·subst hk_k10
     refine wx tbk [] trivial ?_
     obtain ⟨hz11, h⟩ := cko h
     refine wmr (Zau (n := 68) (l' := [(4, (Qzq y9 p1))]) 0 [(4, (.own 0 1 (0) ((p1.length : Int).toNat)))] (by kernel_rfl) (by kernel_rfl) (by kernel_rfl) ⟨rfl, (Qq2 hz11), trivial⟩ rfl) ?_
     refine wmr (mto (n := 68) (l' := [(4, (Qzq y9 p1))]) (own' := []) [(4, (Qzq y9 p1))] [] [] hφ0 (pc (.rn (.plain _ (nld Qaf _))) pn) qn) ?_
     refine Qad ?_
     obtain rfl := osi h
     exact ⟨_, Mor.rfl, Qcx (vs := [(Qzq y9 p1)]) ⟨rot (by kernel_rfl), trivial⟩ rfl (nld Qaf _) (by kernel_rfl) Qbo⟩
    ·skip
     obtain ⟨x13, hf12, h⟩ := bno h
     obtain ⟨hs14, h⟩ := cko h
     refine wx tbk [(1, rp [(.tmp 2, .ref 0 1 0 0), (.tmp 5, .ref 1 1 0 0)] Q3y), (2, ⟨[fu 102, (.tmp 50, (Qh7 p1)), (.tmp 51, Q3y)], [(0, .own 1 [[I p0]]), (1, .own 1 [[I y3]])], (Q3w x13), [(0, .own 1 [[I p0]]), (1, .own 1 [[I y3]])], false⟩), (4, rp [(.tmp 52, (Q3w x13)), (.tmp 53, I y6)] (Qp5 x13 y6)), (5, rp [(.tmp 54, (Qp5 x13 y6))] (I ((((x13).take (y6.toNat - 0)).length : Int))))] ⟨Qej (fs := []) (cs := [.ref 0 1 0 0, .ref 1 1 0 0]) rfl rfl rfl rfl, Qao (first := []) (cap := []) (vs := [(Qh7 p1), Q3y]) (σr := [(.own 1 [[I p0]]), (.own 1 [[I y3]])]) (σr' := [(.own 1 [[I p0]]), (.own 1 [[I y3]])]) (res' := (Q3w x13)) [0, 1] rfl Q9g (Qlg N p1 p0 y3 _ hf12) rfl (Qbr (rnc (.plain _ (nld Qaf _)) (rnc (Qbe rn0 (rnc (Qbb rfl) (rnc (Qbb rfl) rn0))) rn0))) (slc (Qal (rnc (.plain _ nll) rn0)) (slc (Qal (rnc (.plain _ nll) rn0)) Qan)) (slc (Qal (rnc (.plain _ nll) rn0)) (slc (Qal (rnc (.plain _ nll) rn0)) Qan)) (.plain _ (nld Qaf _)) rfl rfl rfl, Qj6 (k := .i64) (k' := .i64) (lo := none) (hi := some (.tmp 53)) (l := 0) (hh := y6) rfl Try.underlying27 ti3 rfl (fun _ => rfl) (fun e => nomatch e) (Qys hs14) (Qyr hs14) (Q9v (Qam) hs14) (Zgi Qam), alm (c := Qam) (l := (x13).take (y6.toNat - 0)) (aln rfl Try.underlying27 rfl), trivial⟩ ?_
     refine Qaq ?_
     refine wmr (mto (n := 68) (l' := [(8, (.own 0 1 (0) ((p1.length : Int).toNat))), (54, (Qp5 x13 y6)), (55, (I ((((x13).take (y6.toNat - 0)).length : Int)))), (56, I 0)]) (own' := [(Q3x y7)]) [(8, (.own 2 1 (0) ((p1.length : Int).toNat))), (54, (Qp5 x13 y6)), (55, (I ((((x13).take (y6.toNat - 0)).length : Int)))), (56, I 0)] [2] [(Q3x y7)] hφ0 (pc (.rn (Qba rfl)) (pc (.rn (.plain _ (nld Qaf _))) (pc rwl (pc rwl pn)))) (qc (spr Qaf) qn)) ?_
     refine Qc9 (τ := Int × (List Int)) (fun n t => Qdq N p1 y6 k10 x13 n t.1 t.2 = some r) (fun ⟨y15, y16⟩ => ⟨mk 68 [(8, (.own 0 1 (0) ((p1.length : Int).toNat))), (54, (Qp5 x13 y6)), (55, (I ((((x13).take (y6.toNat - 0)).length : Int)))), (56, I y15)], [(Qr9 y16)]⟩) (fun t h => by rw [Qdq] at h; cases h) (fun n19 ih t h => ?_) N (0, y7) h
     obtain ⟨y15, y16⟩ := t
     rw [Qdq] at h
     skip
     refine wx tbk [] trivial ?_
     refine wsq ?_
     rcases bft ((decide (y15 < (((x13).take (y6.toNat - 0)).length : Int)))) with hc20 | hc20
     ·replace h := Qa2 hc20 h
      refine wft hc20 (by kernel_rfl) ?_
      refine Qar ?_
      refine thn ?_
      refine wsq ?_
      refine Qaq ?_
      obtain ⟨x21, hg22, h⟩ := bno h
      obtain ⟨hi23, hj24⟩ := gsm hg22
      refine wx tbk [(0, rp [(.tmp 54, (Qp5 x13 y6)), (.tmp 56, I y15)] (.dptr (Qam (x21)) 0))] ⟨aid rfl Try.underlying27 ti3 rfl rfl hi23 (mgt Qam hj24) rfl, trivial⟩ ?_
      obtain ⟨hi25, h⟩ := cko h
      obtain ⟨hi25a, hi25b⟩ := Qfe hi25
      obtain ⟨x26, hg27, h⟩ := bno h
      obtain ⟨hi28, h⟩ := cko h
      obtain ⟨hi28a, hi28b⟩ := Qfe hi28
      obtain ⟨x29, hg30, h⟩ := bno h
      refine wx1 tbk [(2, rb [(.tmp 60, (.own 0 1 (0) ((p1.length : Int).toNat))), (.tmp 61, I x21)] [(0, (Qr9 y16))] (.ref 0 1 (x21.toNat) 0)), (3, rb [(.tmp 62, (.ref 0 1 (x21.toNat) 0))] [(0, (Qr9 y16))] (I x26)), (5, rb [(.tmp 60, (.own 0 1 (0) ((p1.length : Int).toNat))), (.tmp 61, I x21)] [(0, (Qr9 y16))] (.ref 0 1 (x21.toNat) 0)), (6, ⟨[(.tmp 65, (.ref 0 1 (x21.toNat) 0)), (.tmp 64, (I (w64 (x26 + 1))))], [(0, (Qr9 y16))], .any, [(0, (.own 1 ((y16.set x21.toNat (w64 (x26 + 1)) : List Int).map Qam)))], false⟩)] ⟨aio rfl Try.underlying27 ti3 (odt hi25a) (odt hi25b) (Nat.zero_add _), ald rfl ti3 (by decide) (mgt Qam hg27) (nle rfl) rfl, aio rfl Try.underlying27 ti3 (odt hi28a) (odt hi28b) (Nat.zero_add _), ast rfl ti3 (by rfl) (mgt Qam hg30) (nle rfl) (Qg2 Qam rfl), trivial⟩ ?_
      refine bln ?_
      refine thn ?_
      refine wx1 tbk [] trivial ?_
      refine thn ?_
      exact arm (mto (n := 68) [(8, (.own 0 1 (0) ((p1.length : Int).toNat))), (54, (Qp5 x13 y6)), (55, (I ((((x13).take (y6.toNat - 0)).length : Int)))), (56, (I (w64 (y15 + 1))))] [0] [(.own 1 ((y16.set x21.toNat (w64 (x26 + 1)) : List Int).map Qam))] hφ0 (pc (.rn (Qba rfl)) (pc (.rn (.plain _ (nld Qaf _))) (pc rwl (pc rwl pn)))) (qc (spr Qaf) qn)) (ih (w64 (y15 + 1), y16.set x21.toNat (w64 (x26 + 1))) h)
     ·replace h := Qa3 hc20 h
      refine wfn hc20 (by kernel_rfl) ?_
      refine Qcf ?_
      refine Qa8 ?_
      refine Qa8 ?_
      refine Qce rfl ?_
      refine thn ?_
      exact ⟨(y16), h, (mto (n := 68) [(8, (.own 0 1 (0) ((p1.length : Int).toNat)))] [0] [(Qr9 y16)] hφ0 (pc (.rn (Qba rfl)) pn) (qc (spr Qaf) qn))⟩
   ·skip
    refine wx tbk [(1, rp [(.tmp 28, (Qh7 p1))] (I ((p1.length : Int))))] ⟨alm (c := Qam) (l := p1) (aln rfl Try.underlying27 rfl), trivial⟩ ?_
    refine Qaq ?_
    refine wmr (mto (n := 68) (l' := [(1, (Qh7 p1)), (2, .ref 0 1 0 0), (5, .ref 1 1 0 0), (8, (.own 2 1 (0) ((p1.length : Int).toNat))), (9, I p0), (28, (Qh7 p1)), (29, (I ((p1.length : Int)))), (30, I 0)]) (own' := [(.own 1 [[I p0]]), (.own 1 [[I y3]]), (.own 1 (((List.replicate (p1.length : Int).toNat 0) : List Int).map Qam))]) [(1, (Qh7 p1)), (2, .ref 0 1 0 0), (5, .ref 1 1 0 0), (8, (.own 2 1 (0) ((p1.length : Int).toNat))), (9, I p0), (28, (Qh7 p1)), (29, (I ((p1.length : Int)))), (30, I 0)] [0, 1, 2] [(.own 1 [[I p0]]), (.own 1 [[I y3]]), (Zf0 p1)] hφ0 (pc (.rn (.plain _ (nld Qaf _))) (pc (.rn (rqr rfl)) (pc (.rn (rqr rfl)) (pc (.rn (Qba rfl)) (pc rwl (pc (.rn (.plain _ (nld Qaf _))) (pc rwl (pc rwl pn)))))))) (qc (spb (lc rwl ln)) (qc (spb (lc rwl ln)) (qc (spr Qaf) qn)))) ?_
    refine Qc9 (τ := Int × Int × (List Int)) (fun n t => Qdp N p0 p1 y3 k8 n t.1 t.2.1 t.2.2 = some r) (fun ⟨y31, y32, y33⟩ => ⟨mk 68 [(1, (Qh7 p1)), (2, .ref 0 1 0 0), (5, .ref 1 1 0 0), (8, (.own 2 1 (0) ((p1.length : Int).toNat))), (9, I y31), (28, (Qh7 p1)), (29, (I ((p1.length : Int)))), (30, I y32)], [(.own 1 [[I p0]]), (.own 1 [[I y3]]), (Qzp y33)]⟩) (fun t h => by rw [Qdp] at h; cases h) (fun n37 ih t h => ?_) N (p0, 0, List.replicate (p1.length : Int).toNat 0) h
    obtain ⟨y31, y32, y33⟩ := t
    rw [Qdp] at h
    skip
    refine wx tbk [] trivial ?_
    refine wsq ?_
    rcases bft ((decide (y32 < (p1.length : Int)))) with hc38 | hc38
    ·replace h := Qa2 hc38 h
     refine wft hc38 (by kernel_rfl) ?_
     refine Qar ?_
     refine thn ?_
     refine wsq ?_
     refine Qaq ?_
     obtain ⟨x39, hg40, h⟩ := bno h
     obtain ⟨hi41, hj42⟩ := gsm hg40
     refine wx tbk [(1, rp [(.tmp 28, (Qh7 p1)), (.tmp 30, I y32)] (.dptr (Qam (x39)) 0))] ⟨aid rfl Try.underlying27 ti3 rfl rfl hi41 (mgt Qam hj42) rfl, trivial⟩ ?_
     obtain ⟨hz43, h⟩ := cko h
     obtain ⟨hi44, h⟩ := cko h
     obtain ⟨hi44a, hi44b⟩ := Qfe hi44
     obtain ⟨x45, hg46, h⟩ := bno h
     refine wx tbk [(6, rp [(.tmp 39, (I (w64 (p0 * x39)))), (.tmp 40, I y3)] (I (w64 ((w64 (p0 * x39)).tdiv y3)))), (7, rb [(.tmp 35, (.own 2 1 (0) ((p1.length : Int).toNat))), (.tmp 36, I y32)] [(2, (Qzp y33))] (.ref 2 1 (y32.toNat) 0)), (8, ⟨[(.tmp 42, (.ref 2 1 (y32.toNat) 0)), (.tmp 41, (I (w64 ((w64 (p0 * x39)).tdiv y3))))], [(2, (Qzp y33))], .any, [(2, (Qzo y33 y32 p0 x39 y3))], false⟩)] ⟨Qn4 rfl (Qnb hz43), aio rfl Try.underlying27 ti3 (odt hi44a) (odt hi44b) (Nat.zero_add _), ast rfl ti3 (by rfl) (mgt Qam hg46) (nle rfl) (Qg2 Qam rfl), trivial⟩ ?_
     obtain ⟨hi47, h⟩ := cko h
     obtain ⟨hi47a, hi47b⟩ := Qfe hi47
     obtain ⟨x48, hg49, h⟩ := bno h
     refine wx1 tbk [(3, rb [(.tmp 44, (.own 2 1 (0) ((p1.length : Int).toNat))), (.tmp 45, I y32)] [(2, (Qzo y33 y32 p0 x39 y3))] (.ref 2 1 (y32.toNat) 0)), (4, rb [(.tmp 46, (.ref 2 1 (y32.toNat) 0))] [(2, (Qzo y33 y32 p0 x39 y3))] (I x48))] ⟨aio rfl Try.underlying27 ti3 (odt hi47a) (odt hi47b) (Nat.zero_add _), ald rfl ti3 (by decide) (mgt Qam hg49) (nle rfl) rfl, trivial⟩ ?_
     refine bln ?_
     refine thn ?_
     refine wx1 tbk [] trivial ?_
     refine thn ?_
     exact arm (mto (n := 68) [(1, (Qh7 p1)), (2, .ref 0 1 0 0), (5, .ref 1 1 0 0), (8, (.own 2 1 (0) ((p1.length : Int).toNat))), (9, (I (w64 (y31 - x48)))), (28, (Qh7 p1)), (29, (I ((p1.length : Int)))), (30, (I (w64 (y32 + 1))))] [0, 1, 2] [(.own 1 [[I p0]]), (.own 1 [[I y3]]), (Qzo y33 y32 p0 x39 y3)] hφ0 (pc (.rn (.plain _ (nld Qaf _))) (pc (.rn (rqr rfl)) (pc (.rn (rqr rfl)) (pc (.rn (Qba rfl)) (pc rwl (pc (.rn (.plain _ (nld Qaf _))) (pc rwl (pc rwl pn)))))))) (qc (spb (lc rwl ln)) (qc (spb (lc rwl ln)) (qc (spr Qaf) qn)))) (ih (w64 (y31 - x48), w64 (y32 + 1), y33.set y32.toNat (w64 ((w64 (p0 * x39)).tdiv y3))) h)
    ·replace h := Qa3 hc38 h
     refine wfn hc38 (by kernel_rfl) ?_
     refine Qcf ?_
     refine Qa8 ?_
     refine Qa8 ?_
     refine Qce rfl ?_
     refine thn ?_
     exact ⟨(y31, y33), h, (mto (n := 68) [(1, (Qh7 p1)), (2, .ref 0 1 0 0), (5, .ref 1 1 0 0), (8, (.own 2 1 (0) ((p1.length : Int).toNat))), (9, I y31)] [0, 1, 2] [(.own 1 [[I p0]]), (.own 1 [[I y3]]), (Qzp y33)] hφ0 (pc (.rn (.plain _ (nld Qaf _))) (pc (.rn (rqr rfl)) (pc (.rn (rqr rfl)) (pc (.rn (Qba rfl)) (pc rwl pn))))) (qc (spb (lc rwl ln)) (qc (spb (lc rwl ln)) (qc (spr Qaf) qn))))⟩
  ·skip
   refine wx tbk [(1, rp [(.tmp 14, (Qh7 p1))] (I ((p1.length : Int))))] ⟨alm (c := Qam) (l := p1) (aln rfl Try.underlying27 rfl), trivial⟩ ?_
   refine Qaq ?_
   refine wmr (mto (n := 68) (l' := [(1, (Qh7 p1)), (2, .ref 0 1 0 0), (5, .ref 1 1 0 0), (14, (Qh7 p1)), (15, (I ((p1.length : Int)))), (16, I 0)]) (own' := [(.own 1 [[I p0]]), (.own 1 [[I 0]])]) [(1, (Qh7 p1)), (2, .ref 0 1 0 0), (5, .ref 1 1 0 0), (14, (Qh7 p1)), (15, (I ((p1.length : Int)))), (16, I 0)] [0, 1] [(.own 1 [[I p0]]), (.own 1 [[I 0]])] hφ0 (pc (.rn (.plain _ (nld Qaf _))) (pc (.rn (rqr rfl)) (pc (.rn (rqr rfl)) (pc (.rn (.plain _ (nld Qaf _))) (pc rwl (pc rwl pn)))))) (qc (spb (lc rwl ln)) (qc (spb (lc rwl ln)) qn))) ?_
   refine Qc9 (τ := Int × Int) (fun n t => Qdo N p1 k4 n t.1 t.2 = some r) (fun ⟨y50, y51⟩ => ⟨mk 68 [(1, (Qh7 p1)), (2, .ref 0 1 0 0), (5, .ref 1 1 0 0), (14, (Qh7 p1)), (15, (I ((p1.length : Int)))), (16, I y50)], [(.own 1 [[I p0]]), (.own 1 [[I y51]])]⟩) (fun t h => by rw [Qdo] at h; cases h) (fun n54 ih t h => ?_) N (0, 0) h
   obtain ⟨y50, y51⟩ := t
   rw [Qdo] at h
   skip
   refine wx tbk [] trivial ?_
   refine wsq ?_
   rcases bft ((decide (y50 < (p1.length : Int)))) with hc55 | hc55
   ·replace h := Qa2 hc55 h
    refine wft hc55 (by kernel_rfl) ?_
    refine Qar ?_
    refine thn ?_
    refine wsq ?_
    refine Qaq ?_
    obtain ⟨x56, hg57, h⟩ := bno h
    obtain ⟨hi58, hj59⟩ := gsm hg57
    refine wx tbk [(0, rp [(.tmp 14, (Qh7 p1)), (.tmp 16, I y50)] (.dptr (Qam (x56)) 0))] ⟨aid rfl Try.underlying27 ti3 rfl rfl hi58 (mgt Qam hj59) rfl, trivial⟩ ?_
    refine wx1 tbk [] trivial ?_
    refine bln ?_
    refine thn ?_
    refine wx1 tbk [] trivial ?_
    refine thn ?_
    exact arm (mto (n := 68) [(1, (Qh7 p1)), (2, .ref 0 1 0 0), (5, .ref 1 1 0 0), (14, (Qh7 p1)), (15, (I ((p1.length : Int)))), (16, (I (w64 (y50 + 1))))] [0, 1] [(.own 1 [[I p0]]), (.own 1 [[(I (w64 (y51 + x56)))]])] hφ0 (pc (.rn (.plain _ (nld Qaf _))) (pc (.rn (rqr rfl)) (pc (.rn (rqr rfl)) (pc (.rn (.plain _ (nld Qaf _))) (pc rwl (pc rwl pn)))))) (qc (spb (lc rwl ln)) (qc (spb (lc rwl ln)) qn))) (ih (w64 (y50 + 1), w64 (y51 + x56)) h)
   ·replace h := Qa3 hc55 h
    refine wfn hc55 (by kernel_rfl) ?_
    refine Qcf ?_
    refine Qa8 ?_
    refine Qa8 ?_
    refine Qce rfl ?_
    refine thn ?_
    exact ⟨(y51), h, (mto (n := 68) [(1, (Qh7 p1)), (2, .ref 0 1 0 0), (5, .ref 1 1 0 0)] [0, 1] [(.own 1 [[I p0]]), (.own 1 [[I y51]])] hφ0 (pc (.rn (.plain _ (nld Qaf _))) (pc (.rn (rqr rfl)) (pc (.rn (rqr rfl)) pn))) (qc (spb (lc rwl ln)) (qc (spb (lc rwl ln)) qn)))⟩
def Qew (_N : Nat) (p0 : Int) (p1 : Int) (p2 : Int) (_p3 : Int) (_p4 : Int) (_p5 : Int) : Option Int :=
  chk ((if p2 > 1 then p2 else 1) != 0) <|
  (some (w64 ((w64 (p0 * p1)).tdiv (if p2 > 1 then p2 else 1)))).bind fun x2 =>
  some x2
theorem Qg9 (N : Nat) (p0 : Int) (p1 : Int) (p2 : Int) (p3 : Int) (p4 : Int) (p5 : Int) (r : Int) (h : Qew N p0 p1 p2 p3 p4 p5 = some r) : Spec Try.prog 100 [(I (p0)), (.dptr [(I (p1))] 0), (.dptr [(I (p2)), (I (p3)), (I (p4)), (I (p5))] 0)] [] (I (r)) [] := by
  refine Qag Try.func100 rfl 0 (nle rfl) (fun X φ0 w0 hφ0 hd0 => ?_)
  unfold Qew at h
  refine wx tbk [] trivial ?_
  obtain ⟨hz1, h⟩ := cko h
  obtain ⟨x2, hl3, h⟩ := bno h
  refine wx tbk [(5, rp [ci 1, (.tmp 9, I p2)] (I ((if p2 > 1 then p2 else 1)))), (6, rp [(.tmp 7, (I (w64 (p0 * p1)))), (.tmp 10, (I ((if p2 > 1 then p2 else 1))))] (I (w64 ((w64 (p0 * p1)).tdiv (if p2 > 1 then p2 else 1))))), (7, rp [(.tmp 11, (I (w64 ((w64 (p0 * p1)).tdiv (if p2 > 1 then p2 else 1)))))] (I x2))] ⟨Qn5 rfl, Qn4 rfl (Qnb hz1), Qjw hl3 (aas rfl), trivial⟩ ?_
  refine Qad ?_
  obtain rfl := osi h
  exact fend ⟨[I x2], ⟨rot (by kernel_rfl), trivial⟩, rfl⟩ nll
def Qcn (_N : Nat) (_p0 : Int) (_p1 : Int) (_p2 : Int) (_p3 : Int) : Option Unit :=
  some ()
def Qud (p0 : Int) (p1 : Int) (p2 : Int) (p3 : Int) : Slot := .own 4 [[(I (p0)), (I (p1)), (I (p2)), (I (p3))]]
def Zbt : AV := .agg [(.ref 0 4 (0) 0), (.ref 0 4 (0) 1), (.ref 0 4 (0) 2), (.ref 0 4 (0) 3)]
def Zbs : Slot := .own 4 [[(.ref 0 4 (0) 0), (.ref 0 4 (0) 1), (.ref 0 4 (0) 2), (.ref 0 4 (0) 3)]]
theorem Qdg (N : Nat) (p0 : Int) (p1 : Int) (p2 : Int) (p3 : Int) (r : Unit) (h : Qcn N p0 p1 p2 p3 = some r) : Spec Try.prog 105 [(.ref 0 4 (0) 0)] [(Qud p0 p1 p2 p3)] Zbt [(Qud p0 p1 p2 p3), Zbs] := by
  refine Qag Try.func105 rfl 2 (nle rfl) (fun X φ0 w0 hφ0 hd0 => ?_)
  unfold Qcn at h
  refine Qbs ?_
  refine wx tbk [] trivial ?_
  refine wxd tbk [(1, rb [(.tmp 3, .ref 0 4 0 0)] [(0, (Qud p0 p1 p2 p3))] (.ref 0 4 0 0)), (4, rb [(.tmp 6, .ref 0 4 0 0)] [(0, (Qud p0 p1 p2 p3))] (.ref 0 4 0 0)), (7, rb [(.tmp 9, .ref 0 4 0 0)] [(0, (Qud p0 p1 p2 p3))] (.ref 0 4 0 0)), (10, rb [(.tmp 12, .ref 0 4 0 0)] [(0, (Qud p0 p1 p2 p3))] (.ref 0 4 0 0)), (12, rp [(.tmp 5, .ref 0 4 0 0), (.tmp 8, .ref 0 4 0 1), (.tmp 11, .ref 0 4 0 2), (.tmp 14, .ref 0 4 0 3)] Zbt)] ⟨Qbd rfl, Qbd rfl, Qbd rfl, Qbd rfl, Qpj (vs := [.ref 0 4 0 0, .ref 0 4 0 1, .ref 0 4 0 2, .ref 0 4 0 3]) rfl Try.underlying160 Qrv Zf7 rfl (by rfl) rfl, trivial⟩ ?_
  refine wmr (mto (n := 16) (l' := [(2, .ref 1 4 0 0)]) (own' := [(Qud p0 p1 p2 p3), Zbs]) [(2, .ref 1 4 0 0)] [0, 1] [(Qud p0 p1 p2 p3), Zbs] hφ0 (pc (.rn (rqr rfl)) pn) (qc (spb (lc rwl (lc rwl (lc rwl (lc rwl ln))))) (qc (spb (lc (.rn (rqr rfl)) (lc (.rn (rqr rfl)) (lc (.rn (rqr rfl)) (lc (.rn (rqr rfl)) ln))))) qn))) ?_
  refine Qad ?_
  obtain rfl := osi h
  exact ⟨_, Mor.rfl, Qcx (vs := [Zbt]) ⟨Qcm (n := 1) (m := 4) (j := 0) (i := 0) (xs := [[.ref 0 4 0 0, .ref 0 4 0 1, .ref 0 4 0 2, .ref 0 4 0 3]]) (by kernel_rfl) (by kernel_rfl) Zgc (by decide) rfl (nle rfl) rfl, trivial⟩ rfl (NLt.agg _ (nlc (NLt.ref _ _ _ _ (by decide)) (nlc (NLt.ref _ _ _ _ (by decide)) (nlc (NLt.ref _ _ _ _ (by decide)) (nlc (NLt.ref _ _ _ _ (by decide)) nl0))))) (by kernel_rfl) (Qak (Qa6 (nlc (NLt.of0 nll) (nlc (NLt.of0 nll) (nlc (NLt.of0 nll) (nlc (NLt.of0 nll) nl0))))) (Qak (Qa6 (nlc (NLt.ref _ _ _ _ (by decide)) (nlc (NLt.ref _ _ _ _ (by decide)) (nlc (NLt.ref _ _ _ _ (by decide)) (nlc (NLt.ref _ _ _ _ (by decide)) nl0))))) Qbo))⟩
def Qic (N : Nat) (p0 : GStream) (p1 : Int) (p2 : Int) (p3 : Int) (p4 : Int) : Option Unit :=
  (Qcn N p0.Mass p0.Heat p0.Silica p0.Gas).bind fun _ =>
  (Qcn N p1 p2 p3 p4).bind fun _ =>
  (Qcn N (w64 (p1 + p0.Mass)) p2 p3 p4).bind fun _ =>
  (Qcn N (w64 (p1 + p0.Mass)) (w64 (p2 + p0.Heat)) p3 p4).bind fun _ =>
  (Qcn N (w64 (p1 + p0.Mass)) (w64 (p2 + p0.Heat)) (w64 (p3 + p0.Silica)) p4).bind fun _ =>
  some ()
def Qwm (p1 : Int) (p2 : Int) (p3 : Int) (p4 : Int) : Slot := .own 4 [[(I (p1)), (I (p2)), (I (p3)), (I (p4))]]
def Q3t (p1 : Int) (p0 : GStream) (p2 : Int) (p3 : Int) (p4 : Int) : Slot := .own 4 [[(I (w64 (p1 + p0.Mass))), (I (w64 (p2 + p0.Heat))), (I (w64 (p3 + p0.Silica))), (I (w64 (p4 + p0.Gas)))]]
def Quf (p0 : GStream) : Slot := .own 4 [[(I (p0.Mass)), (I (p0.Heat)), (I (p0.Silica)), (I (p0.Gas))]]
def Q1i : AV := .agg [(.ref 1 4 (0) 0), (.ref 1 4 (0) 1), (.ref 1 4 (0) 2), (.ref 1 4 (0) 3)]
def Zfx : Slot := .own 4 [[(.ref 1 4 (0) 0), (.ref 1 4 (0) 1), (.ref 1 4 (0) 2), (.ref 1 4 (0) 3)]]
def Qpl : AV := .agg [(.ref 0 4 (0) 0), (.ref 0 4 (0) 1), (.ref 0 4 (0) 2), (.ref 0 4 (0) 3)]
def Que : Slot := .own 4 [[(.ref 0 4 (0) 0), (.ref 0 4 (0) 1), (.ref 0 4 (0) 2), (.ref 0 4 (0) 3)]]
def Q1h (p1 : Int) (p0 : GStream) (p2 : Int) (p3 : Int) (p4 : Int) : Slot := .own 4 [[(I (w64 (p1 + p0.Mass))), (I (p2)), (I (p3)), (I (p4))]]
def Q1g (p1 : Int) (p0 : GStream) (p2 : Int) (p3 : Int) (p4 : Int) : Slot := .own 4 [[(I (w64 (p1 + p0.Mass))), (I (w64 (p2 + p0.Heat))), (I (p3)), (I (p4))]]
def Q1f (p1 : Int) (p0 : GStream) (p2 : Int) (p3 : Int) (p4 : Int) : Slot := .own 4 [[(I (w64 (p1 + p0.Mass))), (I (w64 (p2 + p0.Heat))), (I (w64 (p3 + p0.Silica))), (I (p4))]]
theorem Qoh (N : Nat) (p0 : GStream) (p1 : Int) (p2 : Int) (p3 : Int) (p4 : Int) (r : Unit) (h : Qic N p0 p1 p2 p3 p4 = some r) : Spec Try.prog 104 [(.agg [(I (p0.Mass)), (I (p0.Heat)), (I (p0.Silica)), (I (p0.Gas))]), (.ref 0 4 (0) 0)] [(Qwm p1 p2 p3 p4)] (.tup []) [(Q3t p1 p0 p2 p3 p4)] := by
  refine Qag Try.func104 rfl 1 (nle rfl) (fun X φ0 w0 hφ0 hd0 => ?_)
  unfold Qic at h
  refine Qbs ?_
  refine wx tbk [] trivial ?_
  obtain ⟨x2, hf1, h⟩ := bno h
  refine wx tbk [(0, ⟨[fu 105, (.tmp 2, .ref 1 4 0 0)], [(1, (Quf p0)), (2, .unused)], Q1i, [(1, (Quf p0)), (2, Zfx)], false⟩)] ⟨Qao (first := []) (cap := []) (vs := [.ref 1 4 0 0]) (σr := [(Quf p0)]) (σr' := [(Quf p0), Zfx]) (res' := Q1i) [1, 2] rfl Qnx (Qdg N p0.Mass p0.Heat p0.Silica p0.Gas _ hf1) rfl (Qbr (rnc (Qbb rfl) rn0)) (slc (Qal (rnc (.plain _ nll) (rnc (.plain _ nll) (rnc (.plain _ nll) (rnc (.plain _ nll) rn0))))) Qan) (slc (Qal (rnc (.plain _ nll) (rnc (.plain _ nll) (rnc (.plain _ nll) (rnc (.plain _ nll) rn0))))) (slc (Qal (rnc (Qbk rfl) (rnc (Qbk rfl) (rnc (Qbk rfl) (rnc (Qbk rfl) rn0))))) Qan)) (Qbr (rnc (Qbk rfl) (rnc (Qbk rfl) (rnc (Qbk rfl) (rnc (Qbk rfl) rn0))))) rfl rfl rfl, trivial⟩ ?_
  refine Qaq ?_
  refine Q0w 17 ?_
  refine Qs1 ?_
  refine wx tbk [] trivial ?_
  refine wsq ?_
  refine Qbq (by kernel_rfl) ?_
  refine Qar ?_
  refine thn ?_
  refine wsq ?_
  refine Qaq ?_
  refine wx tbk [(1, rp [(.tmp 5, Q1i), (.tmp 6, I 0)] (.ref 1 4 0 0))] ⟨Qgx rfl Try.underlying160 Qrv (by decide) (by decide) (nle rfl) (by decide) rfl, trivial⟩ ?_
  obtain ⟨x4, hf3, h⟩ := bno h
  refine wy1 tbk [(0, ⟨[fu 105, (.tmp 1, .ref 0 4 0 0)], [(0, (Qwm p1 p2 p3 p4)), (3, .unused)], Qpl, [(0, (Qwm p1 p2 p3 p4)), (3, Que)], false⟩), (2, rp [(.tmp 10, Qpl), (.tmp 11, I 0)] (.ref 0 4 0 0)), (3, rb [(.tmp 12, .ref 0 4 0 0)] [(0, (Qwm p1 p2 p3 p4))] (.ref 0 4 0 0)), (6, rb [(.tmp 15, .ref 1 4 0 0)] [(1, (Quf p0))] (.ref 1 4 0 0)), (9, rb [(.tmp 12, .ref 0 4 0 0)] [(0, (Qwm p1 p2 p3 p4))] (.ref 0 4 0 0))] ⟨Qao (first := []) (cap := []) (vs := [.ref 0 4 0 0]) (σr := [(Qwm p1 p2 p3 p4)]) (σr' := [(Qwm p1 p2 p3 p4), Que]) (res' := Qpl) [0, 3] rfl Qnx (Qdg N p1 p2 p3 p4 _ hf3) rfl (Qbr (rnc (Qbb rfl) rn0)) (slc (Qal (rnc (.plain _ nll) (rnc (.plain _ nll) (rnc (.plain _ nll) (rnc (.plain _ nll) rn0))))) Qan) (slc (Qal (rnc (.plain _ nll) (rnc (.plain _ nll) (rnc (.plain _ nll) (rnc (.plain _ nll) rn0))))) (slc (Qal (rnc (Qbk rfl) (rnc (Qbk rfl) (rnc (Qbk rfl) (rnc (Qbk rfl) rn0))))) Qan)) (Qbr (rnc (Qbk rfl) (rnc (Qbk rfl) (rnc (Qbk rfl) (rnc (Qbk rfl) rn0))))) rfl rfl rfl, Qgx rfl Try.underlying160 Qrv (by decide) (by decide) (nle rfl) (by decide) rfl, Qbd rfl, Qbd rfl, Qbd rfl, trivial⟩ ?_
  refine bln ?_
  refine thn ?_
  refine wx1 tbk [] trivial ?_
  refine thn ?_
  refine Qs1 ?_
  refine wx tbk [] trivial ?_
  refine wsq ?_
  refine Qbq (by kernel_rfl) ?_
  refine Qar ?_
  refine thn ?_
  refine wsq ?_
  refine Qaq ?_
  refine wx tbk [(1, rp [(.tmp 5, Q1i), (.tmp 6, I 1)] (.ref 1 4 0 1))] ⟨Qgx rfl Try.underlying160 Qrv (by decide) (by decide) (nle rfl) (by decide) rfl, trivial⟩ ?_
  obtain ⟨x6, hf5, h⟩ := bno h
  refine wy1 tbk [(0, ⟨[fu 105, (.tmp 1, .ref 0 4 0 0)], [(0, (Q1h p1 p0 p2 p3 p4)), (4, .unused)], Qpl, [(0, (Q1h p1 p0 p2 p3 p4)), (4, Que)], false⟩), (2, rp [(.tmp 10, Qpl), (.tmp 11, I 1)] (.ref 0 4 0 1)), (3, rb [(.tmp 12, .ref 0 4 0 1)] [(0, (Q1h p1 p0 p2 p3 p4))] (.ref 0 4 0 1)), (6, rb [(.tmp 15, .ref 1 4 0 1)] [(1, (Quf p0))] (.ref 1 4 0 1)), (9, rb [(.tmp 12, .ref 0 4 0 1)] [(0, (Q1h p1 p0 p2 p3 p4))] (.ref 0 4 0 1))] ⟨Qao (first := []) (cap := []) (vs := [.ref 0 4 0 0]) (σr := [(Q1h p1 p0 p2 p3 p4)]) (σr' := [(Q1h p1 p0 p2 p3 p4), Que]) (res' := Qpl) [0, 4] rfl Qnx (Qdg N (w64 (p1 + p0.Mass)) p2 p3 p4 _ hf5) rfl (Qbr (rnc (Qbb rfl) rn0)) (slc (Qal (rnc (.plain _ nll) (rnc (.plain _ nll) (rnc (.plain _ nll) (rnc (.plain _ nll) rn0))))) Qan) (slc (Qal (rnc (.plain _ nll) (rnc (.plain _ nll) (rnc (.plain _ nll) (rnc (.plain _ nll) rn0))))) (slc (Qal (rnc (Qbk rfl) (rnc (Qbk rfl) (rnc (Qbk rfl) (rnc (Qbk rfl) rn0))))) Qan)) (Qbr (rnc (Qbk rfl) (rnc (Qbk rfl) (rnc (Qbk rfl) (rnc (Qbk rfl) rn0))))) rfl rfl rfl, Qgx rfl Try.underlying160 Qrv (by decide) (by decide) (nle rfl) (by decide) rfl, Qbd rfl, Qbd rfl, Qbd rfl, trivial⟩ ?_
  refine bln ?_
  refine thn ?_
  refine wx1 tbk [] trivial ?_
  refine thn ?_
  refine Qs1 ?_
  refine wx tbk [] trivial ?_
  refine wsq ?_
  refine Qbq (by kernel_rfl) ?_
  refine Qar ?_
  refine thn ?_
  refine wsq ?_
  refine Qaq ?_
  refine wx tbk [(1, rp [(.tmp 5, Q1i), (.tmp 6, I 2)] (.ref 1 4 0 2))] ⟨Qgx rfl Try.underlying160 Qrv (by decide) (by decide) (nle rfl) (by decide) rfl, trivial⟩ ?_
  obtain ⟨x8, hf7, h⟩ := bno h
  refine wy1 tbk [(0, ⟨[fu 105, (.tmp 1, .ref 0 4 0 0)], [(0, (Q1g p1 p0 p2 p3 p4)), (5, .unused)], Qpl, [(0, (Q1g p1 p0 p2 p3 p4)), (5, Que)], false⟩), (2, rp [(.tmp 10, Qpl), (.tmp 11, I 2)] (.ref 0 4 0 2)), (3, rb [(.tmp 12, .ref 0 4 0 2)] [(0, (Q1g p1 p0 p2 p3 p4))] (.ref 0 4 0 2)), (6, rb [(.tmp 15, .ref 1 4 0 2)] [(1, (Quf p0))] (.ref 1 4 0 2)), (9, rb [(.tmp 12, .ref 0 4 0 2)] [(0, (Q1g p1 p0 p2 p3 p4))] (.ref 0 4 0 2))] ⟨Qao (first := []) (cap := []) (vs := [.ref 0 4 0 0]) (σr := [(Q1g p1 p0 p2 p3 p4)]) (σr' := [(Q1g p1 p0 p2 p3 p4), Que]) (res' := Qpl) [0, 5] rfl Qnx (Qdg N (w64 (p1 + p0.Mass)) (w64 (p2 + p0.Heat)) p3 p4 _ hf7) rfl (Qbr (rnc (Qbb rfl) rn0)) (slc (Qal (rnc (.plain _ nll) (rnc (.plain _ nll) (rnc (.plain _ nll) (rnc (.plain _ nll) rn0))))) Qan) (slc (Qal (rnc (.plain _ nll) (rnc (.plain _ nll) (rnc (.plain _ nll) (rnc (.plain _ nll) rn0))))) (slc (Qal (rnc (Qbk rfl) (rnc (Qbk rfl) (rnc (Qbk rfl) (rnc (Qbk rfl) rn0))))) Qan)) (Qbr (rnc (Qbk rfl) (rnc (Qbk rfl) (rnc (Qbk rfl) (rnc (Qbk rfl) rn0))))) rfl rfl rfl, Qgx rfl Try.underlying160 Qrv (by decide) (by decide) (nle rfl) (by decide) rfl, Qbd rfl, Qbd rfl, Qbd rfl, trivial⟩ ?_
  refine bln ?_
  refine thn ?_
  refine wx1 tbk [] trivial ?_
  refine thn ?_
  refine Qs1 ?_
  refine wx tbk [] trivial ?_
  refine wsq ?_
  refine Qbq (by kernel_rfl) ?_
  refine Qar ?_
  refine thn ?_
  refine wsq ?_
  refine Qaq ?_
  refine wx tbk [(1, rp [(.tmp 5, Q1i), (.tmp 6, I 3)] (.ref 1 4 0 3))] ⟨Qgx rfl Try.underlying160 Qrv (by decide) (by decide) (nle rfl) (by decide) rfl, trivial⟩ ?_
  obtain ⟨x10, hf9, h⟩ := bno h
  refine wy1 tbk [(0, ⟨[fu 105, (.tmp 1, .ref 0 4 0 0)], [(0, (Q1f p1 p0 p2 p3 p4)), (6, .unused)], Qpl, [(0, (Q1f p1 p0 p2 p3 p4)), (6, Que)], false⟩), (2, rp [(.tmp 10, Qpl), (.tmp 11, I 3)] (.ref 0 4 0 3)), (3, rb [(.tmp 12, .ref 0 4 0 3)] [(0, (Q1f p1 p0 p2 p3 p4))] (.ref 0 4 0 3)), (6, rb [(.tmp 15, .ref 1 4 0 3)] [(1, (Quf p0))] (.ref 1 4 0 3)), (9, rb [(.tmp 12, .ref 0 4 0 3)] [(0, (Q1f p1 p0 p2 p3 p4))] (.ref 0 4 0 3))] ⟨Qao (first := []) (cap := []) (vs := [.ref 0 4 0 0]) (σr := [(Q1f p1 p0 p2 p3 p4)]) (σr' := [(Q1f p1 p0 p2 p3 p4), Que]) (res' := Qpl) [0, 6] rfl Qnx (Qdg N (w64 (p1 + p0.Mass)) (w64 (p2 + p0.Heat)) (w64 (p3 + p0.Silica)) p4 _ hf9) rfl (Qbr (rnc (Qbb rfl) rn0)) (slc (Qal (rnc (.plain _ nll) (rnc (.plain _ nll) (rnc (.plain _ nll) (rnc (.plain _ nll) rn0))))) Qan) (slc (Qal (rnc (.plain _ nll) (rnc (.plain _ nll) (rnc (.plain _ nll) (rnc (.plain _ nll) rn0))))) (slc (Qal (rnc (Qbk rfl) (rnc (Qbk rfl) (rnc (Qbk rfl) (rnc (Qbk rfl) rn0))))) Qan)) (Qbr (rnc (Qbk rfl) (rnc (Qbk rfl) (rnc (Qbk rfl) (rnc (Qbk rfl) rn0))))) rfl rfl rfl, Qgx rfl Try.underlying160 Qrv (by decide) (by decide) (nle rfl) (by decide) rfl, Qbd rfl, Qbd rfl, Qbd rfl, trivial⟩ ?_
  refine bln ?_
  refine thn ?_
  refine wx1 tbk [] trivial ?_
  refine thn ?_
  refine Qs1 ?_
  refine wx tbk [] trivial ?_
  refine wsq ?_
  refine Qg6 (by kernel_rfl) ?_
  refine Qcf ?_
  refine Qa8 ?_
  refine Qa8 ?_
  refine Qce rfl ?_
  obtain rfl := osi h
  exact ⟨_, (mto (n := 21) (l' := []) (own' := [(Q3t p1 p0 p2 p3 p4)]) [] [0] [(Q3t p1 p0 p2 p3 p4)] hφ0 pn (qc (spb (lc rwl (lc rwl (lc rwl (lc rwl ln))))) qn)), Qcx (vs := []) trivial rfl (NLt.tup _ nl0) (by kernel_rfl) (Qak (Qa6 (nlc (NLt.of0 nll) (nlc (NLt.of0 nll) (nlc (NLt.of0 nll) (nlc (NLt.of0 nll) nl0))))) Qbo)⟩
def Qev (N : Nat) (p0 : (List GStream)) (k5 : Int × Int × Int × Int → Option GStream) : Nat → Int → Int → Int → Int → Int → Option GStream
  | 0, _, _, _, _, _ => none
  | n16 + 1, y6, y7, y8, y9, y10 =>
    bif (decide (y6 < (p0.length : Int))) then
     (getI p0 y6).bind fun x18 =>
     (Qic N x18 y7 y8 y9 y10).bind fun _ =>
     Qev N p0 k5 n16 (w64 (y6 + 1)) (w64 (y7 + x18.Mass)) (w64 (y8 + x18.Heat)) (w64 (y9 + x18.Silica)) (w64 (y10 + x18.Gas))
    else
     k5 (y7, y8, y9, y10)
def Qje (N : Nat) (p0 : (List GStream)) : Option GStream :=
  Qcv (fun ⟨y1, y2, y3, y4⟩ =>
    some (⟨y1, y2, y3, y4⟩ : GStream)) fun k5 : Int × Int × Int × Int → Option GStream =>
  Qev N p0 k5 N 0 0 0 0 0
def Q1k : AV := .fn (.func 104) [] [(.ref 0 4 (0) 0)]
def Q1j (p0 : (List GStream)) : AV := .dat 4 ((p0 : List GStream).map Qaa)
def Zfy : Slot := .own 4 [[(I (0)), (I (0)), (I (0)), (I (0))]]
def Qzk (y7 : Int) (y8 : Int) (y9 : Int) (y10 : Int) : Slot := .own 4 [[(I (y7)), (I (y8)), (I (y9)), (I (y10))]]
def Zae (x18 : GStream) : AV := .agg [(I (x18.Mass)), (I (x18.Heat)), (I (x18.Silica)), (I (x18.Gas))]
def Q3u (y7 : Int) (x18 : GStream) (y8 : Int) (y9 : Int) (y10 : Int) : Slot := .own 4 [[(I (w64 (y7 + x18.Mass))), (I (w64 (y8 + x18.Heat))), (I (w64 (y9 + x18.Silica))), (I (w64 (y10 + x18.Gas)))]]
theorem Qtc (N : Nat) (p0 : (List GStream)) (r : GStream) (h : Qje N p0 = some r) : Spec Try.prog 101 [(.dat 4 (p0.map Qaa))] [] (.agg (Qaa r)) [] := by
  refine Qag Try.func101 rfl 0 (nle rfl) (fun X φ0 w0 hφ0 hd0 => ?_)
  unfold Qje at h
  refine wx tbk [] trivial ?_
  refine wx tbk [(0, rp [(.tmp 2, .ref 0 4 0 0)] Q1k)] ⟨Qej (fs := []) (cs := [.ref 0 4 0 0]) rfl rfl rfl rfl, trivial⟩ ?_
  obtain ⟨k5, hk_k5, h⟩ := jko h
  refine wjn (τ := Int × Int × Int × Int) (fun t => k5 t = some r) (fun ⟨y1, y2, y3, y4⟩ => ⟨mk 18 [(2, .ref 0 4 0 0)], [(.own 4 [[I y1, I y2, I y3, I y4]])]⟩) (fun t h => ?_) ?_
  ·subst hk_k5
   obtain ⟨y1, y2, y3, y4⟩ := t
   refine wx tbk [] trivial ?_
   refine Qad ?_
   obtain rfl := osi h
   exact fend ⟨[(.agg [I y1, I y2, I y3, I y4])], ⟨Qcm (n := 0) (m := 4) (j := 0) (i := 0) (xs := [[I y1, I y2, I y3, I y4]]) (by kernel_rfl) (by kernel_rfl) ti48 (by decide) rfl (nle rfl) rfl, trivial⟩, rfl⟩ (NLt.agg _ (nlc nll (nlc nll (nlc nll (nlc nll nl0)))))
  ·skip
   refine wx tbk [(1, rp [(.tmp 7, (Q1j p0))] (I ((p0.length : Int))))] ⟨alm (c := Qaa) (l := p0) (aln rfl Try.underlying45 rfl), trivial⟩ ?_
   refine Qaq ?_
   refine wmr (mto (n := 18) (l' := [(2, .ref 0 4 0 0), (3, Q1k), (7, (Q1j p0)), (8, (I ((p0.length : Int)))), (9, I 0)]) (own' := [Zfy]) [(2, .ref 0 4 0 0), (3, Q1k), (7, (Q1j p0)), (8, (I ((p0.length : Int)))), (9, I 0)] [0] [Zfy] hφ0 (pc (.rn (rqr rfl)) (pc (.rn (Qbe rn0 (rnc (rqr rfl) rn0))) (pc (.rn (.plain _ (nld Qae _))) (pc rwl (pc rwl pn))))) (qc (spb (lc rwl (lc rwl (lc rwl (lc rwl ln))))) qn)) ?_
   refine Qc9 (τ := Int × Int × Int × Int × Int) (fun n t => Qev N p0 k5 n t.1 t.2.1 t.2.2.1 t.2.2.2.1 t.2.2.2.2 = some r) (fun ⟨y6, y7, y8, y9, y10⟩ => ⟨mk 18 [(2, .ref 0 4 0 0), (3, Q1k), (7, (Q1j p0)), (8, (I ((p0.length : Int)))), (9, I y6)], [(Qzk y7 y8 y9 y10)]⟩) (fun t h => by rw [Qev] at h; cases h) (fun n16 ih t h => ?_) N (0, 0, 0, 0, 0) h
   obtain ⟨y6, y7, y8, y9, y10⟩ := t
   rw [Qev] at h
   skip
   refine wx tbk [] trivial ?_
   refine wsq ?_
   rcases bft ((decide (y6 < (p0.length : Int)))) with hc17 | hc17
   ·replace h := Qa2 hc17 h
    refine wft hc17 (by kernel_rfl) ?_
    refine Qar ?_
    refine thn ?_
    refine wsq ?_
    refine Qaq ?_
    obtain ⟨x18, hg19, h⟩ := bno h
    obtain ⟨hi20, hj21⟩ := gsm hg19
    refine wx tbk [(0, rp [(.tmp 7, (Q1j p0)), (.tmp 9, I y6)] (.dptr (Qaa (x18)) 0))] ⟨aid rfl Try.underlying45 ti48 rfl rfl hi20 (mgt Qaa hj21) rfl, trivial⟩ ?_
    obtain ⟨x23, hf22, h⟩ := bno h
    refine wx1 tbk [(2, ⟨[(.tmp 13, Q1k), (.tmp 14, (Zae x18))], [(0, (Qzk y7 y8 y9 y10))], (.tup []), [(0, (Q3u y7 x18 y8 y9 y10))], false⟩)] ⟨Qao (first := []) (cap := [.ref 0 4 0 0]) (vs := [(Zae x18)]) (σr := [(Qzk y7 y8 y9 y10)]) (σr' := [(Q3u y7 x18 y8 y9 y10)]) (res' := (.tup [])) [0] rfl Q9f (Qoh N x18 y7 y8 y9 y10 _ hf22) rfl (Qbr (rnc (.plain _ (NLt.agg _ (nlc nll (nlc nll (nlc nll (nlc nll nl0)))))) (rnc (Qbb rfl) rn0))) (slc (Qal (rnc (.plain _ nll) (rnc (.plain _ nll) (rnc (.plain _ nll) (rnc (.plain _ nll) rn0))))) Qan) (slc (Qal (rnc (.plain _ nll) (rnc (.plain _ nll) (rnc (.plain _ nll) (rnc (.plain _ nll) rn0))))) Qan) (.plain _ (NLt.tup _ nl0)) rfl rfl rfl, trivial⟩ ?_
    refine bln ?_
    refine thn ?_
    refine wx1 tbk [] trivial ?_
    refine thn ?_
    exact arm (mto (n := 18) [(2, .ref 0 4 0 0), (3, Q1k), (7, (Q1j p0)), (8, (I ((p0.length : Int)))), (9, (I (w64 (y6 + 1))))] [0] [(Q3u y7 x18 y8 y9 y10)] hφ0 (pc (.rn (rqr rfl)) (pc (.rn (Qbe rn0 (rnc (rqr rfl) rn0))) (pc (.rn (.plain _ (nld Qae _))) (pc rwl (pc rwl pn))))) (qc (spb (lc rwl (lc rwl (lc rwl (lc rwl ln))))) qn)) (ih (w64 (y6 + 1), w64 (y7 + x18.Mass), w64 (y8 + x18.Heat), w64 (y9 + x18.Silica), w64 (y10 + x18.Gas)) h)
   ·replace h := Qa3 hc17 h
    refine wfn hc17 (by kernel_rfl) ?_
    refine Qcf ?_
    refine Qa8 ?_
    refine Qa8 ?_
    refine Qce rfl ?_
    refine thn ?_
    exact ⟨(y7, y8, y9, y10), h, (mto (n := 18) [(2, .ref 0 4 0 0)] [0] [(Qzk y7 y8 y9 y10)] hφ0 (pc (.rn (rqr rfl)) pn) (qc (spb (lc rwl (lc rwl (lc rwl (lc rwl ln))))) qn))⟩
def Qdy (N : Nat) (p0 : GStream) (k3 : (List GStream) → Option ((List GStream) × GLoss × Int)) (x7 : (List Int)) : Nat → (List GStream) → Int → Option ((List GStream) × GLoss × Int)
  | 0, _, _ => none
  | n12 + 1, y8, y9 =>
    bif (decide (y9 < (x7.length : Int))) then
     (getI x7 y9).bind fun x14 =>
     (Qew N p0.Heat x14 p0.Mass p0.Heat p0.Silica p0.Gas).bind fun x19 =>
     (Qew N p0.Silica x14 p0.Mass p0.Heat p0.Silica p0.Gas).bind fun x21 =>
     (Qew N p0.Gas x14 p0.Mass p0.Heat p0.Silica p0.Gas).bind fun x23 =>
     chk (decide ((y8.length + ([(⟨x14, x19, x21, x23⟩ : GStream)]).length) * 32 ≤ 140737488355328)) <|
     Qdy N p0 k3 x7 n12 (y8 ++ ([(⟨x14, x19, x21, x23⟩ : GStream)])) (w64 (y9 + 1))
    else
     k3 (y8)
def Qik (N : Nat) (p0 : GStream) (p1 : (List Int)) : Option ((List GStream) × GLoss × Int) :=
  Qcv (fun _ =>
    Qcv (fun y2 =>
      (Qje N y2).bind fun x5 =>
      some (y2, (⟨w64 (p0.Heat - x5.Heat), w64 (p0.Silica - x5.Silica), w64 (p0.Gas - x5.Gas)⟩ : GLoss), 0)) fun k3 : (List GStream) → Option ((List GStream) × GLoss × Int) =>
    (Qhl N p0.Mass p1).bind fun x7 =>
    Qdy N p0 k3 x7 N ([]) 0) fun k1 : Unit → Option ((List GStream) × GLoss × Int) =>
  (Qda N p0).bind fun x26 =>
  bif (!x26) then
   some ([], (⟨0, 0, 0⟩ : GLoss), 1)
  else
   bif (decide ((p1.length : Int) > 20)) then
    some ([], (⟨0, 0, 0⟩ : GLoss), 1)
   else
    (Qgg N p1).bind fun x30 =>
    bif (!x30) then
     some ([], (⟨0, 0, 0⟩ : GLoss), 1)
    else
     (Qcj N p1).bind fun x33 =>
     bif (!x33) then
      some ([], (⟨0, 0, 0⟩ : GLoss), 1)
     else
      k1 ()
def Qod (p1 : (List Int)) : AV := .dat 1 ((p1 : List Int).map Qam)
def Qp7 (p0 : GStream) : Slot := .own 4 [[(I (p0.Mass)), (I (p0.Heat)), (I (p0.Silica)), (I (p0.Gas))]]
def Quk : Slot := .own 3 [[(I (0)), (I (0)), (I (0))]]
def Q32 (y2 : (List GStream)) : AV := .acc 1 48 4 ((y2 : List GStream).map Qaa)
def Q31 (y2 : (List GStream)) : AV := .dat 4 ((y2 : List GStream).map Qaa)
def Zaf (p0 : GStream) (x5 : GStream) : AV := .agg [(I (w64 (p0.Heat - x5.Heat))), (I (w64 (p0.Silica - x5.Silica))), (I (w64 (p0.Gas - x5.Gas)))]
def Qp6 (x7 : (List Int)) : AV := .dat 1 ((x7 : List Int).map Qam)
def Q30 (y8 : (List GStream)) : AV := .acc 1 48 4 ((y8 : List GStream).map Qaa)
def Qzs : AV := .fn (.func 100) [] [(.ref 3 1 (0) 0), (.ref 0 4 (0) 0)]
def Q3z (x14 : Int) (p0 : GStream) : AV := .fn (.func 100) [] [(.dptr [(I (x14))] 0), (.dptr [(I (p0.Mass)), (I (p0.Heat)), (I (p0.Silica)), (I (p0.Gas))] 0)]
def Qul (p0 : GStream) : AV := .agg [(I (p0.Mass)), (I (p0.Heat)), (I (p0.Silica)), (I (p0.Gas))]
def Quj : AV := .agg [(I (0)), (I (0)), (I (0))]
def Qzr : AV := .dat 4 (([] : List GStream).map Qaa)
theorem Qqm (N : Nat) (p0 : GStream) (p1 : (List Int)) (r : ((List GStream) × GLoss × Int)) (h : Qik N p0 p1 = some r) : Spec Try.prog 96 [(.agg (Qaa p0)), (.dat 1 (p1.map Qam))] [] (.tup [(.dat 4 (r.1.map Qaa)), (.agg (Zfb r.2.1)), (I r.2.2)]) [] := by
  refine Qag Try.func96 rfl 0 (nle rfl) (fun X φ0 w0 hφ0 hd0 => ?_)
  unfold Qik at h
  refine wx tbk [] trivial ?_
  refine wx tbk [] trivial ?_
  obtain ⟨k1, hk_k1, h⟩ := jko h
  refine wjn (τ := Unit) (fun t => k1 t = some r) (fun _ => ⟨mk 79 [(1, (Qod p1)), (2, .ref 0 4 0 0), (4, nilS), (5, .ref 1 3 0 0)], [(Qp7 p0), Quk]⟩) (fun t h => ?_) ?_
  ·subst hk_k1
   obtain ⟨k3, hk_k3, h⟩ := jko h
   refine wjn (τ := (List GStream)) (fun t => k3 t = some r) (fun y2 => ⟨mk 79 [(2, .ref 0 4 0 0), (4, (Q32 y2)), (5, .ref 2 3 0 0)], [(Qp7 p0), .tok, Quk]⟩) (fun y2 h => ?_) ?_
   ·subst hk_k3
    obtain ⟨x5, hf4, h⟩ := bno h
    refine wx tbk [(1, rp [fu 101, (.tmp 60, (Q32 y2))] (.agg [I x5.Mass, I x5.Heat, I x5.Silica, I x5.Gas]))] ⟨awk (rd' := (.func 101, (.fn (.func 101) [] [])) :: [(.tmp 60, (Q31 y2))]) ⟨rfl, lrf, rfl, Less.acc, trivial⟩ (apc (first := []) (cap := []) (vs := [(Q31 y2)]) rfl Q9h (Qtc N y2 _ hf4) rfl rfl (nlc (nld Qae _) nl0) (NLt.agg _ (nlc nll (nlc nll (nlc nll (nlc nll nl0))))) rfl), trivial⟩ ?_
    refine wxd tbk [(16, rp [(.tmp 67, (I (w64 (p0.Heat - x5.Heat)))), (.tmp 72, (I (w64 (p0.Silica - x5.Silica)))), (.tmp 77, (I (w64 (p0.Gas - x5.Gas))))] (Zaf p0 x5))] ⟨Qat (vs := [(I (w64 (p0.Heat - x5.Heat))), (I (w64 (p0.Silica - x5.Silica))), (I (w64 (p0.Gas - x5.Gas)))]) rfl Q4w Q1w rfl (by rfl) rfl, trivial⟩ ?_
    refine Qad ?_
    obtain rfl := osi h
    exact fend ⟨[(Q31 y2), (Zaf p0 x5), I 0], ⟨Qe4 (v := (Q32 y2)) (rot (by kernel_rfl)) Less.acc, Qcm (n := 2) (m := 3) (j := 0) (i := 0) (xs := [[(I (w64 (p0.Heat - x5.Heat))), (I (w64 (p0.Silica - x5.Silica))), (I (w64 (p0.Gas - x5.Gas)))]]) (by kernel_rfl) (by kernel_rfl) Q1z (by decide) rfl (nle rfl) rfl, rot (by kernel_rfl), trivial⟩, rfl⟩ (NLt.tup _ (nlc (nld Qae _) (nlc (NLt.agg _ (nlc nll (nlc nll (nlc nll nl0)))) (nlc nll nl0))))
   ·skip
    obtain ⟨x7, hf6, h⟩ := bno h
    refine wx tbk [(3, rp [fu 99, (.tmp 33, I p0.Mass), (.tmp 34, (Qod p1))] (Qp6 x7)), (4, rp [(.tmp 35, (Qp6 x7))] (I ((x7.length : Int))))] ⟨apc (first := []) (cap := []) (vs := [I p0.Mass, (Qod p1)]) rfl Zdw (Qpp N p0.Mass p1 _ hf6) rfl rfl (nlc nll (nlc (nld Qaf _) nl0)) (nld Qaf _) rfl, alm (c := Qam) (l := x7) (aln rfl Try.underlying27 rfl), trivial⟩ ?_
    refine Qaq ?_
    refine wmr (Mor.trans (Qxq 2 48 4 4 (by kernel_rfl) (by kernel_rfl)) (mto (n := 79) (l' := [(2, .ref 0 4 0 0), (4, (.acc 1 48 4 ((([]) : List GStream).map Qaa))), (5, .ref 2 3 0 0), (35, (Qp6 x7)), (36, (I ((x7.length : Int)))), (37, I 0)]) (own' := [(Qp7 p0), .tok, Quk]) [(2, .ref 0 4 0 0), (4, (.acc 2 48 4 (([] : List GStream).map Qaa))), (5, .ref 1 3 0 0), (35, (Qp6 x7)), (36, (I ((x7.length : Int)))), (37, I 0)] [0, 2, 1] [(Qp7 p0), .tok, Quk] hφ0 (pc (.rn (rqr rfl)) (pc (.rn (Qgn rfl (Qei Qae _))) (pc (.rn (rqr rfl)) (pc (.rn (.plain _ (nld Qaf _))) (pc rwl (pc rwl pn)))))) (qc (spb (lc rwl (lc rwl (lc rwl (lc rwl ln))))) (qc .tok (qc (spb (lc rwl (lc rwl (lc rwl ln)))) qn))))) ?_
    refine Qc9 (τ := (List GStream) × Int) (fun n t => Qdy N p0 k3 x7 n t.1 t.2 = some r) (fun ⟨y8, y9⟩ => ⟨mk 79 [(2, .ref 0 4 0 0), (4, (Q30 y8)), (5, .ref 2 3 0 0), (35, (Qp6 x7)), (36, (I ((x7.length : Int)))), (37, I y9)], [(Qp7 p0), .tok, Quk]⟩) (fun t h => by rw [Qdy] at h; cases h) (fun n12 ih t h => ?_) N ([], 0) h
    obtain ⟨y8, y9⟩ := t
    rw [Qdy] at h
    skip
    refine wx tbk [] trivial ?_
    refine wsq ?_
    rcases bft ((decide (y9 < (x7.length : Int)))) with hc13 | hc13
    ·replace h := Qa2 hc13 h
     refine wft hc13 (by kernel_rfl) ?_
     refine Qar ?_
     refine thn ?_
     refine wsq ?_
     refine Qaq ?_
     obtain ⟨x14, hg15, h⟩ := bno h
     obtain ⟨hi16, hj17⟩ := gsm hg15
     refine wx tbk [(0, rp [(.tmp 35, (Qp6 x7)), (.tmp 37, I y9)] (.dptr (Qam (x14)) 0))] ⟨aid rfl Try.underlying27 ti3 rfl rfl hi16 (mgt Qam hj17) rfl, trivial⟩ ?_
     refine wx tbk [(0, rp [(.tmp 9, .ref 3 1 0 0), (.tmp 2, .ref 0 4 0 0)] Qzs)] ⟨Qej (fs := []) (cs := [.ref 3 1 0 0, .ref 0 4 0 0]) rfl rfl rfl rfl, trivial⟩ ?_
     obtain ⟨x19, hf18, h⟩ := bno h
     obtain ⟨x21, hf20, h⟩ := bno h
     obtain ⟨x23, hf22, h⟩ := bno h
     obtain ⟨ha24, h⟩ := cko h
     refine wy1 tbk [(5, rb [(.tmp 44, Qzs), (.tmp 46, I p0.Heat)] [(3, .own 1 [[I x14]]), (0, (Qp7 p0))] (I x19)), (9, rb [(.tmp 48, Qzs), (.tmp 50, I p0.Silica)] [(3, .own 1 [[I x14]]), (0, (Qp7 p0))] (I x21)), (13, rb [(.tmp 52, Qzs), (.tmp 54, I p0.Gas)] [(3, .own 1 [[I x14]]), (0, (Qp7 p0))] (I x23)), (14, rp [(.tmp 43, I x14), (.tmp 47, I x19), (.tmp 51, I x21), (.tmp 55, I x23)] (.agg [I x14, I x19, I x21, I x23])), (15, rp [(.tmp 56, (.agg [I x14, I x19, I x21, I x23]))] (.dat 4 (([(⟨x14, x19, x21, x23⟩ : GStream)] : List GStream).map Qaa))), (16, ⟨[(.tmp 42, (Q30 y8)), (.tmp 57, (.dat 4 (([(⟨x14, x19, x21, x23⟩ : GStream)] : List GStream).map Qaa)))], [(1, .tok), (4, .unused)], (.acc 4 48 4 ((y8 ++ ([(⟨x14, x19, x21, x23⟩ : GStream)]) : List GStream).map Qaa)), [(1, .dead), (4, .tok)], false⟩)] ⟨Qjc (rd' := [(.tmp 44, (Q3z x14 p0)), (.tmp 46, I p0.Heat)]) [(3, 1, [[I x14]]), (0, 4, [[I p0.Mass, I p0.Heat, I p0.Silica, I p0.Gas]])] ⟨rfl, (Q9i trivial ⟨(Qnz 0 rfl (lc (.same _) ln)), (Qnz 1 rfl (lc (.same _) (lc (.same _) (lc (.same _) (lc (.same _) ln))))), trivial⟩), rfl, .same _, trivial⟩ (by rfl) (.lit _) Qtf (Qao (first := []) (cap := [(.dptr [I x14] 0), (.dptr [I p0.Mass, I p0.Heat, I p0.Silica, I p0.Gas] 0)]) (vs := [I p0.Heat]) (σr := []) (σr' := []) (res' := (I x19)) [] rfl Qtz (Qg9 N p0.Heat x14 p0.Mass p0.Heat p0.Silica p0.Gas _ hf18) rfl (Qbr (rnc (.plain _ nll) (rnc (.plain _ (NLt.dptr _ _ (nlc nll nl0))) (rnc (.plain _ (NLt.dptr _ _ (nlc nll (nlc nll (nlc nll (nlc nll nl0)))))) rn0)))) Qan Qan (.plain _ nll) rfl rfl rfl), Qjc (rd' := [(.tmp 48, (Q3z x14 p0)), (.tmp 50, I p0.Silica)]) [(3, 1, [[I x14]]), (0, 4, [[I p0.Mass, I p0.Heat, I p0.Silica, I p0.Gas]])] ⟨rfl, (Q9i trivial ⟨(Qnz 0 rfl (lc (.same _) ln)), (Qnz 1 rfl (lc (.same _) (lc (.same _) (lc (.same _) (lc (.same _) ln))))), trivial⟩), rfl, .same _, trivial⟩ (by rfl) (.lit _) Qtf (Qao (first := []) (cap := [(.dptr [I x14] 0), (.dptr [I p0.Mass, I p0.Heat, I p0.Silica, I p0.Gas] 0)]) (vs := [I p0.Silica]) (σr := []) (σr' := []) (res' := (I x21)) [] rfl Qtz (Qg9 N p0.Silica x14 p0.Mass p0.Heat p0.Silica p0.Gas _ hf20) rfl (Qbr (rnc (.plain _ nll) (rnc (.plain _ (NLt.dptr _ _ (nlc nll nl0))) (rnc (.plain _ (NLt.dptr _ _ (nlc nll (nlc nll (nlc nll (nlc nll nl0)))))) rn0)))) Qan Qan (.plain _ nll) rfl rfl rfl), Qjc (rd' := [(.tmp 52, (Q3z x14 p0)), (.tmp 54, I p0.Gas)]) [(3, 1, [[I x14]]), (0, 4, [[I p0.Mass, I p0.Heat, I p0.Silica, I p0.Gas]])] ⟨rfl, (Q9i trivial ⟨(Qnz 0 rfl (lc (.same _) ln)), (Qnz 1 rfl (lc (.same _) (lc (.same _) (lc (.same _) (lc (.same _) ln))))), trivial⟩), rfl, .same _, trivial⟩ (by rfl) (.lit _) Qtf (Qao (first := []) (cap := [(.dptr [I x14] 0), (.dptr [I p0.Mass, I p0.Heat, I p0.Silica, I p0.Gas] 0)]) (vs := [I p0.Gas]) (σr := []) (σr' := []) (res' := (I x23)) [] rfl Qtz (Qg9 N p0.Gas x14 p0.Mass p0.Heat p0.Silica p0.Gas _ hf22) rfl (Qbr (rnc (.plain _ nll) (rnc (.plain _ (NLt.dptr _ _ (nlc nll nl0))) (rnc (.plain _ (NLt.dptr _ _ (nlc nll (nlc nll (nlc nll (nlc nll nl0)))))) rn0)))) Qan Qan (.plain _ nll) rfl rfl rfl), Qat (vs := [I x14, I x19, I x21, I x23]) rfl ts48 tz48 rfl (by rfl) rfl, Qbp (vs := [(.agg [I x14, I x19, I x21, I x23])]) rfl Try.underlying45 ti48 tz48 rfl (by decide) rfl (by decide) (by rfl) (by rfl) (by rfl) rfl, Qkv rfl Try.underlying45 te48 (Base.acc _ _) rfl rfl (by rfl) (Qo3 Qaa ha24) (Qo2 Qaa ha24 (by decide)) (Qo1 Qaa) rfl rfl, trivial⟩ ?_
     refine bln ?_
     refine thn ?_
     refine wx1 tbk [] trivial ?_
     refine thn ?_
     exact arm (mto (n := 79) [(2, .ref 0 4 0 0), (4, (.acc 4 48 4 ((y8 ++ ([(⟨x14, x19, x21, x23⟩ : GStream)]) : List GStream).map Qaa))), (5, .ref 2 3 0 0), (35, (Qp6 x7)), (36, (I ((x7.length : Int)))), (37, (I (w64 (y9 + 1))))] [0, 4, 2] [(Qp7 p0), .tok, Quk] hφ0 (pc (.rn (rqr rfl)) (pc (.rn (Qgn rfl (Qei Qae _))) (pc (.rn (rqr rfl)) (pc (.rn (.plain _ (nld Qaf _))) (pc rwl (pc rwl pn)))))) (qc (spb (lc rwl (lc rwl (lc rwl (lc rwl ln))))) (qc .tok (qc (spb (lc rwl (lc rwl (lc rwl ln)))) qn)))) (ih (y8 ++ ([(⟨x14, x19, x21, x23⟩ : GStream)]), w64 (y9 + 1)) h)
    ·replace h := Qa3 hc13 h
     refine wfn hc13 (by kernel_rfl) ?_
     refine Qcf ?_
     refine Qa8 ?_
     refine Qa8 ?_
     refine Qce rfl ?_
     refine thn ?_
     exact ⟨(y8), h, (mto (n := 79) [(2, .ref 0 4 0 0), (4, (Q30 y8)), (5, .ref 2 3 0 0)] [0, 1, 2] [(Qp7 p0), .tok, Quk] hφ0 (pc (.rn (rqr rfl)) (pc (.rn (Qgn rfl (Qei Qae _))) (pc (.rn (rqr rfl)) pn))) (qc (spb (lc rwl (lc rwl (lc rwl (lc rwl ln))))) (qc .tok (qc (spb (lc rwl (lc rwl (lc rwl ln)))) qn))))⟩
  ·skip
   obtain ⟨x26, hf25, h⟩ := bno h
   rcases bft ((!x26)) with hb27 | hb27
   ·replace h := Qa2 hb27 h
    refine wx tbk [(1, rp [fu 34, (.tmp 12, (Qul p0))] (B x26)), (3, rp [(.tmp 14, (B ((!x26))))] (B true))] ⟨apc (first := []) (cap := []) (vs := [(Qul p0)]) rfl Qna (Qc6 N p0 _ hf25) rfl rfl (nlc (NLt.agg _ (nlc nll (nlc nll (nlc nll (nlc nll nl0))))) nl0) nll rfl, asb hb27 (amv rfl), trivial⟩ ?_
    refine Qbq (by kernel_rfl) ?_
    refine wx tbk [(0, rp [] Quj)] ⟨Qat (vs := []) rfl Q4w Q1w rfl (by rfl) rfl, trivial⟩ ?_
    refine Qad ?_
    refine Qaj ?_
    obtain rfl := osi h
    exact fend ⟨[Qzr, Quj, I 1], ⟨Qe4 (v := nilS) (rot (by kernel_rfl)) Less.nil, Qcm (n := 1) (m := 3) (j := 0) (i := 0) (xs := [[I 0, I 0, I 0]]) (by kernel_rfl) (by kernel_rfl) Q1z (by decide) rfl (nle rfl) rfl, rot (by kernel_rfl), trivial⟩, rfl⟩ (NLt.tup _ (nlc (nld Qae _) (nlc (NLt.agg _ (nlc nll (nlc nll (nlc nll nl0)))) (nlc nll nl0))))
   ·replace h := Qa3 hb27 h
    rcases bft ((decide ((p1.length : Int) > 20))) with hb28 | hb28
    ·replace h := Qa2 hb28 h
     refine wx tbk [(1, rp [fu 34, (.tmp 12, (Qul p0))] (B x26)), (3, rp [(.tmp 14, (B ((!x26))))] (B false)), (5, rp [(.tmp 15, B false), (.tmp 16, (Qod p1))] (I ((p1.length : Int)))), (8, rp [(.tmp 19, (B ((decide ((p1.length : Int) > 20)))))] (B true))] ⟨apc (first := []) (cap := []) (vs := [(Qul p0)]) rfl Qna (Qc6 N p0 _ hf25) rfl rfl (nlc (NLt.agg _ (nlc nll (nlc nll (nlc nll (nlc nll nl0))))) nl0) nll rfl, asb hb27 (amv rfl), ag_ (alm (c := Qam) (l := p1) (aln rfl Try.underlying27 rfl)), asb hb28 (amv rfl), trivial⟩ ?_
     refine Qbq (by kernel_rfl) ?_
     refine wx tbk [(0, rp [] Quj)] ⟨Qat (vs := []) rfl Q4w Q1w rfl (by rfl) rfl, trivial⟩ ?_
     refine Qad ?_
     refine Qaj ?_
     obtain rfl := osi h
     exact fend ⟨[Qzr, Quj, I 1], ⟨Qe4 (v := nilS) (rot (by kernel_rfl)) Less.nil, Qcm (n := 1) (m := 3) (j := 0) (i := 0) (xs := [[I 0, I 0, I 0]]) (by kernel_rfl) (by kernel_rfl) Q1z (by decide) rfl (nle rfl) rfl, rot (by kernel_rfl), trivial⟩, rfl⟩ (NLt.tup _ (nlc (nld Qae _) (nlc (NLt.agg _ (nlc nll (nlc nll (nlc nll nl0)))) (nlc nll nl0))))
    ·replace h := Qa3 hb28 h
     obtain ⟨x30, hf29, h⟩ := bno h
     rcases bft ((!x30)) with hb31 | hb31
     ·replace h := Qa2 hb31 h
      refine wx tbk [(1, rp [fu 34, (.tmp 12, (Qul p0))] (B x26)), (3, rp [(.tmp 14, (B ((!x26))))] (B false)), (5, rp [(.tmp 15, B false), (.tmp 16, (Qod p1))] (I ((p1.length : Int)))), (8, rp [(.tmp 19, (B ((decide ((p1.length : Int) > 20)))))] (B false)), (11, rp [(.tmp 20, B false), fu 46, (.tmp 21, (Qod p1)), (.tmp 22, (.fn (.func 97) [] []))] (B x30)), (14, rp [(.tmp 25, (B ((!x30))))] (B true))] ⟨apc (first := []) (cap := []) (vs := [(Qul p0)]) rfl Qna (Qc6 N p0 _ hf25) rfl rfl (nlc (NLt.agg _ (nlc nll (nlc nll (nlc nll (nlc nll nl0))))) nl0) nll rfl, asb hb27 (amv rfl), ag_ (alm (c := Qam) (l := p1) (aln rfl Try.underlying27 rfl)), asb hb28 (amv rfl), ag_ (Qao (first := []) (cap := []) (vs := [(Qod p1), (.fn (.func 97) [] [])]) (σr := []) (σr' := []) (res' := (B x30)) [] rfl Qx3 (Qjk N p1 _ hf29) rfl (Qbr (rnc (.plain _ (nld Qaf _)) (rnc (.plain _ (NLt.fn _ _ _ nl0 nl0)) rn0))) Qan Qan (.plain _ nll) rfl rfl rfl), asb hb31 (amv rfl), trivial⟩ ?_
      refine Qbq (by kernel_rfl) ?_
      refine wx tbk [(0, rp [] Quj)] ⟨Qat (vs := []) rfl Q4w Q1w rfl (by rfl) rfl, trivial⟩ ?_
      refine Qad ?_
      refine Qaj ?_
      obtain rfl := osi h
      exact fend ⟨[Qzr, Quj, I 1], ⟨Qe4 (v := nilS) (rot (by kernel_rfl)) Less.nil, Qcm (n := 1) (m := 3) (j := 0) (i := 0) (xs := [[I 0, I 0, I 0]]) (by kernel_rfl) (by kernel_rfl) Q1z (by decide) rfl (nle rfl) rfl, rot (by kernel_rfl), trivial⟩, rfl⟩ (NLt.tup _ (nlc (nld Qae _) (nlc (NLt.agg _ (nlc nll (nlc nll (nlc nll nl0)))) (nlc nll nl0))))
     ·replace h := Qa3 hb31 h
      obtain ⟨x33, hf32, h⟩ := bno h
      refine wx tbk [(1, rp [fu 34, (.tmp 12, (Qul p0))] (B x26)), (3, rp [(.tmp 14, (B ((!x26))))] (B false)), (5, rp [(.tmp 15, B false), (.tmp 16, (Qod p1))] (I ((p1.length : Int)))), (8, rp [(.tmp 19, (B ((decide ((p1.length : Int) > 20)))))] (B false)), (11, rp [(.tmp 20, B false), fu 46, (.tmp 21, (Qod p1)), (.tmp 22, (.fn (.func 97) [] []))] (B x30)), (14, rp [(.tmp 25, (B ((!x30))))] (B false)), (16, rp [(.tmp 26, B false), fu 66, (.tmp 27, (Qod p1)), fu 98] (B x33))] ⟨apc (first := []) (cap := []) (vs := [(Qul p0)]) rfl Qna (Qc6 N p0 _ hf25) rfl rfl (nlc (NLt.agg _ (nlc nll (nlc nll (nlc nll (nlc nll nl0))))) nl0) nll rfl, asb hb27 (amv rfl), ag_ (alm (c := Qam) (l := p1) (aln rfl Try.underlying27 rfl)), asb hb28 (amv rfl), ag_ (Qao (first := []) (cap := []) (vs := [(Qod p1), (.fn (.func 97) [] [])]) (σr := []) (σr' := []) (res' := (B x30)) [] rfl Qx3 (Qjk N p1 _ hf29) rfl (Qbr (rnc (.plain _ (nld Qaf _)) (rnc (.plain _ (NLt.fn _ _ _ nl0 nl0)) rn0))) Qan Qan (.plain _ nll) rfl rfl rfl), asb hb31 (amv rfl), ag_ (Qao (first := []) (cap := []) (vs := [(Qod p1), (.fn (.func 98) [] [])]) (σr := []) (σr' := []) (res' := (B x33)) [] rfl Qov (Qhn N p1 _ hf32) rfl (Qbr (rnc (.plain _ (nld Qaf _)) (rnc (.plain _ (NLt.fn _ _ _ nl0 nl0)) rn0))) Qan Qan (.plain _ nll) rfl rfl rfl), trivial⟩ ?_
      rcases bft ((!x33)) with hc34 | hc34
      ·replace h := Qa2 hc34 h
       refine wft hc34 (by kernel_rfl) ?_
       refine wx tbk [(0, rp [] Quj)] ⟨Qat (vs := []) rfl Q4w Q1w rfl (by rfl) rfl, trivial⟩ ?_
       refine Qad ?_
       refine Qaj ?_
       obtain rfl := osi h
       exact fend ⟨[Qzr, Quj, I 1], ⟨Qe4 (v := nilS) (rot (by kernel_rfl)) Less.nil, Qcm (n := 1) (m := 3) (j := 0) (i := 0) (xs := [[I 0, I 0, I 0]]) (by kernel_rfl) (by kernel_rfl) Q1z (by decide) rfl (nle rfl) rfl, rot (by kernel_rfl), trivial⟩, rfl⟩ (NLt.tup _ (nlc (nld Qae _) (nlc (NLt.agg _ (nlc nll (nlc nll (nlc nll nl0)))) (nlc nll nl0))))
      ·replace h := Qa3 hc34 h
       refine wfn hc34 (by kernel_rfl) ?_
       refine Qar ?_
       refine thn ?_
       exact ⟨(), h, (mto (n := 79) [(1, (Qod p1)), (2, .ref 0 4 0 0), (4, nilS), (5, .ref 1 3 0 0)] [0, 1] [(Qp7 p0), Quk] hφ0 (pc (.rn (.plain _ (nld Qaf _))) (pc (.rn (rqr rfl)) (pc rwl (pc (.rn (rqr rfl)) pn)))) (qc (spb (lc rwl (lc rwl (lc rwl (lc rwl ln))))) (qc (spb (lc rwl (lc rwl (lc rwl ln)))) qn)))⟩
end Go.Proofs.Ytmbhnllcfmiajaa
