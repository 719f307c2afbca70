/-
  Functions of the program: what they compute, as plain functions, and that they do. No conditions.
-/
import Derived.Test.YtmbhnllcfmiajaaXt
namespace Go.Proofs.Ytmbhnllcfmiajaa
set_option maxRecDepth 100000
set_option maxHeartbeats 4000000
open Go.RowKit
def Qct (_N : Nat) (p0 : Int) (p1 : Int) (p2 : Int) : Option Bool :=
  bif (decide (p1 ≤ p0)) then
   some (decide (p0 ≤ p2))
  else
   some false
theorem Qas (N : Nat) (p0 : Int) (p1 : Int) (p2 : Int) (r : Bool) (h : Qct N p0 p1 p2 = some r) : Spec Try.prog 45 [(I p0), (I p1), (I p2)] [] (B r) [] := by
  refine Qag Try.func45 rfl 0 (nle rfl) (fun X φ0 w0 hφ0 hd0 => ?_)
  unfold Qct at h
  refine wx tbk [] trivial ?_
  rcases bft ((decide (p1 ≤ p0))) with hb1 | hb1
  ·replace h := Qa2 hb1 h
   refine wx tbk [(3, rp [(.tmp 9, (B ((decide (p1 ≤ p0)))))] (B true))] ⟨asb hb1 (amv rfl), trivial⟩ ?_
   refine Qad ?_
   obtain rfl := osi h
   exact fend ⟨[(B ((decide (p0 ≤ p2))))], ⟨rot (by kernel_rfl), trivial⟩, rfl⟩ nll
  ·replace h := Qa3 hb1 h
   refine wx tbk [(3, rp [(.tmp 9, (B ((decide (p1 ≤ p0)))))] (B false))] ⟨asb hb1 (amv rfl), trivial⟩ ?_
   refine Qad ?_
   obtain rfl := osi h
   exact fend ⟨[B false], ⟨rot (by kernel_rfl), trivial⟩, rfl⟩ nll
def Qgh (N : Nat) (p0 : GRow) : Option Bool :=
  (Qct N p0.T 0 400).bind fun x2 =>
  bif x2 then
   (Qct N p0.P 1 10000).bind fun x5 =>
   bif x5 then
    (Qct N p0.Liquid 0 4000).bind fun x8 =>
    bif x8 then
     (Qct N p0.Silica 0 2000).bind fun x11 =>
     bif x11 then
      bif (decide (p0.Liquid < p0.Vapour)) then
       some (decide (p0.Vapour ≤ 4000))
      else
       some false
     else
      some false
    else
     some false
   else
    some false
  else
   some false
theorem Qm0 (N : Nat) (p0 : GRow) (r : Bool) (h : Qgh N p0 = some r) : Spec Try.prog 64 [(.agg (Qav p0))] [] (B r) [] := by
  refine Qag Try.func64 rfl 0 (nle rfl) (fun X φ0 w0 hφ0 hd0 => ?_)
  unfold Qgh at h
  refine wx tbk [] trivial ?_
  obtain ⟨x2, hf1, h⟩ := bno h
  rcases bft (x2) with hb3 | hb3
  ·replace h := Qa2 hb3 h
   obtain ⟨x5, hf4, h⟩ := bno h
   rcases bft (x5) with hb6 | hb6
   ·replace h := Qa2 hb6 h
    obtain ⟨x8, hf7, h⟩ := bno h
    rcases bft (x8) with hb9 | hb9
    ·replace h := Qa2 hb9 h
     obtain ⟨x11, hf10, h⟩ := bno h
     rcases bft (x11) with hb12 | hb12
     ·replace h := Qa2 hb12 h
      rcases bft ((decide (p0.Liquid < p0.Vapour))) with hb13 | hb13
      ·replace h := Qa2 hb13 h
       refine wx tbk [(2, rp [fu 45, (.tmp 4, I p0.T), ci 0, ci 400] (B x2)), (3, rp [(.tmp 5, B x2)] (B true)), (6, rp [(.tmp 6, B true), fu 45, (.tmp 8, I p0.P), ci 1, ci 10000] (B x5)), (8, rp [(.tmp 10, B x5)] (B true)), (11, rp [(.tmp 11, B true), fu 45, (.tmp 13, I p0.Liquid), ci 0, ci 4000] (B x8)), (13, rp [(.tmp 15, B x8)] (B true)), (16, rp [(.tmp 16, B true), fu 45, (.tmp 18, I p0.Silica), ci 0, ci 2000] (B x11)), (18, rp [(.tmp 20, B x11)] (B true)), (25, rp [(.tmp 27, (B ((decide (p0.Liquid < p0.Vapour)))))] (B true))] ⟨apc (first := []) (cap := []) (vs := [I p0.T, I 0, I 400]) rfl Qdf (Qas N p0.T 0 400 _ hf1) rfl rfl (nlc nll (nlc nll (nlc nll nl0))) nll rfl, asb hb3 (amv rfl), ag_ (apc (first := []) (cap := []) (vs := [I p0.P, I 1, I 10000]) rfl Qdf (Qas N p0.P 1 10000 _ hf4) rfl rfl (nlc nll (nlc nll (nlc nll nl0))) nll rfl), asb hb6 (amv rfl), ag_ (apc (first := []) (cap := []) (vs := [I p0.Liquid, I 0, I 4000]) rfl Qdf (Qas N p0.Liquid 0 4000 _ hf7) rfl rfl (nlc nll (nlc nll (nlc nll nl0))) nll rfl), asb hb9 (amv rfl), ag_ (apc (first := []) (cap := []) (vs := [I p0.Silica, I 0, I 2000]) rfl Qdf (Qas N p0.Silica 0 2000 _ hf10) rfl rfl (nlc nll (nlc nll (nlc nll nl0))) nll rfl), asb hb12 (amv rfl), asb hb13 (amv rfl), trivial⟩ ?_
       refine Qad ?_
       obtain rfl := osi h
       exact fend ⟨[(B ((decide (p0.Vapour ≤ 4000))))], ⟨rot (by kernel_rfl), trivial⟩, rfl⟩ nll
      ·replace h := Qa3 hb13 h
       refine wx tbk [(2, rp [fu 45, (.tmp 4, I p0.T), ci 0, ci 400] (B x2)), (3, rp [(.tmp 5, B x2)] (B true)), (6, rp [(.tmp 6, B true), fu 45, (.tmp 8, I p0.P), ci 1, ci 10000] (B x5)), (8, rp [(.tmp 10, B x5)] (B true)), (11, rp [(.tmp 11, B true), fu 45, (.tmp 13, I p0.Liquid), ci 0, ci 4000] (B x8)), (13, rp [(.tmp 15, B x8)] (B true)), (16, rp [(.tmp 16, B true), fu 45, (.tmp 18, I p0.Silica), ci 0, ci 2000] (B x11)), (18, rp [(.tmp 20, B x11)] (B true)), (25, rp [(.tmp 27, (B ((decide (p0.Liquid < p0.Vapour)))))] (B false))] ⟨apc (first := []) (cap := []) (vs := [I p0.T, I 0, I 400]) rfl Qdf (Qas N p0.T 0 400 _ hf1) rfl rfl (nlc nll (nlc nll (nlc nll nl0))) nll rfl, asb hb3 (amv rfl), ag_ (apc (first := []) (cap := []) (vs := [I p0.P, I 1, I 10000]) rfl Qdf (Qas N p0.P 1 10000 _ hf4) rfl rfl (nlc nll (nlc nll (nlc nll nl0))) nll rfl), asb hb6 (amv rfl), ag_ (apc (first := []) (cap := []) (vs := [I p0.Liquid, I 0, I 4000]) rfl Qdf (Qas N p0.Liquid 0 4000 _ hf7) rfl rfl (nlc nll (nlc nll (nlc nll nl0))) nll rfl), asb hb9 (amv rfl), ag_ (apc (first := []) (cap := []) (vs := [I p0.Silica, I 0, I 2000]) rfl Qdf (Qas N p0.Silica 0 2000 _ hf10) rfl rfl (nlc nll (nlc nll (nlc nll nl0))) nll rfl), asb hb12 (amv rfl), asb hb13 (amv rfl), trivial⟩ ?_
       refine Qad ?_
       obtain rfl := osi h
       exact fend ⟨[B false], ⟨rot (by kernel_rfl), trivial⟩, rfl⟩ nll
     ·replace h := Qa3 hb12 h
      refine wx tbk [(2, rp [fu 45, (.tmp 4, I p0.T), ci 0, ci 400] (B x2)), (3, rp [(.tmp 5, B x2)] (B true)), (6, rp [(.tmp 6, B true), fu 45, (.tmp 8, I p0.P), ci 1, ci 10000] (B x5)), (8, rp [(.tmp 10, B x5)] (B true)), (11, rp [(.tmp 11, B true), fu 45, (.tmp 13, I p0.Liquid), ci 0, ci 4000] (B x8)), (13, rp [(.tmp 15, B x8)] (B true)), (16, rp [(.tmp 16, B true), fu 45, (.tmp 18, I p0.Silica), ci 0, ci 2000] (B x11)), (18, rp [(.tmp 20, B x11)] (B false))] ⟨apc (first := []) (cap := []) (vs := [I p0.T, I 0, I 400]) rfl Qdf (Qas N p0.T 0 400 _ hf1) rfl rfl (nlc nll (nlc nll (nlc nll nl0))) nll rfl, asb hb3 (amv rfl), ag_ (apc (first := []) (cap := []) (vs := [I p0.P, I 1, I 10000]) rfl Qdf (Qas N p0.P 1 10000 _ hf4) rfl rfl (nlc nll (nlc nll (nlc nll nl0))) nll rfl), asb hb6 (amv rfl), ag_ (apc (first := []) (cap := []) (vs := [I p0.Liquid, I 0, I 4000]) rfl Qdf (Qas N p0.Liquid 0 4000 _ hf7) rfl rfl (nlc nll (nlc nll (nlc nll nl0))) nll rfl), asb hb9 (amv rfl), ag_ (apc (first := []) (cap := []) (vs := [I p0.Silica, I 0, I 2000]) rfl Qdf (Qas N p0.Silica 0 2000 _ hf10) rfl rfl (nlc nll (nlc nll (nlc nll nl0))) nll rfl), asb hb12 (amv rfl), trivial⟩ ?_
      refine Qad ?_
      obtain rfl := osi h
      exact fend ⟨[B false], ⟨rot (by kernel_rfl), trivial⟩, rfl⟩ nll
    ·replace h := Qa3 hb9 h
     refine wx tbk [(2, rp [fu 45, (.tmp 4, I p0.T), ci 0, ci 400] (B x2)), (3, rp [(.tmp 5, B x2)] (B true)), (6, rp [(.tmp 6, B true), fu 45, (.tmp 8, I p0.P), ci 1, ci 10000] (B x5)), (8, rp [(.tmp 10, B x5)] (B true)), (11, rp [(.tmp 11, B true), fu 45, (.tmp 13, I p0.Liquid), ci 0, ci 4000] (B x8)), (13, rp [(.tmp 15, B x8)] (B false))] ⟨apc (first := []) (cap := []) (vs := [I p0.T, I 0, I 400]) rfl Qdf (Qas N p0.T 0 400 _ hf1) rfl rfl (nlc nll (nlc nll (nlc nll nl0))) nll rfl, asb hb3 (amv rfl), ag_ (apc (first := []) (cap := []) (vs := [I p0.P, I 1, I 10000]) rfl Qdf (Qas N p0.P 1 10000 _ hf4) rfl rfl (nlc nll (nlc nll (nlc nll nl0))) nll rfl), asb hb6 (amv rfl), ag_ (apc (first := []) (cap := []) (vs := [I p0.Liquid, I 0, I 4000]) rfl Qdf (Qas N p0.Liquid 0 4000 _ hf7) rfl rfl (nlc nll (nlc nll (nlc nll nl0))) nll rfl), asb hb9 (amv rfl), trivial⟩ ?_
     refine Qad ?_
     obtain rfl := osi h
     exact fend ⟨[B false], ⟨rot (by kernel_rfl), trivial⟩, rfl⟩ nll
   ·replace h := Qa3 hb6 h
    refine wx tbk [(2, rp [fu 45, (.tmp 4, I p0.T), ci 0, ci 400] (B x2)), (3, rp [(.tmp 5, B x2)] (B true)), (6, rp [(.tmp 6, B true), fu 45, (.tmp 8, I p0.P), ci 1, ci 10000] (B x5)), (8, rp [(.tmp 10, B x5)] (B false))] ⟨apc (first := []) (cap := []) (vs := [I p0.T, I 0, I 400]) rfl Qdf (Qas N p0.T 0 400 _ hf1) rfl rfl (nlc nll (nlc nll (nlc nll nl0))) nll rfl, asb hb3 (amv rfl), ag_ (apc (first := []) (cap := []) (vs := [I p0.P, I 1, I 10000]) rfl Qdf (Qas N p0.P 1 10000 _ hf4) rfl rfl (nlc nll (nlc nll (nlc nll nl0))) nll rfl), asb hb6 (amv rfl), trivial⟩ ?_
    refine Qad ?_
    obtain rfl := osi h
    exact fend ⟨[B false], ⟨rot (by kernel_rfl), trivial⟩, rfl⟩ nll
  ·replace h := Qa3 hb3 h
   refine wx tbk [(2, rp [fu 45, (.tmp 4, I p0.T), ci 0, ci 400] (B x2)), (3, rp [(.tmp 5, B x2)] (B false))] ⟨apc (first := []) (cap := []) (vs := [I p0.T, I 0, I 400]) rfl Qdf (Qas N p0.T 0 400 _ hf1) rfl rfl (nlc nll (nlc nll (nlc nll nl0))) nll rfl, asb hb3 (amv rfl), trivial⟩ ?_
   refine Qad ?_
   obtain rfl := osi h
   exact fend ⟨[B false], ⟨rot (by kernel_rfl), trivial⟩, rfl⟩ nll
def Qer (N : Nat) (p0 : GRow) : Option Bool :=
  (Qgh N p0).bind fun x3 =>
  some (!x3)
def z7_1 (p0 : GRow) : AV := .agg [(I (p0.T)), (I (p0.P)), (I (p0.Liquid)), (I (p0.Vapour)), (I (p0.Silica))]
def z7_2 : Slot := .own 1 [[(.fn (.func 64) [] [])]]
theorem Qjj (N : Nat) (p0 : GRow) (r : Bool) (h : Qer N p0 = some r) : Spec Try.prog 85 [(z7_1 p0), (.ref 0 1 (0) 0)] [z7_2] (B (r)) [z7_2] := by
  refine Qag Try.func85 rfl 1 (nle rfl) (fun X φ0 w0 hφ0 hd0 => ?_)
  unfold Qer at h
  refine Qbs ?_
  refine wx tbk [] trivial ?_
  obtain ⟨x3, hf2, h⟩ := bno h
  refine wx tbk [(2, rp [(.tmp 4, (.fn (.func 64) [] [])), (.tmp 5, (z7_1 p0))] (B x3))] ⟨apc (first := []) (cap := []) (vs := [(z7_1 p0)]) rfl Zen (Qm0 N p0 _ hf2) rfl rfl (nlc (NLt.agg _ (nlc nll (nlc nll (nlc nll (nlc nll (nlc nll nl0)))))) nl0) nll rfl, trivial⟩ ?_
  refine wmr (mto (n := 8) (l' := [(3, (B ((!x3))))]) (own' := [z7_2]) [(3, (B ((!x3))))] [0] [z7_2] hφ0 (pc rwl pn) (qc (spb (lc (.rn (Qbe rn0 rn0)) ln)) qn)) ?_
  refine Qad ?_
  obtain rfl := osi h
  exact ⟨_, Mor.rfl, Qcx (vs := [(B ((!x3)))]) ⟨rot (by kernel_rfl), trivial⟩ rfl (NLt.of0 nll) (by kernel_rfl) (Qak (Qa6 (nlc (NLt.of0 (NLt.fn _ _ _ nl0 nl0)) nl0)) Qbo)⟩
def Qa5 (N : Nat) (p0 : (List GRow)) (k2 : Unit → Option Int) : Nat → Int → Option Int
  | 0, _ => none
  | n5 + 1, y3 =>
    bif (decide (y3 < (p0.length : Int))) then
     (getI p0 y3).bind fun x7 =>
     (Qer N x7).bind fun x12 =>
     bif x12 then
      some y3
     else
      Qa5 N p0 k2 n5 (w64 (y3 + 1))
    else
     k2 ()
def Qco (N : Nat) (p0 : (List GRow)) : Option Int :=
  Qcv (fun _ =>
    some (-1)) fun k2 : Unit → Option Int =>
  Qa5 N p0 k2 N 0
def z6_0 (p0 : (List GRow)) : AV := .dat 5 ((p0 : List GRow).map Qav)
def z6_1 : AV := .fn (.func 85) [] [(.ref 0 1 (0) 0)]
def z6_3 : Slot := .own 1 [[(.fn (.func 64) [] [])]]
def z6_8 (x7 : GRow) : AV := .agg [(I (x7.T)), (I (x7.P)), (I (x7.Liquid)), (I (x7.Vapour)), (I (x7.Silica))]
theorem Qgi (N : Nat) (p0 : (List GRow)) (r : Int) (h : Qco N p0 = some r) : Spec Try.prog 94 [(z6_0 p0), z6_1] [z6_3] (I (r)) [z6_3] := by
  refine Qag Try.func94 rfl 1 (nle rfl) (fun X φ0 w0 hφ0 hd0 => ?_)
  unfold Qco at h
  refine Qbs ?_
  refine wx tbk [] trivial ?_
  obtain ⟨k2, hk_k2, h⟩ := jko h
  refine wjn (τ := Unit) (fun t => k2 t = some r) (fun _ => ⟨mk 19 [], [z6_3]⟩) (fun t h => ?_) ?_
  ·subst hk_k2
   refine wx tbk [] trivial ?_
   refine wmr (mto (n := 19) (l' := [(4, (I ((-1))))]) (own' := [z6_3]) [(4, (I ((-1))))] [0] [z6_3] hφ0 (pc rwl pn) (qc (spb (lc (.rn (Qbe rn0 rn0)) ln)) qn)) ?_
   refine Qad ?_
   obtain rfl := osi h
   exact ⟨_, Mor.rfl, Qcx (vs := [(I ((-1)))]) ⟨rot (by kernel_rfl), trivial⟩ rfl (NLt.of0 nll) (by kernel_rfl) (Qak (Qa6 (nlc (NLt.of0 (NLt.fn _ _ _ nl0 nl0)) nl0)) Qbo)⟩
  ·skip
   refine wx tbk [(1, rp [(.tmp 6, (z6_0 p0))] (I ((p0.length : Int))))] ⟨alm (c := Qav) (l := p0) (aln rfl Try.underlying38 rfl), trivial⟩ ?_
   refine Qaq ?_
   refine wmr (mto (n := 19) (l' := [(0, (z6_0 p0)), (1, z6_1), (7, (I ((p0.length : Int)))), (8, I 0)]) (own' := [z6_3]) [(0, (z6_0 p0)), (1, z6_1), (7, (I ((p0.length : Int)))), (8, I 0)] [0] [z6_3] hφ0 (pc (.rn (.plain _ (nld Qai _))) (pc (.rn (Qbe rn0 (rnc (rqr rfl) rn0))) (pc rwl (pc rwl pn)))) (qc (spb (lc (.rn (Qbe rn0 rn0)) ln)) qn)) ?_
   refine Qc9 (τ := Int) (fun n t => Qa5 N p0 k2 n t = some r) (fun y3 => ⟨mk 19 [(0, (z6_0 p0)), (1, z6_1), (7, (I ((p0.length : Int)))), (8, I y3)], [z6_3]⟩) (fun t h => by rw [Qa5] at h; cases h) (fun n5 ih y3 h => ?_) N (0) h
   rw [Qa5] at h
   skip
   refine wx tbk [] trivial ?_
   refine wsq ?_
   rcases bft ((decide (y3 < (p0.length : Int)))) with hc6 | hc6
   ·replace h := Qa2 hc6 h
    refine wft hc6 (by kernel_rfl) ?_
    refine Qar ?_
    refine thn ?_
    refine wsq ?_
    refine Qaq ?_
    refine wx tbk [] trivial ?_
    obtain ⟨x7, hg8, h⟩ := bno h
    obtain ⟨hi9, hj10⟩ := gsm hg8
    obtain ⟨x12, hf11, h⟩ := bno h
    refine wx tbk [(3, rp [(.tmp 12, (z6_0 p0)), (.tmp 13, I y3)] (.dptr (Qav (x7)) 0)), (5, ⟨[(.tmp 11, z6_1), (.tmp 15, (z6_8 x7))], [(0, z6_3)], B x12, [(0, z6_3)], false⟩)] ⟨aid rfl Try.underlying38 Qrw rfl rfl hi9 (mgt Qav hj10) rfl, Qao (first := []) (cap := [.ref 0 1 0 0]) (vs := [(z6_8 x7)]) (σr := [z6_3]) (σr' := [z6_3]) (res' := (B x12)) [0] rfl Zd7 (Qjj N x7 _ hf11) rfl (Qbr (rnc (.plain _ (NLt.agg _ (nlc nll (nlc nll (nlc nll (nlc nll (nlc nll nl0))))))) (rnc (Qbb rfl) rn0))) (slc (Qal (rnc (.plain _ (NLt.fn _ _ _ nl0 nl0)) rn0)) Qan) (slc (Qal (rnc (.plain _ (NLt.fn _ _ _ nl0 nl0)) rn0)) Qan) (.plain _ nll) rfl rfl rfl, trivial⟩ ?_
    rcases bft (x12) with hc13 | hc13
    ·replace h := Qa2 hc13 h
     refine wft hc13 (by kernel_rfl) ?_
     refine wx tbk [] trivial ?_
     refine wmr (mto (n := 19) (l' := [(4, I y3)]) (own' := [z6_3]) [(4, I y3)] [0] [z6_3] hφ0 (pc rwl pn) (qc (spb (lc (.rn (Qbe rn0 rn0)) ln)) qn)) ?_
     refine Qad ?_
     refine Qaw ?_
     refine Qaj ?_
     refine Qaj ?_
     refine Qaw ?_
     refine Qaj ?_
     obtain rfl := osi h
     exact ⟨_, Mor.rfl, Qcx (vs := [I y3]) ⟨rot (by kernel_rfl), trivial⟩ rfl (NLt.of0 nll) (by kernel_rfl) (Qak (Qa6 (nlc (NLt.of0 (NLt.fn _ _ _ nl0 nl0)) nl0)) Qbo)⟩
    ·replace h := Qa3 hc13 h
     refine wfn hc13 (by kernel_rfl) ?_
     refine Qar ?_
     refine bln ?_
     refine thn ?_
     refine wx1 tbk [] trivial ?_
     refine thn ?_
     exact arm (mto (n := 19) [(0, (z6_0 p0)), (1, z6_1), (7, (I ((p0.length : Int)))), (8, (I (w64 (y3 + 1))))] [0] [z6_3] hφ0 (pc (.rn (.plain _ (nld Qai _))) (pc (.rn (Qbe rn0 (rnc (rqr rfl) rn0))) (pc rwl (pc rwl pn)))) (qc (spb (lc (.rn (Qbe rn0 rn0)) ln)) qn)) (ih (w64 (y3 + 1)) h)
   ·replace h := Qa3 hc6 h
    refine wfn hc6 (by kernel_rfl) ?_
    refine Qcf ?_
    refine Qa8 ?_
    refine Qa8 ?_
    refine Qce rfl ?_
    refine thn ?_
    exact ⟨(), h, (mto (n := 19) [] [0] [z6_3] hφ0 pn (qc (spb (lc (.rn (Qbe rn0 rn0)) ln)) qn))⟩
def Qcd (N : Nat) (p0 : (List GRow)) : Option Bool :=
  (Qco N p0).bind fun x3 =>
  some (decide (x3 ≥ 0))
def z5_0 (p0 : (List GRow)) : AV := .dat 5 ((p0 : List GRow).map Qav)
def z5_1 : AV := .fn (.func 85) [] [(.ref 0 1 (0) 0)]
def z5_2 : Slot := .own 1 [[(.fn (.func 64) [] [])]]
theorem Qf6 (N : Nat) (p0 : (List GRow)) (r : Bool) (h : Qcd N p0 = some r) : Spec Try.prog 84 [(z5_0 p0), z5_1] [z5_2] (B (r)) [z5_2] := by
  refine Qag Try.func84 rfl 1 (nle rfl) (fun X φ0 w0 hφ0 hd0 => ?_)
  unfold Qcd at h
  refine Qbs ?_
  refine wx tbk [] trivial ?_
  obtain ⟨x3, hf2, h⟩ := bno h
  refine wx tbk [(2, ⟨[fu 94, (.tmp 5, (z5_0 p0)), (.tmp 6, z5_1)], [(0, z5_2)], I x3, [(0, z5_2)], false⟩)] ⟨Qao (first := []) (cap := []) (vs := [(z5_0 p0), z5_1]) (σr := [z5_2]) (σr' := [z5_2]) (res' := (I x3)) [0] rfl Zd1 (Qgi N p0 _ hf2) rfl (Qbr (rnc (.plain _ (nld Qai _)) (rnc (Qbe rn0 (rnc (Qbb rfl) rn0)) rn0))) (slc (Qal (rnc (.plain _ (NLt.fn _ _ _ nl0 nl0)) rn0)) Qan) (slc (Qal (rnc (.plain _ (NLt.fn _ _ _ nl0 nl0)) rn0)) Qan) (.plain _ nll) rfl rfl rfl, trivial⟩ ?_
  refine wmr (mto (n := 9) (l' := [(4, (B ((decide (x3 ≥ 0)))))]) (own' := [z5_2]) [(4, (B ((decide (x3 ≥ 0)))))] [0] [z5_2] hφ0 (pc rwl pn) (qc (spb (lc (.rn (Qbe rn0 rn0)) ln)) qn)) ?_
  refine Qad ?_
  obtain rfl := osi h
  exact ⟨_, Mor.rfl, Qcx (vs := [(B ((decide (x3 ≥ 0))))]) ⟨rot (by kernel_rfl), trivial⟩ rfl (NLt.of0 nll) (by kernel_rfl) (Qak (Qa6 (nlc (NLt.of0 (NLt.fn _ _ _ nl0 nl0)) nl0)) Qbo)⟩
def Qec (N : Nat) (p0 : (List GRow)) : Option Bool :=
  (Qcd N p0).bind fun x2 =>
  some (!x2)
def z4_1 (p0 : (List GRow)) : AV := .dat 5 ((p0 : List GRow).map Qav)
def z4_2 : AV := .fn (.func 85) [] [(.ref 0 1 (0) 0)]
def z4_0 : Slot := .own 1 [[(.fn (.func 64) [] [])]]
theorem Qkb (N : Nat) (p0 : (List GRow)) (r : Bool) (h : Qec N p0 = some r) : Spec Try.prog 63 [(z4_1 p0), (.fn (.func 64) [] [])] [] (B (r)) [] := by
  refine Qag Try.func63 rfl 0 (nle rfl) (fun X φ0 w0 hφ0 hd0 => ?_)
  unfold Qec at h
  refine wx tbk [] trivial ?_
  obtain ⟨x2, hf1, h⟩ := bno h
  refine wx tbk [(1, rp [(.tmp 3, .ref 0 1 0 0)] z4_2), (2, ⟨[fu 84, (.tmp 5, (z4_1 p0)), (.tmp 6, z4_2)], [(0, z4_0)], B x2, [(0, z4_0)], false⟩)] ⟨Qej (fs := []) (cs := [.ref 0 1 0 0]) rfl rfl rfl rfl, Qao (first := []) (cap := []) (vs := [(z4_1 p0), z4_2]) (σr := [z4_0]) (σr' := [z4_0]) (res' := (B x2)) [0] rfl Zd8 (Qf6 N p0 _ hf1) rfl (Qbr (rnc (.plain _ (nld Qai _)) (rnc (Qbe rn0 (rnc (Qbb rfl) rn0)) rn0))) (slc (Qal (rnc (.plain _ (NLt.fn _ _ _ nl0 nl0)) rn0)) Qan) (slc (Qal (rnc (.plain _ (NLt.fn _ _ _ nl0 nl0)) rn0)) Qan) (.plain _ nll) rfl rfl rfl, trivial⟩ ?_
  refine Qad ?_
  obtain rfl := osi h
  exact fend ⟨[(B ((!x2)))], ⟨rot (by kernel_rfl), trivial⟩, rfl⟩ nll
def Qcw (N : Nat) (p0 : (List GRow)) (k2 : Unit → Option Bool) : Nat → Int → Option Bool
  | 0, _ => none
  | n6 + 1, y4 =>
    bif (decide (y4 < ((p0.drop (1 : Int).toNat).length : Int))) then
     (getI (p0.drop (1 : Int).toNat) y4).bind fun x8 =>
     (getI p0 y4).bind fun x12 =>
     bif (decide (x8.T ≤ x12.T)) then
      some false
     else
      bif (decide (x8.P ≤ x12.P)) then
       some false
      else
       bif (decide (x8.Liquid ≤ x12.Liquid)) then
        some false
       else
        bif (decide (x8.Silica < x12.Silica)) then
         some false
        else
         Qcw N p0 k2 n6 (w64 (y4 + 1))
    else
     k2 ()
def Qdx (N : Nat) (p0 : (List GRow)) : Option Bool :=
  Qcv (fun _ =>
    Qcv (fun _ =>
      some true) fun k2 : Unit → Option Bool =>
    chk (decide (0 ≤ 1) && decide (1 ≤ (p0.length : Int)) && decide ((p0.length : Int) ≤ (p0.length : Int))) <|
    Qcw N p0 k2 N 0) fun k1 : Unit → Option Bool =>
  (Qct N (p0.length : Int) 2 20).bind fun x21 =>
  bif (!x21) then
   some false
  else
   (Qec N p0).bind fun x24 =>
   bif (!x24) then
    some false
   else
    k1 ()
def z2_0 (p0 : (List GRow)) : AV := .dat 5 ((p0 : List GRow).map Qav)
def z2_1 (p0 : (List GRow)) : AV := .dat 5 ((p0.drop (1 : Int).toNat : List GRow).map Qav)
theorem Qgs (N : Nat) (p0 : (List GRow)) (r : Bool) (h : Qdx N p0 = some r) : Spec Try.prog 41 [(.dat 5 (p0.map Qav))] [] (B r) [] := by
  refine Qag Try.func41 rfl 0 (nle rfl) (fun X φ0 w0 hφ0 hd0 => ?_)
  unfold Qdx at h
  refine wx tbk [] trivial ?_
  obtain ⟨k1, hk_k1, h⟩ := jko h
  refine wjn (τ := Unit) (fun t => k1 t = some r) (fun _ => ⟨mk 54 [(0, (z2_0 p0))], []⟩) (fun t h => ?_) ?_
  ·subst hk_k1
   obtain ⟨k2, hk_k2, h⟩ := jko h
   refine wjn (τ := Unit) (fun t => k2 t = some r) (fun _ => ⟨mk 54 [], []⟩) (fun t h => ?_) ?_
   ·subst hk_k2
    refine wx tbk [] trivial ?_
    refine Qad ?_
    obtain rfl := osi h
    exact fend ⟨[B true], ⟨rot (by kernel_rfl), trivial⟩, rfl⟩ nll
   ·skip
    obtain ⟨hs3, h⟩ := cko h
    refine wx tbk [(1, rp [(.tmp 15, (z2_0 p0)), ci 1] (z2_1 p0)), (2, rp [(.tmp 16, (z2_1 p0))] (I (((p0.drop (1 : Int).toNat).length : Int))))] ⟨Qj6 (k := .i64) (k' := .i64) (lo := some (.const (.int .i64 1))) (hi := none) (l := 1) (hh := ((p0.length : Nat) : Int)) rfl Try.underlying39 Qrw rfl (fun e => nomatch e) (fun _ => by simp) (Qys hs3) (Qyr hs3) (Q9v (Qav) hs3) (Zgj Qav), alm (c := Qav) (l := p0.drop (1 : Int).toNat) (aln rfl Try.underlying39 rfl), trivial⟩ ?_
    refine Qaq ?_
    refine wmr (mto (n := 54) (l' := [(0, (z2_0 p0)), (16, (z2_1 p0)), (17, (I (((p0.drop (1 : Int).toNat).length : Int)))), (18, I 0)]) (own' := []) [(0, (z2_0 p0)), (16, (z2_1 p0)), (17, (I (((p0.drop (1 : Int).toNat).length : Int)))), (18, I 0)] [] [] hφ0 (pc (.rn (.plain _ (nld Qai _))) (pc (.rn (.plain _ (nld Qai _))) (pc rwl (pc rwl pn)))) qn) ?_
    refine Qc9 (τ := Int) (fun n t => Qcw N p0 k2 n t = some r) (fun y4 => ⟨mk 54 [(0, (z2_0 p0)), (16, (z2_1 p0)), (17, (I (((p0.drop (1 : Int).toNat).length : Int)))), (18, I y4)], []⟩) (fun t h => by rw [Qcw] at h; cases h) (fun n6 ih y4 h => ?_) N (0) h
    rw [Qcw] at h
    skip
    refine wx tbk [] trivial ?_
    refine wsq ?_
    rcases bft ((decide (y4 < ((p0.drop (1 : Int).toNat).length : Int)))) with hc7 | hc7
    ·replace h := Qa2 hc7 h
     refine wft hc7 (by kernel_rfl) ?_
     refine Qar ?_
     refine thn ?_
     refine wsq ?_
     refine Qaq ?_
     obtain ⟨x8, hg9, h⟩ := bno h
     obtain ⟨hi10, hj11⟩ := gsm hg9
     refine wx tbk [(1, rp [(.tmp 16, (z2_1 p0)), (.tmp 18, I y4)] (.dptr (Qav (x8)) 0))] ⟨aid rfl Try.underlying39 Qrw rfl rfl hi10 (mgt Qav hj11) rfl, trivial⟩ ?_
     obtain ⟨x12, hg13, h⟩ := bno h
     obtain ⟨hi14, hj15⟩ := gsm hg13
     refine wx tbk [(2, rp [(.tmp 23, (z2_0 p0)), (.tmp 24, I y4)] (.dptr (Qav (x12)) 0))] ⟨aid rfl Try.underlying39 Qrw rfl rfl hi14 (mgt Qav hj15) rfl, trivial⟩ ?_
     rcases bft ((decide (x8.T ≤ x12.T))) with hb16 | hb16
     ·replace h := Qa2 hb16 h
      refine wx tbk [(5, rp [(.tmp 31, (B ((decide (x8.T ≤ x12.T)))))] (B true))] ⟨asb hb16 (amv rfl), trivial⟩ ?_
      refine Qbq (by kernel_rfl) ?_
      refine wx tbk [] trivial ?_
      refine Qad ?_
      refine Qaw ?_
      refine Qaj ?_
      refine Qaj ?_
      refine Qaw ?_
      refine Qaj ?_
      obtain rfl := osi h
      exact fend ⟨[B false], ⟨rot (by kernel_rfl), trivial⟩, rfl⟩ nll
     ·replace h := Qa3 hb16 h
      rcases bft ((decide (x8.P ≤ x12.P))) with hb17 | hb17
      ·replace h := Qa2 hb17 h
       refine wx tbk [(5, rp [(.tmp 31, (B ((decide (x8.T ≤ x12.T)))))] (B false)), (12, rp [(.tmp 38, (B ((decide (x8.P ≤ x12.P)))))] (B true))] ⟨asb hb16 (amv rfl), asb hb17 (amv rfl), trivial⟩ ?_
       refine Qbq (by kernel_rfl) ?_
       refine wx tbk [] trivial ?_
       refine Qad ?_
       refine Qaw ?_
       refine Qaj ?_
       refine Qaj ?_
       refine Qaw ?_
       refine Qaj ?_
       obtain rfl := osi h
       exact fend ⟨[B false], ⟨rot (by kernel_rfl), trivial⟩, rfl⟩ nll
      ·replace h := Qa3 hb17 h
       rcases bft ((decide (x8.Liquid ≤ x12.Liquid))) with hb18 | hb18
       ·replace h := Qa2 hb18 h
        refine wx tbk [(5, rp [(.tmp 31, (B ((decide (x8.T ≤ x12.T)))))] (B false)), (12, rp [(.tmp 38, (B ((decide (x8.P ≤ x12.P)))))] (B false)), (19, rp [(.tmp 45, (B ((decide (x8.Liquid ≤ x12.Liquid)))))] (B true))] ⟨asb hb16 (amv rfl), asb hb17 (amv rfl), asb hb18 (amv rfl), trivial⟩ ?_
        refine Qbq (by kernel_rfl) ?_
        refine wx tbk [] trivial ?_
        refine Qad ?_
        refine Qaw ?_
        refine Qaj ?_
        refine Qaj ?_
        refine Qaw ?_
        refine Qaj ?_
        obtain rfl := osi h
        exact fend ⟨[B false], ⟨rot (by kernel_rfl), trivial⟩, rfl⟩ nll
       ·replace h := Qa3 hb18 h
        refine wx tbk [(5, rp [(.tmp 31, (B ((decide (x8.T ≤ x12.T)))))] (B false)), (12, rp [(.tmp 38, (B ((decide (x8.P ≤ x12.P)))))] (B false)), (19, rp [(.tmp 45, (B ((decide (x8.Liquid ≤ x12.Liquid)))))] (B false))] ⟨asb hb16 (amv rfl), asb hb17 (amv rfl), asb hb18 (amv rfl), trivial⟩ ?_
        rcases bft ((decide (x8.Silica < x12.Silica))) with hc19 | hc19
        ·replace h := Qa2 hc19 h
         refine wft hc19 (by kernel_rfl) ?_
         refine wx tbk [] trivial ?_
         refine Qad ?_
         refine Qaw ?_
         refine Qaj ?_
         refine Qaj ?_
         refine Qaw ?_
         refine Qaj ?_
         obtain rfl := osi h
         exact fend ⟨[B false], ⟨rot (by kernel_rfl), trivial⟩, rfl⟩ nll
        ·replace h := Qa3 hc19 h
         refine wfn hc19 (by kernel_rfl) ?_
         refine Qar ?_
         refine bln ?_
         refine thn ?_
         refine wx1 tbk [] trivial ?_
         refine thn ?_
         exact arm (mto (n := 54) [(0, (z2_0 p0)), (16, (z2_1 p0)), (17, (I (((p0.drop (1 : Int).toNat).length : Int)))), (18, (I (w64 (y4 + 1))))] [] [] hφ0 (pc (.rn (.plain _ (nld Qai _))) (pc (.rn (.plain _ (nld Qai _))) (pc rwl (pc rwl pn)))) qn) (ih (w64 (y4 + 1)) h)
    ·replace h := Qa3 hc7 h
     refine wfn hc7 (by kernel_rfl) ?_
     refine Qcf ?_
     refine Qa8 ?_
     refine Qa8 ?_
     refine Qce rfl ?_
     refine thn ?_
     exact ⟨(), h, (mto (n := 54) [] [] [] hφ0 pn qn)⟩
  ·skip
   obtain ⟨x21, hf20, h⟩ := bno h
   rcases bft ((!x21)) with hb22 | hb22
   ·replace h := Qa2 hb22 h
    refine wx tbk [(1, rp [(.tmp 6, (z2_0 p0))] (I ((p0.length : Int)))), (2, rp [fu 45, (.tmp 7, (I ((p0.length : Int)))), ci 2, ci 20] (B x21)), (4, rp [(.tmp 9, (B ((!x21))))] (B true))] ⟨alm (c := Qav) (l := p0) (aln rfl Try.underlying39 rfl), apc (first := []) (cap := []) (vs := [(I ((p0.length : Int))), I 2, I 20]) rfl Qdf (Qas N (p0.length : Int) 2 20 _ hf20) rfl rfl (nlc nll (nlc nll (nlc nll nl0))) nll rfl, asb hb22 (amv rfl), trivial⟩ ?_
    refine Qbq (by kernel_rfl) ?_
    refine wx tbk [] trivial ?_
    refine Qad ?_
    refine Qaj ?_
    obtain rfl := osi h
    exact fend ⟨[B false], ⟨rot (by kernel_rfl), trivial⟩, rfl⟩ nll
   ·replace h := Qa3 hb22 h
    obtain ⟨x24, hf23, h⟩ := bno h
    refine wx tbk [(1, rp [(.tmp 6, (z2_0 p0))] (I ((p0.length : Int)))), (2, rp [fu 45, (.tmp 7, (I ((p0.length : Int)))), ci 2, ci 20] (B x21)), (4, rp [(.tmp 9, (B ((!x21))))] (B false)), (6, rp [(.tmp 10, B false), fu 63, (.tmp 11, (z2_0 p0)), fu 64] (B x24))] ⟨alm (c := Qav) (l := p0) (aln rfl Try.underlying39 rfl), apc (first := []) (cap := []) (vs := [(I ((p0.length : Int))), I 2, I 20]) rfl Qdf (Qas N (p0.length : Int) 2 20 _ hf20) rfl rfl (nlc nll (nlc nll (nlc nll nl0))) nll rfl, asb hb22 (amv rfl), ag_ (Qao (first := []) (cap := []) (vs := [(z2_0 p0), (.fn (.func 64) [] [])]) (σr := []) (σr' := []) (res' := (B x24)) [] rfl Zeo (Qkb N p0 _ hf23) rfl (Qbr (rnc (.plain _ (nld Qai _)) (rnc (.plain _ (NLt.fn _ _ _ nl0 nl0)) rn0))) Qan Qan (.plain _ nll) rfl rfl rfl), trivial⟩ ?_
    rcases bft ((!x24)) with hc25 | hc25
    ·replace h := Qa2 hc25 h
     refine wft hc25 (by kernel_rfl) ?_
     refine wx tbk [] trivial ?_
     refine Qad ?_
     refine Qaj ?_
     obtain rfl := osi h
     exact fend ⟨[B false], ⟨rot (by kernel_rfl), trivial⟩, rfl⟩ nll
    ·replace h := Qa3 hc25 h
     refine wfn hc25 (by kernel_rfl) ?_
     refine Qar ?_
     refine thn ?_
     exact ⟨(), h, (mto (n := 54) [(0, (z2_0 p0))] [] [] hφ0 (pc (.rn (.plain _ (nld Qai _))) pn) qn)⟩
def Qgz (N : Nat) (p0 : (List GRow)) : Option Int :=
  (Qdx N p0).bind fun x2 =>
  bif (!x2) then
   some 1
  else
   some 0
theorem Qg1 (N : Nat) (p0 : (List GRow)) (r : Int) (h : Qgz N p0 = some r) : Spec Try.prog 55 [(.dat 5 (p0.map Qav))] [] (I r) [] := by
  refine Qag Try.func55 rfl 0 (nle rfl) (fun X φ0 w0 hφ0 hd0 => ?_)
  unfold Qgz at h
  refine wx tbk [] trivial ?_
  refine wsq ?_
  obtain ⟨x2, hf1, h⟩ := bno h
  refine wx tbk [(1, rp [fu 41, (.tmp 3, (.dat 5 ((p0 : List GRow).map Qav)))] (B x2))] ⟨apc (first := []) (cap := []) (vs := [(.dat 5 ((p0 : List GRow).map Qav))]) rfl Qx4 (Qgs N p0 _ hf1) rfl rfl (nlc (nld Qai _) nl0) nll rfl, trivial⟩ ?_
  rcases bft ((!x2)) with hc3 | hc3
  ·replace h := Qa2 hc3 h
   refine wft hc3 (by kernel_rfl) ?_
   refine wx tbk [] trivial ?_
   refine Qad ?_
   refine Qaj ?_
   obtain rfl := osi h
   exact fend ⟨[I 1], ⟨rot (by kernel_rfl), trivial⟩, rfl⟩ nll
  ·replace h := Qa3 hc3 h
   refine wfn hc3 (by kernel_rfl) ?_
   refine Qar ?_
   refine thn ?_
   refine wx tbk [] trivial ?_
   refine Qad ?_
   obtain rfl := osi h
   exact fend ⟨[I 0], ⟨rot (by kernel_rfl), trivial⟩, rfl⟩ nll
def Qcs (_N : Nat) (p0 : Int) (p1 : Int) (p2 : Int) : Option Bool :=
  bif (decide (p1 ≤ p0)) then
   some (decide (p0 ≤ p2))
  else
   some false
theorem Qbl (N : Nat) (p0 : Int) (p1 : Int) (p2 : Int) (r : Bool) (h : Qcs N p0 p1 p2 = some r) : Spec Try.prog 56 [(I p0), (I p1), (I p2)] [] (B r) [] := by
  refine Qag Try.func56 rfl 0 (nle rfl) (fun X φ0 w0 hφ0 hd0 => ?_)
  unfold Qcs at h
  refine wx tbk [] trivial ?_
  rcases bft ((decide (p1 ≤ p0))) with hb1 | hb1
  ·replace h := Qa2 hb1 h
   refine wx tbk [(3, rp [(.tmp 9, (B ((decide (p1 ≤ p0)))))] (B true))] ⟨asb hb1 (amv rfl), trivial⟩ ?_
   refine Qad ?_
   obtain rfl := osi h
   exact fend ⟨[(B ((decide (p0 ≤ p2))))], ⟨rot (by kernel_rfl), trivial⟩, rfl⟩ nll
  ·replace h := Qa3 hb1 h
   refine wx tbk [(3, rp [(.tmp 9, (B ((decide (p1 ≤ p0)))))] (B false))] ⟨asb hb1 (amv rfl), trivial⟩ ?_
   refine Qad ?_
   obtain rfl := osi h
   exact fend ⟨[B false], ⟨rot (by kernel_rfl), trivial⟩, rfl⟩ nll
def Qfv (N : Nat) (p0 : Int) : Option Bool :=
  (Qcs N p0 0 1000).bind fun x2 =>
  some x2
theorem Qkp (N : Nat) (p0 : Int) (r : Bool) (h : Qfv N p0 = some r) : Spec Try.prog 81 [(I p0)] [] (B r) [] := by
  refine Qag Try.func81 rfl 0 (nle rfl) (fun X φ0 w0 hφ0 hd0 => ?_)
  unfold Qfv at h
  refine wx tbk [] trivial ?_
  obtain ⟨x2, hf1, h⟩ := bno h
  refine wx tbk [(1, rp [fu 56, (.tmp 3, I p0), ci 0, ci 1000] (B x2))] ⟨apc (first := []) (cap := []) (vs := [I p0, I 0, I 1000]) rfl Qfx (Qbl N p0 0 1000 _ hf1) rfl rfl (nlc nll (nlc nll (nlc nll nl0))) nll rfl, trivial⟩ ?_
  refine Qad ?_
  obtain rfl := osi h
  exact fend ⟨[B x2], ⟨rot (by kernel_rfl), trivial⟩, rfl⟩ nll
def Qga (N : Nat) (p0 : Int) : Option Bool :=
  (Qfv N p0).bind fun x3 =>
  some (!x3)
def Q8e : Slot := .own 1 [[(.fn (.func 81) [] [])]]
theorem Qmi (N : Nat) (p0 : Int) (r : Bool) (h : Qga N p0 = some r) : Spec Try.prog 83 [(I (p0)), (.ref 0 1 (0) 0)] [Q8e] (B (r)) [Q8e] := by
  refine Qag Try.func83 rfl 1 (nle rfl) (fun X φ0 w0 hφ0 hd0 => ?_)
  unfold Qga at h
  refine Qbs ?_
  refine wx tbk [] trivial ?_
  obtain ⟨x3, hf2, h⟩ := bno h
  refine wx tbk [(2, rp [(.tmp 4, (.fn (.func 81) [] [])), (.tmp 5, I p0)] (B x3))] ⟨apc (first := []) (cap := []) (vs := [I p0]) rfl Zea (Qkp N p0 _ hf2) rfl rfl (nlc nll nl0) nll rfl, trivial⟩ ?_
  refine wmr (mto (n := 8) (l' := [(3, (B ((!x3))))]) (own' := [Q8e]) [(3, (B ((!x3))))] [0] [Q8e] hφ0 (pc rwl pn) (qc (spb (lc (.rn (Qbe rn0 rn0)) ln)) qn)) ?_
  refine Qad ?_
  obtain rfl := osi h
  exact ⟨_, Mor.rfl, Qcx (vs := [(B ((!x3)))]) ⟨rot (by kernel_rfl), trivial⟩ rfl (NLt.of0 nll) (by kernel_rfl) (Qak (Qa6 (nlc (NLt.of0 (NLt.fn _ _ _ nl0 nl0)) nl0)) Qbo)⟩
def Qb8 (N : Nat) (p0 : (List Int)) (k2 : Unit → Option Int) : Nat → Int → Option Int
  | 0, _ => none
  | n5 + 1, y3 =>
    bif (decide (y3 < (p0.length : Int))) then
     (getI p0 y3).bind fun x7 =>
     (Qga N x7).bind fun x12 =>
     bif x12 then
      some y3
     else
      Qb8 N p0 k2 n5 (w64 (y3 + 1))
    else
     k2 ()
def Qd5 (N : Nat) (p0 : (List Int)) : Option Int :=
  Qcv (fun _ =>
    some (-1)) fun k2 : Unit → Option Int =>
  Qb8 N p0 k2 N 0
def Qwt (p0 : (List Int)) : AV := .dat 1 ((p0 : List Int).map Qam)
def Q1s : AV := .fn (.func 83) [] [(.ref 0 1 (0) 0)]
def Qmc : Slot := .own 1 [[(.fn (.func 81) [] [])]]
theorem Qir (N : Nat) (p0 : (List Int)) (r : Int) (h : Qd5 N p0 = some r) : Spec Try.prog 86 [(Qwt p0), Q1s] [Qmc] (I (r)) [Qmc] := by
  refine Qag Try.func86 rfl 1 (nle rfl) (fun X φ0 w0 hφ0 hd0 => ?_)
  unfold Qd5 at h
  refine Qbs ?_
  refine wx tbk [] trivial ?_
  obtain ⟨k2, hk_k2, h⟩ := jko h
  refine wjn (τ := Unit) (fun t => k2 t = some r) (fun _ => ⟨mk 19 [], [Qmc]⟩) (fun t h => ?_) ?_
  ·subst hk_k2
   refine wx tbk [] trivial ?_
   refine wmr (mto (n := 19) (l' := [(4, (I ((-1))))]) (own' := [Qmc]) [(4, (I ((-1))))] [0] [Qmc] hφ0 (pc rwl pn) (qc (spb (lc (.rn (Qbe rn0 rn0)) ln)) qn)) ?_
   refine Qad ?_
   obtain rfl := osi h
   exact ⟨_, Mor.rfl, Qcx (vs := [(I ((-1)))]) ⟨rot (by kernel_rfl), trivial⟩ rfl (NLt.of0 nll) (by kernel_rfl) (Qak (Qa6 (nlc (NLt.of0 (NLt.fn _ _ _ nl0 nl0)) nl0)) Qbo)⟩
  ·skip
   refine wx tbk [(1, rp [(.tmp 6, (Qwt p0))] (I ((p0.length : Int))))] ⟨alm (c := Qam) (l := p0) (aln rfl Try.underlying27 rfl), trivial⟩ ?_
   refine Qaq ?_
   refine wmr (mto (n := 19) (l' := [(0, (Qwt p0)), (1, Q1s), (7, (I ((p0.length : Int)))), (8, I 0)]) (own' := [Qmc]) [(0, (Qwt p0)), (1, Q1s), (7, (I ((p0.length : Int)))), (8, I 0)] [0] [Qmc] hφ0 (pc (.rn (.plain _ (nld Qaf _))) (pc (.rn (Qbe rn0 (rnc (rqr rfl) rn0))) (pc rwl (pc rwl pn)))) (qc (spb (lc (.rn (Qbe rn0 rn0)) ln)) qn)) ?_
   refine Qc9 (τ := Int) (fun n t => Qb8 N p0 k2 n t = some r) (fun y3 => ⟨mk 19 [(0, (Qwt p0)), (1, Q1s), (7, (I ((p0.length : Int)))), (8, I y3)], [Qmc]⟩) (fun t h => by rw [Qb8] at h; cases h) (fun n5 ih y3 h => ?_) N (0) h
   rw [Qb8] at h
   skip
   refine wx tbk [] trivial ?_
   refine wsq ?_
   rcases bft ((decide (y3 < (p0.length : Int)))) with hc6 | hc6
   ·replace h := Qa2 hc6 h
    refine wft hc6 (by kernel_rfl) ?_
    refine Qar ?_
    refine thn ?_
    refine wsq ?_
    refine Qaq ?_
    refine wx tbk [] trivial ?_
    obtain ⟨x7, hg8, h⟩ := bno h
    obtain ⟨hi9, hj10⟩ := gsm hg8
    obtain ⟨x12, hf11, h⟩ := bno h
    refine wx tbk [(3, rp [(.tmp 12, (Qwt p0)), (.tmp 13, I y3)] (.dptr (Qam (x7)) 0)), (5, ⟨[(.tmp 11, Q1s), (.tmp 15, I x7)], [(0, Qmc)], B x12, [(0, Qmc)], false⟩)] ⟨aid rfl Try.underlying27 ti3 rfl rfl hi9 (mgt Qam hj10) rfl, Qao (first := []) (cap := [.ref 0 1 0 0]) (vs := [I x7]) (σr := [Qmc]) (σr' := [Qmc]) (res' := (B x12)) [0] rfl Q6g (Qmi N x7 _ hf11) rfl (Qbr (rnc (.plain _ nll) (rnc (Qbb rfl) rn0))) (slc (Qal (rnc (.plain _ (NLt.fn _ _ _ nl0 nl0)) rn0)) Qan) (slc (Qal (rnc (.plain _ (NLt.fn _ _ _ nl0 nl0)) rn0)) Qan) (.plain _ nll) rfl rfl rfl, trivial⟩ ?_
    rcases bft (x12) with hc13 | hc13
    ·replace h := Qa2 hc13 h
     refine wft hc13 (by kernel_rfl) ?_
     refine wx tbk [] trivial ?_
     refine wmr (mto (n := 19) (l' := [(4, I y3)]) (own' := [Qmc]) [(4, I y3)] [0] [Qmc] hφ0 (pc rwl pn) (qc (spb (lc (.rn (Qbe rn0 rn0)) ln)) qn)) ?_
     refine Qad ?_
     refine Qaw ?_
     refine Qaj ?_
     refine Qaj ?_
     refine Qaw ?_
     refine Qaj ?_
     obtain rfl := osi h
     exact ⟨_, Mor.rfl, Qcx (vs := [I y3]) ⟨rot (by kernel_rfl), trivial⟩ rfl (NLt.of0 nll) (by kernel_rfl) (Qak (Qa6 (nlc (NLt.of0 (NLt.fn _ _ _ nl0 nl0)) nl0)) Qbo)⟩
    ·replace h := Qa3 hc13 h
     refine wfn hc13 (by kernel_rfl) ?_
     refine Qar ?_
     refine bln ?_
     refine thn ?_
     refine wx1 tbk [] trivial ?_
     refine thn ?_
     exact arm (mto (n := 19) [(0, (Qwt p0)), (1, Q1s), (7, (I ((p0.length : Int)))), (8, (I (w64 (y3 + 1))))] [0] [Qmc] hφ0 (pc (.rn (.plain _ (nld Qaf _))) (pc (.rn (Qbe rn0 (rnc (rqr rfl) rn0))) (pc rwl (pc rwl pn)))) (qc (spb (lc (.rn (Qbe rn0 rn0)) ln)) qn)) (ih (w64 (y3 + 1)) h)
   ·replace h := Qa3 hc6 h
    refine wfn hc6 (by kernel_rfl) ?_
    refine Qcf ?_
    refine Qa8 ?_
    refine Qa8 ?_
    refine Qce rfl ?_
    refine thn ?_
    exact ⟨(), h, (mto (n := 19) [] [0] [Qmc] hφ0 pn (qc (spb (lc (.rn (Qbe rn0 rn0)) ln)) qn))⟩
def Qc1 (N : Nat) (p0 : (List Int)) : Option Bool :=
  (Qd5 N p0).bind fun x3 =>
  some (decide (x3 ≥ 0))
def Zcl (p0 : (List Int)) : AV := .dat 1 ((p0 : List Int).map Qam)
def Zck : AV := .fn (.func 83) [] [(.ref 0 1 (0) 0)]
def Quq : Slot := .own 1 [[(.fn (.func 81) [] [])]]
theorem Qhr (N : Nat) (p0 : (List Int)) (r : Bool) (h : Qc1 N p0 = some r) : Spec Try.prog 66 [(Zcl p0), Zck] [Quq] (B (r)) [Quq] := by
  refine Qag Try.func66 rfl 1 (nle rfl) (fun X φ0 w0 hφ0 hd0 => ?_)
  unfold Qc1 at h
  refine Qbs ?_
  refine wx tbk [] trivial ?_
  obtain ⟨x3, hf2, h⟩ := bno h
  refine wx tbk [(2, ⟨[fu 86, (.tmp 5, (Zcl p0)), (.tmp 6, Zck)], [(0, Quq)], I x3, [(0, Quq)], false⟩)] ⟨Qao (first := []) (cap := []) (vs := [(Zcl p0), Zck]) (σr := [Quq]) (σr' := [Quq]) (res' := (I x3)) [0] rfl Qou (Qir N p0 _ hf2) rfl (Qbr (rnc (.plain _ (nld Qaf _)) (rnc (Qbe rn0 (rnc (Qbb rfl) rn0)) rn0))) (slc (Qal (rnc (.plain _ (NLt.fn _ _ _ nl0 nl0)) rn0)) Qan) (slc (Qal (rnc (.plain _ (NLt.fn _ _ _ nl0 nl0)) rn0)) Qan) (.plain _ nll) rfl rfl rfl, trivial⟩ ?_
  refine wmr (mto (n := 9) (l' := [(4, (B ((decide (x3 ≥ 0)))))]) (own' := [Quq]) [(4, (B ((decide (x3 ≥ 0)))))] [0] [Quq] hφ0 (pc rwl pn) (qc (spb (lc (.rn (Qbe rn0 rn0)) ln)) qn)) ?_
  refine Qad ?_
  obtain rfl := osi h
  exact ⟨_, Mor.rfl, Qcx (vs := [(B ((decide (x3 ≥ 0))))]) ⟨rot (by kernel_rfl), trivial⟩ rfl (NLt.of0 nll) (by kernel_rfl) (Qak (Qa6 (nlc (NLt.of0 (NLt.fn _ _ _ nl0 nl0)) nl0)) Qbo)⟩
def Qgb (N : Nat) (p0 : (List Int)) : Option Bool :=
  (Qc1 N p0).bind fun x2 =>
  some (!x2)
def Zcn (p0 : (List Int)) : AV := .dat 1 ((p0 : List Int).map Qam)
def Zcm : AV := .fn (.func 83) [] [(.ref 0 1 (0) 0)]
def Q8f : Slot := .own 1 [[(.fn (.func 81) [] [])]]
theorem Qj3 (N : Nat) (p0 : (List Int)) (r : Bool) (h : Qgb N p0 = some r) : Spec Try.prog 60 [(Zcn p0), (.fn (.func 81) [] [])] [] (B (r)) [] := by
  refine Qag Try.func60 rfl 0 (nle rfl) (fun X φ0 w0 hφ0 hd0 => ?_)
  unfold Qgb at h
  refine wx tbk [] trivial ?_
  obtain ⟨x2, hf1, h⟩ := bno h
  refine wx tbk [(1, rp [(.tmp 3, .ref 0 1 0 0)] Zcm), (2, ⟨[fu 66, (.tmp 5, (Zcn p0)), (.tmp 6, Zcm)], [(0, Q8f)], B x2, [(0, Q8f)], false⟩)] ⟨Qej (fs := []) (cs := [.ref 0 1 0 0]) rfl rfl rfl rfl, Qao (first := []) (cap := []) (vs := [(Zcn p0), Zcm]) (σr := [Q8f]) (σr' := [Q8f]) (res' := (B x2)) [0] rfl Qov (Qhr N p0 _ hf1) rfl (Qbr (rnc (.plain _ (nld Qaf _)) (rnc (Qbe rn0 (rnc (Qbb rfl) rn0)) rn0))) (slc (Qal (rnc (.plain _ (NLt.fn _ _ _ nl0 nl0)) rn0)) Qan) (slc (Qal (rnc (.plain _ (NLt.fn _ _ _ nl0 nl0)) rn0)) Qan) (.plain _ nll) rfl rfl rfl, trivial⟩ ?_
  refine Qad ?_
  obtain rfl := osi h
  exact fend ⟨[(B ((!x2)))], ⟨rot (by kernel_rfl), trivial⟩, rfl⟩ nll
def Qfu (_N : Nat) (p0 : Int) : Option Bool :=
  some (decide (p0 > 0))
theorem Qko (N : Nat) (p0 : Int) (r : Bool) (h : Qfu N p0 = some r) : Spec Try.prog 82 [(I p0)] [] (B r) [] := by
  refine Qag Try.func82 rfl 0 (nle rfl) (fun X φ0 w0 hφ0 hd0 => ?_)
  unfold Qfu at h
  refine wx tbk [] trivial ?_
  refine wx tbk [] trivial ?_
  refine Qad ?_
  obtain rfl := osi h
  exact fend ⟨[(B ((decide (p0 > 0))))], ⟨rot (by kernel_rfl), trivial⟩, rfl⟩ nll
def Qb7 (N : Nat) (p0 : (List Int)) (k1 : Unit → Option Int) : Nat → Int → Option Int
  | 0, _ => none
  | n4 + 1, y2 =>
    bif (decide (y2 < (p0.length : Int))) then
     (getI p0 y2).bind fun x6 =>
     (Qfu N x6).bind fun x11 =>
     bif x11 then
      some y2
     else
      Qb7 N p0 k1 n4 (w64 (y2 + 1))
    else
     k1 ()
def Qd4 (N : Nat) (p0 : (List Int)) : Option Int :=
  Qcv (fun _ =>
    some (-1)) fun k1 : Unit → Option Int =>
  Qb7 N p0 k1 N 0
def Qws (p0 : (List Int)) : AV := .dat 1 ((p0 : List Int).map Qam)
theorem Qiq (N : Nat) (p0 : (List Int)) (r : Int) (h : Qd4 N p0 = some r) : Spec Try.prog 86 [(Qws p0), (.fn (.func 82) [] [])] [] (I (r)) [] := by
  refine Qag Try.func86 rfl 0 (nle rfl) (fun X φ0 w0 hφ0 hd0 => ?_)
  unfold Qd4 at h
  refine wx tbk [] trivial ?_
  obtain ⟨k1, hk_k1, h⟩ := jko h
  refine wjn (τ := Unit) (fun t => k1 t = some r) (fun _ => ⟨mk 19 [], []⟩) (fun t h => ?_) ?_
  ·subst hk_k1
   refine wx tbk [] trivial ?_
   refine Qad ?_
   obtain rfl := osi h
   exact fend ⟨[(I ((-1)))], ⟨rot (by kernel_rfl), trivial⟩, rfl⟩ nll
  ·skip
   refine wx tbk [(1, rp [(.tmp 6, (Qws p0))] (I ((p0.length : Int))))] ⟨alm (c := Qam) (l := p0) (aln rfl Try.underlying27 rfl), trivial⟩ ?_
   refine Qaq ?_
   refine wmr (mto (n := 19) (l' := [(0, (Qws p0)), (1, (.fn (.func 82) [] [])), (7, (I ((p0.length : Int)))), (8, I 0)]) (own' := []) [(0, (Qws p0)), (1, (.fn (.func 82) [] [])), (7, (I ((p0.length : Int)))), (8, I 0)] [] [] hφ0 (pc (.rn (.plain _ (nld Qaf _))) (pc (.rn (Qbe rn0 rn0)) (pc rwl (pc rwl pn)))) qn) ?_
   refine Qc9 (τ := Int) (fun n t => Qb7 N p0 k1 n t = some r) (fun y2 => ⟨mk 19 [(0, (Qws p0)), (1, (.fn (.func 82) [] [])), (7, (I ((p0.length : Int)))), (8, I y2)], []⟩) (fun t h => by rw [Qb7] at h; cases h) (fun n4 ih y2 h => ?_) N (0) h
   rw [Qb7] at h
   skip
   refine wx tbk [] trivial ?_
   refine wsq ?_
   rcases bft ((decide (y2 < (p0.length : Int)))) with hc5 | hc5
   ·replace h := Qa2 hc5 h
    refine wft hc5 (by kernel_rfl) ?_
    refine Qar ?_
    refine thn ?_
    refine wsq ?_
    refine Qaq ?_
    refine wx tbk [] trivial ?_
    obtain ⟨x6, hg7, h⟩ := bno h
    obtain ⟨hi8, hj9⟩ := gsm hg7
    obtain ⟨x11, hf10, h⟩ := bno h
    refine wx tbk [(3, rp [(.tmp 12, (Qws p0)), (.tmp 13, I y2)] (.dptr (Qam (x6)) 0)), (5, rp [(.tmp 11, (.fn (.func 82) [] [])), (.tmp 15, I x6)] (B x11))] ⟨aid rfl Try.underlying27 ti3 rfl rfl hi8 (mgt Qam hj9) rfl, apc (first := []) (cap := []) (vs := [I x6]) rfl Zd9 (Qko N x6 _ hf10) rfl rfl (nlc nll nl0) nll rfl, trivial⟩ ?_
    rcases bft (x11) with hc12 | hc12
    ·replace h := Qa2 hc12 h
     refine wft hc12 (by kernel_rfl) ?_
     refine wx tbk [] trivial ?_
     refine Qad ?_
     refine Qaw ?_
     refine Qaj ?_
     refine Qaj ?_
     refine Qaw ?_
     refine Qaj ?_
     obtain rfl := osi h
     exact fend ⟨[I y2], ⟨rot (by kernel_rfl), trivial⟩, rfl⟩ nll
    ·replace h := Qa3 hc12 h
     refine wfn hc12 (by kernel_rfl) ?_
     refine Qar ?_
     refine bln ?_
     refine thn ?_
     refine wx1 tbk [] trivial ?_
     refine thn ?_
     exact arm (mto (n := 19) [(0, (Qws p0)), (1, (.fn (.func 82) [] [])), (7, (I ((p0.length : Int)))), (8, (I (w64 (y2 + 1))))] [] [] hφ0 (pc (.rn (.plain _ (nld Qaf _))) (pc (.rn (Qbe rn0 rn0)) (pc rwl (pc rwl pn)))) qn) (ih (w64 (y2 + 1)) h)
   ·replace h := Qa3 hc5 h
    refine wfn hc5 (by kernel_rfl) ?_
    refine Qcf ?_
    refine Qa8 ?_
    refine Qa8 ?_
    refine Qce rfl ?_
    refine thn ?_
    exact ⟨(), h, (mto (n := 19) [] [] [] hφ0 pn qn)⟩
def Qck (N : Nat) (p0 : (List Int)) : Option Bool :=
  (Qd4 N p0).bind fun x2 =>
  some (decide (x2 ≥ 0))
def Zcj (p0 : (List Int)) : AV := .dat 1 ((p0 : List Int).map Qam)
theorem Qhq (N : Nat) (p0 : (List Int)) (r : Bool) (h : Qck N p0 = some r) : Spec Try.prog 66 [(Zcj p0), (.fn (.func 82) [] [])] [] (B (r)) [] := by
  refine Qag Try.func66 rfl 0 (nle rfl) (fun X φ0 w0 hφ0 hd0 => ?_)
  unfold Qck at h
  refine wx tbk [] trivial ?_
  obtain ⟨x2, hf1, h⟩ := bno h
  refine wx tbk [(2, rp [fu 86, (.tmp 5, (Zcj p0)), (.tmp 6, (.fn (.func 82) [] []))] (I x2))] ⟨Qao (first := []) (cap := []) (vs := [(Zcj p0), (.fn (.func 82) [] [])]) (σr := []) (σr' := []) (res' := (I x2)) [] rfl Qou (Qiq N p0 _ hf1) rfl (Qbr (rnc (.plain _ (nld Qaf _)) (rnc (.plain _ (NLt.fn _ _ _ nl0 nl0)) rn0))) Qan Qan (.plain _ nll) rfl rfl rfl, trivial⟩ ?_
  refine Qad ?_
  obtain rfl := osi h
  exact fend ⟨[(B ((decide (x2 ≥ 0))))], ⟨rot (by kernel_rfl), trivial⟩, rfl⟩ nll
def Qfd (N : Nat) (p0 : GElement) : Option Bool :=
  Qcv (fun ⟨y1, y2⟩ =>
    Qcv (fun _ =>
      bif (p0.Kind != 5) then
       some ((p0.Weights.length : Int) == 0)
      else
       (Qcs N (p0.Weights.length : Int) 1 20).bind fun x7 =>
       bif x7 then
        (Qgb N p0.Weights).bind fun x10 =>
        bif x10 then
         (Qck N p0.Weights).bind fun x13 =>
         some x13
        else
         some false
       else
        some false) fun k4 : Unit → Option Bool =>
    bif ((p0.From.length : Int) != y1) then
     some false
    else
     (Qcs N p0.Amount 0 y2).bind fun x16 =>
     bif (!x16) then
      some false
     else
      (Qcs N p0.Wide 0 1000000).bind fun x19 =>
      bif (!x19) then
       some false
      else
       (Qcs N p0.Narrow 1 1000000000).bind fun x22 =>
       bif (!x22) then
        some false
       else
        k4 ()) fun k3 : Int × Int → Option Bool =>
  bif (p0.Kind == 1) then
   k3 (0, 0)
  else
   bif (p0.Kind == 2) then
    (some (if 6 < (p0.From.length : Int) then 6 else (p0.From.length : Int))).bind fun x26 =>
    (some (if x26 > 1 then x26 else 1)).bind fun x28 =>
    k3 (x28, 0)
   else
    bif (p0.Kind == 3) then
     k3 (1, 1000000000)
    else
     bif (p0.Kind == 4) then
      k3 (1, 1000)
     else
      bif (p0.Kind == 5) then
       k3 (1, 0)
      else
       bif (p0.Kind == 6) then
        k3 (1, 0)
       else
        some false
def Q1t (p0 : GElement) : AV := .dat 2 ((p0.From : List GPort).map Qa7)
def Qp8 (p0 : GElement) : AV := .dat 1 ((p0.Weights : List Int).map Qam)
def Qs6 (p0 : GElement) : Slot := .own 7 [[(K .u8 (p0.Kind)), (Q1t p0), (I (p0.Level)), (I (p0.Amount)), (I (p0.Wide)), (I (p0.Narrow)), (Qp8 p0)]]
theorem Qlh (N : Nat) (p0 : GElement) (r : Bool) (h : Qfd N p0 = some r) : Spec Try.prog 58 [(.agg (Qah p0))] [] (B r) [] := by
  refine Qag Try.func58 rfl 0 (nle rfl) (fun X φ0 w0 hφ0 hd0 => ?_)
  unfold Qfd at h
  refine wx tbk [] trivial ?_
  refine wx tbk [] trivial ?_
  obtain ⟨k3, hk_k3, h⟩ := jko h
  refine wjn (τ := Int × Int) (fun t => k3 t = some r) (fun ⟨y1, y2⟩ => ⟨mk 68 [(1, .ref 0 7 0 0), (3, I y1), (4, I y2)], [(Qs6 p0)]⟩) (fun t h => ?_) ?_
  ·subst hk_k3
   obtain ⟨y1, y2⟩ := t
   obtain ⟨k4, hk_k4, h⟩ := jko h
   refine wjn (τ := Unit) (fun t => k4 t = some r) (fun _ => ⟨mk 68 [(1, .ref 0 7 0 0)], [(Qs6 p0)]⟩) (fun t h => ?_) ?_
   ·subst hk_k4
    refine wsq ?_
    refine wx tbk [] trivial ?_
    rcases bft ((p0.Kind != 5)) with hc5 | hc5
    ·replace h := Qa2 hc5 h
     refine wft hc5 (by kernel_rfl) ?_
     refine wx tbk [(2, rp [(.tmp 51, (Qp8 p0))] (I ((p0.Weights.length : Int))))] ⟨alm (c := Qam) (l := p0.Weights) (aln rfl Try.underlying27 rfl), trivial⟩ ?_
     refine Qad ?_
     refine Qaj ?_
     obtain rfl := osi h
     exact fend ⟨[(B (((p0.Weights.length : Int) == 0)))], ⟨rot (by kernel_rfl), trivial⟩, rfl⟩ nll
    ·replace h := Qa3 hc5 h
     refine wfn hc5 (by kernel_rfl) ?_
     refine Qar ?_
     refine thn ?_
     obtain ⟨x7, hf6, h⟩ := bno h
     rcases bft (x7) with hb8 | hb8
     ·replace h := Qa2 hb8 h
      obtain ⟨x10, hf9, h⟩ := bno h
      rcases bft (x10) with hb11 | hb11
      ·replace h := Qa2 hb11 h
       obtain ⟨x13, hf12, h⟩ := bno h
       refine wx tbk [(2, rp [(.tmp 55, (Qp8 p0))] (I ((p0.Weights.length : Int)))), (3, rp [fu 56, (.tmp 56, (I ((p0.Weights.length : Int)))), ci 1, ci 20] (B x7)), (4, rp [(.tmp 57, B x7)] (B true)), (7, rp [(.tmp 58, B true), fu 60, (.tmp 60, (Qp8 p0)), fu 81] (B x10)), (9, rp [(.tmp 62, B x10)] (B true)), (12, rp [(.tmp 63, B true), fu 66, (.tmp 65, (Qp8 p0)), fu 82] (B x13))] ⟨alm (c := Qam) (l := p0.Weights) (aln rfl Try.underlying27 rfl), apc (first := []) (cap := []) (vs := [(I ((p0.Weights.length : Int))), I 1, I 20]) rfl Qfx (Qbl N (p0.Weights.length : Int) 1 20 _ hf6) rfl rfl (nlc nll (nlc nll (nlc nll nl0))) nll rfl, asb hb8 (amv rfl), ag_ (Qao (first := []) (cap := []) (vs := [(Qp8 p0), (.fn (.func 81) [] [])]) (σr := []) (σr' := []) (res' := (B x10)) [] rfl Qx1 (Qj3 N p0.Weights _ hf9) rfl (Qbr (rnc (.plain _ (nld Qaf _)) (rnc (.plain _ (NLt.fn _ _ _ nl0 nl0)) rn0))) Qan Qan (.plain _ nll) rfl rfl rfl), asb hb11 (amv rfl), ag_ (Qao (first := []) (cap := []) (vs := [(Qp8 p0), (.fn (.func 82) [] [])]) (σr := []) (σr' := []) (res' := (B x13)) [] rfl Qov (Qhq N p0.Weights _ hf12) rfl (Qbr (rnc (.plain _ (nld Qaf _)) (rnc (.plain _ (NLt.fn _ _ _ nl0 nl0)) rn0))) Qan Qan (.plain _ nll) rfl rfl rfl), trivial⟩ ?_
       refine Qad ?_
       obtain rfl := osi h
       exact fend ⟨[B x13], ⟨rot (by kernel_rfl), trivial⟩, rfl⟩ nll
      ·replace h := Qa3 hb11 h
       refine wx tbk [(2, rp [(.tmp 55, (Qp8 p0))] (I ((p0.Weights.length : Int)))), (3, rp [fu 56, (.tmp 56, (I ((p0.Weights.length : Int)))), ci 1, ci 20] (B x7)), (4, rp [(.tmp 57, B x7)] (B true)), (7, rp [(.tmp 58, B true), fu 60, (.tmp 60, (Qp8 p0)), fu 81] (B x10)), (9, rp [(.tmp 62, B x10)] (B false))] ⟨alm (c := Qam) (l := p0.Weights) (aln rfl Try.underlying27 rfl), apc (first := []) (cap := []) (vs := [(I ((p0.Weights.length : Int))), I 1, I 20]) rfl Qfx (Qbl N (p0.Weights.length : Int) 1 20 _ hf6) rfl rfl (nlc nll (nlc nll (nlc nll nl0))) nll rfl, asb hb8 (amv rfl), ag_ (Qao (first := []) (cap := []) (vs := [(Qp8 p0), (.fn (.func 81) [] [])]) (σr := []) (σr' := []) (res' := (B x10)) [] rfl Qx1 (Qj3 N p0.Weights _ hf9) rfl (Qbr (rnc (.plain _ (nld Qaf _)) (rnc (.plain _ (NLt.fn _ _ _ nl0 nl0)) rn0))) Qan Qan (.plain _ nll) rfl rfl rfl), asb hb11 (amv rfl), trivial⟩ ?_
       refine Qad ?_
       obtain rfl := osi h
       exact fend ⟨[B false], ⟨rot (by kernel_rfl), trivial⟩, rfl⟩ nll
     ·replace h := Qa3 hb8 h
      refine wx tbk [(2, rp [(.tmp 55, (Qp8 p0))] (I ((p0.Weights.length : Int)))), (3, rp [fu 56, (.tmp 56, (I ((p0.Weights.length : Int)))), ci 1, ci 20] (B x7)), (4, rp [(.tmp 57, B x7)] (B false))] ⟨alm (c := Qam) (l := p0.Weights) (aln rfl Try.underlying27 rfl), apc (first := []) (cap := []) (vs := [(I ((p0.Weights.length : Int))), I 1, I 20]) rfl Qfx (Qbl N (p0.Weights.length : Int) 1 20 _ hf6) rfl rfl (nlc nll (nlc nll (nlc nll nl0))) nll rfl, asb hb8 (amv rfl), trivial⟩ ?_
      refine Qad ?_
      obtain rfl := osi h
      exact fend ⟨[B false], ⟨rot (by kernel_rfl), trivial⟩, rfl⟩ nll
   ·skip
    rcases bft (((p0.From.length : Int) != y1)) with hb14 | hb14
    ·replace h := Qa2 hb14 h
     refine wx tbk [(2, rp [(.tmp 24, (Q1t p0))] (I ((p0.From.length : Int)))), (5, rp [(.tmp 27, (B (((p0.From.length : Int) != y1))))] (B true))] ⟨alm (c := Qa7) (l := p0.From) (aln rfl Try.underlying53 rfl), asb hb14 (amv rfl), trivial⟩ ?_
     refine Qbq (by kernel_rfl) ?_
     refine wx tbk [] trivial ?_
     refine Qad ?_
     refine Qaj ?_
     obtain rfl := osi h
     exact fend ⟨[B false], ⟨rot (by kernel_rfl), trivial⟩, rfl⟩ nll
    ·replace h := Qa3 hb14 h
     obtain ⟨x16, hf15, h⟩ := bno h
     rcases bft ((!x16)) with hb17 | hb17
     ·replace h := Qa2 hb17 h
      refine wx tbk [(2, rp [(.tmp 24, (Q1t p0))] (I ((p0.From.length : Int)))), (5, rp [(.tmp 27, (B (((p0.From.length : Int) != y1))))] (B false)), (9, rp [(.tmp 28, B false), fu 56, (.tmp 30, I p0.Amount), ci 0, (.tmp 31, I y2)] (B x16)), (12, rp [(.tmp 34, (B ((!x16))))] (B true))] ⟨alm (c := Qa7) (l := p0.From) (aln rfl Try.underlying53 rfl), asb hb14 (amv rfl), ag_ (apc (first := []) (cap := []) (vs := [I p0.Amount, I 0, I y2]) rfl Qfx (Qbl N p0.Amount 0 y2 _ hf15) rfl rfl (nlc nll (nlc nll (nlc nll nl0))) nll rfl), asb hb17 (amv rfl), trivial⟩ ?_
      refine Qbq (by kernel_rfl) ?_
      refine wx tbk [] trivial ?_
      refine Qad ?_
      refine Qaj ?_
      obtain rfl := osi h
      exact fend ⟨[B false], ⟨rot (by kernel_rfl), trivial⟩, rfl⟩ nll
     ·replace h := Qa3 hb17 h
      obtain ⟨x19, hf18, h⟩ := bno h
      rcases bft ((!x19)) with hb20 | hb20
      ·replace h := Qa2 hb20 h
       refine wx tbk [(2, rp [(.tmp 24, (Q1t p0))] (I ((p0.From.length : Int)))), (5, rp [(.tmp 27, (B (((p0.From.length : Int) != y1))))] (B false)), (9, rp [(.tmp 28, B false), fu 56, (.tmp 30, I p0.Amount), ci 0, (.tmp 31, I y2)] (B x16)), (12, rp [(.tmp 34, (B ((!x16))))] (B false)), (15, rp [(.tmp 35, B false), fu 56, (.tmp 37, I p0.Wide), ci 0, ci 1000000] (B x19)), (18, rp [(.tmp 40, (B ((!x19))))] (B true))] ⟨alm (c := Qa7) (l := p0.From) (aln rfl Try.underlying53 rfl), asb hb14 (amv rfl), ag_ (apc (first := []) (cap := []) (vs := [I p0.Amount, I 0, I y2]) rfl Qfx (Qbl N p0.Amount 0 y2 _ hf15) rfl rfl (nlc nll (nlc nll (nlc nll nl0))) nll rfl), asb hb17 (amv rfl), ag_ (apc (first := []) (cap := []) (vs := [I p0.Wide, I 0, I 1000000]) rfl Qfx (Qbl N p0.Wide 0 1000000 _ hf18) rfl rfl (nlc nll (nlc nll (nlc nll nl0))) nll rfl), asb hb20 (amv rfl), trivial⟩ ?_
       refine Qbq (by kernel_rfl) ?_
       refine wx tbk [] trivial ?_
       refine Qad ?_
       refine Qaj ?_
       obtain rfl := osi h
       exact fend ⟨[B false], ⟨rot (by kernel_rfl), trivial⟩, rfl⟩ nll
      ·replace h := Qa3 hb20 h
       obtain ⟨x22, hf21, h⟩ := bno h
       refine wx tbk [(2, rp [(.tmp 24, (Q1t p0))] (I ((p0.From.length : Int)))), (5, rp [(.tmp 27, (B (((p0.From.length : Int) != y1))))] (B false)), (9, rp [(.tmp 28, B false), fu 56, (.tmp 30, I p0.Amount), ci 0, (.tmp 31, I y2)] (B x16)), (12, rp [(.tmp 34, (B ((!x16))))] (B false)), (15, rp [(.tmp 35, B false), fu 56, (.tmp 37, I p0.Wide), ci 0, ci 1000000] (B x19)), (18, rp [(.tmp 40, (B ((!x19))))] (B false)), (21, rp [(.tmp 41, B false), fu 56, (.tmp 43, I p0.Narrow), ci 1, ci 1000000000] (B x22))] ⟨alm (c := Qa7) (l := p0.From) (aln rfl Try.underlying53 rfl), asb hb14 (amv rfl), ag_ (apc (first := []) (cap := []) (vs := [I p0.Amount, I 0, I y2]) rfl Qfx (Qbl N p0.Amount 0 y2 _ hf15) rfl rfl (nlc nll (nlc nll (nlc nll nl0))) nll rfl), asb hb17 (amv rfl), ag_ (apc (first := []) (cap := []) (vs := [I p0.Wide, I 0, I 1000000]) rfl Qfx (Qbl N p0.Wide 0 1000000 _ hf18) rfl rfl (nlc nll (nlc nll (nlc nll nl0))) nll rfl), asb hb20 (amv rfl), ag_ (apc (first := []) (cap := []) (vs := [I p0.Narrow, I 1, I 1000000000]) rfl Qfx (Qbl N p0.Narrow 1 1000000000 _ hf21) rfl rfl (nlc nll (nlc nll (nlc nll nl0))) nll rfl), trivial⟩ ?_
       rcases bft ((!x22)) with hc23 | hc23
       ·replace h := Qa2 hc23 h
        refine wft hc23 (by kernel_rfl) ?_
        refine wx tbk [] trivial ?_
        refine Qad ?_
        refine Qaj ?_
        obtain rfl := osi h
        exact fend ⟨[B false], ⟨rot (by kernel_rfl), trivial⟩, rfl⟩ nll
       ·replace h := Qa3 hc23 h
        refine wfn hc23 (by kernel_rfl) ?_
        refine Qar ?_
        refine thn ?_
        exact ⟨(), h, (mto (n := 68) [(1, .ref 0 7 0 0)] [0] [(Qs6 p0)] hφ0 (pc (.rn (rqr rfl)) pn) (qc (spb (lc rwl (lc (.rn (.plain _ (nld Qcp _))) (lc rwl (lc rwl (lc rwl (lc rwl (lc (.rn (.plain _ (nld Qaf _))) ln)))))))) qn))⟩
  ·skip
   refine wx tbk [] trivial ?_
   refine Qaq ?_
   refine wx tbk [] trivial ?_
   rcases bft ((p0.Kind == 1)) with hc24 | hc24
   ·replace h := Qa2 hc24 h
    refine wft hc24 (by kernel_rfl) ?_
    refine wx1 tbk [] trivial ?_
    refine bln ?_
    refine thn ?_
    exact ⟨(0, 0), h, (mto (n := 68) [(1, .ref 0 7 0 0), (3, I 0), (4, I 0)] [0] [(Qs6 p0)] hφ0 (pc (.rn (rqr rfl)) (pc rwl (pc rwl pn))) (qc (spb (lc rwl (lc (.rn (.plain _ (nld Qcp _))) (lc rwl (lc rwl (lc rwl (lc rwl (lc (.rn (.plain _ (nld Qaf _))) ln)))))))) qn))⟩
   ·replace h := Qa3 hc24 h
    refine wfn hc24 (by kernel_rfl) ?_
    refine wx tbk [] trivial ?_
    rcases bft ((p0.Kind == 2)) with hc25 | hc25
    ·replace h := Qa2 hc25 h
     refine wft hc25 (by kernel_rfl) ?_
     obtain ⟨x26, hl27, h⟩ := bno h
     obtain ⟨x28, hl29, h⟩ := bno h
     refine wx1 tbk [(2, rp [(.tmp 12, (Q1t p0))] (I ((p0.From.length : Int)))), (3, rp [(.tmp 13, (I ((p0.From.length : Int)))), ci 6] (I x26)), (4, rp [ci 1, (.tmp 14, I x26)] (I ((if x26 > 1 then x26 else 1)))), (5, rp [(.tmp 15, (I ((if x26 > 1 then x26 else 1))))] (I x28))] ⟨alm (c := Qa7) (l := p0.From) (aln rfl Try.underlying53 rfl), Qjw hl27 (Qrk rfl), Qn5 rfl, Qjw hl29 (aas rfl), trivial⟩ ?_
     refine bln ?_
     refine thn ?_
     exact ⟨(x28, 0), h, (mto (n := 68) [(1, .ref 0 7 0 0), (3, I x28), (4, I 0)] [0] [(Qs6 p0)] hφ0 (pc (.rn (rqr rfl)) (pc rwl (pc rwl pn))) (qc (spb (lc rwl (lc (.rn (.plain _ (nld Qcp _))) (lc rwl (lc rwl (lc rwl (lc rwl (lc (.rn (.plain _ (nld Qaf _))) ln)))))))) qn))⟩
    ·replace h := Qa3 hc25 h
     refine wfn hc25 (by kernel_rfl) ?_
     refine wx tbk [] trivial ?_
     rcases bft ((p0.Kind == 3)) with hc30 | hc30
     ·replace h := Qa2 hc30 h
      refine wft hc30 (by kernel_rfl) ?_
      refine wx1 tbk [] trivial ?_
      refine bln ?_
      refine thn ?_
      exact ⟨(1, 1000000000), h, (mto (n := 68) [(1, .ref 0 7 0 0), (3, I 1), (4, I 1000000000)] [0] [(Qs6 p0)] hφ0 (pc (.rn (rqr rfl)) (pc rwl (pc rwl pn))) (qc (spb (lc rwl (lc (.rn (.plain _ (nld Qcp _))) (lc rwl (lc rwl (lc rwl (lc rwl (lc (.rn (.plain _ (nld Qaf _))) ln)))))))) qn))⟩
     ·replace h := Qa3 hc30 h
      refine wfn hc30 (by kernel_rfl) ?_
      refine wx tbk [] trivial ?_
      rcases bft ((p0.Kind == 4)) with hc31 | hc31
      ·replace h := Qa2 hc31 h
       refine wft hc31 (by kernel_rfl) ?_
       refine wx1 tbk [] trivial ?_
       refine bln ?_
       refine thn ?_
       exact ⟨(1, 1000), h, (mto (n := 68) [(1, .ref 0 7 0 0), (3, I 1), (4, I 1000)] [0] [(Qs6 p0)] hφ0 (pc (.rn (rqr rfl)) (pc rwl (pc rwl pn))) (qc (spb (lc rwl (lc (.rn (.plain _ (nld Qcp _))) (lc rwl (lc rwl (lc rwl (lc rwl (lc (.rn (.plain _ (nld Qaf _))) ln)))))))) qn))⟩
      ·replace h := Qa3 hc31 h
       refine wfn hc31 (by kernel_rfl) ?_
       refine wsq ?_
       refine wx tbk [] trivial ?_
       rcases bft ((p0.Kind == 5)) with hc32 | hc32
       ·replace h := Qa2 hc32 h
        refine wft hc32 (by kernel_rfl) ?_
        refine Qar ?_
        refine thn ?_
        refine wft hc32 (by kernel_rfl) ?_
        refine Qar ?_
        refine bln ?_
        refine thn ?_
        exact ⟨(1, 0), h, (mto (n := 68) [(1, .ref 0 7 0 0), (3, I 1), (4, I 0)] [0] [(Qs6 p0)] hφ0 (pc (.rn (rqr rfl)) (pc rwl (pc rwl pn))) (qc (spb (lc rwl (lc (.rn (.plain _ (nld Qcp _))) (lc rwl (lc rwl (lc rwl (lc rwl (lc (.rn (.plain _ (nld Qaf _))) ln)))))))) qn))⟩
       ·replace h := Qa3 hc32 h
        refine wfn hc32 (by kernel_rfl) ?_
        refine wx1 tbk [] trivial ?_
        refine thn ?_
        rcases bft ((p0.Kind == 6)) with hc33 | hc33
        ·replace h := Qa2 hc33 h
         refine wft hc33 (by kernel_rfl) ?_
         refine Qar ?_
         refine bln ?_
         refine thn ?_
         exact ⟨(1, 0), h, (mto (n := 68) [(1, .ref 0 7 0 0), (3, I 1), (4, I 0)] [0] [(Qs6 p0)] hφ0 (pc (.rn (rqr rfl)) (pc rwl (pc rwl pn))) (qc (spb (lc rwl (lc (.rn (.plain _ (nld Qcp _))) (lc rwl (lc rwl (lc rwl (lc rwl (lc (.rn (.plain _ (nld Qaf _))) ln)))))))) qn))⟩
        ·replace h := Qa3 hc33 h
         refine wfn hc33 (by kernel_rfl) ?_
         refine wx tbk [] trivial ?_
         refine Qad ?_
         refine Qaw ?_
         refine Qaj ?_
         obtain rfl := osi h
         exact fend ⟨[B false], ⟨rot (by kernel_rfl), trivial⟩, rfl⟩ nll
def Qeb (N : Nat) (p0 : GElement) : Option Bool :=
  (Qfd N p0).bind fun x3 =>
  some (!x3)
def Zco (p0 : GElement) : AV := .agg [(K .u8 (p0.Kind)), (.dat 2 ((p0.From : List GPort).map Qa7)), (I (p0.Level)), (I (p0.Amount)), (I (p0.Wide)), (I (p0.Narrow)), (.dat 1 ((p0.Weights : List Int).map Qam))]
def Q8g : Slot := .own 1 [[(.fn (.func 58) [] [])]]
theorem Qi1 (N : Nat) (p0 : GElement) (r : Bool) (h : Qeb N p0 = some r) : Spec Try.prog 80 [(Zco p0), (.ref 0 1 (0) 0)] [Q8g] (B (r)) [Q8g] := by
  refine Qag Try.func80 rfl 1 (nle rfl) (fun X φ0 w0 hφ0 hd0 => ?_)
  unfold Qeb at h
  refine Qbs ?_
  refine wx tbk [] trivial ?_
  obtain ⟨x3, hf2, h⟩ := bno h
  refine wx tbk [(2, rp [(.tmp 4, (.fn (.func 58) [] [])), (.tmp 5, (Zco p0))] (B x3))] ⟨apc (first := []) (cap := []) (vs := [(Zco p0)]) rfl Zer (Qlh N p0 _ hf2) rfl rfl (nlc (NLt.agg _ (nlc nll (nlc (nld Qcp _) (nlc nll (nlc nll (nlc nll (nlc nll (nlc (nld Qaf _) nl0)))))))) nl0) nll rfl, trivial⟩ ?_
  refine wmr (mto (n := 8) (l' := [(3, (B ((!x3))))]) (own' := [Q8g]) [(3, (B ((!x3))))] [0] [Q8g] hφ0 (pc rwl pn) (qc (spb (lc (.rn (Qbe rn0 rn0)) ln)) qn)) ?_
  refine Qad ?_
  obtain rfl := osi h
  exact ⟨_, Mor.rfl, Qcx (vs := [(B ((!x3)))]) ⟨rot (by kernel_rfl), trivial⟩ rfl (NLt.of0 nll) (by kernel_rfl) (Qak (Qa6 (nlc (NLt.of0 (NLt.fn _ _ _ nl0 nl0)) nl0)) Qbo)⟩
def Qay (N : Nat) (p0 : (List GElement)) (k2 : Unit → Option Int) : Nat → Int → Option Int
  | 0, _ => none
  | n5 + 1, y3 =>
    bif (decide (y3 < (p0.length : Int))) then
     (getI p0 y3).bind fun x7 =>
     (Qeb N x7).bind fun x12 =>
     bif x12 then
      some y3
     else
      Qay N p0 k2 n5 (w64 (y3 + 1))
    else
     k2 ()
def Qb2 (N : Nat) (p0 : (List GElement)) : Option Int :=
  Qcv (fun _ =>
    some (-1)) fun k2 : Unit → Option Int =>
  Qay N p0 k2 N 0
def Qwu (p0 : (List GElement)) : AV := .dat 7 ((p0 : List GElement).map Qah)
def Q1u : AV := .fn (.func 80) [] [(.ref 0 1 (0) 0)]
def Qmd : Slot := .own 1 [[(.fn (.func 58) [] [])]]
def Zah (x7 : GElement) : AV := .agg [(K .u8 (x7.Kind)), (.dat 2 ((x7.From : List GPort).map Qa7)), (I (x7.Level)), (I (x7.Amount)), (I (x7.Wide)), (I (x7.Narrow)), (.dat 1 ((x7.Weights : List Int).map Qam))]
theorem Qfr (N : Nat) (p0 : (List GElement)) (r : Int) (h : Qb2 N p0 = some r) : Spec Try.prog 93 [(Qwu p0), Q1u] [Qmd] (I (r)) [Qmd] := by
  refine Qag Try.func93 rfl 1 (nle rfl) (fun X φ0 w0 hφ0 hd0 => ?_)
  unfold Qb2 at h
  refine Qbs ?_
  refine wx tbk [] trivial ?_
  obtain ⟨k2, hk_k2, h⟩ := jko h
  refine wjn (τ := Unit) (fun t => k2 t = some r) (fun _ => ⟨mk 19 [], [Qmd]⟩) (fun t h => ?_) ?_
  ·subst hk_k2
   refine wx tbk [] trivial ?_
   refine wmr (mto (n := 19) (l' := [(4, (I ((-1))))]) (own' := [Qmd]) [(4, (I ((-1))))] [0] [Qmd] hφ0 (pc rwl pn) (qc (spb (lc (.rn (Qbe rn0 rn0)) ln)) qn)) ?_
   refine Qad ?_
   obtain rfl := osi h
   exact ⟨_, Mor.rfl, Qcx (vs := [(I ((-1)))]) ⟨rot (by kernel_rfl), trivial⟩ rfl (NLt.of0 nll) (by kernel_rfl) (Qak (Qa6 (nlc (NLt.of0 (NLt.fn _ _ _ nl0 nl0)) nl0)) Qbo)⟩
  ·skip
   refine wx tbk [(1, rp [(.tmp 6, (Qwu p0))] (I ((p0.length : Int))))] ⟨alm (c := Qah) (l := p0) (aln rfl Try.underlying40 rfl), trivial⟩ ?_
   refine Qaq ?_
   refine wmr (mto (n := 19) (l' := [(0, (Qwu p0)), (1, Q1u), (7, (I ((p0.length : Int)))), (8, I 0)]) (own' := [Qmd]) [(0, (Qwu p0)), (1, Q1u), (7, (I ((p0.length : Int)))), (8, I 0)] [0] [Qmd] hφ0 (pc (.rn (.plain _ (nld Qac _))) (pc (.rn (Qbe rn0 (rnc (rqr rfl) rn0))) (pc rwl (pc rwl pn)))) (qc (spb (lc (.rn (Qbe rn0 rn0)) ln)) qn)) ?_
   refine Qc9 (τ := Int) (fun n t => Qay N p0 k2 n t = some r) (fun y3 => ⟨mk 19 [(0, (Qwu p0)), (1, Q1u), (7, (I ((p0.length : Int)))), (8, I y3)], [Qmd]⟩) (fun t h => by rw [Qay] at h; cases h) (fun n5 ih y3 h => ?_) N (0) h
   rw [Qay] at h
   skip
   refine wx tbk [] trivial ?_
   refine wsq ?_
   rcases bft ((decide (y3 < (p0.length : Int)))) with hc6 | hc6
   ·replace h := Qa2 hc6 h
    refine wft hc6 (by kernel_rfl) ?_
    refine Qar ?_
    refine thn ?_
    refine wsq ?_
    refine Qaq ?_
    refine wx tbk [] trivial ?_
    obtain ⟨x7, hg8, h⟩ := bno h
    obtain ⟨hi9, hj10⟩ := gsm hg8
    obtain ⟨x12, hf11, h⟩ := bno h
    refine wx tbk [(3, rp [(.tmp 12, (Qwu p0)), (.tmp 13, I y3)] (.dptr (Qah (x7)) 0)), (5, ⟨[(.tmp 11, Q1u), (.tmp 15, (Zah x7))], [(0, Qmd)], B x12, [(0, Qmd)], false⟩)] ⟨aid rfl Try.underlying40 ti76 rfl rfl hi9 (mgt Qah hj10) rfl, Qao (first := []) (cap := [.ref 0 1 0 0]) (vs := [(Zah x7)]) (σr := [Qmd]) (σr' := [Qmd]) (res' := (B x12)) [0] rfl Zeb (Qi1 N x7 _ hf11) rfl (Qbr (rnc (.plain _ (NLt.agg _ (nlc nll (nlc (nld Qcp _) (nlc nll (nlc nll (nlc nll (nlc nll (nlc (nld Qaf _) nl0))))))))) (rnc (Qbb rfl) rn0))) (slc (Qal (rnc (.plain _ (NLt.fn _ _ _ nl0 nl0)) rn0)) Qan) (slc (Qal (rnc (.plain _ (NLt.fn _ _ _ nl0 nl0)) rn0)) Qan) (.plain _ nll) rfl rfl rfl, trivial⟩ ?_
    rcases bft (x12) with hc13 | hc13
    ·replace h := Qa2 hc13 h
     refine wft hc13 (by kernel_rfl) ?_
     refine wx tbk [] trivial ?_
     refine wmr (mto (n := 19) (l' := [(4, I y3)]) (own' := [Qmd]) [(4, I y3)] [0] [Qmd] hφ0 (pc rwl pn) (qc (spb (lc (.rn (Qbe rn0 rn0)) ln)) qn)) ?_
     refine Qad ?_
     refine Qaw ?_
     refine Qaj ?_
     refine Qaj ?_
     refine Qaw ?_
     refine Qaj ?_
     obtain rfl := osi h
     exact ⟨_, Mor.rfl, Qcx (vs := [I y3]) ⟨rot (by kernel_rfl), trivial⟩ rfl (NLt.of0 nll) (by kernel_rfl) (Qak (Qa6 (nlc (NLt.of0 (NLt.fn _ _ _ nl0 nl0)) nl0)) Qbo)⟩
    ·replace h := Qa3 hc13 h
     refine wfn hc13 (by kernel_rfl) ?_
     refine Qar ?_
     refine bln ?_
     refine thn ?_
     refine wx1 tbk [] trivial ?_
     refine thn ?_
     exact arm (mto (n := 19) [(0, (Qwu p0)), (1, Q1u), (7, (I ((p0.length : Int)))), (8, (I (w64 (y3 + 1))))] [0] [Qmd] hφ0 (pc (.rn (.plain _ (nld Qac _))) (pc (.rn (Qbe rn0 (rnc (rqr rfl) rn0))) (pc rwl (pc rwl pn)))) (qc (spb (lc (.rn (Qbe rn0 rn0)) ln)) qn)) (ih (w64 (y3 + 1)) h)
   ·replace h := Qa3 hc6 h
    refine wfn hc6 (by kernel_rfl) ?_
    refine Qcf ?_
    refine Qa8 ?_
    refine Qa8 ?_
    refine Qce rfl ?_
    refine thn ?_
    exact ⟨(), h, (mto (n := 19) [] [0] [Qmd] hφ0 pn (qc (spb (lc (.rn (Qbe rn0 rn0)) ln)) qn))⟩
def Qbj (N : Nat) (p0 : (List GElement)) : Option Bool :=
  (Qb2 N p0).bind fun x3 =>
  some (decide (x3 ≥ 0))
def Zcq (p0 : (List GElement)) : AV := .dat 7 ((p0 : List GElement).map Qah)
def Zcp : AV := .fn (.func 80) [] [(.ref 0 1 (0) 0)]
def Qur : Slot := .own 1 [[(.fn (.func 58) [] [])]]
theorem Qe9 (N : Nat) (p0 : (List GElement)) (r : Bool) (h : Qbj N p0 = some r) : Spec Try.prog 79 [(Zcq p0), Zcp] [Qur] (B (r)) [Qur] := by
  refine Qag Try.func79 rfl 1 (nle rfl) (fun X φ0 w0 hφ0 hd0 => ?_)
  unfold Qbj at h
  refine Qbs ?_
  refine wx tbk [] trivial ?_
  obtain ⟨x3, hf2, h⟩ := bno h
  refine wx tbk [(2, ⟨[fu 93, (.tmp 5, (Zcq p0)), (.tmp 6, Zcp)], [(0, Qur)], I x3, [(0, Qur)], false⟩)] ⟨Qao (first := []) (cap := []) (vs := [(Zcq p0), Zcp]) (σr := [Qur]) (σr' := [Qur]) (res' := (I x3)) [0] rfl Zd2 (Qfr N p0 _ hf2) rfl (Qbr (rnc (.plain _ (nld Qac _)) (rnc (Qbe rn0 (rnc (Qbb rfl) rn0)) rn0))) (slc (Qal (rnc (.plain _ (NLt.fn _ _ _ nl0 nl0)) rn0)) Qan) (slc (Qal (rnc (.plain _ (NLt.fn _ _ _ nl0 nl0)) rn0)) Qan) (.plain _ nll) rfl rfl rfl, trivial⟩ ?_
  refine wmr (mto (n := 9) (l' := [(4, (B ((decide (x3 ≥ 0)))))]) (own' := [Qur]) [(4, (B ((decide (x3 ≥ 0)))))] [0] [Qur] hφ0 (pc rwl pn) (qc (spb (lc (.rn (Qbe rn0 rn0)) ln)) qn)) ?_
  refine Qad ?_
  obtain rfl := osi h
  exact ⟨_, Mor.rfl, Qcx (vs := [(B ((decide (x3 ≥ 0))))]) ⟨rot (by kernel_rfl), trivial⟩ rfl (NLt.of0 nll) (by kernel_rfl) (Qak (Qa6 (nlc (NLt.of0 (NLt.fn _ _ _ nl0 nl0)) nl0)) Qbo)⟩
def Qdr (N : Nat) (p0 : (List GElement)) : Option Bool :=
  (Qbj N p0).bind fun x2 =>
  some (!x2)
def Zcs (p0 : (List GElement)) : AV := .dat 7 ((p0 : List GElement).map Qah)
def Zcr : AV := .fn (.func 80) [] [(.ref 0 1 (0) 0)]
def Q8h : Slot := .own 1 [[(.fn (.func 58) [] [])]]
theorem Qjq (N : Nat) (p0 : (List GElement)) (r : Bool) (h : Qdr N p0 = some r) : Spec Try.prog 57 [(Zcs p0), (.fn (.func 58) [] [])] [] (B (r)) [] := by
  refine Qag Try.func57 rfl 0 (nle rfl) (fun X φ0 w0 hφ0 hd0 => ?_)
  unfold Qdr at h
  refine wx tbk [] trivial ?_
  obtain ⟨x2, hf1, h⟩ := bno h
  refine wx tbk [(1, rp [(.tmp 3, .ref 0 1 0 0)] Zcr), (2, ⟨[fu 79, (.tmp 5, (Zcs p0)), (.tmp 6, Zcr)], [(0, Q8h)], B x2, [(0, Q8h)], false⟩)] ⟨Qej (fs := []) (cs := [.ref 0 1 0 0]) rfl rfl rfl rfl, Qao (first := []) (cap := []) (vs := [(Zcs p0), Zcr]) (σr := [Q8h]) (σr' := [Q8h]) (res' := (B x2)) [0] rfl Zec (Qe9 N p0 _ hf1) rfl (Qbr (rnc (.plain _ (nld Qac _)) (rnc (Qbe rn0 (rnc (Qbb rfl) rn0)) rn0))) (slc (Qal (rnc (.plain _ (NLt.fn _ _ _ nl0 nl0)) rn0)) Qan) (slc (Qal (rnc (.plain _ (NLt.fn _ _ _ nl0 nl0)) rn0)) Qan) (.plain _ nll) rfl rfl rfl, trivial⟩ ?_
  refine Qad ?_
  obtain rfl := osi h
  exact fend ⟨[(B ((!x2)))], ⟨rot (by kernel_rfl), trivial⟩, rfl⟩ nll
def Qds (_N : Nat) (p0 : GElement) : Option Int :=
  bif (p0.Kind == 4) then
   some 2
  else
   bif (p0.Kind == 5) then
    (some (p0.Weights.length : Int)).bind fun x3 =>
    some x3
   else
    some 1
def Zg5 (p0 : GElement) : AV := .dat 1 ((p0.Weights : List Int).map Qam)
theorem Qeu (N : Nat) (p0 : GElement) (r : Int) (h : Qds N p0 = some r) : Spec Try.prog 54 [(.agg (Qah p0))] [] (I r) [] := by
  refine Qag Try.func54 rfl 0 (nle rfl) (fun X φ0 w0 hφ0 hd0 => ?_)
  unfold Qds at h
  refine wx tbk [] trivial ?_
  refine wsq ?_
  refine wx tbk [] trivial ?_
  refine Qaq ?_
  refine wx tbk [] trivial ?_
  rcases bft ((p0.Kind == 4)) with hc1 | hc1
  ·replace h := Qa2 hc1 h
   refine wft hc1 (by kernel_rfl) ?_
   refine wx tbk [] trivial ?_
   refine Qad ?_
   refine Qaw ?_
   refine Qaj ?_
   obtain rfl := osi h
   exact fend ⟨[I 2], ⟨rot (by kernel_rfl), trivial⟩, rfl⟩ nll
  ·replace h := Qa3 hc1 h
   refine wfn hc1 (by kernel_rfl) ?_
   refine wx tbk [] trivial ?_
   rcases bft ((p0.Kind == 5)) with hc2 | hc2
   ·replace h := Qa2 hc2 h
    refine wft hc2 (by kernel_rfl) ?_
    obtain ⟨x3, hl4, h⟩ := bno h
    refine wx tbk [(2, rp [(.tmp 10, (Zg5 p0))] (I ((p0.Weights.length : Int)))), (3, rp [(.tmp 11, (I ((p0.Weights.length : Int))))] (I x3))] ⟨alm (c := Qam) (l := p0.Weights) (aln rfl Try.underlying27 rfl), Qjw hl4 (aas rfl), trivial⟩ ?_
    refine Qad ?_
    refine Qaw ?_
    refine Qaj ?_
    obtain rfl := osi h
    exact fend ⟨[I x3], ⟨rot (by kernel_rfl), trivial⟩, rfl⟩ nll
   ·replace h := Qa3 hc2 h
    refine wfn hc2 (by kernel_rfl) ?_
    refine Qar ?_
    refine bln ?_
    refine thn ?_
    refine wx tbk [] trivial ?_
    refine Qad ?_
    obtain rfl := osi h
    exact fend ⟨[I 1], ⟨rot (by kernel_rfl), trivial⟩, rfl⟩ nll
def Qdc (N : Nat) (p0 : GNet) (y3 : Int) (k10 : (List (Int × Int)) → Option Bool) (x11 : GElement) : Nat → Int → (List (Int × Int)) → Option Bool
  | 0, _, _ => none
  | n22 + 1, y18, y19 =>
    bif (decide (y18 < (x11.From.length : Int))) then
     (getI x11.From y18).bind fun x24 =>
     (Qcs N x24.Element 0 (w64 (y3 - 1))).bind fun x29 =>
     bif (!x29) then
      some false
     else
      (getI p0.Elements x24.Element).bind fun x31 =>
      (Qds N x31).bind fun x36 =>
      (Qcs N x24.Outlet 0 (w64 (x36 - 1))).bind fun x38 =>
      bif (!x38) then
       some false
      else
       bif y19.contains (x24.Element, x24.Outlet) then
        some false
       else
        bif (decide (x11.Level > x31.Level)) then
         some false
        else
         Qdc N p0 y3 k10 x11 n22 (w64 (y18 + 1)) (addQ y19 (x24.Element, x24.Outlet))
    else
     k10 (y19)
def Qc2 (N : Nat) (p0 : GNet) (k2 : Unit → Option Bool) : Nat → Int → (List (Int × Int)) → Option Bool
  | 0, _, _ => none
  | n7 + 1, y3, y4 =>
    bif (decide (y3 < (p0.Elements.length : Int))) then
     Qcv (fun y9 =>
       Qc2 N p0 k2 n7 (w64 (y3 + 1)) y9) fun k10 : (List (Int × Int)) → Option Bool =>
     (getI p0.Elements y3).bind fun x11 =>
     (Qcs N x11.Level 0 (w64 ((p0.Table.length : Int) - 1))).bind fun x16 =>
     bif (!x16) then
      some false
     else
      Qdc N p0 y3 k10 x11 N 0 y4
    else
     k2 ()
def Qgc (N : Nat) (p0 : GNet) : Option Bool :=
  Qcv (fun _ =>
    Qcv (fun _ =>
      some true) fun k2 : Unit → Option Bool =>
    Qc2 N p0 k2 N 0 ([] : List (Int × Int))) fun k1 : Unit → Option Bool =>
  (Qgz N p0.Table).bind fun x43 =>
  bif (x43 != 0) then
   some false
  else
   (Qcs N (p0.Elements.length : Int) 1 16).bind fun x46 =>
   bif (!x46) then
    some false
   else
    (Qdr N p0.Elements).bind fun x49 =>
    bif (!x49) then
     some false
    else
     k1 ()
def z9_0 (p0 : GNet) : AV := .dat 5 ((p0.Table : List GRow).map Qav)
def z9_1 (p0 : GNet) : AV := .dat 7 ((p0.Elements : List GElement).map Qah)
def z9_2 (p0 : GNet) : Slot := .own 2 [[(z9_0 p0), (z9_1 p0)]]
def Qp2 (x11 : GElement) : AV := .dat 2 ((x11.From : List GPort).map Qa7)
def Qyv (x11 : GElement) : Slot := .own 7 [[(K .u8 (x11.Kind)), (Qp2 x11), (I (x11.Level)), (I (x11.Amount)), (I (x11.Wide)), (I (x11.Narrow)), (.dat 1 ((x11.Weights : List Int).map Qam))]]
def Qr3 (x31 : GElement) : AV := .agg [(K .u8 (x31.Kind)), (.dat 2 ((x31.From : List GPort).map Qa7)), (I (x31.Level)), (I (x31.Amount)), (I (x31.Wide)), (I (x31.Narrow)), (.dat 1 ((x31.Weights : List Int).map Qam))]
def Q20 (x24 : GPort) : AV := .agg [(I (x24.Element)), (I (x24.Outlet))]
theorem Qgq (N : Nat) (p0 : GNet) (r : Bool) (h : Qgc N p0 = some r) : Spec Try.prog 32 [(.agg (Qpg p0))] [] (B r) [] := by
  refine Qag Try.func32 rfl 0 (nle rfl) (fun X φ0 w0 hφ0 hd0 => ?_)
  unfold Qgc at h
  refine wx tbk [] trivial ?_
  obtain ⟨k1, hk_k1, h⟩ := jko h
  refine wjn (τ := Unit) (fun t => k1 t = some r) (fun _ => ⟨mk 90 [(1, .ref 0 2 0 0)], [(z9_2 p0)]⟩) (fun t h => ?_) ?_
  ·subst hk_k1
   refine wx tbk [(0, ⟨[], [(1, .unused)], (.mp 1), [(1, (Qde ([] : List (Int × Int))))], false⟩)] ⟨Qph rfl, trivial⟩ ?_
   obtain ⟨k2, hk_k2, h⟩ := jko h
   refine wjn (τ := Unit) (fun t => k2 t = some r) (fun _ => ⟨mk 90 [], []⟩) (fun t h => ?_) ?_
   ·subst hk_k2
    refine wx tbk [] trivial ?_
    refine Qad ?_
    obtain rfl := osi h
    exact fend ⟨[B true], ⟨rot (by kernel_rfl), trivial⟩, rfl⟩ nll
   ·skip
    refine wx tbk [(2, rp [(.tmp 27, (z9_1 p0))] (I ((p0.Elements.length : Int))))] ⟨alm (c := Qah) (l := p0.Elements) (aln rfl Try.underlying40 rfl), trivial⟩ ?_
    refine Qaq ?_
    refine wmr (mto (n := 90) (l' := [(1, .ref 0 2 0 0), (3, (.mp 1)), (27, (z9_1 p0)), (28, (I ((p0.Elements.length : Int)))), (29, I 0)]) (own' := [(z9_2 p0), (Qde ([] : List (Int × Int)))]) [(1, .ref 0 2 0 0), (3, (.mp 1)), (27, (z9_1 p0)), (28, (I ((p0.Elements.length : Int)))), (29, I 0)] [0, 1] [(z9_2 p0), (Qde ([] : List (Int × Int)))] hφ0 (pc (.rn (rqr rfl)) (pc (.rn (Qht rfl)) (pc (.rn (.plain _ (nld Qac _))) (pc rwl (pc rwl pn))))) (qc (spb (lc (.rn (.plain _ (nld Qai _))) (lc (.rn (.plain _ (nld Qac _))) ln))) (qc Qe0 qn))) ?_
    refine Qc9 (τ := Int × (List (Int × Int))) (fun n t => Qc2 N p0 k2 n t.1 t.2 = some r) (fun ⟨y3, y4⟩ => ⟨mk 90 [(1, .ref 0 2 0 0), (3, (.mp 1)), (27, (z9_1 p0)), (28, (I ((p0.Elements.length : Int)))), (29, I y3)], [(z9_2 p0), (Qde y4)]⟩) (fun t h => by rw [Qc2] at h; cases h) (fun n7 ih t h => ?_) N (0, ([] : List (Int × Int))) h
    obtain ⟨y3, y4⟩ := t
    rw [Qc2] at h
    skip
    refine wx tbk [] trivial ?_
    refine wsq ?_
    rcases bft ((decide (y3 < (p0.Elements.length : Int)))) with hc8 | hc8
    ·replace h := Qa2 hc8 h
     refine wft hc8 (by kernel_rfl) ?_
     refine Qar ?_
     refine thn ?_
     obtain ⟨k10, hk_k10, h⟩ := jko h
     refine wjn (τ := (List (Int × Int))) (fun t => k10 t = some r) (fun y9 => ⟨mk 90 [(1, .ref 0 2 0 0), (3, (.mp 1)), (27, (z9_1 p0)), (28, (I ((p0.Elements.length : Int)))), (29, I y3)], [(z9_2 p0), (Qde y9)]⟩) (fun y9 h => ?_) ?_
     ·subst hk_k10
      refine wx1 tbk [] trivial ?_
      refine thn ?_
      exact arm (mto (n := 90) [(1, .ref 0 2 0 0), (3, (.mp 1)), (27, (z9_1 p0)), (28, (I ((p0.Elements.length : Int)))), (29, (I (w64 (y3 + 1))))] [0, 1] [(z9_2 p0), (Qde y9)] hφ0 (pc (.rn (rqr rfl)) (pc (.rn (Qht rfl)) (pc (.rn (.plain _ (nld Qac _))) (pc rwl (pc rwl pn))))) (qc (spb (lc (.rn (.plain _ (nld Qai _))) (lc (.rn (.plain _ (nld Qac _))) ln))) (qc Qe0 qn))) (ih (w64 (y3 + 1), y9) h)
     ·skip
      refine Qaq ?_
      obtain ⟨x11, hg12, h⟩ := bno h
      obtain ⟨hi13, hj14⟩ := gsm hg12
      refine wx tbk [(1, rp [(.tmp 27, (z9_1 p0)), (.tmp 29, I y3)] (.dptr (Qah (x11)) 0))] ⟨aid rfl Try.underlying40 ti76 rfl rfl hi13 (mgt Qah hj14) rfl, trivial⟩ ?_
      refine wsq ?_
      obtain ⟨x16, hf15, h⟩ := bno h
      refine wx tbk [(4, rp [(.tmp 37, (z9_0 p0))] (I ((p0.Table.length : Int)))), (6, rp [fu 56, (.tmp 35, I x11.Level), ci 0, (.tmp 39, (I (w64 ((p0.Table.length : Int) - 1))))] (B x16))] ⟨alm (c := Qav) (l := p0.Table) (aln rfl Try.underlying39 rfl), apc (first := []) (cap := []) (vs := [I x11.Level, I 0, (I (w64 ((p0.Table.length : Int) - 1)))]) rfl Qfx (Qbl N x11.Level 0 (w64 ((p0.Table.length : Int) - 1)) _ hf15) rfl rfl (nlc nll (nlc nll (nlc nll nl0))) nll rfl, trivial⟩ ?_
      rcases bft ((!x16)) with hc17 | hc17
      ·replace h := Qa2 hc17 h
       refine wft hc17 (by kernel_rfl) ?_
       refine wx tbk [] trivial ?_
       refine Qad ?_
       refine Qaj ?_
       refine Qaw ?_
       refine Qaj ?_
       refine Qaj ?_
       refine Qaw ?_
       refine Qaj ?_
       obtain rfl := osi h
       exact fend ⟨[B false], ⟨rot (by kernel_rfl), trivial⟩, rfl⟩ nll
      ·replace h := Qa3 hc17 h
       refine wfn hc17 (by kernel_rfl) ?_
       refine Qar ?_
       refine thn ?_
       refine wx tbk [(2, rp [(.tmp 43, (Qp2 x11))] (I ((x11.From.length : Int))))] ⟨alm (c := Qa7) (l := x11.From) (aln rfl Try.underlying53 rfl), trivial⟩ ?_
       refine Qaq ?_
       refine wmr (mto (n := 90) (l' := [(1, .ref 0 2 0 0), (3, (.mp 1)), (4, I y3), (5, .ref 2 7 0 0), (27, (z9_1 p0)), (28, (I ((p0.Elements.length : Int)))), (29, I y3), (43, (Qp2 x11)), (44, (I ((x11.From.length : Int)))), (45, I 0)]) (own' := [(z9_2 p0), (Qde y4), (Qyv x11)]) [(1, .ref 0 2 0 0), (3, (.mp 1)), (4, I y3), (5, .ref 2 7 0 0), (27, (z9_1 p0)), (28, (I ((p0.Elements.length : Int)))), (29, I y3), (43, (Qp2 x11)), (44, (I ((x11.From.length : Int)))), (45, I 0)] [0, 1, 2] [(z9_2 p0), (Qde y4), (Qyv x11)] hφ0 (pc (.rn (rqr rfl)) (pc (.rn (Qht rfl)) (pc rwl (pc (.rn (rqr rfl)) (pc (.rn (.plain _ (nld Qac _))) (pc rwl (pc rwl (pc (.rn (.plain _ (nld Qcp _))) (pc rwl (pc rwl pn)))))))))) (qc (spb (lc (.rn (.plain _ (nld Qai _))) (lc (.rn (.plain _ (nld Qac _))) ln))) (qc Qe0 (qc (spb (lc rwl (lc (.rn (.plain _ (nld Qcp _))) (lc rwl (lc rwl (lc rwl (lc rwl (lc (.rn (.plain _ (nld Qaf _))) ln)))))))) qn)))) ?_
       refine Qc9 (τ := Int × (List (Int × Int))) (fun n t => Qdc N p0 y3 k10 x11 n t.1 t.2 = some r) (fun ⟨y18, y19⟩ => ⟨mk 90 [(1, .ref 0 2 0 0), (3, (.mp 1)), (4, I y3), (5, .ref 2 7 0 0), (27, (z9_1 p0)), (28, (I ((p0.Elements.length : Int)))), (29, I y3), (43, (Qp2 x11)), (44, (I ((x11.From.length : Int)))), (45, I y18)], [(z9_2 p0), (Qde y19), (Qyv x11)]⟩) (fun t h => by rw [Qdc] at h; cases h) (fun n22 ih t h => ?_) N (0, y4) h
       obtain ⟨y18, y19⟩ := t
       rw [Qdc] at h
       skip
       refine wx tbk [] trivial ?_
       refine wsq ?_
       rcases bft ((decide (y18 < (x11.From.length : Int)))) with hc23 | hc23
       ·replace h := Qa2 hc23 h
        refine wft hc23 (by kernel_rfl) ?_
        refine Qar ?_
        refine thn ?_
        refine wsq ?_
        refine Qaq ?_
        obtain ⟨x24, hg25, h⟩ := bno h
        obtain ⟨hi26, hj27⟩ := gsm hg25
        refine wx tbk [(0, rp [(.tmp 43, (Qp2 x11)), (.tmp 45, I y18)] (.dptr (Qa7 (x24)) 0))] ⟨aid rfl Try.underlying53 ti57 rfl rfl hi26 (mgt Qa7 hj27) rfl, trivial⟩ ?_
        refine wsq ?_
        obtain ⟨x29, hf28, h⟩ := bno h
        rcases bft ((!x29)) with hb30 | hb30
        ·replace h := Qa2 hb30 h
         refine wxd tbk [(4, rp [fu 56, (.tmp 50, I x24.Element), ci 0, (.tmp 52, (I (w64 (y3 - 1))))] (B x29)), (6, rp [(.tmp 54, (B ((!x29))))] (B true))] ⟨apc (first := []) (cap := []) (vs := [I x24.Element, I 0, (I (w64 (y3 - 1)))]) rfl Qfx (Qbl N x24.Element 0 (w64 (y3 - 1)) _ hf28) rfl rfl (nlc nll (nlc nll (nlc nll nl0))) nll rfl, asb hb30 (amv rfl), trivial⟩ ?_
         refine Qbq (by kernel_rfl) ?_
         refine wx tbk [] trivial ?_
         refine Qad ?_
         refine Qaj ?_
         refine Qaw ?_
         refine Qaj ?_
         refine Qaj ?_
         refine Qaw ?_
         refine Qaw ?_
         refine Qaj ?_
         refine Qaj ?_
         refine Qaw ?_
         refine Qaj ?_
         obtain rfl := osi h
         exact fend ⟨[B false], ⟨rot (by kernel_rfl), trivial⟩, rfl⟩ nll
        ·replace h := Qa3 hb30 h
         obtain ⟨x31, hg32, h⟩ := bno h
         obtain ⟨hi33, hj34⟩ := gsm hg32
         obtain ⟨x36, hf35, h⟩ := bno h
         obtain ⟨x38, hf37, h⟩ := bno h
         rcases bft ((!x38)) with hb39 | hb39
         ·replace h := Qa2 hb39 h
          refine wxd tbk [(4, rp [fu 56, (.tmp 50, I x24.Element), ci 0, (.tmp 52, (I (w64 (y3 - 1))))] (B x29)), (6, rp [(.tmp 54, (B ((!x29))))] (B false)), (13, rp [(.tmp 55, B false), (.tmp 59, (z9_1 p0)), (.tmp 61, I x24.Element)] (.dptr (Qah (x31)) 0)), (15, rp [(.tmp 55, B false), fu 54, (.tmp 63, (Qr3 x31))] (I x36)), (17, rp [(.tmp 55, B false), fu 56, (.tmp 57, I x24.Outlet), ci 0, (.tmp 65, (I (w64 (x36 - 1))))] (B x38)), (20, rp [(.tmp 68, (B ((!x38))))] (B true))] ⟨apc (first := []) (cap := []) (vs := [I x24.Element, I 0, (I (w64 (y3 - 1)))]) rfl Qfx (Qbl N x24.Element 0 (w64 (y3 - 1)) _ hf28) rfl rfl (nlc nll (nlc nll (nlc nll nl0))) nll rfl, asb hb30 (amv rfl), ag_ (aid rfl Try.underlying40 ti76 rfl rfl hi33 (mgt Qah hj34) rfl), ag_ (apc (first := []) (cap := []) (vs := [(Qr3 x31)]) rfl Qtw (Qeu N x31 _ hf35) rfl rfl (nlc (NLt.agg _ (nlc nll (nlc (nld Qcp _) (nlc nll (nlc nll (nlc nll (nlc nll (nlc (nld Qaf _) nl0)))))))) nl0) nll rfl), ag_ (apc (first := []) (cap := []) (vs := [I x24.Outlet, I 0, (I (w64 (x36 - 1)))]) rfl Qfx (Qbl N x24.Outlet 0 (w64 (x36 - 1)) _ hf37) rfl rfl (nlc nll (nlc nll (nlc nll nl0))) nll rfl), asb hb39 (amv rfl), trivial⟩ ?_
          refine Qbq (by kernel_rfl) ?_
          refine wx tbk [] trivial ?_
          refine Qad ?_
          refine Qaj ?_
          refine Qaw ?_
          refine Qaj ?_
          refine Qaj ?_
          refine Qaw ?_
          refine Qaw ?_
          refine Qaj ?_
          refine Qaj ?_
          refine Qaw ?_
          refine Qaj ?_
          obtain rfl := osi h
          exact fend ⟨[B false], ⟨rot (by kernel_rfl), trivial⟩, rfl⟩ nll
         ·replace h := Qa3 hb39 h
          rcases bft (y19.contains (x24.Element, x24.Outlet)) with hb40 | hb40
          ·replace h := Qa2 hb40 h
           refine wxd tbk [(4, rp [fu 56, (.tmp 50, I x24.Element), ci 0, (.tmp 52, (I (w64 (y3 - 1))))] (B x29)), (6, rp [(.tmp 54, (B ((!x29))))] (B false)), (13, rp [(.tmp 55, B false), (.tmp 59, (z9_1 p0)), (.tmp 61, I x24.Element)] (.dptr (Qah (x31)) 0)), (15, rp [(.tmp 55, B false), fu 54, (.tmp 63, (Qr3 x31))] (I x36)), (17, rp [(.tmp 55, B false), fu 56, (.tmp 57, I x24.Outlet), ci 0, (.tmp 65, (I (w64 (x36 - 1))))] (B x38)), (20, rp [(.tmp 68, (B ((!x38))))] (B false)), (23, rb [(.tmp 69, B false), (.tmp 70, (.mp 1)), (.tmp 71, (Q20 x24))] [(1, (Qde y19))] (B (y19.contains (x24.Element, x24.Outlet)))), (25, rp [(.tmp 73, (B (y19.contains (x24.Element, x24.Outlet))))] (B true))] ⟨apc (first := []) (cap := []) (vs := [I x24.Element, I 0, (I (w64 (y3 - 1)))]) rfl Qfx (Qbl N x24.Element 0 (w64 (y3 - 1)) _ hf28) rfl rfl (nlc nll (nlc nll (nlc nll nl0))) nll rfl, asb hb30 (amv rfl), ag_ (aid rfl Try.underlying40 ti76 rfl rfl hi33 (mgt Qah hj34) rfl), ag_ (apc (first := []) (cap := []) (vs := [(Qr3 x31)]) rfl Qtw (Qeu N x31 _ hf35) rfl rfl (nlc (NLt.agg _ (nlc nll (nlc (nld Qcp _) (nlc nll (nlc nll (nlc nll (nlc nll (nlc (nld Qaf _) nl0)))))))) nl0) nll rfl), ag_ (apc (first := []) (cap := []) (vs := [I x24.Outlet, I 0, (I (w64 (x36 - 1)))]) rfl Qfx (Qbl N x24.Outlet 0 (w64 (x36 - 1)) _ hf37) rfl rfl (nlc nll (nlc nll (nlc nll nl0))) nll rfl), asb hb39 (amv rfl), ag_ (Qjv rfl Try.underlying122 Try.underlying57 zb4 Qyb Qm9), asb hb40 (amv rfl), trivial⟩ ?_
           refine Qbq (by kernel_rfl) ?_
           refine wx tbk [] trivial ?_
           refine Qad ?_
           refine Qaj ?_
           refine Qaw ?_
           refine Qaj ?_
           refine Qaj ?_
           refine Qaw ?_
           refine Qaw ?_
           refine Qaj ?_
           refine Qaj ?_
           refine Qaw ?_
           refine Qaj ?_
           obtain rfl := osi h
           exact fend ⟨[B false], ⟨rot (by kernel_rfl), trivial⟩, rfl⟩ nll
          ·replace h := Qa3 hb40 h
           refine wxd tbk [(4, rp [fu 56, (.tmp 50, I x24.Element), ci 0, (.tmp 52, (I (w64 (y3 - 1))))] (B x29)), (6, rp [(.tmp 54, (B ((!x29))))] (B false)), (13, rp [(.tmp 55, B false), (.tmp 59, (z9_1 p0)), (.tmp 61, I x24.Element)] (.dptr (Qah (x31)) 0)), (15, rp [(.tmp 55, B false), fu 54, (.tmp 63, (Qr3 x31))] (I x36)), (17, rp [(.tmp 55, B false), fu 56, (.tmp 57, I x24.Outlet), ci 0, (.tmp 65, (I (w64 (x36 - 1))))] (B x38)), (20, rp [(.tmp 68, (B ((!x38))))] (B false)), (23, rb [(.tmp 69, B false), (.tmp 70, (.mp 1)), (.tmp 71, (Q20 x24))] [(1, (Qde y19))] (B (y19.contains (x24.Element, x24.Outlet)))), (25, rp [(.tmp 73, (B (y19.contains (x24.Element, x24.Outlet))))] (B false)), (32, rp [(.tmp 74, B false), (.tmp 78, (z9_1 p0)), (.tmp 80, I x24.Element)] (.dptr (Qah (x31)) 0))] ⟨apc (first := []) (cap := []) (vs := [I x24.Element, I 0, (I (w64 (y3 - 1)))]) rfl Qfx (Qbl N x24.Element 0 (w64 (y3 - 1)) _ hf28) rfl rfl (nlc nll (nlc nll (nlc nll nl0))) nll rfl, asb hb30 (amv rfl), ag_ (aid rfl Try.underlying40 ti76 rfl rfl hi33 (mgt Qah hj34) rfl), ag_ (apc (first := []) (cap := []) (vs := [(Qr3 x31)]) rfl Qtw (Qeu N x31 _ hf35) rfl rfl (nlc (NLt.agg _ (nlc nll (nlc (nld Qcp _) (nlc nll (nlc nll (nlc nll (nlc nll (nlc (nld Qaf _) nl0)))))))) nl0) nll rfl), ag_ (apc (first := []) (cap := []) (vs := [I x24.Outlet, I 0, (I (w64 (x36 - 1)))]) rfl Qfx (Qbl N x24.Outlet 0 (w64 (x36 - 1)) _ hf37) rfl rfl (nlc nll (nlc nll (nlc nll nl0))) nll rfl), asb hb39 (amv rfl), ag_ (Qjv rfl Try.underlying122 Try.underlying57 zb4 Qyb Qm9), asb hb40 (amv rfl), ag_ (aid rfl Try.underlying40 ti76 rfl rfl hi33 (mgt Qah hj34) rfl), trivial⟩ ?_
           rcases bft ((decide (x11.Level > x31.Level))) with hc41 | hc41
           ·replace h := Qa2 hc41 h
            refine wft hc41 (by kernel_rfl) ?_
            refine wx tbk [] trivial ?_
            refine Qad ?_
            refine Qaj ?_
            refine Qaw ?_
            refine Qaj ?_
            refine Qaj ?_
            refine Qaw ?_
            refine Qaw ?_
            refine Qaj ?_
            refine Qaj ?_
            refine Qaw ?_
            refine Qaj ?_
            obtain rfl := osi h
            exact fend ⟨[B false], ⟨rot (by kernel_rfl), trivial⟩, rfl⟩ nll
           ·replace h := Qa3 hc41 h
            refine wfn hc41 (by kernel_rfl) ?_
            refine Qar ?_
            refine thn ?_
            refine wx1 tbk [(2, ⟨[(.tmp 86, (.mp 1)), (.tmp 87, (Q20 x24)), cb true], [(1, (Qde y19))], .any, [(1, (Qde (addQ y19 (x24.Element, x24.Outlet))))], false⟩)] ⟨Qrj rfl Try.underlying122 Try.underlying57 Qyb Qm9, trivial⟩ ?_
            refine bln ?_
            refine thn ?_
            refine wx1 tbk [] trivial ?_
            refine thn ?_
            exact arm (mto (n := 90) [(1, .ref 0 2 0 0), (3, (.mp 1)), (4, I y3), (5, .ref 2 7 0 0), (27, (z9_1 p0)), (28, (I ((p0.Elements.length : Int)))), (29, I y3), (43, (Qp2 x11)), (44, (I ((x11.From.length : Int)))), (45, (I (w64 (y18 + 1))))] [0, 1, 2] [(z9_2 p0), (Qde (addQ y19 (x24.Element, x24.Outlet))), (Qyv x11)] hφ0 (pc (.rn (rqr rfl)) (pc (.rn (Qht rfl)) (pc rwl (pc (.rn (rqr rfl)) (pc (.rn (.plain _ (nld Qac _))) (pc rwl (pc rwl (pc (.rn (.plain _ (nld Qcp _))) (pc rwl (pc rwl pn)))))))))) (qc (spb (lc (.rn (.plain _ (nld Qai _))) (lc (.rn (.plain _ (nld Qac _))) ln))) (qc Qe0 (qc (spb (lc rwl (lc (.rn (.plain _ (nld Qcp _))) (lc rwl (lc rwl (lc rwl (lc rwl (lc (.rn (.plain _ (nld Qaf _))) ln)))))))) qn)))) (ih (w64 (y18 + 1), addQ y19 (x24.Element, x24.Outlet)) h)
       ·replace h := Qa3 hc23 h
        refine wfn hc23 (by kernel_rfl) ?_
        refine Qcf ?_
        refine Qa8 ?_
        refine Qa8 ?_
        refine Qce rfl ?_
        refine bln ?_
        refine thn ?_
        exact ⟨(y19), h, (mto (n := 90) [(1, .ref 0 2 0 0), (3, (.mp 1)), (27, (z9_1 p0)), (28, (I ((p0.Elements.length : Int)))), (29, I y3)] [0, 1] [(z9_2 p0), (Qde y19)] hφ0 (pc (.rn (rqr rfl)) (pc (.rn (Qht rfl)) (pc (.rn (.plain _ (nld Qac _))) (pc rwl (pc rwl pn))))) (qc (spb (lc (.rn (.plain _ (nld Qai _))) (lc (.rn (.plain _ (nld Qac _))) ln))) (qc Qe0 qn)))⟩
    ·replace h := Qa3 hc8 h
     refine wfn hc8 (by kernel_rfl) ?_
     refine Qcf ?_
     refine Qa8 ?_
     refine Qa8 ?_
     refine Qce rfl ?_
     refine thn ?_
     exact ⟨(), h, (mto (n := 90) [] [] [] hφ0 pn qn)⟩
  ·skip
   obtain ⟨x43, hf42, h⟩ := bno h
   rcases bft ((x43 != 0)) with hb44 | hb44
   ·replace h := Qa2 hb44 h
    refine wx tbk [(2, rp [fu 55, (.tmp 9, (z9_0 p0))] (I x43)), (4, rp [(.tmp 11, (B ((x43 != 0))))] (B true))] ⟨apc (first := []) (cap := []) (vs := [(z9_0 p0)]) rfl Qx2 (Qg1 N p0.Table _ hf42) rfl rfl (nlc (nld Qai _) nl0) nll rfl, asb hb44 (amv rfl), trivial⟩ ?_
    refine Qbq (by kernel_rfl) ?_
    refine wx tbk [] trivial ?_
    refine Qad ?_
    refine Qaj ?_
    obtain rfl := osi h
    exact fend ⟨[B false], ⟨rot (by kernel_rfl), trivial⟩, rfl⟩ nll
   ·replace h := Qa3 hb44 h
    obtain ⟨x46, hf45, h⟩ := bno h
    rcases bft ((!x46)) with hb47 | hb47
    ·replace h := Qa2 hb47 h
     refine wx tbk [(2, rp [fu 55, (.tmp 9, (z9_0 p0))] (I x43)), (4, rp [(.tmp 11, (B ((x43 != 0))))] (B false)), (7, rp [(.tmp 12, B false), (.tmp 14, (z9_1 p0))] (I ((p0.Elements.length : Int)))), (8, rp [(.tmp 12, B false), fu 56, (.tmp 15, (I ((p0.Elements.length : Int)))), ci 1, ci 16] (B x46)), (11, rp [(.tmp 18, (B ((!x46))))] (B true))] ⟨apc (first := []) (cap := []) (vs := [(z9_0 p0)]) rfl Qx2 (Qg1 N p0.Table _ hf42) rfl rfl (nlc (nld Qai _) nl0) nll rfl, asb hb44 (amv rfl), ag_ (alm (c := Qah) (l := p0.Elements) (aln rfl Try.underlying40 rfl)), ag_ (apc (first := []) (cap := []) (vs := [(I ((p0.Elements.length : Int))), I 1, I 16]) rfl Qfx (Qbl N (p0.Elements.length : Int) 1 16 _ hf45) rfl rfl (nlc nll (nlc nll (nlc nll nl0))) nll rfl), asb hb47 (amv rfl), trivial⟩ ?_
     refine Qbq (by kernel_rfl) ?_
     refine wx tbk [] trivial ?_
     refine Qad ?_
     refine Qaj ?_
     obtain rfl := osi h
     exact fend ⟨[B false], ⟨rot (by kernel_rfl), trivial⟩, rfl⟩ nll
    ·replace h := Qa3 hb47 h
     obtain ⟨x49, hf48, h⟩ := bno h
     refine wx tbk [(2, rp [fu 55, (.tmp 9, (z9_0 p0))] (I x43)), (4, rp [(.tmp 11, (B ((x43 != 0))))] (B false)), (7, rp [(.tmp 12, B false), (.tmp 14, (z9_1 p0))] (I ((p0.Elements.length : Int)))), (8, rp [(.tmp 12, B false), fu 56, (.tmp 15, (I ((p0.Elements.length : Int)))), ci 1, ci 16] (B x46)), (11, rp [(.tmp 18, (B ((!x46))))] (B false)), (14, rp [(.tmp 19, B false), fu 57, (.tmp 21, (z9_1 p0)), fu 58] (B x49))] ⟨apc (first := []) (cap := []) (vs := [(z9_0 p0)]) rfl Qx2 (Qg1 N p0.Table _ hf42) rfl rfl (nlc (nld Qai _) nl0) nll rfl, asb hb44 (amv rfl), ag_ (alm (c := Qah) (l := p0.Elements) (aln rfl Try.underlying40 rfl)), ag_ (apc (first := []) (cap := []) (vs := [(I ((p0.Elements.length : Int))), I 1, I 16]) rfl Qfx (Qbl N (p0.Elements.length : Int) 1 16 _ hf45) rfl rfl (nlc nll (nlc nll (nlc nll nl0))) nll rfl), asb hb47 (amv rfl), ag_ (Qao (first := []) (cap := []) (vs := [(z9_1 p0), (.fn (.func 58) [] [])]) (σr := []) (σr' := []) (res' := (B x49)) [] rfl Zes (Qjq N p0.Elements _ hf48) rfl (Qbr (rnc (.plain _ (nld Qac _)) (rnc (.plain _ (NLt.fn _ _ _ nl0 nl0)) rn0))) Qan Qan (.plain _ nll) rfl rfl rfl), trivial⟩ ?_
     rcases bft ((!x49)) with hc50 | hc50
     ·replace h := Qa2 hc50 h
      refine wft hc50 (by kernel_rfl) ?_
      refine wx tbk [] trivial ?_
      refine Qad ?_
      refine Qaj ?_
      obtain rfl := osi h
      exact fend ⟨[B false], ⟨rot (by kernel_rfl), trivial⟩, rfl⟩ nll
     ·replace h := Qa3 hc50 h
      refine wfn hc50 (by kernel_rfl) ?_
      refine Qar ?_
      refine thn ?_
      exact ⟨(), h, (mto (n := 90) [(1, .ref 0 2 0 0)] [0] [(z9_2 p0)] hφ0 (pc (.rn (rqr rfl)) pn) (qc (spb (lc (.rn (.plain _ (nld Qai _))) (lc (.rn (.plain _ (nld Qac _))) ln))) qn))⟩
end Go.Proofs.Ytmbhnllcfmiajaa
