/-
  Functions of the program: what they compute, as plain functions, and that they do. No conditions.
-/
import Derived.Test.YtlhakkkjgdbdpaaGreatX6
namespace Go.Proofs.YtlhakkkjgdbdpaaGreat
set_option maxRecDepth 100000
set_option maxHeartbeats 4000000
open Go.RowKit
def Qgb (N : Nat) (p0 : GRow) : Option Bool :=
  (Qda N p0.T 0 400).bind fun x2 =>
  bif x2 then
   (Qda N p0.P 1 10000).bind fun x5 =>
   bif x5 then
    (Qda N p0.Liquid 0 4000).bind fun x8 =>
    bif x8 then
     (Qda N p0.Silica 0 2000).bind fun x11 =>
     bif x11 then
      bif (decide (p0.Liquid < p0.Vapour)) then
       some (decide (p0.Vapour ≤ 4000))
      else
       some false
     else
      some false
    else
     some false
   else
    some false
  else
   some false
theorem Qnv (N : Nat) (p0 : GRow) (r : Bool) (h : Qgb N p0 = some r) : Spec Tryz.prog 76 [(.agg (Qa6 p0))] [] (B r) [] := by
  refine Qac Tryz.func76 rfl 0 (nle rfl) (fun X φ0 w0 hφ0 hd0 => ?_)
  unfold Qgb at h
  refine wx tbk [] trivial ?_
  obtain ⟨x2, hf1, h⟩ := bno h
  rcases bft (x2) with hb3 | hb3
  ·replace h := Qat hb3 h
   obtain ⟨x5, hf4, h⟩ := bno h
   rcases bft (x5) with hb6 | hb6
   ·replace h := Qat hb6 h
    obtain ⟨x8, hf7, h⟩ := bno h
    rcases bft (x8) with hb9 | hb9
    ·replace h := Qat hb9 h
     obtain ⟨x11, hf10, h⟩ := bno h
     rcases bft (x11) with hb12 | hb12
     ·replace h := Qat hb12 h
      rcases bft ((decide (p0.Liquid < p0.Vapour))) with hb13 | hb13
      ·replace h := Qat hb13 h
       refine wx tbk [(2, rp [fu 74, (.tmp 4, I p0.T), ci 0, ci 400] (B x2)), (3, rp [(.tmp 5, B x2)] (B true)), (6, rp [(.tmp 6, B true), fu 74, (.tmp 8, I p0.P), ci 1, ci 10000] (B x5)), (8, rp [(.tmp 10, B x5)] (B true)), (11, rp [(.tmp 11, B true), fu 74, (.tmp 13, I p0.Liquid), ci 0, ci 4000] (B x8)), (13, rp [(.tmp 15, B x8)] (B true)), (16, rp [(.tmp 16, B true), fu 74, (.tmp 18, I p0.Silica), ci 0, ci 2000] (B x11)), (18, rp [(.tmp 20, B x11)] (B true)), (25, rp [(.tmp 27, (B ((decide (p0.Liquid < p0.Vapour)))))] (B true))] ⟨apc (first := []) (cap := []) (vs := [I p0.T, I 0, I 400]) rfl Qdy (Qaw N p0.T 0 400 _ hf1) rfl rfl (nlc nll (nlc nll (nlc nll nl0))) nll rfl, asb hb3 (amv rfl), ag_ (apc (first := []) (cap := []) (vs := [I p0.P, I 1, I 10000]) rfl Qdy (Qaw N p0.P 1 10000 _ hf4) rfl rfl (nlc nll (nlc nll (nlc nll nl0))) nll rfl), asb hb6 (amv rfl), ag_ (apc (first := []) (cap := []) (vs := [I p0.Liquid, I 0, I 4000]) rfl Qdy (Qaw N p0.Liquid 0 4000 _ hf7) rfl rfl (nlc nll (nlc nll (nlc nll nl0))) nll rfl), asb hb9 (amv rfl), ag_ (apc (first := []) (cap := []) (vs := [I p0.Silica, I 0, I 2000]) rfl Qdy (Qaw N p0.Silica 0 2000 _ hf10) rfl rfl (nlc nll (nlc nll (nlc nll nl0))) nll rfl), asb hb12 (amv rfl), asb hb13 (amv rfl), trivial⟩ ?_
       refine Qaa ?_
       obtain rfl := osi h
       exact fend ⟨[(B ((decide (p0.Vapour ≤ 4000))))], ⟨rot (by kernel_rfl), trivial⟩, rfl⟩ nll
      ·replace h := Qau hb13 h
       refine wx tbk [(2, rp [fu 74, (.tmp 4, I p0.T), ci 0, ci 400] (B x2)), (3, rp [(.tmp 5, B x2)] (B true)), (6, rp [(.tmp 6, B true), fu 74, (.tmp 8, I p0.P), ci 1, ci 10000] (B x5)), (8, rp [(.tmp 10, B x5)] (B true)), (11, rp [(.tmp 11, B true), fu 74, (.tmp 13, I p0.Liquid), ci 0, ci 4000] (B x8)), (13, rp [(.tmp 15, B x8)] (B true)), (16, rp [(.tmp 16, B true), fu 74, (.tmp 18, I p0.Silica), ci 0, ci 2000] (B x11)), (18, rp [(.tmp 20, B x11)] (B true)), (25, rp [(.tmp 27, (B ((decide (p0.Liquid < p0.Vapour)))))] (B false))] ⟨apc (first := []) (cap := []) (vs := [I p0.T, I 0, I 400]) rfl Qdy (Qaw N p0.T 0 400 _ hf1) rfl rfl (nlc nll (nlc nll (nlc nll nl0))) nll rfl, asb hb3 (amv rfl), ag_ (apc (first := []) (cap := []) (vs := [I p0.P, I 1, I 10000]) rfl Qdy (Qaw N p0.P 1 10000 _ hf4) rfl rfl (nlc nll (nlc nll (nlc nll nl0))) nll rfl), asb hb6 (amv rfl), ag_ (apc (first := []) (cap := []) (vs := [I p0.Liquid, I 0, I 4000]) rfl Qdy (Qaw N p0.Liquid 0 4000 _ hf7) rfl rfl (nlc nll (nlc nll (nlc nll nl0))) nll rfl), asb hb9 (amv rfl), ag_ (apc (first := []) (cap := []) (vs := [I p0.Silica, I 0, I 2000]) rfl Qdy (Qaw N p0.Silica 0 2000 _ hf10) rfl rfl (nlc nll (nlc nll (nlc nll nl0))) nll rfl), asb hb12 (amv rfl), asb hb13 (amv rfl), trivial⟩ ?_
       refine Qaa ?_
       obtain rfl := osi h
       exact fend ⟨[B false], ⟨rot (by kernel_rfl), trivial⟩, rfl⟩ nll
     ·replace h := Qau hb12 h
      refine wx tbk [(2, rp [fu 74, (.tmp 4, I p0.T), ci 0, ci 400] (B x2)), (3, rp [(.tmp 5, B x2)] (B true)), (6, rp [(.tmp 6, B true), fu 74, (.tmp 8, I p0.P), ci 1, ci 10000] (B x5)), (8, rp [(.tmp 10, B x5)] (B true)), (11, rp [(.tmp 11, B true), fu 74, (.tmp 13, I p0.Liquid), ci 0, ci 4000] (B x8)), (13, rp [(.tmp 15, B x8)] (B true)), (16, rp [(.tmp 16, B true), fu 74, (.tmp 18, I p0.Silica), ci 0, ci 2000] (B x11)), (18, rp [(.tmp 20, B x11)] (B false))] ⟨apc (first := []) (cap := []) (vs := [I p0.T, I 0, I 400]) rfl Qdy (Qaw N p0.T 0 400 _ hf1) rfl rfl (nlc nll (nlc nll (nlc nll nl0))) nll rfl, asb hb3 (amv rfl), ag_ (apc (first := []) (cap := []) (vs := [I p0.P, I 1, I 10000]) rfl Qdy (Qaw N p0.P 1 10000 _ hf4) rfl rfl (nlc nll (nlc nll (nlc nll nl0))) nll rfl), asb hb6 (amv rfl), ag_ (apc (first := []) (cap := []) (vs := [I p0.Liquid, I 0, I 4000]) rfl Qdy (Qaw N p0.Liquid 0 4000 _ hf7) rfl rfl (nlc nll (nlc nll (nlc nll nl0))) nll rfl), asb hb9 (amv rfl), ag_ (apc (first := []) (cap := []) (vs := [I p0.Silica, I 0, I 2000]) rfl Qdy (Qaw N p0.Silica 0 2000 _ hf10) rfl rfl (nlc nll (nlc nll (nlc nll nl0))) nll rfl), asb hb12 (amv rfl), trivial⟩ ?_
      refine Qaa ?_
      obtain rfl := osi h
      exact fend ⟨[B false], ⟨rot (by kernel_rfl), trivial⟩, rfl⟩ nll
    ·replace h := Qau hb9 h
     refine wx tbk [(2, rp [fu 74, (.tmp 4, I p0.T), ci 0, ci 400] (B x2)), (3, rp [(.tmp 5, B x2)] (B true)), (6, rp [(.tmp 6, B true), fu 74, (.tmp 8, I p0.P), ci 1, ci 10000] (B x5)), (8, rp [(.tmp 10, B x5)] (B true)), (11, rp [(.tmp 11, B true), fu 74, (.tmp 13, I p0.Liquid), ci 0, ci 4000] (B x8)), (13, rp [(.tmp 15, B x8)] (B false))] ⟨apc (first := []) (cap := []) (vs := [I p0.T, I 0, I 400]) rfl Qdy (Qaw N p0.T 0 400 _ hf1) rfl rfl (nlc nll (nlc nll (nlc nll nl0))) nll rfl, asb hb3 (amv rfl), ag_ (apc (first := []) (cap := []) (vs := [I p0.P, I 1, I 10000]) rfl Qdy (Qaw N p0.P 1 10000 _ hf4) rfl rfl (nlc nll (nlc nll (nlc nll nl0))) nll rfl), asb hb6 (amv rfl), ag_ (apc (first := []) (cap := []) (vs := [I p0.Liquid, I 0, I 4000]) rfl Qdy (Qaw N p0.Liquid 0 4000 _ hf7) rfl rfl (nlc nll (nlc nll (nlc nll nl0))) nll rfl), asb hb9 (amv rfl), trivial⟩ ?_
     refine Qaa ?_
     obtain rfl := osi h
     exact fend ⟨[B false], ⟨rot (by kernel_rfl), trivial⟩, rfl⟩ nll
   ·replace h := Qau hb6 h
    refine wx tbk [(2, rp [fu 74, (.tmp 4, I p0.T), ci 0, ci 400] (B x2)), (3, rp [(.tmp 5, B x2)] (B true)), (6, rp [(.tmp 6, B true), fu 74, (.tmp 8, I p0.P), ci 1, ci 10000] (B x5)), (8, rp [(.tmp 10, B x5)] (B false))] ⟨apc (first := []) (cap := []) (vs := [I p0.T, I 0, I 400]) rfl Qdy (Qaw N p0.T 0 400 _ hf1) rfl rfl (nlc nll (nlc nll (nlc nll nl0))) nll rfl, asb hb3 (amv rfl), ag_ (apc (first := []) (cap := []) (vs := [I p0.P, I 1, I 10000]) rfl Qdy (Qaw N p0.P 1 10000 _ hf4) rfl rfl (nlc nll (nlc nll (nlc nll nl0))) nll rfl), asb hb6 (amv rfl), trivial⟩ ?_
    refine Qaa ?_
    obtain rfl := osi h
    exact fend ⟨[B false], ⟨rot (by kernel_rfl), trivial⟩, rfl⟩ nll
  ·replace h := Qau hb3 h
   refine wx tbk [(2, rp [fu 74, (.tmp 4, I p0.T), ci 0, ci 400] (B x2)), (3, rp [(.tmp 5, B x2)] (B false))] ⟨apc (first := []) (cap := []) (vs := [I p0.T, I 0, I 400]) rfl Qdy (Qaw N p0.T 0 400 _ hf1) rfl rfl (nlc nll (nlc nll (nlc nll nl0))) nll rfl, asb hb3 (amv rfl), trivial⟩ ?_
   refine Qaa ?_
   obtain rfl := osi h
   exact fend ⟨[B false], ⟨rot (by kernel_rfl), trivial⟩, rfl⟩ nll
def Qet (N : Nat) (p0 : GRow) : Option Bool :=
  (Qgb N p0).bind fun x3 =>
  some (!x3)
def Q8r (p0 : GRow) : AV := .agg [(I (p0.T)), (I (p0.P)), (I (p0.Liquid)), (I (p0.Vapour)), (I (p0.Silica))]
def Q5e : Slot := .own 1 [[(.fn (.func 76) [] [])]]
theorem Qjz (N : Nat) (p0 : GRow) (r : Bool) (h : Qet N p0 = some r) : Spec Tryz.prog 97 [(Q8r p0), (.ref 0 1 (0) 0)] [Q5e] (B (r)) [Q5e] := by
  refine Qac Tryz.func97 rfl 1 (nle rfl) (fun X φ0 w0 hφ0 hd0 => ?_)
  unfold Qet at h
  refine Qbh ?_
  refine wx tbk [] trivial ?_
  obtain ⟨x3, hf2, h⟩ := bno h
  refine wx tbk [(2, rp [(.tmp 4, (.fn (.func 76) [] [])), (.tmp 5, (Q8r p0))] (B x3))] ⟨apc (first := []) (cap := []) (vs := [(Q8r p0)]) rfl Zbz (Qnv N p0 _ hf2) rfl rfl (nlc (NLt.agg _ (nlc nll (nlc nll (nlc nll (nlc nll (nlc nll nl0)))))) nl0) nll rfl, trivial⟩ ?_
  refine wmr (mto (n := 8) (l' := [(3, (B ((!x3))))]) (own' := [Q5e]) [(3, (B ((!x3))))] [0] [Q5e] hφ0 (pc rwl pn) (qc (spb (lc (.rn (Qas rn0 rn0)) ln)) qn)) ?_
  refine Qaa ?_
  obtain rfl := osi h
  exact ⟨_, Mor.rfl, Qb7 (vs := [(B ((!x3)))]) ⟨rot (by kernel_rfl), trivial⟩ rfl (NLt.of0 nll) (by kernel_rfl) (Qaf (Qav (nlc (NLt.of0 (NLt.fn _ _ _ nl0 nl0)) nl0)) Qbd)⟩
def Qa8 (N : Nat) (p0 : (List GRow)) (k2 : Unit → Option Int) : Nat → Int → Option Int
  | 0, _ => none
  | n5 + 1, y3 =>
    bif (decide (y3 < (p0.length : Int))) then
     (getI p0 y3).bind fun x7 =>
     (Qet N x7).bind fun x12 =>
     bif x12 then
      some y3
     else
      Qa8 N p0 k2 n5 (w64 (y3 + 1))
    else
     k2 ()
def Qcr (N : Nat) (p0 : (List GRow)) : Option Int :=
  Qc5 (fun _ =>
    some (-1)) fun k2 : Unit → Option Int =>
  Qa8 N p0 k2 N 0
def Qwf (p0 : (List GRow)) : AV := .dat 5 ((p0 : List GRow).map Qa6)
def Qzx : AV := .fn (.func 97) [] [(.ref 0 1 (0) 0)]
def Qm2 : Slot := .own 1 [[(.fn (.func 76) [] [])]]
def Zc9 (x7 : GRow) : AV := .agg [(I (x7.T)), (I (x7.P)), (I (x7.Liquid)), (I (x7.Vapour)), (I (x7.Silica))]
theorem Qgc (N : Nat) (p0 : (List GRow)) (r : Int) (h : Qcr N p0 = some r) : Spec Tryz.prog 114 [(Qwf p0), Qzx] [Qm2] (I (r)) [Qm2] := by
  refine Qac Tryz.func114 rfl 1 (nle rfl) (fun X φ0 w0 hφ0 hd0 => ?_)
  unfold Qcr at h
  refine Qbh ?_
  refine wx tbk [] trivial ?_
  obtain ⟨k2, hk_k2, h⟩ := jko h
  refine wjn (τ := Unit) (fun t => k2 t = some r) (fun _ => ⟨mk 19 [], [Qm2]⟩) (fun t h => ?_) ?_
  ·subst hk_k2
   refine wx tbk [] trivial ?_
   refine wmr (mto (n := 19) (l' := [(4, (I ((-1))))]) (own' := [Qm2]) [(4, (I ((-1))))] [0] [Qm2] hφ0 (pc rwl pn) (qc (spb (lc (.rn (Qas rn0 rn0)) ln)) qn)) ?_
   refine Qaa ?_
   obtain rfl := osi h
   exact ⟨_, Mor.rfl, Qb7 (vs := [(I ((-1)))]) ⟨rot (by kernel_rfl), trivial⟩ rfl (NLt.of0 nll) (by kernel_rfl) (Qaf (Qav (nlc (NLt.of0 (NLt.fn _ _ _ nl0 nl0)) nl0)) Qbd)⟩
  ·skip
   refine wx tbk [(1, rp [(.tmp 6, (Qwf p0))] (I ((p0.length : Int))))] ⟨alm (c := Qa6) (l := p0) (aln rfl Tryz.underlying41 rfl), trivial⟩ ?_
   refine Qaj ?_
   refine wmr (mto (n := 19) (l' := [(0, (Qwf p0)), (1, Qzx), (7, (I ((p0.length : Int)))), (8, I 0)]) (own' := [Qm2]) [(0, (Qwf p0)), (1, Qzx), (7, (I ((p0.length : Int)))), (8, I 0)] [0] [Qm2] hφ0 (pc (.rn (.plain _ (nld Qa9 _))) (pc (.rn (Qas rn0 (rnc (rqr rfl) rn0))) (pc rwl (pc rwl pn)))) (qc (spb (lc (.rn (Qas rn0 rn0)) ln)) qn)) ?_
   refine Qcl (τ := Int) (fun n t => Qa8 N p0 k2 n t = some r) (fun y3 => ⟨mk 19 [(0, (Qwf p0)), (1, Qzx), (7, (I ((p0.length : Int)))), (8, I y3)], [Qm2]⟩) (fun t h => by rw [Qa8] at h; cases h) (fun n5 ih y3 h => ?_) N (0) h
   rw [Qa8] at h
   skip
   refine wx tbk [] trivial ?_
   refine wsq ?_
   rcases bft ((decide (y3 < (p0.length : Int)))) with hc6 | hc6
   ·replace h := Qat hc6 h
    refine wft hc6 (by kernel_rfl) ?_
    refine Qam ?_
    refine thn ?_
    refine wsq ?_
    refine Qaj ?_
    refine wx tbk [] trivial ?_
    obtain ⟨x7, hg8, h⟩ := bno h
    obtain ⟨hi9, hj10⟩ := gsm hg8
    obtain ⟨x12, hf11, h⟩ := bno h
    refine wx tbk [(3, rp [(.tmp 12, (Qwf p0)), (.tmp 13, I y3)] (.dptr (Qa6 (x7)) 0)), (5, ⟨[(.tmp 11, Qzx), (.tmp 15, (Zc9 x7))], [(0, Qm2)], B x12, [(0, Qm2)], false⟩)] ⟨aid rfl Tryz.underlying41 Qtc rfl rfl hi9 (mgt Qa6 hj10) rfl, Qah (first := []) (cap := [.ref 0 1 0 0]) (vs := [(Zc9 x7)]) (σr := [Qm2]) (σr' := [Qm2]) (res' := (B x12)) [0] rfl Zbh (Qjz N x7 _ hf11) rfl (Qbc (rnc (.plain _ (NLt.agg _ (nlc nll (nlc nll (nlc nll (nlc nll (nlc nll nl0))))))) (rnc (Qa2 rfl) rn0))) (slc (Qae (rnc (.plain _ (NLt.fn _ _ _ nl0 nl0)) rn0)) Qag) (slc (Qae (rnc (.plain _ (NLt.fn _ _ _ nl0 nl0)) rn0)) Qag) (.plain _ nll) rfl rfl rfl, trivial⟩ ?_
    rcases bft (x12) with hc13 | hc13
    ·replace h := Qat hc13 h
     refine wft hc13 (by kernel_rfl) ?_
     refine wx tbk [] trivial ?_
     refine wmr (mto (n := 19) (l' := [(4, I y3)]) (own' := [Qm2]) [(4, I y3)] [0] [Qm2] hφ0 (pc rwl pn) (qc (spb (lc (.rn (Qas rn0 rn0)) ln)) qn)) ?_
     refine Qaa ?_
     refine Qa3 ?_
     refine Qan ?_
     refine Qan ?_
     refine Qa3 ?_
     refine Qan ?_
     obtain rfl := osi h
     exact ⟨_, Mor.rfl, Qb7 (vs := [I y3]) ⟨rot (by kernel_rfl), trivial⟩ rfl (NLt.of0 nll) (by kernel_rfl) (Qaf (Qav (nlc (NLt.of0 (NLt.fn _ _ _ nl0 nl0)) nl0)) Qbd)⟩
    ·replace h := Qau hc13 h
     refine wfn hc13 (by kernel_rfl) ?_
     refine Qam ?_
     refine bln ?_
     refine thn ?_
     refine wx1 tbk [] trivial ?_
     refine thn ?_
     exact arm (mto (n := 19) [(0, (Qwf p0)), (1, Qzx), (7, (I ((p0.length : Int)))), (8, (I (w64 (y3 + 1))))] [0] [Qm2] hφ0 (pc (.rn (.plain _ (nld Qa9 _))) (pc (.rn (Qas rn0 (rnc (rqr rfl) rn0))) (pc rwl (pc rwl pn)))) (qc (spb (lc (.rn (Qas rn0 rn0)) ln)) qn)) (ih (w64 (y3 + 1)) h)
   ·replace h := Qau hc6 h
    refine wfn hc6 (by kernel_rfl) ?_
    refine Qbr ?_
    refine Qay ?_
    refine Qay ?_
    refine Qbq rfl ?_
    refine thn ?_
    exact ⟨(), h, (mto (n := 19) [] [0] [Qm2] hφ0 pn (qc (spb (lc (.rn (Qas rn0 rn0)) ln)) qn))⟩
def Qcg (N : Nat) (p0 : (List GRow)) : Option Bool :=
  (Qcr N p0).bind fun x3 =>
  some (decide (x3 ≥ 0))
def Q8t (p0 : (List GRow)) : AV := .dat 5 ((p0 : List GRow).map Qa6)
def Q8s : AV := .fn (.func 97) [] [(.ref 0 1 (0) 0)]
def Qt9 : Slot := .own 1 [[(.fn (.func 76) [] [])]]
theorem Qfx (N : Nat) (p0 : (List GRow)) (r : Bool) (h : Qcg N p0 = some r) : Spec Tryz.prog 96 [(Q8t p0), Q8s] [Qt9] (B (r)) [Qt9] := by
  refine Qac Tryz.func96 rfl 1 (nle rfl) (fun X φ0 w0 hφ0 hd0 => ?_)
  unfold Qcg at h
  refine Qbh ?_
  refine wx tbk [] trivial ?_
  obtain ⟨x3, hf2, h⟩ := bno h
  refine wx tbk [(2, ⟨[fu 114, (.tmp 5, (Q8t p0)), (.tmp 6, Q8s)], [(0, Qt9)], I x3, [(0, Qt9)], false⟩)] ⟨Qah (first := []) (cap := []) (vs := [(Q8t p0), Q8s]) (σr := [Qt9]) (σr' := [Qt9]) (res' := (I x3)) [0] rfl Q62 (Qgc N p0 _ hf2) rfl (Qbc (rnc (.plain _ (nld Qa9 _)) (rnc (Qas rn0 (rnc (Qa2 rfl) rn0)) rn0))) (slc (Qae (rnc (.plain _ (NLt.fn _ _ _ nl0 nl0)) rn0)) Qag) (slc (Qae (rnc (.plain _ (NLt.fn _ _ _ nl0 nl0)) rn0)) Qag) (.plain _ nll) rfl rfl rfl, trivial⟩ ?_
  refine wmr (mto (n := 9) (l' := [(4, (B ((decide (x3 ≥ 0)))))]) (own' := [Qt9]) [(4, (B ((decide (x3 ≥ 0)))))] [0] [Qt9] hφ0 (pc rwl pn) (qc (spb (lc (.rn (Qas rn0 rn0)) ln)) qn)) ?_
  refine Qaa ?_
  obtain rfl := osi h
  exact ⟨_, Mor.rfl, Qb7 (vs := [(B ((decide (x3 ≥ 0))))]) ⟨rot (by kernel_rfl), trivial⟩ rfl (NLt.of0 nll) (by kernel_rfl) (Qaf (Qav (nlc (NLt.of0 (NLt.fn _ _ _ nl0 nl0)) nl0)) Qbd)⟩
def Qee (N : Nat) (p0 : (List GRow)) : Option Bool :=
  (Qcg N p0).bind fun x2 =>
  some (!x2)
def Q8v (p0 : (List GRow)) : AV := .dat 5 ((p0 : List GRow).map Qa6)
def Q8u : AV := .fn (.func 97) [] [(.ref 0 1 (0) 0)]
def Q5f : Slot := .own 1 [[(.fn (.func 76) [] [])]]
theorem Qkj (N : Nat) (p0 : (List GRow)) (r : Bool) (h : Qee N p0 = some r) : Spec Tryz.prog 75 [(Q8v p0), (.fn (.func 76) [] [])] [] (B (r)) [] := by
  refine Qac Tryz.func75 rfl 0 (nle rfl) (fun X φ0 w0 hφ0 hd0 => ?_)
  unfold Qee at h
  refine wx tbk [] trivial ?_
  obtain ⟨x2, hf1, h⟩ := bno h
  refine wx tbk [(1, rp [(.tmp 3, .ref 0 1 0 0)] Q8u), (2, ⟨[fu 96, (.tmp 5, (Q8v p0)), (.tmp 6, Q8u)], [(0, Q5f)], B x2, [(0, Q5f)], false⟩)] ⟨Qdd (fs := []) (cs := [.ref 0 1 0 0]) rfl rfl rfl rfl, Qah (first := []) (cap := []) (vs := [(Q8v p0), Q8u]) (σr := [Q5f]) (σr' := [Q5f]) (res' := (B x2)) [0] rfl Zbi (Qfx N p0 _ hf1) rfl (Qbc (rnc (.plain _ (nld Qa9 _)) (rnc (Qas rn0 (rnc (Qa2 rfl) rn0)) rn0))) (slc (Qae (rnc (.plain _ (NLt.fn _ _ _ nl0 nl0)) rn0)) Qag) (slc (Qae (rnc (.plain _ (NLt.fn _ _ _ nl0 nl0)) rn0)) Qag) (.plain _ nll) rfl rfl rfl, trivial⟩ ?_
  refine Qaa ?_
  obtain rfl := osi h
  exact fend ⟨[(B ((!x2)))], ⟨rot (by kernel_rfl), trivial⟩, rfl⟩ nll
def Qcz (N : Nat) (p0 : (List GRow)) (k2 : Unit → Option Bool) : Nat → Int → Option Bool
  | 0, _ => none
  | n6 + 1, y4 =>
    bif (decide (y4 < ((p0.drop (1 : Int).toNat).length : Int))) then
     (getI (p0.drop (1 : Int).toNat) y4).bind fun x8 =>
     (getI p0 y4).bind fun x12 =>
     bif (decide (x8.T ≤ x12.T)) then
      some false
     else
      bif (decide (x8.P ≤ x12.P)) then
       some false
      else
       bif (decide (x8.Liquid ≤ x12.Liquid)) then
        some false
       else
        bif (decide (x8.Silica < x12.Silica)) then
         some false
        else
         Qcz N p0 k2 n6 (w64 (y4 + 1))
    else
     k2 ()
def Qeu (N : Nat) (p0 : (List GRow)) : Option Bool :=
  Qc5 (fun _ =>
    Qc5 (fun _ =>
      some true) fun k2 : Unit → Option Bool =>
    chk (decide (0 ≤ 1) && decide (1 ≤ (p0.length : Int)) && decide ((p0.length : Int) ≤ (p0.length : Int))) <|
    Qcz N p0 k2 N 0) fun k1 : Unit → Option Bool =>
  (Qda N (p0.length : Int) 2 20).bind fun x21 =>
  bif (!x21) then
   some false
  else
   (Qee N p0).bind fun x24 =>
   bif (!x24) then
    some false
   else
    k1 ()
def Qpw (p0 : (List GRow)) : AV := .dat 5 ((p0 : List GRow).map Qa6)
def Qwg (p0 : (List GRow)) : AV := .dat 5 ((p0.drop (1 : Int).toNat : List GRow).map Qa6)
theorem Qiw (N : Nat) (p0 : (List GRow)) (r : Bool) (h : Qeu N p0 = some r) : Spec Tryz.prog 49 [(.dat 5 (p0.map Qa6))] [] (B r) [] := by
  refine Qac Tryz.func49 rfl 0 (nle rfl) (fun X φ0 w0 hφ0 hd0 => ?_)
  unfold Qeu at h
  refine wx tbk [] trivial ?_
  obtain ⟨k1, hk_k1, h⟩ := jko h
  refine wjn (τ := Unit) (fun t => k1 t = some r) (fun _ => ⟨mk 54 [(0, (Qpw p0))], []⟩) (fun t h => ?_) ?_
  ·subst hk_k1
   obtain ⟨k2, hk_k2, h⟩ := jko h
   refine wjn (τ := Unit) (fun t => k2 t = some r) (fun _ => ⟨mk 54 [], []⟩) (fun t h => ?_) ?_
   ·subst hk_k2
    refine wx tbk [] trivial ?_
    refine Qaa ?_
    obtain rfl := osi h
    exact fend ⟨[B true], ⟨rot (by kernel_rfl), trivial⟩, rfl⟩ nll
   ·skip
    obtain ⟨hs3, h⟩ := cko h
    refine wx tbk [(1, rp [(.tmp 15, (Qpw p0)), ci 1] (Qwg p0)), (2, rp [(.tmp 16, (Qwg p0))] (I (((p0.drop (1 : Int).toNat).length : Int))))] ⟨Qv4 (k := .i64) (k' := .i64) (lo := some (.const (.int .i64 1))) (hi := none) (l := 1) (hh := ((p0.length : Nat) : Int)) rfl Tryz.underlying42 Qtc rfl (fun e => nomatch e) (fun _ => by simp) (Qwd hs3) (Qwc hs3) (Zfr (Qa6) hs3) (Zfh Qa6), alm (c := Qa6) (l := p0.drop (1 : Int).toNat) (aln rfl Tryz.underlying42 rfl), trivial⟩ ?_
    refine Qaj ?_
    refine wmr (mto (n := 54) (l' := [(0, (Qpw p0)), (16, (Qwg p0)), (17, (I (((p0.drop (1 : Int).toNat).length : Int)))), (18, I 0)]) (own' := []) [(0, (Qpw p0)), (16, (Qwg p0)), (17, (I (((p0.drop (1 : Int).toNat).length : Int)))), (18, I 0)] [] [] hφ0 (pc (.rn (.plain _ (nld Qa9 _))) (pc (.rn (.plain _ (nld Qa9 _))) (pc rwl (pc rwl pn)))) qn) ?_
    refine Qcl (τ := Int) (fun n t => Qcz N p0 k2 n t = some r) (fun y4 => ⟨mk 54 [(0, (Qpw p0)), (16, (Qwg p0)), (17, (I (((p0.drop (1 : Int).toNat).length : Int)))), (18, I y4)], []⟩) (fun t h => by rw [Qcz] at h; cases h) (fun n6 ih y4 h => ?_) N (0) h
    rw [Qcz] at h
    skip
    refine wx tbk [] trivial ?_
    refine wsq ?_
    rcases bft ((decide (y4 < ((p0.drop (1 : Int).toNat).length : Int)))) with hc7 | hc7
    ·replace h := Qat hc7 h
     refine wft hc7 (by kernel_rfl) ?_
     refine Qam ?_
     refine thn ?_
     refine wsq ?_
     refine Qaj ?_
     obtain ⟨x8, hg9, h⟩ := bno h
     obtain ⟨hi10, hj11⟩ := gsm hg9
     refine wx tbk [(1, rp [(.tmp 16, (Qwg p0)), (.tmp 18, I y4)] (.dptr (Qa6 (x8)) 0))] ⟨aid rfl Tryz.underlying42 Qtc rfl rfl hi10 (mgt Qa6 hj11) rfl, trivial⟩ ?_
     obtain ⟨x12, hg13, h⟩ := bno h
     obtain ⟨hi14, hj15⟩ := gsm hg13
     refine wx tbk [(2, rp [(.tmp 23, (Qpw p0)), (.tmp 24, I y4)] (.dptr (Qa6 (x12)) 0))] ⟨aid rfl Tryz.underlying42 Qtc rfl rfl hi14 (mgt Qa6 hj15) rfl, trivial⟩ ?_
     rcases bft ((decide (x8.T ≤ x12.T))) with hb16 | hb16
     ·replace h := Qat hb16 h
      refine wx tbk [(5, rp [(.tmp 31, (B ((decide (x8.T ≤ x12.T)))))] (B true))] ⟨asb hb16 (amv rfl), trivial⟩ ?_
      refine Qcy (by kernel_rfl) ?_
      refine wx tbk [] trivial ?_
      refine Qaa ?_
      refine Qa3 ?_
      refine Qan ?_
      refine Qan ?_
      refine Qa3 ?_
      refine Qan ?_
      obtain rfl := osi h
      exact fend ⟨[B false], ⟨rot (by kernel_rfl), trivial⟩, rfl⟩ nll
     ·replace h := Qau hb16 h
      rcases bft ((decide (x8.P ≤ x12.P))) with hb17 | hb17
      ·replace h := Qat hb17 h
       refine wx tbk [(5, rp [(.tmp 31, (B ((decide (x8.T ≤ x12.T)))))] (B false)), (12, rp [(.tmp 38, (B ((decide (x8.P ≤ x12.P)))))] (B true))] ⟨asb hb16 (amv rfl), asb hb17 (amv rfl), trivial⟩ ?_
       refine Qcy (by kernel_rfl) ?_
       refine wx tbk [] trivial ?_
       refine Qaa ?_
       refine Qa3 ?_
       refine Qan ?_
       refine Qan ?_
       refine Qa3 ?_
       refine Qan ?_
       obtain rfl := osi h
       exact fend ⟨[B false], ⟨rot (by kernel_rfl), trivial⟩, rfl⟩ nll
      ·replace h := Qau hb17 h
       rcases bft ((decide (x8.Liquid ≤ x12.Liquid))) with hb18 | hb18
       ·replace h := Qat hb18 h
        refine wx tbk [(5, rp [(.tmp 31, (B ((decide (x8.T ≤ x12.T)))))] (B false)), (12, rp [(.tmp 38, (B ((decide (x8.P ≤ x12.P)))))] (B false)), (19, rp [(.tmp 45, (B ((decide (x8.Liquid ≤ x12.Liquid)))))] (B true))] ⟨asb hb16 (amv rfl), asb hb17 (amv rfl), asb hb18 (amv rfl), trivial⟩ ?_
        refine Qcy (by kernel_rfl) ?_
        refine wx tbk [] trivial ?_
        refine Qaa ?_
        refine Qa3 ?_
        refine Qan ?_
        refine Qan ?_
        refine Qa3 ?_
        refine Qan ?_
        obtain rfl := osi h
        exact fend ⟨[B false], ⟨rot (by kernel_rfl), trivial⟩, rfl⟩ nll
       ·replace h := Qau hb18 h
        refine wx tbk [(5, rp [(.tmp 31, (B ((decide (x8.T ≤ x12.T)))))] (B false)), (12, rp [(.tmp 38, (B ((decide (x8.P ≤ x12.P)))))] (B false)), (19, rp [(.tmp 45, (B ((decide (x8.Liquid ≤ x12.Liquid)))))] (B false))] ⟨asb hb16 (amv rfl), asb hb17 (amv rfl), asb hb18 (amv rfl), trivial⟩ ?_
        rcases bft ((decide (x8.Silica < x12.Silica))) with hc19 | hc19
        ·replace h := Qat hc19 h
         refine wft hc19 (by kernel_rfl) ?_
         refine wx tbk [] trivial ?_
         refine Qaa ?_
         refine Qa3 ?_
         refine Qan ?_
         refine Qan ?_
         refine Qa3 ?_
         refine Qan ?_
         obtain rfl := osi h
         exact fend ⟨[B false], ⟨rot (by kernel_rfl), trivial⟩, rfl⟩ nll
        ·replace h := Qau hc19 h
         refine wfn hc19 (by kernel_rfl) ?_
         refine Qam ?_
         refine bln ?_
         refine thn ?_
         refine wx1 tbk [] trivial ?_
         refine thn ?_
         exact arm (mto (n := 54) [(0, (Qpw p0)), (16, (Qwg p0)), (17, (I (((p0.drop (1 : Int).toNat).length : Int)))), (18, (I (w64 (y4 + 1))))] [] [] hφ0 (pc (.rn (.plain _ (nld Qa9 _))) (pc (.rn (.plain _ (nld Qa9 _))) (pc rwl (pc rwl pn)))) qn) (ih (w64 (y4 + 1)) h)
    ·replace h := Qau hc7 h
     refine wfn hc7 (by kernel_rfl) ?_
     refine Qbr ?_
     refine Qay ?_
     refine Qay ?_
     refine Qbq rfl ?_
     refine thn ?_
     exact ⟨(), h, (mto (n := 54) [] [] [] hφ0 pn qn)⟩
  ·skip
   obtain ⟨x21, hf20, h⟩ := bno h
   rcases bft ((!x21)) with hb22 | hb22
   ·replace h := Qat hb22 h
    refine wx tbk [(1, rp [(.tmp 6, (Qpw p0))] (I ((p0.length : Int)))), (2, rp [fu 74, (.tmp 7, (I ((p0.length : Int)))), ci 2, ci 20] (B x21)), (4, rp [(.tmp 9, (B ((!x21))))] (B true))] ⟨alm (c := Qa6) (l := p0) (aln rfl Tryz.underlying42 rfl), apc (first := []) (cap := []) (vs := [(I ((p0.length : Int))), I 2, I 20]) rfl Qdy (Qaw N (p0.length : Int) 2 20 _ hf20) rfl rfl (nlc nll (nlc nll (nlc nll nl0))) nll rfl, asb hb22 (amv rfl), trivial⟩ ?_
    refine Qcy (by kernel_rfl) ?_
    refine wx tbk [] trivial ?_
    refine Qaa ?_
    refine Qan ?_
    obtain rfl := osi h
    exact fend ⟨[B false], ⟨rot (by kernel_rfl), trivial⟩, rfl⟩ nll
   ·replace h := Qau hb22 h
    obtain ⟨x24, hf23, h⟩ := bno h
    refine wx tbk [(1, rp [(.tmp 6, (Qpw p0))] (I ((p0.length : Int)))), (2, rp [fu 74, (.tmp 7, (I ((p0.length : Int)))), ci 2, ci 20] (B x21)), (4, rp [(.tmp 9, (B ((!x21))))] (B false)), (6, rp [(.tmp 10, B false), fu 75, (.tmp 11, (Qpw p0)), fu 76] (B x24))] ⟨alm (c := Qa6) (l := p0) (aln rfl Tryz.underlying42 rfl), apc (first := []) (cap := []) (vs := [(I ((p0.length : Int))), I 2, I 20]) rfl Qdy (Qaw N (p0.length : Int) 2 20 _ hf20) rfl rfl (nlc nll (nlc nll (nlc nll nl0))) nll rfl, asb hb22 (amv rfl), ag_ (Qah (first := []) (cap := []) (vs := [(Qpw p0), (.fn (.func 76) [] [])]) (σr := []) (σr' := []) (res' := (B x24)) [] rfl Zb0 (Qkj N p0 _ hf23) rfl (Qbc (rnc (.plain _ (nld Qa9 _)) (rnc (.plain _ (NLt.fn _ _ _ nl0 nl0)) rn0))) Qag Qag (.plain _ nll) rfl rfl rfl), trivial⟩ ?_
    rcases bft ((!x24)) with hc25 | hc25
    ·replace h := Qat hc25 h
     refine wft hc25 (by kernel_rfl) ?_
     refine wx tbk [] trivial ?_
     refine Qaa ?_
     refine Qan ?_
     obtain rfl := osi h
     exact fend ⟨[B false], ⟨rot (by kernel_rfl), trivial⟩, rfl⟩ nll
    ·replace h := Qau hc25 h
     refine wfn hc25 (by kernel_rfl) ?_
     refine Qam ?_
     refine thn ?_
     exact ⟨(), h, (mto (n := 54) [(0, (Qpw p0))] [] [] hφ0 (pc (.rn (.plain _ (nld Qa9 _))) pn) qn)⟩
def Qhb (N : Nat) (p0 : (List GRow)) (p1 : Int) : Option Bool :=
  (Qda N p1 0 (w64 ((p0.length : Int) - 1))).bind fun x2 =>
  some x2
theorem Qnu (N : Nat) (p0 : (List GRow)) (p1 : Int) (r : Bool) (h : Qhb N p0 p1 = some r) : Spec Tryz.prog 50 [(.dat 5 (p0.map Qa6)), (I p1)] [] (B r) [] := by
  refine Qac Tryz.func50 rfl 0 (nle rfl) (fun X φ0 w0 hφ0 hd0 => ?_)
  unfold Qhb at h
  refine wx tbk [] trivial ?_
  obtain ⟨x2, hf1, h⟩ := bno h
  refine wx tbk [(2, rp [(.tmp 6, (.dat 5 ((p0 : List GRow).map Qa6)))] (I ((p0.length : Int)))), (4, rp [fu 74, (.tmp 5, I p1), ci 0, (.tmp 8, (I (w64 ((p0.length : Int) - 1))))] (B x2))] ⟨alm (c := Qa6) (l := p0) (aln rfl Tryz.underlying42 rfl), apc (first := []) (cap := []) (vs := [I p1, I 0, (I (w64 ((p0.length : Int) - 1)))]) rfl Qdy (Qaw N p1 0 (w64 ((p0.length : Int) - 1)) _ hf1) rfl rfl (nlc nll (nlc nll (nlc nll nl0))) nll rfl, trivial⟩ ?_
  refine Qaa ?_
  obtain rfl := osi h
  exact fend ⟨[B x2], ⟨rot (by kernel_rfl), trivial⟩, rfl⟩ nll
def Qhv (_N : Nat) (p0 : (List GRow)) (p1 : Int) : Option GFlash :=
  (getI p0 p1).bind fun x1 =>
  some (⟨x1⟩ : GFlash)
def Q8q (x1 : GRow) : AV := .agg [(I (x1.T)), (I (x1.P)), (I (x1.Liquid)), (I (x1.Vapour)), (I (x1.Silica))]
theorem Qof (N : Nat) (p0 : (List GRow)) (p1 : Int) (r : GFlash) (h : Qhv N p0 p1 = some r) : Spec Tryz.prog 51 [(.dat 5 (p0.map Qa6)), (I p1)] [] (.agg (Qtw r)) [] := by
  refine Qac Tryz.func51 rfl 0 (nle rfl) (fun X φ0 w0 hφ0 hd0 => ?_)
  unfold Qhv at h
  refine wx tbk [] trivial ?_
  obtain ⟨x1, hg2, h⟩ := bno h
  obtain ⟨hi3, hj4⟩ := gsm hg2
  refine wx tbk [(2, rp [(.tmp 5, (.dat 5 ((p0 : List GRow).map Qa6))), (.tmp 6, I p1)] (.dptr (Qa6 (x1)) 0)), (4, mv 8 (Q8q x1))] ⟨aid rfl Tryz.underlying42 Qtc rfl rfl hi3 (mgt Qa6 hj4) rfl, Qao (vs := [(Q8q x1)]) rfl Ze1 Zd4 rfl (by rfl) rfl, trivial⟩ ?_
  refine Qaa ?_
  obtain rfl := osi h
  exact fend ⟨[(Q8q x1)], ⟨Qa0 (n := 0) (m := 5) (j := 0) (i := 0) (xs := [[I x1.T, I x1.P, I x1.Liquid, I x1.Vapour, I x1.Silica]]) (by kernel_rfl) (by kernel_rfl) Zd6 (by decide) rfl (nle rfl) rfl, trivial⟩, rfl⟩ (NLt.agg _ (nlc nll (nlc nll (nlc nll (nlc nll (nlc nll nl0))))))
def Qfe (_N : Nat) (p0 : GFlash) (p1 : GStream) : Option Int :=
  (some (w64 (p1.Heat - (w64 (p1.Mass * p0.Row.Liquid))))).bind fun x1 =>
  bif (decide (x1 ≤ 0)) then
   some 0
  else
   bif (decide (p1.Heat ≥ (w64 (p1.Mass * p0.Row.Vapour)))) then
    some p1.Mass
   else
    chk ((w64 (p0.Row.Vapour - p0.Row.Liquid)) != 0) <|
    (some (w64 (x1.tdiv (w64 (p0.Row.Vapour - p0.Row.Liquid))))).bind fun x6 =>
    some x6
theorem Ql4 (N : Nat) (p0 : GFlash) (p1 : GStream) (r : Int) (h : Qfe N p0 p1 = some r) : Spec Tryz.prog 77 [(.agg (Qtw p0)), (.agg (Qa4 p1))] [] (I r) [] := by
  refine Qac Tryz.func77 rfl 0 (nle rfl) (fun X φ0 w0 hφ0 hd0 => ?_)
  unfold Qfe at h
  refine wx tbk [] trivial ?_
  obtain ⟨x1, hl2, h⟩ := bno h
  refine wx tbk [(9, rp [(.tmp 14, (I (w64 (p1.Heat - (w64 (p1.Mass * p0.Row.Liquid))))))] (I x1))] ⟨Qd8 hl2 (aas rfl), trivial⟩ ?_
  refine wsq ?_
  refine Qaj ?_
  refine wx tbk [] trivial ?_
  rcases bft ((decide (x1 ≤ 0))) with hc3 | hc3
  ·replace h := Qat hc3 h
   refine wft hc3 (by kernel_rfl) ?_
   refine wx tbk [] trivial ?_
   refine Qaa ?_
   refine Qa3 ?_
   refine Qan ?_
   obtain rfl := osi h
   exact fend ⟨[I 0], ⟨rot (by kernel_rfl), trivial⟩, rfl⟩ nll
  ·replace h := Qau hc3 h
   refine wfn hc3 (by kernel_rfl) ?_
   refine wx tbk [] trivial ?_
   rcases bft ((decide (p1.Heat ≥ (w64 (p1.Mass * p0.Row.Vapour))))) with hc4 | hc4
   ·replace h := Qat hc4 h
    refine wft hc4 (by kernel_rfl) ?_
    refine wx tbk [] trivial ?_
    refine Qaa ?_
    refine Qa3 ?_
    refine Qan ?_
    obtain rfl := osi h
    exact fend ⟨[I p1.Mass], ⟨rot (by kernel_rfl), trivial⟩, rfl⟩ nll
   ·replace h := Qau hc4 h
    refine wfn hc4 (by kernel_rfl) ?_
    refine Qam ?_
    refine bln ?_
    refine thn ?_
    obtain ⟨hz5, h⟩ := cko h
    obtain ⟨x6, hl7, h⟩ := bno h
    refine wx tbk [(8, rp [(.tmp 30, I x1), (.tmp 37, (I (w64 (p0.Row.Vapour - p0.Row.Liquid))))] (I (w64 (x1.tdiv (w64 (p0.Row.Vapour - p0.Row.Liquid)))))), (9, rp [(.tmp 38, (I (w64 (x1.tdiv (w64 (p0.Row.Vapour - p0.Row.Liquid))))))] (I x6))] ⟨Qv5 rfl (Zcw hz5), Qd8 hl7 (aas rfl), trivial⟩ ?_
    refine Qaa ?_
    obtain rfl := osi h
    exact fend ⟨[I x6], ⟨rot (by kernel_rfl), trivial⟩, rfl⟩ nll
def Qfw (N : Nat) (p0 : GFlash) (p1 : GStream) : Option GParts :=
  (Qfe N (⟨(⟨p0.Row.T, p0.Row.P, p0.Row.Liquid, p0.Row.Vapour, p0.Row.Silica⟩ : GRow)⟩ : GFlash) p1).bind fun x2 =>
  Qc5 (fun ⟨y3, y4, y5, y6, y7, _, y9⟩ =>
    (some (if (w64 (y6 * p0.Row.Silica)) < p1.Silica then w64 (y6 * p0.Row.Silica) else p1.Silica)).bind fun x11 =>
    bif (decide (y6 > 0)) then
     (some (if (w64 (y7 - (w64 (y6 * p0.Row.Liquid)))) > 0 then w64 (y7 - (w64 (y6 * p0.Row.Liquid))) else 0)).bind fun x14 =>
     some (⟨(⟨y3, y4, 0, y5⟩ : GStream), (⟨y6, y7, x11, y9⟩ : GStream), x14, w64 (p1.Silica - x11)⟩ : GParts)
    else
     some (⟨(⟨y3, y4, 0, y5⟩ : GStream), (⟨y6, y7, x11, y9⟩ : GStream), 0, w64 (p1.Silica - x11)⟩ : GParts)) fun k10 : Int × Int × Int × Int × Int × Int × Int → Option GParts =>
  bif (x2 == 0) then
   k10 (0, 0, 0, p1.Mass, p1.Heat, p1.Silica, p1.Gas)
  else
   bif (x2 == p1.Mass) then
    k10 (x2, p1.Heat, p1.Gas, 0, 0, 0, 0)
   else
    k10 (x2, w64 (x2 * p0.Row.Vapour), p1.Gas, w64 (p1.Mass - x2), w64 (p1.Heat - (w64 (x2 * p0.Row.Vapour))), 0, 0)
def Zc8 (p0 : GFlash) : AV := .agg [(I (p0.Row.T)), (I (p0.Row.P)), (I (p0.Row.Liquid)), (I (p0.Row.Vapour)), (I (p0.Row.Silica))]
def Zc7 (p1 : GStream) : AV := .agg [(I (p1.Mass)), (I (p1.Heat)), (I (p1.Silica)), (I (p1.Gas))]
def Q5d (p0 : GFlash) : Slot := .own 5 [[(I (p0.Row.T)), (I (p0.Row.P)), (I (p0.Row.Liquid)), (I (p0.Row.Vapour)), (I (p0.Row.Silica))]]
def Q5c (p1 : GStream) : Slot := .own 4 [[(I (p1.Mass)), (I (p1.Heat)), (I (p1.Silica)), (I (p1.Gas))]]
theorem Qoe (N : Nat) (p0 : GFlash) (p1 : GStream) (r : GParts) (h : Qfw N p0 p1 = some r) : Spec Tryz.prog 52 [(.agg (Qtw p0)), (.agg (Qa4 p1))] [] (.agg (Qzo r)) [] := by
  refine Qac Tryz.func52 rfl 0 (nle rfl) (fun X φ0 w0 hφ0 hd0 => ?_)
  unfold Qfw at h
  refine wx tbk [] trivial ?_
  obtain ⟨x2, hf1, h⟩ := bno h
  refine wx tbk [(2, rp [fu 77, (.tmp 7, (Zc8 p0)), (.tmp 8, (Zc7 p1))] (I x2))] ⟨apc (first := []) (cap := []) (vs := [(Zc8 p0), (Zc7 p1)]) rfl Zby (Ql4 N (⟨(⟨p0.Row.T, p0.Row.P, p0.Row.Liquid, p0.Row.Vapour, p0.Row.Silica⟩ : GRow)⟩ : GFlash) p1 _ hf1) rfl rfl (nlc (NLt.agg _ (nlc nll (nlc nll (nlc nll (nlc nll (nlc nll nl0)))))) (nlc (NLt.agg _ (nlc nll (nlc nll (nlc nll (nlc nll nl0))))) nl0)) nll rfl, trivial⟩ ?_
  obtain ⟨k10, hk_k10, h⟩ := jko h
  refine wjn (τ := Int × Int × Int × Int × Int × Int × Int) (fun t => k10 t = some r) (fun ⟨y3, y4, y5, y6, y7, y8, y9⟩ => ⟨mk 87 [(2, .ref 0 5 0 0), (3, .ref 1 4 0 0), (4, .ref 2 10 0 0)], [(Q5d p0), (Q5c p1), (.own 10 [[I y3, I y4, I 0, I y5, I y6, I y7, I y8, I y9, I 0, I 0]])]⟩) (fun t h => ?_) ?_
  ·subst hk_k10
   obtain ⟨y3, y4, y5, y6, y7, y8, y9⟩ := t
   obtain ⟨x11, hl12, h⟩ := bno h
   refine wx tbk [(9, rp [(.tmp 52, I p1.Silica), (.tmp 59, (I (w64 (y6 * p0.Row.Silica))))] (I x11))] ⟨Qd8 hl12 (Qmm rfl), trivial⟩ ?_
   refine wxd tbk [] trivial ?_
   refine wsq ?_
   refine wx tbk [] trivial ?_
   rcases bft ((decide (y6 > 0))) with hc13 | hc13
   ·replace h := Qat hc13 h
    refine wft hc13 (by kernel_rfl) ?_
    obtain ⟨x14, hl15, h⟩ := bno h
    refine wx1 tbk [(11, rp [ci 0, (.tmp 83, (I (w64 (y7 - (w64 (y6 * p0.Row.Liquid))))))] (I x14))] ⟨Qd8 hl15 (Qmn rfl), trivial⟩ ?_
    refine thn ?_
    refine wx tbk [] trivial ?_
    refine Qaa ?_
    obtain rfl := osi h
    exact fend ⟨[(.agg [I y3, I y4, I 0, I y5, I y6, I y7, I x11, I y9, I x14, (I (w64 (p1.Silica - x11)))])], ⟨Qa0 (n := 2) (m := 10) (j := 0) (i := 0) (xs := [[I y3, I y4, I 0, I y5, I y6, I y7, I x11, I y9, I x14, (I (w64 (p1.Silica - x11)))]]) (by kernel_rfl) (by kernel_rfl) ti61 (by decide) rfl (nle rfl) rfl, trivial⟩, rfl⟩ (NLt.agg _ (nlc nll (nlc nll (nlc nll (nlc nll (nlc nll (nlc nll (nlc nll (nlc nll (nlc nll (nlc nll nl0)))))))))))
   ·replace h := Qau hc13 h
    refine wfn hc13 (by kernel_rfl) ?_
    refine Qam ?_
    refine thn ?_
    refine wx tbk [] trivial ?_
    refine Qaa ?_
    obtain rfl := osi h
    exact fend ⟨[(.agg [I y3, I y4, I 0, I y5, I y6, I y7, I x11, I y9, I 0, (I (w64 (p1.Silica - x11)))])], ⟨Qa0 (n := 2) (m := 10) (j := 0) (i := 0) (xs := [[I y3, I y4, I 0, I y5, I y6, I y7, I x11, I y9, I 0, (I (w64 (p1.Silica - x11)))]]) (by kernel_rfl) (by kernel_rfl) ti61 (by decide) rfl (nle rfl) rfl, trivial⟩, rfl⟩ (NLt.agg _ (nlc nll (nlc nll (nlc nll (nlc nll (nlc nll (nlc nll (nlc nll (nlc nll (nlc nll (nlc nll nl0)))))))))))
  ·skip
   refine Qaj ?_
   refine wx tbk [] trivial ?_
   rcases bft ((x2 == 0)) with hc16 | hc16
   ·replace h := Qat hc16 h
    refine wft hc16 (by kernel_rfl) ?_
    refine wx1 tbk [] trivial ?_
    refine bln ?_
    refine thn ?_
    exact ⟨(0, 0, 0, p1.Mass, p1.Heat, p1.Silica, p1.Gas), h, (mto (n := 87) [(2, .ref 0 5 0 0), (3, .ref 1 4 0 0), (4, .ref 2 10 0 0)] [0, 1, 2] [(Q5d p0), (Q5c p1), (.own 10 [[I 0, I 0, I 0, I 0, I p1.Mass, I p1.Heat, I p1.Silica, I p1.Gas, I 0, I 0]])] hφ0 (pc (.rn (rqr rfl)) (pc (.rn (rqr rfl)) (pc (.rn (rqr rfl)) pn))) (qc (spb (lc rwl (lc rwl (lc rwl (lc rwl (lc rwl ln)))))) (qc (spb (lc rwl (lc rwl (lc rwl (lc rwl ln))))) (qc (spb (lc rwl (lc rwl (lc rwl (lc rwl (lc rwl (lc rwl (lc rwl (lc rwl (lc rwl (lc rwl ln))))))))))) qn))))⟩
   ·replace h := Qau hc16 h
    refine wfn hc16 (by kernel_rfl) ?_
    refine wx tbk [] trivial ?_
    rcases bft ((x2 == p1.Mass)) with hc17 | hc17
    ·replace h := Qat hc17 h
     refine wft hc17 (by kernel_rfl) ?_
     refine wx1 tbk [(5, rp [(.tmp 44, I x2), (.tmp 46, I p1.Heat), (.tmp 48, I p1.Gas)] (.agg [I x2, I p1.Heat, I 0, I p1.Gas]))] ⟨Qao (vs := [I x2, I p1.Heat, I p1.Gas]) rfl ts35 tz35 rfl (by rfl) rfl, trivial⟩ ?_
     refine bln ?_
     refine thn ?_
     exact ⟨(x2, p1.Heat, p1.Gas, 0, 0, 0, 0), h, (mto (n := 87) [(2, .ref 0 5 0 0), (3, .ref 1 4 0 0), (4, .ref 2 10 0 0)] [0, 1, 2] [(Q5d p0), (Q5c p1), (.own 10 [[I x2, I p1.Heat, I 0, I p1.Gas, I 0, I 0, I 0, I 0, I 0, I 0]])] hφ0 (pc (.rn (rqr rfl)) (pc (.rn (rqr rfl)) (pc (.rn (rqr rfl)) pn))) (qc (spb (lc rwl (lc rwl (lc rwl (lc rwl (lc rwl ln)))))) (qc (spb (lc rwl (lc rwl (lc rwl (lc rwl ln))))) (qc (spb (lc rwl (lc rwl (lc rwl (lc rwl (lc rwl (lc rwl (lc rwl (lc rwl (lc rwl (lc rwl ln))))))))))) qn))))⟩
    ·replace h := Qau hc17 h
     refine wfn hc17 (by kernel_rfl) ?_
     refine wx tbk [(8, rp [(.tmp 10, I x2), (.tmp 15, (I (w64 (x2 * p0.Row.Vapour)))), (.tmp 17, I p1.Gas)] (.agg [I x2, (I (w64 (x2 * p0.Row.Vapour))), I 0, I p1.Gas]))] ⟨Qao (vs := [I x2, (I (w64 (x2 * p0.Row.Vapour))), I p1.Gas]) rfl ts35 tz35 rfl (by rfl) rfl, trivial⟩ ?_
     refine wx1 tbk [(12, rp [(.tmp 23, (I (w64 (p1.Mass - x2)))), (.tmp 31, (I (w64 (p1.Heat - (w64 (x2 * p0.Row.Vapour))))))] (.agg [(I (w64 (p1.Mass - x2))), (I (w64 (p1.Heat - (w64 (x2 * p0.Row.Vapour))))), I 0, I 0]))] ⟨Qao (vs := [(I (w64 (p1.Mass - x2))), (I (w64 (p1.Heat - (w64 (x2 * p0.Row.Vapour)))))]) rfl ts35 tz35 rfl (by rfl) rfl, trivial⟩ ?_
     refine bln ?_
     refine thn ?_
     exact ⟨(x2, w64 (x2 * p0.Row.Vapour), p1.Gas, w64 (p1.Mass - x2), w64 (p1.Heat - (w64 (x2 * p0.Row.Vapour))), 0, 0), h, (mto (n := 87) [(2, .ref 0 5 0 0), (3, .ref 1 4 0 0), (4, .ref 2 10 0 0)] [0, 1, 2] [(Q5d p0), (Q5c p1), (.own 10 [[I x2, (I (w64 (x2 * p0.Row.Vapour))), I 0, I p1.Gas, (I (w64 (p1.Mass - x2))), (I (w64 (p1.Heat - (w64 (x2 * p0.Row.Vapour))))), I 0, I 0, I 0, I 0]])] hφ0 (pc (.rn (rqr rfl)) (pc (.rn (rqr rfl)) (pc (.rn (rqr rfl)) pn))) (qc (spb (lc rwl (lc rwl (lc rwl (lc rwl (lc rwl ln)))))) (qc (spb (lc rwl (lc rwl (lc rwl (lc rwl ln))))) (qc (spb (lc rwl (lc rwl (lc rwl (lc rwl (lc rwl (lc rwl (lc rwl (lc rwl (lc rwl (lc rwl ln))))))))))) qn))))⟩
def Qhn (N : Nat) (p0 : (List GRow)) (p1 : Int) (p2 : GStream) : Option (GParts × Int) :=
  (Qeu N p0).bind fun x2 =>
  bif (!x2) then
   some ((⟨(⟨0, 0, 0, 0⟩ : GStream), (⟨0, 0, 0, 0⟩ : GStream), 0, 0⟩ : GParts), 1)
  else
   (Qhb N p0 p1).bind fun x5 =>
   bif (!x5) then
    some ((⟨(⟨0, 0, 0, 0⟩ : GStream), (⟨0, 0, 0, 0⟩ : GStream), 0, 0⟩ : GParts), 2)
   else
    (Qdu N p2).bind fun x8 =>
    bif (!x8) then
     some ((⟨(⟨0, 0, 0, 0⟩ : GStream), (⟨0, 0, 0, 0⟩ : GStream), 0, 0⟩ : GParts), 1)
    else
     (Qhv N p0 p1).bind fun x11 =>
     (Qfw N (⟨(⟨x11.Row.T, x11.Row.P, x11.Row.Liquid, x11.Row.Vapour, x11.Row.Silica⟩ : GRow)⟩ : GFlash) p2).bind fun x13 =>
     some ((⟨(⟨x13.Steam.Mass, x13.Steam.Heat, x13.Steam.Silica, x13.Steam.Gas⟩ : GStream), (⟨x13.Water.Mass, x13.Water.Heat, x13.Water.Silica, x13.Water.Gas⟩ : GStream), x13.Rest, x13.Scale⟩ : GParts), 0)
def Qzz (p0 : (List GRow)) : AV := .dat 5 ((p0 : List GRow).map Qa6)
def Qzy : AV := .agg [(I (0)), (I (0)), (I (0)), (I (0)), (I (0)), (I (0)), (I (0)), (I (0)), (I (0)), (I (0))]
def Q5g (p2 : GStream) : AV := .agg [(I (p2.Mass)), (I (p2.Heat)), (I (p2.Silica)), (I (p2.Gas))]
def Q8w (x11 : GFlash) : AV := .agg [(I (x11.Row.T)), (I (x11.Row.P)), (I (x11.Row.Liquid)), (I (x11.Row.Vapour)), (I (x11.Row.Silica))]
def Zda (x13 : GParts) : AV := .agg [(I (x13.Steam.Mass)), (I (x13.Steam.Heat)), (I (x13.Steam.Silica)), (I (x13.Steam.Gas)), (I (x13.Water.Mass)), (I (x13.Water.Heat)), (I (x13.Water.Silica)), (I (x13.Water.Gas)), (I (x13.Rest)), (I (x13.Scale))]
theorem Qqp (N : Nat) (p0 : (List GRow)) (p1 : Int) (p2 : GStream) (r : (GParts × Int)) (h : Qhn N p0 p1 p2 = some r) : Spec Tryz.prog 16 [(.dat 5 (p0.map Qa6)), (I p1), (.agg (Qa4 p2))] [] (.tup [(.agg (Qzo r.1)), (I r.2)]) [] := by
  refine Qac Tryz.func16 rfl 0 (nle rfl) (fun X φ0 w0 hφ0 hd0 => ?_)
  unfold Qhn at h
  refine wx tbk [] trivial ?_
  refine wsq ?_
  refine Qaj ?_
  obtain ⟨x2, hf1, h⟩ := bno h
  refine wx tbk [(1, rp [fu 49, (.tmp 9, (Qzz p0))] (B x2))] ⟨apc (first := []) (cap := []) (vs := [(Qzz p0)]) rfl Q4d (Qiw N p0 _ hf1) rfl rfl (nlc (nld Qa9 _) nl0) nll rfl, trivial⟩ ?_
  rcases bft ((!x2)) with hc3 | hc3
  ·replace h := Qat hc3 h
   refine wft hc3 (by kernel_rfl) ?_
   refine wx tbk [(0, rp [] Qzy)] ⟨Qao (vs := []) rfl ts61 tz61 rfl (by rfl) rfl, trivial⟩ ?_
   refine Qaa ?_
   refine Qa3 ?_
   refine Qan ?_
   obtain rfl := osi h
   exact fend ⟨[Qzy, I 1], ⟨Qa0 (n := 1) (m := 10) (j := 0) (i := 0) (xs := [[I 0, I 0, I 0, I 0, I 0, I 0, I 0, I 0, I 0, I 0]]) (by kernel_rfl) (by kernel_rfl) ti61 (by decide) rfl (nle rfl) rfl, rot (by kernel_rfl), trivial⟩, rfl⟩ (NLt.tup _ (nlc (NLt.agg _ (nlc nll (nlc nll (nlc nll (nlc nll (nlc nll (nlc nll (nlc nll (nlc nll (nlc nll (nlc nll nl0))))))))))) (nlc nll nl0)))
  ·replace h := Qau hc3 h
   refine wfn hc3 (by kernel_rfl) ?_
   obtain ⟨x5, hf4, h⟩ := bno h
   refine wx tbk [(2, rp [fu 50, (.tmp 14, (Qzz p0)), (.tmp 15, I p1)] (B x5))] ⟨apc (first := []) (cap := []) (vs := [(Qzz p0), I p1]) rfl Zcd (Qnu N p0 p1 _ hf4) rfl rfl (nlc (nld Qa9 _) (nlc nll nl0)) nll rfl, trivial⟩ ?_
   rcases bft ((!x5)) with hc6 | hc6
   ·replace h := Qat hc6 h
    refine wft hc6 (by kernel_rfl) ?_
    refine wx tbk [(0, rp [] Qzy)] ⟨Qao (vs := []) rfl ts61 tz61 rfl (by rfl) rfl, trivial⟩ ?_
    refine Qaa ?_
    refine Qa3 ?_
    refine Qan ?_
    obtain rfl := osi h
    exact fend ⟨[Qzy, I 2], ⟨Qa0 (n := 1) (m := 10) (j := 0) (i := 0) (xs := [[I 0, I 0, I 0, I 0, I 0, I 0, I 0, I 0, I 0, I 0]]) (by kernel_rfl) (by kernel_rfl) ti61 (by decide) rfl (nle rfl) rfl, rot (by kernel_rfl), trivial⟩, rfl⟩ (NLt.tup _ (nlc (NLt.agg _ (nlc nll (nlc nll (nlc nll (nlc nll (nlc nll (nlc nll (nlc nll (nlc nll (nlc nll (nlc nll nl0))))))))))) (nlc nll nl0)))
   ·replace h := Qau hc6 h
    refine wfn hc6 (by kernel_rfl) ?_
    obtain ⟨x8, hf7, h⟩ := bno h
    refine wx tbk [(1, rp [fu 48, (.tmp 20, (Q5g p2))] (B x8))] ⟨apc (first := []) (cap := []) (vs := [(Q5g p2)]) rfl Qxp (Qgh N p2 _ hf7) rfl rfl (nlc (NLt.agg _ (nlc nll (nlc nll (nlc nll (nlc nll nl0))))) nl0) nll rfl, trivial⟩ ?_
    rcases bft ((!x8)) with hc9 | hc9
    ·replace h := Qat hc9 h
     refine wft hc9 (by kernel_rfl) ?_
     refine wx tbk [(0, rp [] Qzy)] ⟨Qao (vs := []) rfl ts61 tz61 rfl (by rfl) rfl, trivial⟩ ?_
     refine Qaa ?_
     refine Qa3 ?_
     refine Qan ?_
     obtain rfl := osi h
     exact fend ⟨[Qzy, I 1], ⟨Qa0 (n := 1) (m := 10) (j := 0) (i := 0) (xs := [[I 0, I 0, I 0, I 0, I 0, I 0, I 0, I 0, I 0, I 0]]) (by kernel_rfl) (by kernel_rfl) ti61 (by decide) rfl (nle rfl) rfl, rot (by kernel_rfl), trivial⟩, rfl⟩ (NLt.tup _ (nlc (NLt.agg _ (nlc nll (nlc nll (nlc nll (nlc nll (nlc nll (nlc nll (nlc nll (nlc nll (nlc nll (nlc nll nl0))))))))))) (nlc nll nl0)))
    ·replace h := Qau hc9 h
     refine wfn hc9 (by kernel_rfl) ?_
     refine Qam ?_
     refine bln ?_
     refine thn ?_
     obtain ⟨x11, hf10, h⟩ := bno h
     obtain ⟨x13, hf12, h⟩ := bno h
     refine wxd tbk [(2, rp [fu 51, (.tmp 24, (Qzz p0)), (.tmp 25, I p1)] (Q8w x11)), (4, rp [fu 52, (.tmp 26, (Q8w x11)), (.tmp 27, (Q5g p2))] (Zda x13))] ⟨apc (first := []) (cap := []) (vs := [(Qzz p0), I p1]) rfl Zcc (Qof N p0 p1 _ hf10) rfl rfl (nlc (nld Qa9 _) (nlc nll nl0)) (NLt.agg _ (nlc nll (nlc nll (nlc nll (nlc nll (nlc nll nl0)))))) rfl, apc (first := []) (cap := []) (vs := [(Q8w x11), (Q5g p2)]) rfl Zcb (Qoe N (⟨(⟨x11.Row.T, x11.Row.P, x11.Row.Liquid, x11.Row.Vapour, x11.Row.Silica⟩ : GRow)⟩ : GFlash) p2 _ hf12) rfl rfl (nlc (NLt.agg _ (nlc nll (nlc nll (nlc nll (nlc nll (nlc nll nl0)))))) (nlc (NLt.agg _ (nlc nll (nlc nll (nlc nll (nlc nll nl0))))) nl0)) (NLt.agg _ (nlc nll (nlc nll (nlc nll (nlc nll (nlc nll (nlc nll (nlc nll (nlc nll (nlc nll (nlc nll nl0))))))))))) rfl, trivial⟩ ?_
     refine Qaa ?_
     obtain rfl := osi h
     exact fend ⟨[(Zda x13), I 0], ⟨Qa0 (n := 1) (m := 10) (j := 0) (i := 0) (xs := [[I x13.Steam.Mass, I x13.Steam.Heat, I x13.Steam.Silica, I x13.Steam.Gas, I x13.Water.Mass, I x13.Water.Heat, I x13.Water.Silica, I x13.Water.Gas, I x13.Rest, I x13.Scale]]) (by kernel_rfl) (by kernel_rfl) ti61 (by decide) rfl (nle rfl) rfl, rot (by kernel_rfl), trivial⟩, rfl⟩ (NLt.tup _ (nlc (NLt.agg _ (nlc nll (nlc nll (nlc nll (nlc nll (nlc nll (nlc nll (nlc nll (nlc nll (nlc nll (nlc nll nl0))))))))))) (nlc nll nl0)))
def Qia (N : Nat) (p0 : GUnit) (p1 : GStream) : Option (GStream × Int × Int) :=
  Qc5 (fun _ =>
    (Qeg N p0 p1.Mass).bind fun x3 =>
    bif (decide (p1.Heat < x3)) then
     some ((⟨0, 0, 0, 0⟩ : GStream), 0, 9)
    else
     some ((⟨p1.Mass, w64 (p1.Heat - x3), p1.Silica, p1.Gas⟩ : GStream), x3, 0)) fun k1 : Unit → Option (GStream × Int × Int) =>
  (Qd6 N p0).bind fun x6 =>
  bif (!x6) then
   some ((⟨0, 0, 0, 0⟩ : GStream), 0, 1)
  else
   (Qem N ([p1])).bind fun x9 =>
   bif (!x9) then
    some ((⟨0, 0, 0, 0⟩ : GStream), 0, 1)
   else
    (Qed N p0).bind fun x12 =>
    bif (decide (p1.Mass > x12)) then
     some ((⟨0, 0, 0, 0⟩ : GStream), 0, 2)
    else
     k1 ()
def Q8p (p0 : GUnit) : AV := .dat 2 ((p0.Parts : List GPart).map Qba)
def Zc6 (p1 : GStream) : Slot := .own 4 [[(I (p1.Mass)), (I (p1.Heat)), (I (p1.Silica)), (I (p1.Gas))]]
def Zc4 : Slot := .own 4 [[(I (0)), (I (0)), (I (0)), (I (0))]]
def Qt8 (p0 : GUnit) : AV := .agg [(I (p0.Inlet)), (Q8p p0)]
def Qt7 : AV := .agg [(I (0)), (I (0)), (I (0)), (I (0))]
def Zc5 (p1 : GStream) : AV := .agg [(I (p1.Mass)), (I (p1.Heat)), (I (p1.Silica)), (I (p1.Gas))]
def Q8o (p1 : GStream) : AV := .dat 4 (([p1] : List GStream).map Qa4)
theorem Qp4 (N : Nat) (p0 : GUnit) (p1 : GStream) (r : (GStream × Int × Int)) (h : Qia N p0 p1 = some r) : Spec Tryz.prog 17 [(.agg (Qck p0)), (.agg (Qa4 p1))] [] (.tup [(.agg (Qa4 r.1)), (I r.2.1), (I r.2.2)]) [] := by
  refine Qac Tryz.func17 rfl 0 (nle rfl) (fun X φ0 w0 hφ0 hd0 => ?_)
  unfold Qia at h
  refine wx tbk [] trivial ?_
  obtain ⟨k1, hk_k1, h⟩ := jko h
  refine wjn (τ := Unit) (fun t => k1 t = some r) (fun _ => ⟨mk 41 [(2, .ref 0 2 0 0), (3, .ref 1 4 0 0), (4, .ref 2 4 0 0)], [(.own 2 [[I p0.Inlet, (Q8p p0)]]), (Zc6 p1), Zc4]⟩) (fun t h => ?_) ?_
  ·subst hk_k1
   obtain ⟨x3, hf2, h⟩ := bno h
   refine wx tbk [(3, rp [fu 55, (.tmp 25, (Qt8 p0)), (.tmp 27, I p1.Mass)] (I x3))] ⟨apc (first := []) (cap := []) (vs := [(Qt8 p0), I p1.Mass]) rfl Qxo (Qg7 N p0 p1.Mass _ hf2) rfl rfl (nlc (NLt.agg _ (nlc nll (nlc (nld Qaq _) nl0))) (nlc nll nl0)) nll rfl, trivial⟩ ?_
   refine wsq ?_
   refine wx tbk [] trivial ?_
   rcases bft ((decide (p1.Heat < x3))) with hc4 | hc4
   ·replace h := Qat hc4 h
    refine wft hc4 (by kernel_rfl) ?_
    refine wx tbk [(0, rp [] Qt7)] ⟨Qao (vs := []) rfl ts35 tz35 rfl (by rfl) rfl, trivial⟩ ?_
    refine Qaa ?_
    refine Qan ?_
    obtain rfl := osi h
    exact fend ⟨[Qt7, I 0, I 9], ⟨Qa0 (n := 2) (m := 4) (j := 0) (i := 0) (xs := [[I 0, I 0, I 0, I 0]]) (by kernel_rfl) (by kernel_rfl) ti35 (by decide) rfl (nle rfl) rfl, rot (by kernel_rfl), rot (by kernel_rfl), trivial⟩, rfl⟩ (NLt.tup _ (nlc (NLt.agg _ (nlc nll (nlc nll (nlc nll (nlc nll nl0))))) (nlc nll (nlc nll nl0))))
   ·replace h := Qau hc4 h
    refine wfn hc4 (by kernel_rfl) ?_
    refine Qam ?_
    refine thn ?_
    refine wx tbk [] trivial ?_
    refine wx tbk [] trivial ?_
    refine Qaa ?_
    obtain rfl := osi h
    exact fend ⟨[(.agg [I p1.Mass, (I (w64 (p1.Heat - x3))), I p1.Silica, I p1.Gas]), I x3, I 0], ⟨Qa0 (n := 2) (m := 4) (j := 0) (i := 0) (xs := [[I p1.Mass, (I (w64 (p1.Heat - x3))), I p1.Silica, I p1.Gas]]) (by kernel_rfl) (by kernel_rfl) ti35 (by decide) rfl (nle rfl) rfl, rot (by kernel_rfl), rot (by kernel_rfl), trivial⟩, rfl⟩ (NLt.tup _ (nlc (NLt.agg _ (nlc nll (nlc nll (nlc nll (nlc nll nl0))))) (nlc nll (nlc nll nl0))))
  ·skip
   refine Qaj ?_
   obtain ⟨x6, hf5, h⟩ := bno h
   rcases bft ((!x6)) with hb7 | hb7
   ·replace h := Qat hb7 h
    refine wx tbk [(1, rp [fu 53, (.tmp 8, (Qt8 p0))] (B x6)), (3, rp [(.tmp 10, (B ((!x6))))] (B true))] ⟨apc (first := []) (cap := []) (vs := [(Qt8 p0)]) rfl Qle (Qcx N p0 _ hf5) rfl rfl (nlc (NLt.agg _ (nlc nll (nlc (nld Qaq _) nl0))) nl0) nll rfl, asb hb7 (amv rfl), trivial⟩ ?_
    refine Qcy (by kernel_rfl) ?_
    refine wx tbk [(0, rp [] Qt7)] ⟨Qao (vs := []) rfl ts35 tz35 rfl (by rfl) rfl, trivial⟩ ?_
    refine Qaa ?_
    refine Qa3 ?_
    refine Qan ?_
    obtain rfl := osi h
    exact fend ⟨[Qt7, I 0, I 1], ⟨Qa0 (n := 2) (m := 4) (j := 0) (i := 0) (xs := [[I 0, I 0, I 0, I 0]]) (by kernel_rfl) (by kernel_rfl) ti35 (by decide) rfl (nle rfl) rfl, rot (by kernel_rfl), rot (by kernel_rfl), trivial⟩, rfl⟩ (NLt.tup _ (nlc (NLt.agg _ (nlc nll (nlc nll (nlc nll (nlc nll nl0))))) (nlc nll (nlc nll nl0))))
   ·replace h := Qau hb7 h
    obtain ⟨x9, hf8, h⟩ := bno h
    refine wx tbk [(1, rp [fu 53, (.tmp 8, (Qt8 p0))] (B x6)), (3, rp [(.tmp 10, (B ((!x6))))] (B false)), (5, rp [(.tmp 11, B false), (.tmp 12, (Zc5 p1))] (Q8o p1)), (6, rp [(.tmp 11, B false), fu 29, (.tmp 13, (Q8o p1))] (B x9))] ⟨apc (first := []) (cap := []) (vs := [(Qt8 p0)]) rfl Qle (Qcx N p0 _ hf5) rfl rfl (nlc (NLt.agg _ (nlc nll (nlc (nld Qaq _) nl0))) nl0) nll rfl, asb hb7 (amv rfl), ag_ (Qcb (vs := [(Zc5 p1)]) rfl Tryz.underlying124 ti35 tz35 rfl (by decide) rfl (by decide) (by rfl) (by rfl) (by rfl) rfl), ag_ (apc (first := []) (cap := []) (vs := [(Q8o p1)]) rfl Qra (Qgq N ([p1]) _ hf8) rfl rfl (nlc (nld Qdc _) nl0) nll rfl), trivial⟩ ?_
    rcases bft ((!x9)) with hc10 | hc10
    ·replace h := Qat hc10 h
     refine wft hc10 (by kernel_rfl) ?_
     refine wx tbk [(0, rp [] Qt7)] ⟨Qao (vs := []) rfl ts35 tz35 rfl (by rfl) rfl, trivial⟩ ?_
     refine Qaa ?_
     refine Qa3 ?_
     refine Qan ?_
     obtain rfl := osi h
     exact fend ⟨[Qt7, I 0, I 1], ⟨Qa0 (n := 2) (m := 4) (j := 0) (i := 0) (xs := [[I 0, I 0, I 0, I 0]]) (by kernel_rfl) (by kernel_rfl) ti35 (by decide) rfl (nle rfl) rfl, rot (by kernel_rfl), rot (by kernel_rfl), trivial⟩, rfl⟩ (NLt.tup _ (nlc (NLt.agg _ (nlc nll (nlc nll (nlc nll (nlc nll nl0))))) (nlc nll (nlc nll nl0))))
    ·replace h := Qau hc10 h
     refine wfn hc10 (by kernel_rfl) ?_
     obtain ⟨x12, hf11, h⟩ := bno h
     refine wxd tbk [(3, rp [fu 54, (.tmp 21, (Qt8 p0))] (I x12))] ⟨apc (first := []) (cap := []) (vs := [(Qt8 p0)]) rfl Q4c (Qh6 N p0 _ hf11) rfl rfl (nlc (NLt.agg _ (nlc nll (nlc (nld Qaq _) nl0))) nl0) nll rfl, trivial⟩ ?_
     rcases bft ((decide (p1.Mass > x12))) with hc13 | hc13
     ·replace h := Qat hc13 h
      refine wft hc13 (by kernel_rfl) ?_
      refine wx tbk [(0, rp [] Qt7)] ⟨Qao (vs := []) rfl ts35 tz35 rfl (by rfl) rfl, trivial⟩ ?_
      refine Qaa ?_
      refine Qa3 ?_
      refine Qan ?_
      obtain rfl := osi h
      exact fend ⟨[Qt7, I 0, I 2], ⟨Qa0 (n := 2) (m := 4) (j := 0) (i := 0) (xs := [[I 0, I 0, I 0, I 0]]) (by kernel_rfl) (by kernel_rfl) ti35 (by decide) rfl (nle rfl) rfl, rot (by kernel_rfl), rot (by kernel_rfl), trivial⟩, rfl⟩ (NLt.tup _ (nlc (NLt.agg _ (nlc nll (nlc nll (nlc nll (nlc nll nl0))))) (nlc nll (nlc nll nl0))))
     ·replace h := Qau hc13 h
      refine wfn hc13 (by kernel_rfl) ?_
      refine Qam ?_
      refine bln ?_
      refine thn ?_
      exact ⟨(), h, (mto (n := 41) [(2, .ref 0 2 0 0), (3, .ref 1 4 0 0), (4, .ref 2 4 0 0)] [0, 1, 2] [(.own 2 [[I p0.Inlet, (Q8p p0)]]), (Zc6 p1), Zc4] hφ0 (pc (.rn (rqr rfl)) (pc (.rn (rqr rfl)) (pc (.rn (rqr rfl)) pn))) (qc (spb (lc rwl (lc (.rn (.plain _ (nld Qaq _))) ln))) (qc (spb (lc rwl (lc rwl (lc rwl (lc rwl ln))))) (qc (spb (lc rwl (lc rwl (lc rwl (lc rwl ln))))) qn))))⟩
def Qd9 (N : Nat) (p0 : GStream) : Option Bool :=
  (Qdu N p0).bind fun x3 =>
  some (!x3)
def Q2z (p0 : GStream) : AV := .agg [(I (p0.Mass)), (I (p0.Heat)), (I (p0.Silica)), (I (p0.Gas))]
def Qyv : Slot := .own 1 [[(.fn (.func 48) [] [])]]
theorem Qiv (N : Nat) (p0 : GStream) (r : Bool) (h : Qd9 N p0 = some r) : Spec Tryz.prog 116 [(Q2z p0), (.ref 0 1 (0) 0)] [Qyv] (B (r)) [Qyv] := by
  refine Qac Tryz.func116 rfl 1 (nle rfl) (fun X φ0 w0 hφ0 hd0 => ?_)
  unfold Qd9 at h
  refine Qbh ?_
  refine wx tbk [] trivial ?_
  obtain ⟨x3, hf2, h⟩ := bno h
  refine wx tbk [(2, rp [(.tmp 4, (.fn (.func 48) [] [])), (.tmp 5, (Q2z p0))] (B x3))] ⟨apc (first := []) (cap := []) (vs := [(Q2z p0)]) rfl Qxp (Qgh N p0 _ hf2) rfl rfl (nlc (NLt.agg _ (nlc nll (nlc nll (nlc nll (nlc nll nl0))))) nl0) nll rfl, trivial⟩ ?_
  refine wmr (mto (n := 8) (l' := [(3, (B ((!x3))))]) (own' := [Qyv]) [(3, (B ((!x3))))] [0] [Qyv] hφ0 (pc rwl pn) (qc (spb (lc (.rn (Qas rn0 rn0)) ln)) qn)) ?_
  refine Qaa ?_
  obtain rfl := osi h
  exact ⟨_, Mor.rfl, Qb7 (vs := [(B ((!x3)))]) ⟨rot (by kernel_rfl), trivial⟩ rfl (NLt.of0 nll) (by kernel_rfl) (Qaf (Qav (nlc (NLt.of0 (NLt.fn _ _ _ nl0 nl0)) nl0)) Qbd)⟩
def Qa7 (N : Nat) (p0 : (List GStream)) (k2 : Unit → Option Int) : Nat → Int → Option Int
  | 0, _ => none
  | n5 + 1, y3 =>
    bif (decide (y3 < (p0.length : Int))) then
     (getI p0 y3).bind fun x7 =>
     (Qd9 N x7).bind fun x12 =>
     bif x12 then
      some y3
     else
      Qa7 N p0 k2 n5 (w64 (y3 + 1))
    else
     k2 ()
def Qb9 (N : Nat) (p0 : (List GStream)) : Option Int :=
  Qc5 (fun _ =>
    some (-1)) fun k2 : Unit → Option Int =>
  Qa7 N p0 k2 N 0
def Qql (p0 : (List GStream)) : AV := .dat 4 ((p0 : List GStream).map Qa4)
def Qr8 : AV := .fn (.func 116) [] [(.ref 0 1 (0) 0)]
def Qji : Slot := .own 1 [[(.fn (.func 48) [] [])]]
def Q8f (x7 : GStream) : AV := .agg [(I (x7.Mass)), (I (x7.Heat)), (I (x7.Silica)), (I (x7.Gas))]
theorem Qff (N : Nat) (p0 : (List GStream)) (r : Int) (h : Qb9 N p0 = some r) : Spec Tryz.prog 113 [(Qql p0), Qr8] [Qji] (I (r)) [Qji] := by
  refine Qac Tryz.func113 rfl 1 (nle rfl) (fun X φ0 w0 hφ0 hd0 => ?_)
  unfold Qb9 at h
  refine Qbh ?_
  refine wx tbk [] trivial ?_
  obtain ⟨k2, hk_k2, h⟩ := jko h
  refine wjn (τ := Unit) (fun t => k2 t = some r) (fun _ => ⟨mk 19 [], [Qji]⟩) (fun t h => ?_) ?_
  ·subst hk_k2
   refine wx tbk [] trivial ?_
   refine wmr (mto (n := 19) (l' := [(4, (I ((-1))))]) (own' := [Qji]) [(4, (I ((-1))))] [0] [Qji] hφ0 (pc rwl pn) (qc (spb (lc (.rn (Qas rn0 rn0)) ln)) qn)) ?_
   refine Qaa ?_
   obtain rfl := osi h
   exact ⟨_, Mor.rfl, Qb7 (vs := [(I ((-1)))]) ⟨rot (by kernel_rfl), trivial⟩ rfl (NLt.of0 nll) (by kernel_rfl) (Qaf (Qav (nlc (NLt.of0 (NLt.fn _ _ _ nl0 nl0)) nl0)) Qbd)⟩
  ·skip
   refine wx tbk [(1, rp [(.tmp 6, (Qql p0))] (I ((p0.length : Int))))] ⟨alm (c := Qa4) (l := p0) (aln rfl Tryz.underlying124 rfl), trivial⟩ ?_
   refine Qaj ?_
   refine wmr (mto (n := 19) (l' := [(0, (Qql p0)), (1, Qr8), (7, (I ((p0.length : Int)))), (8, I 0)]) (own' := [Qji]) [(0, (Qql p0)), (1, Qr8), (7, (I ((p0.length : Int)))), (8, I 0)] [0] [Qji] hφ0 (pc (.rn (.plain _ (nld Qdc _))) (pc (.rn (Qas rn0 (rnc (rqr rfl) rn0))) (pc rwl (pc rwl pn)))) (qc (spb (lc (.rn (Qas rn0 rn0)) ln)) qn)) ?_
   refine Qcl (τ := Int) (fun n t => Qa7 N p0 k2 n t = some r) (fun y3 => ⟨mk 19 [(0, (Qql p0)), (1, Qr8), (7, (I ((p0.length : Int)))), (8, I y3)], [Qji]⟩) (fun t h => by rw [Qa7] at h; cases h) (fun n5 ih y3 h => ?_) N (0) h
   rw [Qa7] at h
   skip
   refine wx tbk [] trivial ?_
   refine wsq ?_
   rcases bft ((decide (y3 < (p0.length : Int)))) with hc6 | hc6
   ·replace h := Qat hc6 h
    refine wft hc6 (by kernel_rfl) ?_
    refine Qam ?_
    refine thn ?_
    refine wsq ?_
    refine Qaj ?_
    refine wx tbk [] trivial ?_
    obtain ⟨x7, hg8, h⟩ := bno h
    obtain ⟨hi9, hj10⟩ := gsm hg8
    obtain ⟨x12, hf11, h⟩ := bno h
    refine wx tbk [(3, rp [(.tmp 12, (Qql p0)), (.tmp 13, I y3)] (.dptr (Qa4 (x7)) 0)), (5, ⟨[(.tmp 11, Qr8), (.tmp 15, (Q8f x7))], [(0, Qji)], B x12, [(0, Qji)], false⟩)] ⟨aid rfl Tryz.underlying124 ti35 rfl rfl hi9 (mgt Qa4 hj10) rfl, Qah (first := []) (cap := [.ref 0 1 0 0]) (vs := [(Q8f x7)]) (σr := [Qji]) (σr' := [Qji]) (res' := (B x12)) [0] rfl Q60 (Qiv N x7 _ hf11) rfl (Qbc (rnc (.plain _ (NLt.agg _ (nlc nll (nlc nll (nlc nll (nlc nll nl0)))))) (rnc (Qa2 rfl) rn0))) (slc (Qae (rnc (.plain _ (NLt.fn _ _ _ nl0 nl0)) rn0)) Qag) (slc (Qae (rnc (.plain _ (NLt.fn _ _ _ nl0 nl0)) rn0)) Qag) (.plain _ nll) rfl rfl rfl, trivial⟩ ?_
    rcases bft (x12) with hc13 | hc13
    ·replace h := Qat hc13 h
     refine wft hc13 (by kernel_rfl) ?_
     refine wx tbk [] trivial ?_
     refine wmr (mto (n := 19) (l' := [(4, I y3)]) (own' := [Qji]) [(4, I y3)] [0] [Qji] hφ0 (pc rwl pn) (qc (spb (lc (.rn (Qas rn0 rn0)) ln)) qn)) ?_
     refine Qaa ?_
     refine Qa3 ?_
     refine Qan ?_
     refine Qan ?_
     refine Qa3 ?_
     refine Qan ?_
     obtain rfl := osi h
     exact ⟨_, Mor.rfl, Qb7 (vs := [I y3]) ⟨rot (by kernel_rfl), trivial⟩ rfl (NLt.of0 nll) (by kernel_rfl) (Qaf (Qav (nlc (NLt.of0 (NLt.fn _ _ _ nl0 nl0)) nl0)) Qbd)⟩
    ·replace h := Qau hc13 h
     refine wfn hc13 (by kernel_rfl) ?_
     refine Qam ?_
     refine bln ?_
     refine thn ?_
     refine wx1 tbk [] trivial ?_
     refine thn ?_
     exact arm (mto (n := 19) [(0, (Qql p0)), (1, Qr8), (7, (I ((p0.length : Int)))), (8, (I (w64 (y3 + 1))))] [0] [Qji] hφ0 (pc (.rn (.plain _ (nld Qdc _))) (pc (.rn (Qas rn0 (rnc (rqr rfl) rn0))) (pc rwl (pc rwl pn)))) (qc (spb (lc (.rn (Qas rn0 rn0)) ln)) qn)) (ih (w64 (y3 + 1)) h)
   ·replace h := Qau hc6 h
    refine wfn hc6 (by kernel_rfl) ?_
    refine Qbr ?_
    refine Qay ?_
    refine Qay ?_
    refine Qbq rfl ?_
    refine thn ?_
    exact ⟨(), h, (mto (n := 19) [] [0] [Qji] hφ0 pn (qc (spb (lc (.rn (Qas rn0 rn0)) ln)) qn))⟩
def Qb2 (N : Nat) (p0 : (List GStream)) : Option Bool :=
  (Qb9 N p0).bind fun x3 =>
  some (decide (x3 ≥ 0))
def Q8k (p0 : (List GStream)) : AV := .dat 4 ((p0 : List GStream).map Qa4)
def Q8j : AV := .fn (.func 116) [] [(.ref 0 1 (0) 0)]
def Qt5 : Slot := .own 1 [[(.fn (.func 48) [] [])]]
theorem Qe5 (N : Nat) (p0 : (List GStream)) (r : Bool) (h : Qb2 N p0 = some r) : Spec Tryz.prog 94 [(Q8k p0), Q8j] [Qt5] (B (r)) [Qt5] := by
  refine Qac Tryz.func94 rfl 1 (nle rfl) (fun X φ0 w0 hφ0 hd0 => ?_)
  unfold Qb2 at h
  refine Qbh ?_
  refine wx tbk [] trivial ?_
  obtain ⟨x3, hf2, h⟩ := bno h
  refine wx tbk [(2, ⟨[fu 113, (.tmp 5, (Q8k p0)), (.tmp 6, Q8j)], [(0, Qt5)], I x3, [(0, Qt5)], false⟩)] ⟨Qah (first := []) (cap := []) (vs := [(Q8k p0), Q8j]) (σr := [Qt5]) (σr' := [Qt5]) (res' := (I x3)) [0] rfl Qzj (Qff N p0 _ hf2) rfl (Qbc (rnc (.plain _ (nld Qdc _)) (rnc (Qas rn0 (rnc (Qa2 rfl) rn0)) rn0))) (slc (Qae (rnc (.plain _ (NLt.fn _ _ _ nl0 nl0)) rn0)) Qag) (slc (Qae (rnc (.plain _ (NLt.fn _ _ _ nl0 nl0)) rn0)) Qag) (.plain _ nll) rfl rfl rfl, trivial⟩ ?_
  refine wmr (mto (n := 9) (l' := [(4, (B ((decide (x3 ≥ 0)))))]) (own' := [Qt5]) [(4, (B ((decide (x3 ≥ 0)))))] [0] [Qt5] hφ0 (pc rwl pn) (qc (spb (lc (.rn (Qas rn0 rn0)) ln)) qn)) ?_
  refine Qaa ?_
  obtain rfl := osi h
  exact ⟨_, Mor.rfl, Qb7 (vs := [(B ((decide (x3 ≥ 0))))]) ⟨rot (by kernel_rfl), trivial⟩ rfl (NLt.of0 nll) (by kernel_rfl) (Qaf (Qav (nlc (NLt.of0 (NLt.fn _ _ _ nl0 nl0)) nl0)) Qbd)⟩
def Qej (N : Nat) (p0 : (List GStream)) : Option Bool :=
  (Qb2 N p0).bind fun x2 =>
  some (!x2)
def Q8m (p0 : (List GStream)) : AV := .dat 4 ((p0 : List GStream).map Qa4)
def Q8l : AV := .fn (.func 116) [] [(.ref 0 1 (0) 0)]
def Q48 : Slot := .own 1 [[(.fn (.func 48) [] [])]]
theorem Qjn (N : Nat) (p0 : (List GStream)) (r : Bool) (h : Qej N p0 = some r) : Spec Tryz.prog 101 [(Q8m p0), (.fn (.func 48) [] [])] [] (B (r)) [] := by
  refine Qac Tryz.func101 rfl 0 (nle rfl) (fun X φ0 w0 hφ0 hd0 => ?_)
  unfold Qej at h
  refine wx tbk [] trivial ?_
  obtain ⟨x2, hf1, h⟩ := bno h
  refine wx tbk [(1, rp [(.tmp 3, .ref 0 1 0 0)] Q8l), (2, ⟨[fu 94, (.tmp 5, (Q8m p0)), (.tmp 6, Q8l)], [(0, Q48)], B x2, [(0, Q48)], false⟩)] ⟨Qdd (fs := []) (cs := [.ref 0 1 0 0]) rfl rfl rfl rfl, Qah (first := []) (cap := []) (vs := [(Q8m p0), Q8l]) (σr := [Q48]) (σr' := [Q48]) (res' := (B x2)) [0] rfl Q39 (Qe5 N p0 _ hf1) rfl (Qbc (rnc (.plain _ (nld Qdc _)) (rnc (Qas rn0 (rnc (Qa2 rfl) rn0)) rn0))) (slc (Qae (rnc (.plain _ (NLt.fn _ _ _ nl0 nl0)) rn0)) Qag) (slc (Qae (rnc (.plain _ (NLt.fn _ _ _ nl0 nl0)) rn0)) Qag) (.plain _ nll) rfl rfl rfl, trivial⟩ ?_
  refine Qaa ?_
  obtain rfl := osi h
  exact fend ⟨[(B ((!x2)))], ⟨rot (by kernel_rfl), trivial⟩, rfl⟩ nll
def Qg9 (N : Nat) (p0 : (List GStream)) : Option Int :=
  bif (decide ((p0.length : Int) > 40)) then
   some 3
  else
   (Qej N p0).bind fun x3 =>
   bif (!x3) then
    some 1
   else
    some 0
def Q8n (p0 : (List GStream)) : AV := .dat 4 ((p0 : List GStream).map Qa4)
theorem Qo6 (N : Nat) (p0 : (List GStream)) (r : Int) (h : Qg9 N p0 = some r) : Spec Tryz.prog 81 [(.dat 4 (p0.map Qa4))] [] (I r) [] := by
  refine Qac Tryz.func81 rfl 0 (nle rfl) (fun X φ0 w0 hφ0 hd0 => ?_)
  unfold Qg9 at h
  refine wx tbk [] trivial ?_
  refine wsq ?_
  refine Qaj ?_
  refine wx tbk [(1, rp [(.tmp 4, (Q8n p0))] (I ((p0.length : Int))))] ⟨alm (c := Qa4) (l := p0) (aln rfl Tryz.underlying124 rfl), trivial⟩ ?_
  rcases bft ((decide ((p0.length : Int) > 40))) with hc1 | hc1
  ·replace h := Qat hc1 h
   refine wft hc1 (by kernel_rfl) ?_
   refine wx tbk [] trivial ?_
   refine Qaa ?_
   refine Qa3 ?_
   refine Qan ?_
   obtain rfl := osi h
   exact fend ⟨[I 3], ⟨rot (by kernel_rfl), trivial⟩, rfl⟩ nll
  ·replace h := Qau hc1 h
   refine wfn hc1 (by kernel_rfl) ?_
   obtain ⟨x3, hf2, h⟩ := bno h
   refine wx tbk [(1, rp [fu 101, (.tmp 8, (Q8n p0)), fu 48] (B x3))] ⟨Qah (first := []) (cap := []) (vs := [(Q8n p0), (.fn (.func 48) [] [])]) (σr := []) (σr' := []) (res' := (B x3)) [] rfl Q7a (Qjn N p0 _ hf2) rfl (Qbc (rnc (.plain _ (nld Qdc _)) (rnc (.plain _ (NLt.fn _ _ _ nl0 nl0)) rn0))) Qag Qag (.plain _ nll) rfl rfl rfl, trivial⟩ ?_
   rcases bft ((!x3)) with hc4 | hc4
   ·replace h := Qat hc4 h
    refine wft hc4 (by kernel_rfl) ?_
    refine wx tbk [] trivial ?_
    refine Qaa ?_
    refine Qa3 ?_
    refine Qan ?_
    obtain rfl := osi h
    exact fend ⟨[I 1], ⟨rot (by kernel_rfl), trivial⟩, rfl⟩ nll
   ·replace h := Qau hc4 h
    refine wfn hc4 (by kernel_rfl) ?_
    refine Qam ?_
    refine bln ?_
    refine thn ?_
    refine wx tbk [] trivial ?_
    refine Qaa ?_
    obtain rfl := osi h
    exact fend ⟨[I 0], ⟨rot (by kernel_rfl), trivial⟩, rfl⟩ nll
def Qcp (_N : Nat) (_p0 : Int) (_p1 : Int) (_p2 : Int) (_p3 : Int) : Option Unit :=
  some ()
def Qpp (p0 : Int) (p1 : Int) (p2 : Int) (p3 : Int) : Slot := .own 4 [[(I (p0)), (I (p1)), (I (p2)), (I (p3))]]
def Q2x : AV := .agg [(.ref 0 4 (0) 0), (.ref 0 4 (0) 1), (.ref 0 4 (0) 2), (.ref 0 4 (0) 3)]
def Q2w : Slot := .own 4 [[(.ref 0 4 (0) 0), (.ref 0 4 (0) 1), (.ref 0 4 (0) 2), (.ref 0 4 (0) 3)]]
theorem Qdj (N : Nat) (p0 : Int) (p1 : Int) (p2 : Int) (p3 : Int) (r : Unit) (h : Qcp N p0 p1 p2 p3 = some r) : Spec Tryz.prog 103 [(.ref 0 4 (0) 0)] [(Qpp p0 p1 p2 p3)] Q2x [(Qpp p0 p1 p2 p3), Q2w] := by
  refine Qac Tryz.func103 rfl 2 (nle rfl) (fun X φ0 w0 hφ0 hd0 => ?_)
  unfold Qcp at h
  refine Qbh ?_
  refine wx tbk [] trivial ?_
  refine wxd tbk [(1, rb [(.tmp 3, .ref 0 4 0 0)] [(0, (Qpp p0 p1 p2 p3))] (.ref 0 4 0 0)), (4, rb [(.tmp 6, .ref 0 4 0 0)] [(0, (Qpp p0 p1 p2 p3))] (.ref 0 4 0 0)), (7, rb [(.tmp 9, .ref 0 4 0 0)] [(0, (Qpp p0 p1 p2 p3))] (.ref 0 4 0 0)), (10, rb [(.tmp 12, .ref 0 4 0 0)] [(0, (Qpp p0 p1 p2 p3))] (.ref 0 4 0 0)), (12, rp [(.tmp 5, .ref 0 4 0 0), (.tmp 8, .ref 0 4 0 1), (.tmp 11, .ref 0 4 0 2), (.tmp 14, .ref 0 4 0 3)] Q2x)] ⟨Qbw rfl, Qbw rfl, Qbw rfl, Qbw rfl, Qv8 (vs := [.ref 0 4 0 0, .ref 0 4 0 1, .ref 0 4 0 2, .ref 0 4 0 3]) rfl Tryz.underlying172 Qrr Zd1 rfl (by rfl) rfl, trivial⟩ ?_
  refine wmr (mto (n := 16) (l' := [(2, .ref 1 4 0 0)]) (own' := [(Qpp p0 p1 p2 p3), Q2w]) [(2, .ref 1 4 0 0)] [0, 1] [(Qpp p0 p1 p2 p3), Q2w] hφ0 (pc (.rn (rqr rfl)) pn) (qc (spb (lc rwl (lc rwl (lc rwl (lc rwl ln))))) (qc (spb (lc (.rn (rqr rfl)) (lc (.rn (rqr rfl)) (lc (.rn (rqr rfl)) (lc (.rn (rqr rfl)) ln))))) qn))) ?_
  refine Qaa ?_
  obtain rfl := osi h
  exact ⟨_, Mor.rfl, Qb7 (vs := [Q2x]) ⟨Qa0 (n := 1) (m := 4) (j := 0) (i := 0) (xs := [[.ref 0 4 0 0, .ref 0 4 0 1, .ref 0 4 0 2, .ref 0 4 0 3]]) (by kernel_rfl) (by kernel_rfl) Zd5 (by decide) rfl (nle rfl) rfl, trivial⟩ rfl (NLt.agg _ (nlc (NLt.ref _ _ _ _ (by decide)) (nlc (NLt.ref _ _ _ _ (by decide)) (nlc (NLt.ref _ _ _ _ (by decide)) (nlc (NLt.ref _ _ _ _ (by decide)) nl0))))) (by kernel_rfl) (Qaf (Qav (nlc (NLt.of0 nll) (nlc (NLt.of0 nll) (nlc (NLt.of0 nll) (nlc (NLt.of0 nll) nl0))))) (Qaf (Qav (nlc (NLt.ref _ _ _ _ (by decide)) (nlc (NLt.ref _ _ _ _ (by decide)) (nlc (NLt.ref _ _ _ _ (by decide)) (nlc (NLt.ref _ _ _ _ (by decide)) nl0))))) Qbd))⟩
def Qio (N : Nat) (p0 : GStream) (p1 : Int) (p2 : Int) (p3 : Int) (p4 : Int) : Option Unit :=
  (Qcp N p0.Mass p0.Heat p0.Silica p0.Gas).bind fun _ =>
  (Qcp N p1 p2 p3 p4).bind fun _ =>
  (Qcp N (w64 (p1 + p0.Mass)) p2 p3 p4).bind fun _ =>
  (Qcp N (w64 (p1 + p0.Mass)) (w64 (p2 + p0.Heat)) p3 p4).bind fun _ =>
  (Qcp N (w64 (p1 + p0.Mass)) (w64 (p2 + p0.Heat)) (w64 (p3 + p0.Silica)) p4).bind fun _ =>
  some ()
def Qqk (p1 : Int) (p2 : Int) (p3 : Int) (p4 : Int) : Slot := .own 4 [[(I (p1)), (I (p2)), (I (p3)), (I (p4))]]
def Qxc (p1 : Int) (p0 : GStream) (p2 : Int) (p3 : Int) (p4 : Int) : Slot := .own 4 [[(I (w64 (p1 + p0.Mass))), (I (w64 (p2 + p0.Heat))), (I (w64 (p3 + p0.Silica))), (I (w64 (p4 + p0.Gas)))]]
def Qpr (p0 : GStream) : Slot := .own 4 [[(I (p0.Mass)), (I (p0.Heat)), (I (p0.Silica)), (I (p0.Gas))]]
def Qr5 : AV := .agg [(.ref 1 4 (0) 0), (.ref 1 4 (0) 1), (.ref 1 4 (0) 2), (.ref 1 4 (0) 3)]
def Q8d : Slot := .own 4 [[(.ref 1 4 (0) 0), (.ref 1 4 (0) 1), (.ref 1 4 (0) 2), (.ref 1 4 (0) 3)]]
def Qlh : AV := .agg [(.ref 0 4 (0) 0), (.ref 0 4 (0) 1), (.ref 0 4 (0) 2), (.ref 0 4 (0) 3)]
def Qpq : Slot := .own 4 [[(.ref 0 4 (0) 0), (.ref 0 4 (0) 1), (.ref 0 4 (0) 2), (.ref 0 4 (0) 3)]]
def Qr4 (p1 : Int) (p0 : GStream) (p2 : Int) (p3 : Int) (p4 : Int) : Slot := .own 4 [[(I (w64 (p1 + p0.Mass))), (I (p2)), (I (p3)), (I (p4))]]
def Qr3 (p1 : Int) (p0 : GStream) (p2 : Int) (p3 : Int) (p4 : Int) : Slot := .own 4 [[(I (w64 (p1 + p0.Mass))), (I (w64 (p2 + p0.Heat))), (I (p3)), (I (p4))]]
def Qr2 (p1 : Int) (p0 : GStream) (p2 : Int) (p3 : Int) (p4 : Int) : Slot := .own 4 [[(I (w64 (p1 + p0.Mass))), (I (w64 (p2 + p0.Heat))), (I (w64 (p3 + p0.Silica))), (I (p4))]]
theorem Qo5 (N : Nat) (p0 : GStream) (p1 : Int) (p2 : Int) (p3 : Int) (p4 : Int) (r : Unit) (h : Qio N p0 p1 p2 p3 p4 = some r) : Spec Tryz.prog 102 [(.agg [(I (p0.Mass)), (I (p0.Heat)), (I (p0.Silica)), (I (p0.Gas))]), (.ref 0 4 (0) 0)] [(Qqk p1 p2 p3 p4)] (.tup []) [(Qxc p1 p0 p2 p3 p4)] := by
  refine Qac Tryz.func102 rfl 1 (nle rfl) (fun X φ0 w0 hφ0 hd0 => ?_)
  unfold Qio at h
  refine Qbh ?_
  refine wx tbk [] trivial ?_
  obtain ⟨x2, hf1, h⟩ := bno h
  refine wx tbk [(0, ⟨[fu 103, (.tmp 2, .ref 1 4 0 0)], [(1, (Qpr p0)), (2, .unused)], Qr5, [(1, (Qpr p0)), (2, Q8d)], false⟩)] ⟨Qah (first := []) (cap := []) (vs := [.ref 1 4 0 0]) (σr := [(Qpr p0)]) (σr' := [(Qpr p0), Q8d]) (res' := Qr5) [1, 2] rfl Qon (Qdj N p0.Mass p0.Heat p0.Silica p0.Gas _ hf1) rfl (Qbc (rnc (Qa2 rfl) rn0)) (slc (Qae (rnc (.plain _ nll) (rnc (.plain _ nll) (rnc (.plain _ nll) (rnc (.plain _ nll) rn0))))) Qag) (slc (Qae (rnc (.plain _ nll) (rnc (.plain _ nll) (rnc (.plain _ nll) (rnc (.plain _ nll) rn0))))) (slc (Qae (rnc (Qb3 rfl) (rnc (Qb3 rfl) (rnc (Qb3 rfl) (rnc (Qb3 rfl) rn0))))) Qag)) (Qbc (rnc (Qb3 rfl) (rnc (Qb3 rfl) (rnc (Qb3 rfl) (rnc (Qb3 rfl) rn0))))) rfl rfl rfl, trivial⟩ ?_
  refine Qaj ?_
  refine Qty 17 ?_
  refine Qmp ?_
  refine wx tbk [] trivial ?_
  refine wsq ?_
  refine Qcy (by kernel_rfl) ?_
  refine Qam ?_
  refine thn ?_
  refine wsq ?_
  refine Qaj ?_
  refine wx tbk [(1, rp [(.tmp 5, Qr5), (.tmp 6, I 0)] (.ref 1 4 0 0))] ⟨Qgw rfl Tryz.underlying172 Qrr (by decide) (by decide) (nle rfl) (by decide) rfl, trivial⟩ ?_
  obtain ⟨x4, hf3, h⟩ := bno h
  refine wy1 tbk [(0, ⟨[fu 103, (.tmp 1, .ref 0 4 0 0)], [(0, (Qqk p1 p2 p3 p4)), (3, .unused)], Qlh, [(0, (Qqk p1 p2 p3 p4)), (3, Qpq)], false⟩), (2, rp [(.tmp 10, Qlh), (.tmp 11, I 0)] (.ref 0 4 0 0)), (3, rb [(.tmp 12, .ref 0 4 0 0)] [(0, (Qqk p1 p2 p3 p4))] (.ref 0 4 0 0)), (6, rb [(.tmp 15, .ref 1 4 0 0)] [(1, (Qpr p0))] (.ref 1 4 0 0)), (9, rb [(.tmp 12, .ref 0 4 0 0)] [(0, (Qqk p1 p2 p3 p4))] (.ref 0 4 0 0))] ⟨Qah (first := []) (cap := []) (vs := [.ref 0 4 0 0]) (σr := [(Qqk p1 p2 p3 p4)]) (σr' := [(Qqk p1 p2 p3 p4), Qpq]) (res' := Qlh) [0, 3] rfl Qon (Qdj N p1 p2 p3 p4 _ hf3) rfl (Qbc (rnc (Qa2 rfl) rn0)) (slc (Qae (rnc (.plain _ nll) (rnc (.plain _ nll) (rnc (.plain _ nll) (rnc (.plain _ nll) rn0))))) Qag) (slc (Qae (rnc (.plain _ nll) (rnc (.plain _ nll) (rnc (.plain _ nll) (rnc (.plain _ nll) rn0))))) (slc (Qae (rnc (Qb3 rfl) (rnc (Qb3 rfl) (rnc (Qb3 rfl) (rnc (Qb3 rfl) rn0))))) Qag)) (Qbc (rnc (Qb3 rfl) (rnc (Qb3 rfl) (rnc (Qb3 rfl) (rnc (Qb3 rfl) rn0))))) rfl rfl rfl, Qgw rfl Tryz.underlying172 Qrr (by decide) (by decide) (nle rfl) (by decide) rfl, Qbw rfl, Qbw rfl, Qbw rfl, trivial⟩ ?_
  refine bln ?_
  refine thn ?_
  refine wx1 tbk [] trivial ?_
  refine thn ?_
  refine Qmp ?_
  refine wx tbk [] trivial ?_
  refine wsq ?_
  refine Qcy (by kernel_rfl) ?_
  refine Qam ?_
  refine thn ?_
  refine wsq ?_
  refine Qaj ?_
  refine wx tbk [(1, rp [(.tmp 5, Qr5), (.tmp 6, I 1)] (.ref 1 4 0 1))] ⟨Qgw rfl Tryz.underlying172 Qrr (by decide) (by decide) (nle rfl) (by decide) rfl, trivial⟩ ?_
  obtain ⟨x6, hf5, h⟩ := bno h
  refine wy1 tbk [(0, ⟨[fu 103, (.tmp 1, .ref 0 4 0 0)], [(0, (Qr4 p1 p0 p2 p3 p4)), (4, .unused)], Qlh, [(0, (Qr4 p1 p0 p2 p3 p4)), (4, Qpq)], false⟩), (2, rp [(.tmp 10, Qlh), (.tmp 11, I 1)] (.ref 0 4 0 1)), (3, rb [(.tmp 12, .ref 0 4 0 1)] [(0, (Qr4 p1 p0 p2 p3 p4))] (.ref 0 4 0 1)), (6, rb [(.tmp 15, .ref 1 4 0 1)] [(1, (Qpr p0))] (.ref 1 4 0 1)), (9, rb [(.tmp 12, .ref 0 4 0 1)] [(0, (Qr4 p1 p0 p2 p3 p4))] (.ref 0 4 0 1))] ⟨Qah (first := []) (cap := []) (vs := [.ref 0 4 0 0]) (σr := [(Qr4 p1 p0 p2 p3 p4)]) (σr' := [(Qr4 p1 p0 p2 p3 p4), Qpq]) (res' := Qlh) [0, 4] rfl Qon (Qdj N (w64 (p1 + p0.Mass)) p2 p3 p4 _ hf5) rfl (Qbc (rnc (Qa2 rfl) rn0)) (slc (Qae (rnc (.plain _ nll) (rnc (.plain _ nll) (rnc (.plain _ nll) (rnc (.plain _ nll) rn0))))) Qag) (slc (Qae (rnc (.plain _ nll) (rnc (.plain _ nll) (rnc (.plain _ nll) (rnc (.plain _ nll) rn0))))) (slc (Qae (rnc (Qb3 rfl) (rnc (Qb3 rfl) (rnc (Qb3 rfl) (rnc (Qb3 rfl) rn0))))) Qag)) (Qbc (rnc (Qb3 rfl) (rnc (Qb3 rfl) (rnc (Qb3 rfl) (rnc (Qb3 rfl) rn0))))) rfl rfl rfl, Qgw rfl Tryz.underlying172 Qrr (by decide) (by decide) (nle rfl) (by decide) rfl, Qbw rfl, Qbw rfl, Qbw rfl, trivial⟩ ?_
  refine bln ?_
  refine thn ?_
  refine wx1 tbk [] trivial ?_
  refine thn ?_
  refine Qmp ?_
  refine wx tbk [] trivial ?_
  refine wsq ?_
  refine Qcy (by kernel_rfl) ?_
  refine Qam ?_
  refine thn ?_
  refine wsq ?_
  refine Qaj ?_
  refine wx tbk [(1, rp [(.tmp 5, Qr5), (.tmp 6, I 2)] (.ref 1 4 0 2))] ⟨Qgw rfl Tryz.underlying172 Qrr (by decide) (by decide) (nle rfl) (by decide) rfl, trivial⟩ ?_
  obtain ⟨x8, hf7, h⟩ := bno h
  refine wy1 tbk [(0, ⟨[fu 103, (.tmp 1, .ref 0 4 0 0)], [(0, (Qr3 p1 p0 p2 p3 p4)), (5, .unused)], Qlh, [(0, (Qr3 p1 p0 p2 p3 p4)), (5, Qpq)], false⟩), (2, rp [(.tmp 10, Qlh), (.tmp 11, I 2)] (.ref 0 4 0 2)), (3, rb [(.tmp 12, .ref 0 4 0 2)] [(0, (Qr3 p1 p0 p2 p3 p4))] (.ref 0 4 0 2)), (6, rb [(.tmp 15, .ref 1 4 0 2)] [(1, (Qpr p0))] (.ref 1 4 0 2)), (9, rb [(.tmp 12, .ref 0 4 0 2)] [(0, (Qr3 p1 p0 p2 p3 p4))] (.ref 0 4 0 2))] ⟨Qah (first := []) (cap := []) (vs := [.ref 0 4 0 0]) (σr := [(Qr3 p1 p0 p2 p3 p4)]) (σr' := [(Qr3 p1 p0 p2 p3 p4), Qpq]) (res' := Qlh) [0, 5] rfl Qon (Qdj N (w64 (p1 + p0.Mass)) (w64 (p2 + p0.Heat)) p3 p4 _ hf7) rfl (Qbc (rnc (Qa2 rfl) rn0)) (slc (Qae (rnc (.plain _ nll) (rnc (.plain _ nll) (rnc (.plain _ nll) (rnc (.plain _ nll) rn0))))) Qag) (slc (Qae (rnc (.plain _ nll) (rnc (.plain _ nll) (rnc (.plain _ nll) (rnc (.plain _ nll) rn0))))) (slc (Qae (rnc (Qb3 rfl) (rnc (Qb3 rfl) (rnc (Qb3 rfl) (rnc (Qb3 rfl) rn0))))) Qag)) (Qbc (rnc (Qb3 rfl) (rnc (Qb3 rfl) (rnc (Qb3 rfl) (rnc (Qb3 rfl) rn0))))) rfl rfl rfl, Qgw rfl Tryz.underlying172 Qrr (by decide) (by decide) (nle rfl) (by decide) rfl, Qbw rfl, Qbw rfl, Qbw rfl, trivial⟩ ?_
  refine bln ?_
  refine thn ?_
  refine wx1 tbk [] trivial ?_
  refine thn ?_
  refine Qmp ?_
  refine wx tbk [] trivial ?_
  refine wsq ?_
  refine Qcy (by kernel_rfl) ?_
  refine Qam ?_
  refine thn ?_
  refine wsq ?_
  refine Qaj ?_
  refine wx tbk [(1, rp [(.tmp 5, Qr5), (.tmp 6, I 3)] (.ref 1 4 0 3))] ⟨Qgw rfl Tryz.underlying172 Qrr (by decide) (by decide) (nle rfl) (by decide) rfl, trivial⟩ ?_
  obtain ⟨x10, hf9, h⟩ := bno h
  refine wy1 tbk [(0, ⟨[fu 103, (.tmp 1, .ref 0 4 0 0)], [(0, (Qr2 p1 p0 p2 p3 p4)), (6, .unused)], Qlh, [(0, (Qr2 p1 p0 p2 p3 p4)), (6, Qpq)], false⟩), (2, rp [(.tmp 10, Qlh), (.tmp 11, I 3)] (.ref 0 4 0 3)), (3, rb [(.tmp 12, .ref 0 4 0 3)] [(0, (Qr2 p1 p0 p2 p3 p4))] (.ref 0 4 0 3)), (6, rb [(.tmp 15, .ref 1 4 0 3)] [(1, (Qpr p0))] (.ref 1 4 0 3)), (9, rb [(.tmp 12, .ref 0 4 0 3)] [(0, (Qr2 p1 p0 p2 p3 p4))] (.ref 0 4 0 3))] ⟨Qah (first := []) (cap := []) (vs := [.ref 0 4 0 0]) (σr := [(Qr2 p1 p0 p2 p3 p4)]) (σr' := [(Qr2 p1 p0 p2 p3 p4), Qpq]) (res' := Qlh) [0, 6] rfl Qon (Qdj N (w64 (p1 + p0.Mass)) (w64 (p2 + p0.Heat)) (w64 (p3 + p0.Silica)) p4 _ hf9) rfl (Qbc (rnc (Qa2 rfl) rn0)) (slc (Qae (rnc (.plain _ nll) (rnc (.plain _ nll) (rnc (.plain _ nll) (rnc (.plain _ nll) rn0))))) Qag) (slc (Qae (rnc (.plain _ nll) (rnc (.plain _ nll) (rnc (.plain _ nll) (rnc (.plain _ nll) rn0))))) (slc (Qae (rnc (Qb3 rfl) (rnc (Qb3 rfl) (rnc (Qb3 rfl) (rnc (Qb3 rfl) rn0))))) Qag)) (Qbc (rnc (Qb3 rfl) (rnc (Qb3 rfl) (rnc (Qb3 rfl) (rnc (Qb3 rfl) rn0))))) rfl rfl rfl, Qgw rfl Tryz.underlying172 Qrr (by decide) (by decide) (nle rfl) (by decide) rfl, Qbw rfl, Qbw rfl, Qbw rfl, trivial⟩ ?_
  refine bln ?_
  refine thn ?_
  refine wx1 tbk [] trivial ?_
  refine thn ?_
  refine Qmp ?_
  refine wx tbk [] trivial ?_
  refine wsq ?_
  refine Qfa (by kernel_rfl) ?_
  refine Qbr ?_
  refine Qay ?_
  refine Qay ?_
  refine Qbq rfl ?_
  obtain rfl := osi h
  exact ⟨_, (mto (n := 21) (l' := []) (own' := [(Qxc p1 p0 p2 p3 p4)]) [] [0] [(Qxc p1 p0 p2 p3 p4)] hφ0 pn (qc (spb (lc rwl (lc rwl (lc rwl (lc rwl ln))))) qn)), Qb7 (vs := []) trivial rfl (NLt.tup _ nl0) (by kernel_rfl) (Qaf (Qav (nlc (NLt.of0 nll) (nlc (NLt.of0 nll) (nlc (NLt.of0 nll) (nlc (NLt.of0 nll) nl0))))) Qbd)⟩
def Qfc (N : Nat) (p0 : (List GStream)) (k5 : Int × Int × Int × Int → Option GStream) : Nat → Int → Int → Int → Int → Int → Option GStream
  | 0, _, _, _, _, _ => none
  | n16 + 1, y6, y7, y8, y9, y10 =>
    bif (decide (y6 < (p0.length : Int))) then
     (getI p0 y6).bind fun x18 =>
     (Qio N x18 y7 y8 y9 y10).bind fun _ =>
     Qfc N p0 k5 n16 (w64 (y6 + 1)) (w64 (y7 + x18.Mass)) (w64 (y8 + x18.Heat)) (w64 (y9 + x18.Silica)) (w64 (y10 + x18.Gas))
    else
     k5 (y7, y8, y9, y10)
def Qko (N : Nat) (p0 : (List GStream)) : Option GStream :=
  Qc5 (fun ⟨y1, y2, y3, y4⟩ =>
    some (⟨y1, y2, y3, y4⟩ : GStream)) fun k5 : Int × Int × Int × Int → Option GStream =>
  Qfc N p0 k5 N 0 0 0 0 0
def Qr7 : AV := .fn (.func 102) [] [(.ref 0 4 (0) 0)]
def Qr6 (p0 : (List GStream)) : AV := .dat 4 ((p0 : List GStream).map Qa4)
def Q8e : Slot := .own 4 [[(I (0)), (I (0)), (I (0)), (I (0))]]
def Qs9 (y7 : Int) (y8 : Int) (y9 : Int) (y10 : Int) : Slot := .own 4 [[(I (y7)), (I (y8)), (I (y9)), (I (y10))]]
def Q2y (x18 : GStream) : AV := .agg [(I (x18.Mass)), (I (x18.Heat)), (I (x18.Silica)), (I (x18.Gas))]
def Qxd (y7 : Int) (x18 : GStream) (y8 : Int) (y9 : Int) (y10 : Int) : Slot := .own 4 [[(I (w64 (y7 + x18.Mass))), (I (w64 (y8 + x18.Heat))), (I (w64 (y9 + x18.Silica))), (I (w64 (y10 + x18.Gas)))]]
theorem Qte (N : Nat) (p0 : (List GStream)) (r : GStream) (h : Qko N p0 = some r) : Spec Tryz.prog 82 [(.dat 4 (p0.map Qa4))] [] (.agg (Qa4 r)) [] := by
  refine Qac Tryz.func82 rfl 0 (nle rfl) (fun X φ0 w0 hφ0 hd0 => ?_)
  unfold Qko at h
  refine wx tbk [] trivial ?_
  refine wx tbk [(0, rp [(.tmp 2, .ref 0 4 0 0)] Qr7)] ⟨Qdd (fs := []) (cs := [.ref 0 4 0 0]) rfl rfl rfl rfl, trivial⟩ ?_
  obtain ⟨k5, hk_k5, h⟩ := jko h
  refine wjn (τ := Int × Int × Int × Int) (fun t => k5 t = some r) (fun ⟨y1, y2, y3, y4⟩ => ⟨mk 18 [(2, .ref 0 4 0 0)], [(.own 4 [[I y1, I y2, I y3, I y4]])]⟩) (fun t h => ?_) ?_
  ·subst hk_k5
   obtain ⟨y1, y2, y3, y4⟩ := t
   refine wx tbk [] trivial ?_
   refine Qaa ?_
   obtain rfl := osi h
   exact fend ⟨[(.agg [I y1, I y2, I y3, I y4])], ⟨Qa0 (n := 0) (m := 4) (j := 0) (i := 0) (xs := [[I y1, I y2, I y3, I y4]]) (by kernel_rfl) (by kernel_rfl) ti35 (by decide) rfl (nle rfl) rfl, trivial⟩, rfl⟩ (NLt.agg _ (nlc nll (nlc nll (nlc nll (nlc nll nl0)))))
  ·skip
   refine wx tbk [(1, rp [(.tmp 7, (Qr6 p0))] (I ((p0.length : Int))))] ⟨alm (c := Qa4) (l := p0) (aln rfl Tryz.underlying124 rfl), trivial⟩ ?_
   refine Qaj ?_
   refine wmr (mto (n := 18) (l' := [(2, .ref 0 4 0 0), (3, Qr7), (7, (Qr6 p0)), (8, (I ((p0.length : Int)))), (9, I 0)]) (own' := [Q8e]) [(2, .ref 0 4 0 0), (3, Qr7), (7, (Qr6 p0)), (8, (I ((p0.length : Int)))), (9, I 0)] [0] [Q8e] hφ0 (pc (.rn (rqr rfl)) (pc (.rn (Qas rn0 (rnc (rqr rfl) rn0))) (pc (.rn (.plain _ (nld Qdc _))) (pc rwl (pc rwl pn))))) (qc (spb (lc rwl (lc rwl (lc rwl (lc rwl ln))))) qn)) ?_
   refine Qcl (τ := Int × Int × Int × Int × Int) (fun n t => Qfc N p0 k5 n t.1 t.2.1 t.2.2.1 t.2.2.2.1 t.2.2.2.2 = some r) (fun ⟨y6, y7, y8, y9, y10⟩ => ⟨mk 18 [(2, .ref 0 4 0 0), (3, Qr7), (7, (Qr6 p0)), (8, (I ((p0.length : Int)))), (9, I y6)], [(Qs9 y7 y8 y9 y10)]⟩) (fun t h => by rw [Qfc] at h; cases h) (fun n16 ih t h => ?_) N (0, 0, 0, 0, 0) h
   obtain ⟨y6, y7, y8, y9, y10⟩ := t
   rw [Qfc] at h
   skip
   refine wx tbk [] trivial ?_
   refine wsq ?_
   rcases bft ((decide (y6 < (p0.length : Int)))) with hc17 | hc17
   ·replace h := Qat hc17 h
    refine wft hc17 (by kernel_rfl) ?_
    refine Qam ?_
    refine thn ?_
    refine wsq ?_
    refine Qaj ?_
    obtain ⟨x18, hg19, h⟩ := bno h
    obtain ⟨hi20, hj21⟩ := gsm hg19
    refine wx tbk [(0, rp [(.tmp 7, (Qr6 p0)), (.tmp 9, I y6)] (.dptr (Qa4 (x18)) 0))] ⟨aid rfl Tryz.underlying124 ti35 rfl rfl hi20 (mgt Qa4 hj21) rfl, trivial⟩ ?_
    obtain ⟨x23, hf22, h⟩ := bno h
    refine wx1 tbk [(2, ⟨[(.tmp 13, Qr7), (.tmp 14, (Q2y x18))], [(0, (Qs9 y7 y8 y9 y10))], (.tup []), [(0, (Qxd y7 x18 y8 y9 y10))], false⟩)] ⟨Qah (first := []) (cap := [.ref 0 4 0 0]) (vs := [(Q2y x18)]) (σr := [(Qs9 y7 y8 y9 y10)]) (σr' := [(Qxd y7 x18 y8 y9 y10)]) (res' := (.tup [])) [0] rfl Q69 (Qo5 N x18 y7 y8 y9 y10 _ hf22) rfl (Qbc (rnc (.plain _ (NLt.agg _ (nlc nll (nlc nll (nlc nll (nlc nll nl0)))))) (rnc (Qa2 rfl) rn0))) (slc (Qae (rnc (.plain _ nll) (rnc (.plain _ nll) (rnc (.plain _ nll) (rnc (.plain _ nll) rn0))))) Qag) (slc (Qae (rnc (.plain _ nll) (rnc (.plain _ nll) (rnc (.plain _ nll) (rnc (.plain _ nll) rn0))))) Qag) (.plain _ (NLt.tup _ nl0)) rfl rfl rfl, trivial⟩ ?_
    refine bln ?_
    refine thn ?_
    refine wx1 tbk [] trivial ?_
    refine thn ?_
    exact arm (mto (n := 18) [(2, .ref 0 4 0 0), (3, Qr7), (7, (Qr6 p0)), (8, (I ((p0.length : Int)))), (9, (I (w64 (y6 + 1))))] [0] [(Qxd y7 x18 y8 y9 y10)] hφ0 (pc (.rn (rqr rfl)) (pc (.rn (Qas rn0 (rnc (rqr rfl) rn0))) (pc (.rn (.plain _ (nld Qdc _))) (pc rwl (pc rwl pn))))) (qc (spb (lc rwl (lc rwl (lc rwl (lc rwl ln))))) qn)) (ih (w64 (y6 + 1), w64 (y7 + x18.Mass), w64 (y8 + x18.Heat), w64 (y9 + x18.Silica), w64 (y10 + x18.Gas)) h)
   ·replace h := Qau hc17 h
    refine wfn hc17 (by kernel_rfl) ?_
    refine Qbr ?_
    refine Qay ?_
    refine Qay ?_
    refine Qbq rfl ?_
    refine thn ?_
    exact ⟨(y7, y8, y9, y10), h, (mto (n := 18) [(2, .ref 0 4 0 0)] [0] [(Qs9 y7 y8 y9 y10)] hφ0 (pc (.rn (rqr rfl)) pn) (qc (spb (lc rwl (lc rwl (lc rwl (lc rwl ln))))) qn))⟩
def Qmt (N : Nat) (p0 : (List GStream)) : Option (GStream × Int) :=
  (Qg9 N p0).bind fun x2 =>
  bif (x2 != 0) then
   some ((⟨0, 0, 0, 0⟩ : GStream), x2)
  else
   (Qko N p0).bind fun x5 =>
   bif (decide (x5.Mass > 1000000)) then
    some ((⟨0, 0, 0, 0⟩ : GStream), 3)
   else
    bif (decide (x5.Gas > 1000000000)) then
     some ((⟨0, 0, 0, 0⟩ : GStream), 3)
    else
     some (x5, 0)
def Q49 (p0 : (List GStream)) : AV := .dat 4 ((p0 : List GStream).map Qa4)
def Qzv : AV := .agg [(I (0)), (I (0)), (I (0)), (I (0))]
def Zc3 (x5 : GStream) : AV := .agg [(I (x5.Mass)), (I (x5.Heat)), (I (x5.Silica)), (I (x5.Gas))]
theorem Qtf (N : Nat) (p0 : (List GStream)) (r : (GStream × Int)) (h : Qmt N p0 = some r) : Spec Tryz.prog 57 [(.dat 4 (p0.map Qa4))] [] (.tup [(.agg (Qa4 r.1)), (I r.2)]) [] := by
  refine Qac Tryz.func57 rfl 0 (nle rfl) (fun X φ0 w0 hφ0 hd0 => ?_)
  unfold Qmt at h
  refine wx tbk [] trivial ?_
  refine wsq ?_
  obtain ⟨x2, hf1, h⟩ := bno h
  refine wx tbk [(1, rp [fu 81, (.tmp 6, (Q49 p0))] (I x2))] ⟨apc (first := []) (cap := []) (vs := [(Q49 p0)]) rfl Zbu (Qo6 N p0 _ hf1) rfl rfl (nlc (nld Qdc _) nl0) nll rfl, trivial⟩ ?_
  refine wx tbk [] trivial ?_
  rcases bft ((x2 != 0)) with hc3 | hc3
  ·replace h := Qat hc3 h
   refine wft hc3 (by kernel_rfl) ?_
   refine wx tbk [(0, rp [] Qzv)] ⟨Qao (vs := []) rfl ts35 tz35 rfl (by rfl) rfl, trivial⟩ ?_
   refine Qaa ?_
   refine Qan ?_
   obtain rfl := osi h
   exact fend ⟨[Qzv, I x2], ⟨Qa0 (n := 0) (m := 4) (j := 0) (i := 0) (xs := [[I 0, I 0, I 0, I 0]]) (by kernel_rfl) (by kernel_rfl) ti35 (by decide) rfl (nle rfl) rfl, rot (by kernel_rfl), trivial⟩, rfl⟩ (NLt.tup _ (nlc (NLt.agg _ (nlc nll (nlc nll (nlc nll (nlc nll nl0))))) (nlc nll nl0)))
  ·replace h := Qau hc3 h
   refine wfn hc3 (by kernel_rfl) ?_
   refine Qam ?_
   refine thn ?_
   obtain ⟨x5, hf4, h⟩ := bno h
   refine wx tbk [(1, rp [fu 82, (.tmp 12, (Q49 p0))] (Zc3 x5))] ⟨apc (first := []) (cap := []) (vs := [(Q49 p0)]) rfl Zbt (Qte N p0 _ hf4) rfl rfl (nlc (nld Qdc _) nl0) (NLt.agg _ (nlc nll (nlc nll (nlc nll (nlc nll nl0))))) rfl, trivial⟩ ?_
   refine wsq ?_
   rcases bft ((decide (x5.Mass > 1000000))) with hb6 | hb6
   ·replace h := Qat hb6 h
    refine wx tbk [(3, rp [(.tmp 16, (B ((decide (x5.Mass > 1000000)))))] (B true))] ⟨asb hb6 (amv rfl), trivial⟩ ?_
    refine Qcy (by kernel_rfl) ?_
    refine wx tbk [(0, rp [] Qzv)] ⟨Qao (vs := []) rfl ts35 tz35 rfl (by rfl) rfl, trivial⟩ ?_
    refine Qaa ?_
    refine Qan ?_
    obtain rfl := osi h
    exact fend ⟨[Qzv, I 3], ⟨Qa0 (n := 0) (m := 4) (j := 0) (i := 0) (xs := [[I 0, I 0, I 0, I 0]]) (by kernel_rfl) (by kernel_rfl) ti35 (by decide) rfl (nle rfl) rfl, rot (by kernel_rfl), trivial⟩, rfl⟩ (NLt.tup _ (nlc (NLt.agg _ (nlc nll (nlc nll (nlc nll (nlc nll nl0))))) (nlc nll nl0)))
   ·replace h := Qau hb6 h
    refine wx tbk [(3, rp [(.tmp 16, (B ((decide (x5.Mass > 1000000)))))] (B false))] ⟨asb hb6 (amv rfl), trivial⟩ ?_
    rcases bft ((decide (x5.Gas > 1000000000))) with hc7 | hc7
    ·replace h := Qat hc7 h
     refine wft hc7 (by kernel_rfl) ?_
     refine wx tbk [(0, rp [] Qzv)] ⟨Qao (vs := []) rfl ts35 tz35 rfl (by rfl) rfl, trivial⟩ ?_
     refine Qaa ?_
     refine Qan ?_
     obtain rfl := osi h
     exact fend ⟨[Qzv, I 3], ⟨Qa0 (n := 0) (m := 4) (j := 0) (i := 0) (xs := [[I 0, I 0, I 0, I 0]]) (by kernel_rfl) (by kernel_rfl) ti35 (by decide) rfl (nle rfl) rfl, rot (by kernel_rfl), trivial⟩, rfl⟩ (NLt.tup _ (nlc (NLt.agg _ (nlc nll (nlc nll (nlc nll (nlc nll nl0))))) (nlc nll nl0)))
    ·replace h := Qau hc7 h
     refine wfn hc7 (by kernel_rfl) ?_
     refine Qam ?_
     refine thn ?_
     refine wx tbk [] trivial ?_
     refine Qaa ?_
     obtain rfl := osi h
     exact fend ⟨[(Zc3 x5), I 0], ⟨Qa0 (n := 0) (m := 4) (j := 0) (i := 0) (xs := [[I x5.Mass, I x5.Heat, I x5.Silica, I x5.Gas]]) (by kernel_rfl) (by kernel_rfl) ti35 (by decide) rfl (nle rfl) rfl, rot (by kernel_rfl), trivial⟩, rfl⟩ (NLt.tup _ (nlc (NLt.agg _ (nlc nll (nlc nll (nlc nll (nlc nll nl0))))) (nlc nll nl0)))
def Qgu (N : Nat) (p0 : GStream) (p1 : GStream) (p2 : Int) : Option (GStream × Int × Int) :=
  (Qem N ([p0, p1])).bind fun x2 =>
  bif (!x2) then
   some ((⟨0, 0, 0, 0⟩ : GStream), 0, 1)
  else
   (Qbb N p2 0 1000000000).bind fun x5 =>
   bif (!x5) then
    some ((⟨0, 0, 0, 0⟩ : GStream), 0, 2)
   else
    (Qmt N ([p0, p1])).bind fun x8 =>
    bif (x8.2 != 0) then
     some ((⟨0, 0, 0, 0⟩ : GStream), 0, x8.2)
    else
     bif (decide (x8.1.Gas > p2)) then
      some ((⟨0, 0, 0, 0⟩ : GStream), 0, 11)
     else
      some ((⟨x8.1.Mass, x8.1.Heat, x8.1.Silica, 0⟩ : GStream), x8.1.Gas, 0)
def Q5b (p0 : GStream) : AV := .agg [(I (p0.Mass)), (I (p0.Heat)), (I (p0.Silica)), (I (p0.Gas))]
def Q5a (p1 : GStream) : AV := .agg [(I (p1.Mass)), (I (p1.Heat)), (I (p1.Silica)), (I (p1.Gas))]
def Qzw (p0 : GStream) (p1 : GStream) : AV := .dat 4 (([p0, p1] : List GStream).map Qa4)
def Qt6 : AV := .agg [(I (0)), (I (0)), (I (0)), (I (0))]
theorem Qol (N : Nat) (p0 : GStream) (p1 : GStream) (p2 : Int) (r : (GStream × Int × Int)) (h : Qgu N p0 p1 p2 = some r) : Spec Tryz.prog 18 [(.agg (Qa4 p0)), (.agg (Qa4 p1)), (I p2)] [] (.tup [(.agg (Qa4 r.1)), (I r.2.1), (I r.2.2)]) [] := by
  refine Qac Tryz.func18 rfl 0 (nle rfl) (fun X φ0 w0 hφ0 hd0 => ?_)
  unfold Qgu at h
  refine wx tbk [] trivial ?_
  refine wsq ?_
  refine Qaj ?_
  obtain ⟨x2, hf1, h⟩ := bno h
  refine wx tbk [(2, rp [(.tmp 10, (Q5b p0)), (.tmp 11, (Q5a p1))] (Qzw p0 p1)), (3, rp [fu 29, (.tmp 12, (Qzw p0 p1))] (B x2))] ⟨Qcb (vs := [(Q5b p0), (Q5a p1)]) rfl Tryz.underlying124 ti35 tz35 rfl (by decide) rfl (by decide) (by rfl) (by rfl) (by rfl) rfl, apc (first := []) (cap := []) (vs := [(Qzw p0 p1)]) rfl Qra (Qgq N ([p0, p1]) _ hf1) rfl rfl (nlc (nld Qdc _) nl0) nll rfl, trivial⟩ ?_
  rcases bft ((!x2)) with hc3 | hc3
  ·replace h := Qat hc3 h
   refine wft hc3 (by kernel_rfl) ?_
   refine wx tbk [(0, rp [] Qt6)] ⟨Qao (vs := []) rfl ts35 tz35 rfl (by rfl) rfl, trivial⟩ ?_
   refine Qaa ?_
   refine Qa3 ?_
   refine Qan ?_
   obtain rfl := osi h
   exact fend ⟨[Qt6, I 0, I 1], ⟨Qa0 (n := 2) (m := 4) (j := 0) (i := 0) (xs := [[I 0, I 0, I 0, I 0]]) (by kernel_rfl) (by kernel_rfl) ti35 (by decide) rfl (nle rfl) rfl, rot (by kernel_rfl), rot (by kernel_rfl), trivial⟩, rfl⟩ (NLt.tup _ (nlc (NLt.agg _ (nlc nll (nlc nll (nlc nll (nlc nll nl0))))) (nlc nll (nlc nll nl0))))
  ·replace h := Qau hc3 h
   refine wfn hc3 (by kernel_rfl) ?_
   obtain ⟨x5, hf4, h⟩ := bno h
   refine wx tbk [(1, rp [fu 56, (.tmp 17, I p2), ci 0, ci 1000000000] (B x5))] ⟨apc (first := []) (cap := []) (vs := [I p2, I 0, I 1000000000]) rfl Qbs (Qad N p2 0 1000000000 _ hf4) rfl rfl (nlc nll (nlc nll (nlc nll nl0))) nll rfl, trivial⟩ ?_
   rcases bft ((!x5)) with hc6 | hc6
   ·replace h := Qat hc6 h
    refine wft hc6 (by kernel_rfl) ?_
    refine wx tbk [(0, rp [] Qt6)] ⟨Qao (vs := []) rfl ts35 tz35 rfl (by rfl) rfl, trivial⟩ ?_
    refine Qaa ?_
    refine Qa3 ?_
    refine Qan ?_
    obtain rfl := osi h
    exact fend ⟨[Qt6, I 0, I 2], ⟨Qa0 (n := 2) (m := 4) (j := 0) (i := 0) (xs := [[I 0, I 0, I 0, I 0]]) (by kernel_rfl) (by kernel_rfl) ti35 (by decide) rfl (nle rfl) rfl, rot (by kernel_rfl), rot (by kernel_rfl), trivial⟩, rfl⟩ (NLt.tup _ (nlc (NLt.agg _ (nlc nll (nlc nll (nlc nll (nlc nll nl0))))) (nlc nll (nlc nll nl0))))
   ·replace h := Qau hc6 h
    refine wfn hc6 (by kernel_rfl) ?_
    refine Qam ?_
    refine bln ?_
    refine thn ?_
    obtain ⟨x8, hf7, h⟩ := bno h
    refine wx tbk [(2, rp [(.tmp 22, (Q5b p0)), (.tmp 23, (Q5a p1))] (Qzw p0 p1)), (3, rp [fu 57, (.tmp 24, (Qzw p0 p1))] (.tup [(.agg [I x8.1.Mass, I x8.1.Heat, I x8.1.Silica, I x8.1.Gas]), I x8.2]))] ⟨Qcb (vs := [(Q5b p0), (Q5a p1)]) rfl Tryz.underlying124 ti35 tz35 rfl (by decide) rfl (by decide) (by rfl) (by rfl) (by rfl) rfl, apc (first := []) (cap := []) (vs := [(Qzw p0 p1)]) rfl Zca (Qtf N ([p0, p1]) _ hf7) rfl rfl (nlc (nld Qdc _) nl0) (NLt.tup _ (nlc (NLt.agg _ (nlc nll (nlc nll (nlc nll (nlc nll nl0))))) (nlc nll nl0))) rfl, trivial⟩ ?_
    refine wsq ?_
    refine wx tbk [] trivial ?_
    rcases bft ((x8.2 != 0)) with hc9 | hc9
    ·replace h := Qat hc9 h
     refine wft hc9 (by kernel_rfl) ?_
     refine wx tbk [(0, rp [] Qt6)] ⟨Qao (vs := []) rfl ts35 tz35 rfl (by rfl) rfl, trivial⟩ ?_
     refine Qaa ?_
     refine Qan ?_
     obtain rfl := osi h
     exact fend ⟨[Qt6, I 0, I x8.2], ⟨Qa0 (n := 2) (m := 4) (j := 0) (i := 0) (xs := [[I 0, I 0, I 0, I 0]]) (by kernel_rfl) (by kernel_rfl) ti35 (by decide) rfl (nle rfl) rfl, rot (by kernel_rfl), rot (by kernel_rfl), trivial⟩, rfl⟩ (NLt.tup _ (nlc (NLt.agg _ (nlc nll (nlc nll (nlc nll (nlc nll nl0))))) (nlc nll (nlc nll nl0))))
    ·replace h := Qau hc9 h
     refine wfn hc9 (by kernel_rfl) ?_
     refine Qam ?_
     refine thn ?_
     refine wsq ?_
     refine wx tbk [] trivial ?_
     rcases bft ((decide (x8.1.Gas > p2))) with hc10 | hc10
     ·replace h := Qat hc10 h
      refine wft hc10 (by kernel_rfl) ?_
      refine wx tbk [(0, rp [] Qt6)] ⟨Qao (vs := []) rfl ts35 tz35 rfl (by rfl) rfl, trivial⟩ ?_
      refine Qaa ?_
      refine Qan ?_
      obtain rfl := osi h
      exact fend ⟨[Qt6, I 0, I 11], ⟨Qa0 (n := 2) (m := 4) (j := 0) (i := 0) (xs := [[I 0, I 0, I 0, I 0]]) (by kernel_rfl) (by kernel_rfl) ti35 (by decide) rfl (nle rfl) rfl, rot (by kernel_rfl), rot (by kernel_rfl), trivial⟩, rfl⟩ (NLt.tup _ (nlc (NLt.agg _ (nlc nll (nlc nll (nlc nll (nlc nll nl0))))) (nlc nll (nlc nll nl0))))
     ·replace h := Qau hc10 h
      refine wfn hc10 (by kernel_rfl) ?_
      refine Qam ?_
      refine thn ?_
      refine wx tbk [] trivial ?_
      refine wx tbk [] trivial ?_
      refine Qaa ?_
      obtain rfl := osi h
      exact fend ⟨[(.agg [I x8.1.Mass, I x8.1.Heat, I x8.1.Silica, I 0]), I x8.1.Gas, I 0], ⟨Qa0 (n := 2) (m := 4) (j := 0) (i := 0) (xs := [[I x8.1.Mass, I x8.1.Heat, I x8.1.Silica, I 0]]) (by kernel_rfl) (by kernel_rfl) ti35 (by decide) rfl (nle rfl) rfl, rot (by kernel_rfl), rot (by kernel_rfl), trivial⟩, rfl⟩ (NLt.tup _ (nlc (NLt.agg _ (nlc nll (nlc nll (nlc nll (nlc nll nl0))))) (nlc nll (nlc nll nl0))))
def Qho (N : Nat) (p0 : GStream) (p1 : Int) : Option (GStream × Int × Int) :=
  (Qem N ([p0])).bind fun x2 =>
  bif (!x2) then
   some ((⟨0, 0, 0, 0⟩ : GStream), 0, 1)
  else
   (Qbb N p1 0 4000).bind fun x5 =>
   bif (!x5) then
    some ((⟨0, 0, 0, 0⟩ : GStream), 0, 2)
   else
    (some (if (w64 (p0.Heat - (w64 (p1 * p0.Mass)))) > 0 then w64 (p0.Heat - (w64 (p1 * p0.Mass))) else 0)).bind fun x7 =>
    some ((⟨p0.Mass, w64 (p0.Heat - x7), p0.Silica, p0.Gas⟩ : GStream), x7, 0)
def Q8c (p0 : GStream) : AV := .agg [(I (p0.Mass)), (I (p0.Heat)), (I (p0.Silica)), (I (p0.Gas))]
def Q2v (p0 : GStream) : AV := .dat 4 (([p0] : List GStream).map Qa4)
def Qyu : AV := .agg [(I (0)), (I (0)), (I (0)), (I (0))]
theorem Qqv (N : Nat) (p0 : GStream) (p1 : Int) (r : (GStream × Int × Int)) (h : Qho N p0 p1 = some r) : Spec Tryz.prog 19 [(.agg (Qa4 p0)), (I p1)] [] (.tup [(.agg (Qa4 r.1)), (I r.2.1), (I r.2.2)]) [] := by
  refine Qac Tryz.func19 rfl 0 (nle rfl) (fun X φ0 w0 hφ0 hd0 => ?_)
  unfold Qho at h
  refine wx tbk [] trivial ?_
  refine wsq ?_
  refine Qaj ?_
  obtain ⟨x2, hf1, h⟩ := bno h
  refine wx tbk [(1, rp [(.tmp 8, (Q8c p0))] (Q2v p0)), (2, rp [fu 29, (.tmp 9, (Q2v p0))] (B x2))] ⟨Qcb (vs := [(Q8c p0)]) rfl Tryz.underlying124 ti35 tz35 rfl (by decide) rfl (by decide) (by rfl) (by rfl) (by rfl) rfl, apc (first := []) (cap := []) (vs := [(Q2v p0)]) rfl Qra (Qgq N ([p0]) _ hf1) rfl rfl (nlc (nld Qdc _) nl0) nll rfl, trivial⟩ ?_
  rcases bft ((!x2)) with hc3 | hc3
  ·replace h := Qat hc3 h
   refine wft hc3 (by kernel_rfl) ?_
   refine wx tbk [(0, rp [] Qyu)] ⟨Qao (vs := []) rfl ts35 tz35 rfl (by rfl) rfl, trivial⟩ ?_
   refine Qaa ?_
   refine Qa3 ?_
   refine Qan ?_
   obtain rfl := osi h
   exact fend ⟨[Qyu, I 0, I 1], ⟨Qa0 (n := 1) (m := 4) (j := 0) (i := 0) (xs := [[I 0, I 0, I 0, I 0]]) (by kernel_rfl) (by kernel_rfl) ti35 (by decide) rfl (nle rfl) rfl, rot (by kernel_rfl), rot (by kernel_rfl), trivial⟩, rfl⟩ (NLt.tup _ (nlc (NLt.agg _ (nlc nll (nlc nll (nlc nll (nlc nll nl0))))) (nlc nll (nlc nll nl0))))
  ·replace h := Qau hc3 h
   refine wfn hc3 (by kernel_rfl) ?_
   obtain ⟨x5, hf4, h⟩ := bno h
   refine wx tbk [(1, rp [fu 56, (.tmp 14, I p1), ci 0, ci 4000] (B x5))] ⟨apc (first := []) (cap := []) (vs := [I p1, I 0, I 4000]) rfl Qbs (Qad N p1 0 4000 _ hf4) rfl rfl (nlc nll (nlc nll (nlc nll nl0))) nll rfl, trivial⟩ ?_
   rcases bft ((!x5)) with hc6 | hc6
   ·replace h := Qat hc6 h
    refine wft hc6 (by kernel_rfl) ?_
    refine wx tbk [(0, rp [] Qyu)] ⟨Qao (vs := []) rfl ts35 tz35 rfl (by rfl) rfl, trivial⟩ ?_
    refine Qaa ?_
    refine Qa3 ?_
    refine Qan ?_
    obtain rfl := osi h
    exact fend ⟨[Qyu, I 0, I 2], ⟨Qa0 (n := 1) (m := 4) (j := 0) (i := 0) (xs := [[I 0, I 0, I 0, I 0]]) (by kernel_rfl) (by kernel_rfl) ti35 (by decide) rfl (nle rfl) rfl, rot (by kernel_rfl), rot (by kernel_rfl), trivial⟩, rfl⟩ (NLt.tup _ (nlc (NLt.agg _ (nlc nll (nlc nll (nlc nll (nlc nll nl0))))) (nlc nll (nlc nll nl0))))
   ·replace h := Qau hc6 h
    refine wfn hc6 (by kernel_rfl) ?_
    refine Qam ?_
    refine bln ?_
    refine thn ?_
    obtain ⟨x7, hl8, h⟩ := bno h
    refine wx tbk [(7, rp [ci 0, (.tmp 24, (I (w64 (p0.Heat - (w64 (p1 * p0.Mass))))))] (I x7))] ⟨Qd8 hl8 (Qmn rfl), trivial⟩ ?_
    refine wx tbk [] trivial ?_
    refine wx tbk [] trivial ?_
    refine Qaa ?_
    obtain rfl := osi h
    exact fend ⟨[(.agg [I p0.Mass, (I (w64 (p0.Heat - x7))), I p0.Silica, I p0.Gas]), I x7, I 0], ⟨Qa0 (n := 1) (m := 4) (j := 0) (i := 0) (xs := [[I p0.Mass, (I (w64 (p0.Heat - x7))), I p0.Silica, I p0.Gas]]) (by kernel_rfl) (by kernel_rfl) ti35 (by decide) rfl (nle rfl) rfl, rot (by kernel_rfl), rot (by kernel_rfl), trivial⟩, rfl⟩ (NLt.tup _ (nlc (NLt.agg _ (nlc nll (nlc nll (nlc nll (nlc nll nl0))))) (nlc nll (nlc nll nl0))))
def Qgx (N : Nat) (p0 : (List GRow)) : Option Int :=
  (Qeu N p0).bind fun x2 =>
  bif (!x2) then
   some 1
  else
   some 0
theorem Qec (N : Nat) (p0 : (List GRow)) (r : Int) (h : Qgx N p0 = some r) : Spec Tryz.prog 68 [(.dat 5 (p0.map Qa6))] [] (I r) [] := by
  refine Qac Tryz.func68 rfl 0 (nle rfl) (fun X φ0 w0 hφ0 hd0 => ?_)
  unfold Qgx at h
  refine wx tbk [] trivial ?_
  refine wsq ?_
  obtain ⟨x2, hf1, h⟩ := bno h
  refine wx tbk [(1, rp [fu 49, (.tmp 3, (.dat 5 ((p0 : List GRow).map Qa6)))] (B x2))] ⟨apc (first := []) (cap := []) (vs := [(.dat 5 ((p0 : List GRow).map Qa6))]) rfl Q4d (Qiw N p0 _ hf1) rfl rfl (nlc (nld Qa9 _) nl0) nll rfl, trivial⟩ ?_
  rcases bft ((!x2)) with hc3 | hc3
  ·replace h := Qat hc3 h
   refine wft hc3 (by kernel_rfl) ?_
   refine wx tbk [] trivial ?_
   refine Qaa ?_
   refine Qan ?_
   obtain rfl := osi h
   exact fend ⟨[I 1], ⟨rot (by kernel_rfl), trivial⟩, rfl⟩ nll
  ·replace h := Qau hc3 h
   refine wfn hc3 (by kernel_rfl) ?_
   refine Qam ?_
   refine thn ?_
   refine wx tbk [] trivial ?_
   refine Qaa ?_
   obtain rfl := osi h
   exact fend ⟨[I 0], ⟨rot (by kernel_rfl), trivial⟩, rfl⟩ nll
def Qf1 (N : Nat) (p0 : GLine) : Option Bool :=
  (Qgx N p0.Table).bind fun x2 =>
  bif (x2 == 0) then
   (Qbb N p0.Level 0 (w64 ((p0.Table.length : Int) - 1))).bind fun x5 =>
   bif x5 then
    (Qd6 N (⟨p0.Unit.Inlet, p0.Unit.Parts⟩ : GUnit)).bind fun x8 =>
    bif x8 then
     (Qbb N p0.Most 0 1000000000).bind fun x11 =>
     bif x11 then
      (Qbb N p0.Target 0 4000).bind fun x14 =>
      bif x14 then
       (Qew N (⟨p0.Cycle.Out, p0.Cycle.Yield, p0.Cycle.Most⟩ : GCycle)).bind fun x17 =>
       some x17
      else
       some false
     else
      some false
    else
     some false
   else
    some false
  else
   some false
def Qiu (p0 : GLine) : AV := .dat 5 ((p0.Table : List GRow).map Qa6)
def Zd0 (p0 : GLine) : AV := .dat 2 ((p0.Unit.Parts : List GPart).map Qba)
def Qpo (p0 : GLine) : AV := .agg [(I (p0.Unit.Inlet)), (Zd0 p0)]
def Q78 (p0 : GLine) : AV := .agg [(I (p0.Cycle.Out)), (I (p0.Cycle.Yield)), (I (p0.Cycle.Most))]
theorem Qjk (N : Nat) (p0 : GLine) (r : Bool) (h : Qf1 N p0 = some r) : Spec Tryz.prog 28 [(.agg (Qn3 p0))] [] (B r) [] := by
  refine Qac Tryz.func28 rfl 0 (nle rfl) (fun X φ0 w0 hφ0 hd0 => ?_)
  unfold Qf1 at h
  refine wx tbk [] trivial ?_
  obtain ⟨x2, hf1, h⟩ := bno h
  rcases bft ((x2 == 0)) with hb3 | hb3
  ·replace h := Qat hb3 h
   obtain ⟨x5, hf4, h⟩ := bno h
   rcases bft (x5) with hb6 | hb6
   ·replace h := Qat hb6 h
    obtain ⟨x8, hf7, h⟩ := bno h
    rcases bft (x8) with hb9 | hb9
    ·replace h := Qat hb9 h
     obtain ⟨x11, hf10, h⟩ := bno h
     rcases bft (x11) with hb12 | hb12
     ·replace h := Qat hb12 h
      obtain ⟨x14, hf13, h⟩ := bno h
      rcases bft (x14) with hb15 | hb15
      ·replace h := Qat hb15 h
       obtain ⟨x17, hf16, h⟩ := bno h
       refine wx tbk [(2, rp [fu 68, (.tmp 4, (Qiu p0))] (I x2)), (4, rp [(.tmp 6, (B ((x2 == 0))))] (B true)), (9, rp [(.tmp 7, B true), (.tmp 11, (Qiu p0))] (I ((p0.Table.length : Int)))), (11, rp [(.tmp 7, B true), fu 56, (.tmp 9, I p0.Level), ci 0, (.tmp 13, (I (w64 ((p0.Table.length : Int) - 1))))] (B x5)), (13, rp [(.tmp 15, B x5)] (B true)), (16, rp [(.tmp 16, B true), fu 53, (.tmp 18, (Qpo p0))] (B x8)), (18, rp [(.tmp 20, B x8)] (B true)), (21, rp [(.tmp 21, B true), fu 56, (.tmp 23, I p0.Most), ci 0, ci 1000000000] (B x11)), (23, rp [(.tmp 25, B x11)] (B true)), (26, rp [(.tmp 26, B true), fu 56, (.tmp 28, I p0.Target), ci 0, ci 4000] (B x14)), (28, rp [(.tmp 30, B x14)] (B true)), (31, rp [(.tmp 31, B true), fu 58, (.tmp 33, (Q78 p0))] (B x17))] ⟨apc (first := []) (cap := []) (vs := [(Qiu p0)]) rfl Qpg (Qec N p0.Table _ hf1) rfl rfl (nlc (nld Qa9 _) nl0) nll rfl, asb hb3 (amv rfl), ag_ (alm (c := Qa6) (l := p0.Table) (aln rfl Tryz.underlying42 rfl)), ag_ (apc (first := []) (cap := []) (vs := [I p0.Level, I 0, (I (w64 ((p0.Table.length : Int) - 1)))]) rfl Qbs (Qad N p0.Level 0 (w64 ((p0.Table.length : Int) - 1)) _ hf4) rfl rfl (nlc nll (nlc nll (nlc nll nl0))) nll rfl), asb hb6 (amv rfl), ag_ (apc (first := []) (cap := []) (vs := [(Qpo p0)]) rfl Qle (Qcx N (⟨p0.Unit.Inlet, p0.Unit.Parts⟩ : GUnit) _ hf7) rfl rfl (nlc (NLt.agg _ (nlc nll (nlc (nld Qaq _) nl0))) nl0) nll rfl), asb hb9 (amv rfl), ag_ (apc (first := []) (cap := []) (vs := [I p0.Most, I 0, I 1000000000]) rfl Qbs (Qad N p0.Most 0 1000000000 _ hf10) rfl rfl (nlc nll (nlc nll (nlc nll nl0))) nll rfl), asb hb12 (amv rfl), ag_ (apc (first := []) (cap := []) (vs := [I p0.Target, I 0, I 4000]) rfl Qbs (Qad N p0.Target 0 4000 _ hf13) rfl rfl (nlc nll (nlc nll (nlc nll nl0))) nll rfl), asb hb15 (amv rfl), ag_ (apc (first := []) (cap := []) (vs := [(Q78 p0)]) rfl Qxn (Qgt N (⟨p0.Cycle.Out, p0.Cycle.Yield, p0.Cycle.Most⟩ : GCycle) _ hf16) rfl rfl (nlc (NLt.agg _ (nlc nll (nlc nll (nlc nll nl0)))) nl0) nll rfl), trivial⟩ ?_
       refine Qaa ?_
       obtain rfl := osi h
       exact fend ⟨[B x17], ⟨rot (by kernel_rfl), trivial⟩, rfl⟩ nll
      ·replace h := Qau hb15 h
       refine wx tbk [(2, rp [fu 68, (.tmp 4, (Qiu p0))] (I x2)), (4, rp [(.tmp 6, (B ((x2 == 0))))] (B true)), (9, rp [(.tmp 7, B true), (.tmp 11, (Qiu p0))] (I ((p0.Table.length : Int)))), (11, rp [(.tmp 7, B true), fu 56, (.tmp 9, I p0.Level), ci 0, (.tmp 13, (I (w64 ((p0.Table.length : Int) - 1))))] (B x5)), (13, rp [(.tmp 15, B x5)] (B true)), (16, rp [(.tmp 16, B true), fu 53, (.tmp 18, (Qpo p0))] (B x8)), (18, rp [(.tmp 20, B x8)] (B true)), (21, rp [(.tmp 21, B true), fu 56, (.tmp 23, I p0.Most), ci 0, ci 1000000000] (B x11)), (23, rp [(.tmp 25, B x11)] (B true)), (26, rp [(.tmp 26, B true), fu 56, (.tmp 28, I p0.Target), ci 0, ci 4000] (B x14)), (28, rp [(.tmp 30, B x14)] (B false))] ⟨apc (first := []) (cap := []) (vs := [(Qiu p0)]) rfl Qpg (Qec N p0.Table _ hf1) rfl rfl (nlc (nld Qa9 _) nl0) nll rfl, asb hb3 (amv rfl), ag_ (alm (c := Qa6) (l := p0.Table) (aln rfl Tryz.underlying42 rfl)), ag_ (apc (first := []) (cap := []) (vs := [I p0.Level, I 0, (I (w64 ((p0.Table.length : Int) - 1)))]) rfl Qbs (Qad N p0.Level 0 (w64 ((p0.Table.length : Int) - 1)) _ hf4) rfl rfl (nlc nll (nlc nll (nlc nll nl0))) nll rfl), asb hb6 (amv rfl), ag_ (apc (first := []) (cap := []) (vs := [(Qpo p0)]) rfl Qle (Qcx N (⟨p0.Unit.Inlet, p0.Unit.Parts⟩ : GUnit) _ hf7) rfl rfl (nlc (NLt.agg _ (nlc nll (nlc (nld Qaq _) nl0))) nl0) nll rfl), asb hb9 (amv rfl), ag_ (apc (first := []) (cap := []) (vs := [I p0.Most, I 0, I 1000000000]) rfl Qbs (Qad N p0.Most 0 1000000000 _ hf10) rfl rfl (nlc nll (nlc nll (nlc nll nl0))) nll rfl), asb hb12 (amv rfl), ag_ (apc (first := []) (cap := []) (vs := [I p0.Target, I 0, I 4000]) rfl Qbs (Qad N p0.Target 0 4000 _ hf13) rfl rfl (nlc nll (nlc nll (nlc nll nl0))) nll rfl), asb hb15 (amv rfl), trivial⟩ ?_
       refine Qaa ?_
       obtain rfl := osi h
       exact fend ⟨[B false], ⟨rot (by kernel_rfl), trivial⟩, rfl⟩ nll
     ·replace h := Qau hb12 h
      refine wx tbk [(2, rp [fu 68, (.tmp 4, (Qiu p0))] (I x2)), (4, rp [(.tmp 6, (B ((x2 == 0))))] (B true)), (9, rp [(.tmp 7, B true), (.tmp 11, (Qiu p0))] (I ((p0.Table.length : Int)))), (11, rp [(.tmp 7, B true), fu 56, (.tmp 9, I p0.Level), ci 0, (.tmp 13, (I (w64 ((p0.Table.length : Int) - 1))))] (B x5)), (13, rp [(.tmp 15, B x5)] (B true)), (16, rp [(.tmp 16, B true), fu 53, (.tmp 18, (Qpo p0))] (B x8)), (18, rp [(.tmp 20, B x8)] (B true)), (21, rp [(.tmp 21, B true), fu 56, (.tmp 23, I p0.Most), ci 0, ci 1000000000] (B x11)), (23, rp [(.tmp 25, B x11)] (B false))] ⟨apc (first := []) (cap := []) (vs := [(Qiu p0)]) rfl Qpg (Qec N p0.Table _ hf1) rfl rfl (nlc (nld Qa9 _) nl0) nll rfl, asb hb3 (amv rfl), ag_ (alm (c := Qa6) (l := p0.Table) (aln rfl Tryz.underlying42 rfl)), ag_ (apc (first := []) (cap := []) (vs := [I p0.Level, I 0, (I (w64 ((p0.Table.length : Int) - 1)))]) rfl Qbs (Qad N p0.Level 0 (w64 ((p0.Table.length : Int) - 1)) _ hf4) rfl rfl (nlc nll (nlc nll (nlc nll nl0))) nll rfl), asb hb6 (amv rfl), ag_ (apc (first := []) (cap := []) (vs := [(Qpo p0)]) rfl Qle (Qcx N (⟨p0.Unit.Inlet, p0.Unit.Parts⟩ : GUnit) _ hf7) rfl rfl (nlc (NLt.agg _ (nlc nll (nlc (nld Qaq _) nl0))) nl0) nll rfl), asb hb9 (amv rfl), ag_ (apc (first := []) (cap := []) (vs := [I p0.Most, I 0, I 1000000000]) rfl Qbs (Qad N p0.Most 0 1000000000 _ hf10) rfl rfl (nlc nll (nlc nll (nlc nll nl0))) nll rfl), asb hb12 (amv rfl), trivial⟩ ?_
      refine Qaa ?_
      obtain rfl := osi h
      exact fend ⟨[B false], ⟨rot (by kernel_rfl), trivial⟩, rfl⟩ nll
    ·replace h := Qau hb9 h
     refine wx tbk [(2, rp [fu 68, (.tmp 4, (Qiu p0))] (I x2)), (4, rp [(.tmp 6, (B ((x2 == 0))))] (B true)), (9, rp [(.tmp 7, B true), (.tmp 11, (Qiu p0))] (I ((p0.Table.length : Int)))), (11, rp [(.tmp 7, B true), fu 56, (.tmp 9, I p0.Level), ci 0, (.tmp 13, (I (w64 ((p0.Table.length : Int) - 1))))] (B x5)), (13, rp [(.tmp 15, B x5)] (B true)), (16, rp [(.tmp 16, B true), fu 53, (.tmp 18, (Qpo p0))] (B x8)), (18, rp [(.tmp 20, B x8)] (B false))] ⟨apc (first := []) (cap := []) (vs := [(Qiu p0)]) rfl Qpg (Qec N p0.Table _ hf1) rfl rfl (nlc (nld Qa9 _) nl0) nll rfl, asb hb3 (amv rfl), ag_ (alm (c := Qa6) (l := p0.Table) (aln rfl Tryz.underlying42 rfl)), ag_ (apc (first := []) (cap := []) (vs := [I p0.Level, I 0, (I (w64 ((p0.Table.length : Int) - 1)))]) rfl Qbs (Qad N p0.Level 0 (w64 ((p0.Table.length : Int) - 1)) _ hf4) rfl rfl (nlc nll (nlc nll (nlc nll nl0))) nll rfl), asb hb6 (amv rfl), ag_ (apc (first := []) (cap := []) (vs := [(Qpo p0)]) rfl Qle (Qcx N (⟨p0.Unit.Inlet, p0.Unit.Parts⟩ : GUnit) _ hf7) rfl rfl (nlc (NLt.agg _ (nlc nll (nlc (nld Qaq _) nl0))) nl0) nll rfl), asb hb9 (amv rfl), trivial⟩ ?_
     refine Qaa ?_
     obtain rfl := osi h
     exact fend ⟨[B false], ⟨rot (by kernel_rfl), trivial⟩, rfl⟩ nll
   ·replace h := Qau hb6 h
    refine wx tbk [(2, rp [fu 68, (.tmp 4, (Qiu p0))] (I x2)), (4, rp [(.tmp 6, (B ((x2 == 0))))] (B true)), (9, rp [(.tmp 7, B true), (.tmp 11, (Qiu p0))] (I ((p0.Table.length : Int)))), (11, rp [(.tmp 7, B true), fu 56, (.tmp 9, I p0.Level), ci 0, (.tmp 13, (I (w64 ((p0.Table.length : Int) - 1))))] (B x5)), (13, rp [(.tmp 15, B x5)] (B false))] ⟨apc (first := []) (cap := []) (vs := [(Qiu p0)]) rfl Qpg (Qec N p0.Table _ hf1) rfl rfl (nlc (nld Qa9 _) nl0) nll rfl, asb hb3 (amv rfl), ag_ (alm (c := Qa6) (l := p0.Table) (aln rfl Tryz.underlying42 rfl)), ag_ (apc (first := []) (cap := []) (vs := [I p0.Level, I 0, (I (w64 ((p0.Table.length : Int) - 1)))]) rfl Qbs (Qad N p0.Level 0 (w64 ((p0.Table.length : Int) - 1)) _ hf4) rfl rfl (nlc nll (nlc nll (nlc nll nl0))) nll rfl), asb hb6 (amv rfl), trivial⟩ ?_
    refine Qaa ?_
    obtain rfl := osi h
    exact fend ⟨[B false], ⟨rot (by kernel_rfl), trivial⟩, rfl⟩ nll
  ·replace h := Qau hb3 h
   refine wx tbk [(2, rp [fu 68, (.tmp 4, (Qiu p0))] (I x2)), (4, rp [(.tmp 6, (B ((x2 == 0))))] (B false))] ⟨apc (first := []) (cap := []) (vs := [(Qiu p0)]) rfl Qpg (Qec N p0.Table _ hf1) rfl rfl (nlc (nld Qa9 _) nl0) nll rfl, asb hb3 (amv rfl), trivial⟩ ?_
   refine Qaa ?_
   obtain rfl := osi h
   exact fend ⟨[B false], ⟨rot (by kernel_rfl), trivial⟩, rfl⟩ nll
theorem Qoi : DRet Tryz.prog 30 [14, 1] := by
  refine Qoo (t := 5) (t2 := 2) (args := [.any, .any]) Tryz.func30 rfl (fun _ _ => rfl) rfl (by kernel_rfl) Za0 0 (nle rfl) (fun X φ0 w0 hφ0 => ?_)
  refine wsq ?_
  refine wx tbk [(1, rp [(.tmp 6, (.lit .nilIface)), (.const .nilIface, (.lit .nilIface))] (B true))] ⟨Qv6 rfl Tryz.underlying20, trivial⟩ ?_
  refine Qcy (by kernel_rfl) ?_
  refine Qaa ?_
  refine Qan ?_
  exact fend ⟨[], trivial, rfl⟩ (.tup _ nl0)
def Qex (_N : Nat) (p0 : Int) : Option (Unit ⊕ Int) :=
  bif (p0 != 0) then
   some (.inr p0)
  else
   some (.inl ())
theorem Qnm (N : Nat) (p0 : Int) (r : (Unit ⊕ Int)) (h : Qex N p0 = some r) : Zes Tryz.prog 31 [(I p0)] []  ((Sum.elim (fun r => .ret (.tup []) []) (fun r => .pan (.iface 89 (.agg #[(.int .i64 (r))]))) : (Unit ⊕ Int) → Out) r) := by
  refine Qu2 Tryz.func31 rfl 0 (nle rfl) (fun X φ0 w0 hφ0 hd0 => ?_)
  unfold Qex at h
  refine wx tbk [] trivial ?_
  rcases bft ((p0 != 0)) with hc2 | hc2
  ·replace h := Qat hc2 h
   refine wft hc2 (by kernel_rfl) ?_
   refine Qm0 3 [mv 0 (I p0), rp [(.tmp 4, I p0)] (.agg [I p0]), rp [(.tmp 5, (.agg [I p0]))] (.lit (.iface 89 (.agg #[(.int .i64 (p0))]))), ⟨[(.tmp 6, (.lit (.iface 89 (.agg #[(.int .i64 (p0))]))))], [], .any, [], false⟩] (by exact ⟨by kernel_rfl, by kernel_rfl⟩) rfl (by kernel_rfl) rfl (Qxi rfl) (⟨fun _ _ => amv rfl, fun _ _ => Qao (vs := [I p0]) rfl ts89 tz89 rfl (by rfl) rfl, fun _ _ => awk (rd' := [(.tmp 5, .lit (.agg #[(.int .i64 (p0))]))]) ⟨rfl, (Less.lits [(.int .i64 (p0))]), trivial⟩ (Qx6 rfl Tryz.underlying89), fun _ h => absurd rfl h, trivial⟩) ?_
   obtain rfl := osi h
   exact rfl
  ·replace h := Qau hc2 h
   refine wfn hc2 (by kernel_rfl) ?_
   refine Qam ?_
   obtain rfl := osi h
   exact ⟨_, (mto (n := 7) (l' := []) (own' := []) [] [] [] hφ0 pn qn), Q6r (vs := []) trivial rfl (NLt.tup _ nl0) (by kernel_rfl) Qbd⟩
theorem Qgs (N : Nat) (p0 : Int) (r : Unit) (h : Qex N p0 = some (.inl r)) : Spec Tryz.prog 31 [I p0] [] (.tup []) [] := Qnm N p0 _ h
theorem Qgr (N : Nat) (p0 : Int) (r : Int) (h : Qex N p0 = some (.inr r)) : Q7t Tryz.prog 31 [I p0] [] (.iface 89 (.agg #[(.int .i64 (r))])) := Qnm N p0 _ h
def Qfv (N : Nat) (_p0 : (List GRow)) (_p1 : Int) (p2 : Int) (p3 : (List GPart)) (_p4 : Int) (_p5 : Int) (_p6 : Int) (_p7 : Int) (_p8 : Int) (_p9 : Int) (_p10 : Int) (_p11 : Int) (_p12 : Int) (_p13 : Int) (_p14 : Int) (_p15 : Int) (_p16 : Int) (_p17 : Int) (_p18 : Int) (_p19 : Int) (_p20 : Int) (_p21 : Int) (_p22 : Int) (p23 : Int) (p24 : Int) (p25 : Int) (p26 : Int) (_p27 : Int) (_p28 : Int) (_p29 : Int) (_p30 : Int) : Option (Int × Int × Int × Int × Int × Int) :=
  (Qia N (⟨p2, p3⟩ : GUnit) (⟨p23, p24, p25, p26⟩ : GStream)).bind fun x8 =>
  some (x8.2.2, x8.2.1, x8.1.Mass, x8.1.Heat, x8.1.Silica, x8.1.Gas)
def Quv (p0 : (List GRow)) : AV := .dat 5 ((p0 : List GRow).map Qa6)
def Qqi (p3 : (List GPart)) : AV := .dat 2 ((p3 : List GPart).map Qba)
def Qys (p0 : (List GRow)) (p1 : Int) (p2 : Int) (p3 : (List GPart)) (p4 : Int) (p5 : Int) (p6 : Int) (p7 : Int) (p8 : Int) (p9 : Int) (p10 : Int) (p11 : Int) (p12 : Int) (p13 : Int) (p14 : Int) (p15 : Int) (p16 : Int) (p17 : Int) (p18 : Int) (p19 : Int) (p20 : Int) (p21 : Int) (p22 : Int) (p23 : Int) (p24 : Int) (p25 : Int) (p26 : Int) (p27 : Int) (p28 : Int) (p29 : Int) (p30 : Int) : Slot := .own 31 [[(Quv p0), (I (p1)), (I (p2)), (Qqi p3), (I (p4)), (I (p5)), (I (p6)), (I (p7)), (I (p8)), (I (p9)), (I (p10)), (I (p11)), (I (p12)), (I (p13)), (I (p14)), (I (p15)), (I (p16)), (I (p17)), (I (p18)), (I (p19)), (I (p20)), (I (p21)), (I (p22)), (I (p23)), (I (p24)), (I (p25)), (I (p26)), (I (p27)), (I (p28)), (I (p29)), (I (p30))]]
theorem Qh3 (N : Nat) (p0 : (List GRow)) (p1 : Int) (p2 : Int) (p3 : (List GPart)) (p4 : Int) (p5 : Int) (p6 : Int) (p7 : Int) (p8 : Int) (p9 : Int) (p10 : Int) (p11 : Int) (p12 : Int) (p13 : Int) (p14 : Int) (p15 : Int) (p16 : Int) (p17 : Int) (p18 : Int) (p19 : Int) (p20 : Int) (p21 : Int) (p22 : Int) (p23 : Int) (p24 : Int) (p25 : Int) (p26 : Int) (p27 : Int) (p28 : Int) (p29 : Int) (p30 : Int) (r : (Int × Int × Int × Int × Int × Int)) (h : Qfv N p0 p1 p2 p3 p4 p5 p6 p7 p8 p9 p10 p11 p12 p13 p14 p15 p16 p17 p18 p19 p20 p21 p22 p23 p24 p25 p26 p27 p28 p29 p30 = some r) : Spec Tryz.prog 33 [(.ref 0 31 (0) 0)] [(Qys p0 p1 p2 p3 p4 p5 p6 p7 p8 p9 p10 p11 p12 p13 p14 p15 p16 p17 p18 p19 p20 p21 p22 p23 p24 p25 p26 p27 p28 p29 p30)] (I (r.1)) [(.own 31 [[(Quv p0), (I (p1)), (I (p2)), (Qqi p3), (I (p4)), (I (p5)), (I (p6)), (I (p7)), (I (p8)), (I (r.2.1)), (I (p10)), (I (p11)), (I (p12)), (I (p13)), (I (p14)), (I (p15)), (I (p16)), (I (p17)), (I (p18)), (I (p19)), (I (p20)), (I (p21)), (I (p22)), (I (r.2.2.1)), (I (r.2.2.2.1)), (I (r.2.2.2.2.1)), (I (r.2.2.2.2.2)), (I (p27)), (I (p28)), (I (p29)), (I (p30))]])] := by
  refine Qac Tryz.func33 rfl 1 (nle rfl) (fun X φ0 w0 hφ0 hd0 => ?_)
  unfold Qfv at h
  refine Qbh ?_
  refine wx tbk [] trivial ?_
  obtain ⟨x8, hf7, h⟩ := bno h
  refine wxd tbk [(3, rb [(.tmp 6, .ref 0 31 0 0)] [(0, (Qys p0 p1 p2 p3 p4 p5 p6 p7 p8 p9 p10 p11 p12 p13 p14 p15 p16 p17 p18 p19 p20 p21 p22 p23 p24 p25 p26 p27 p28 p29 p30))] (.ref 0 31 0 0)), (8, rb [(.tmp 11, .ref 0 31 0 0)] [(0, (Qys p0 p1 p2 p3 p4 p5 p6 p7 p8 p9 p10 p11 p12 p13 p14 p15 p16 p17 p18 p19 p20 p21 p22 p23 p24 p25 p26 p27 p28 p29 p30))] (.ref 0 31 0 0)), (11, rp [fu 17, (.tmp 10, (.agg [I p2, (Qqi p3)])), (.tmp 14, (.agg [I p23, I p24, I p25, I p26]))] (.tup [(.agg [I x8.1.Mass, I x8.1.Heat, I x8.1.Silica, I x8.1.Gas]), I x8.2.1, I x8.2.2])), (16, rb [(.tmp 4, .ref 0 31 0 0)] [(0, (Qys p0 p1 p2 p3 p4 p5 p6 p7 p8 p9 p10 p11 p12 p13 p14 p15 p16 p17 p18 p19 p20 p21 p22 p23 p24 p25 p26 p27 p28 p29 p30))] (.ref 0 31 0 0)), (19, rb [(.tmp 5, .ref 0 31 0 0)] [(0, (.own 31 [[(Quv p0), I p1, I p2, (Qqi p3), I p4, I p5, I p6, I p7, I p8, I p9, I p10, I p11, I p12, I p13, I p14, I p15, I p16, I p17, I p18, I p19, I p20, I p21, I p22, I x8.1.Mass, I x8.1.Heat, I x8.1.Silica, I x8.1.Gas, I p27, I p28, I p29, I p30]]))] (.ref 0 31 0 0))] ⟨Qbw rfl, Qbw rfl, apc (first := []) (cap := []) (vs := [(.agg [I p2, (Qqi p3)]), (.agg [I p23, I p24, I p25, I p26])]) rfl Zcq (Qp4 N (⟨p2, p3⟩ : GUnit) (⟨p23, p24, p25, p26⟩ : GStream) _ hf7) rfl rfl (nlc (NLt.agg _ (nlc nll (nlc (nld Qaq _) nl0))) (nlc (NLt.agg _ (nlc nll (nlc nll (nlc nll (nlc nll nl0))))) nl0)) (NLt.tup _ (nlc (NLt.agg _ (nlc nll (nlc nll (nlc nll (nlc nll nl0))))) (nlc nll (nlc nll nl0)))) rfl, Qbw rfl, Qbw rfl, trivial⟩ ?_
  refine wx tbk [] trivial ?_
  refine wmr (mto (n := 25) (l' := [(2, I x8.2.2)]) (own' := [(.own 31 [[(Quv p0), I p1, I p2, (Qqi p3), I p4, I p5, I p6, I p7, I p8, I x8.2.1, I p10, I p11, I p12, I p13, I p14, I p15, I p16, I p17, I p18, I p19, I p20, I p21, I p22, I x8.1.Mass, I x8.1.Heat, I x8.1.Silica, I x8.1.Gas, I p27, I p28, I p29, I p30]])]) [(2, I x8.2.2)] [0] [(.own 31 [[(Quv p0), I p1, I p2, (Qqi p3), I p4, I p5, I p6, I p7, I p8, I x8.2.1, I p10, I p11, I p12, I p13, I p14, I p15, I p16, I p17, I p18, I p19, I p20, I p21, I p22, I x8.1.Mass, I x8.1.Heat, I x8.1.Silica, I x8.1.Gas, I p27, I p28, I p29, I p30]])] hφ0 (pc rwl pn) (qc (spb (lc (.rn (.plain _ (nld Qa9 _))) (lc rwl (lc rwl (lc (.rn (.plain _ (nld Qaq _))) (lc rwl (lc rwl (lc rwl (lc rwl (lc rwl (lc rwl (lc rwl (lc rwl (lc rwl (lc rwl (lc rwl (lc rwl (lc rwl (lc rwl (lc rwl (lc rwl (lc rwl (lc rwl (lc rwl (lc rwl (lc rwl (lc rwl (lc rwl (lc rwl (lc rwl (lc rwl (lc rwl ln)))))))))))))))))))))))))))))))) qn)) ?_
  refine Qaa ?_
  obtain rfl := osi h
  exact ⟨_, Mor.rfl, Qb7 (vs := [I x8.2.2]) ⟨rot (by kernel_rfl), trivial⟩ rfl (NLt.of0 nll) (by kernel_rfl) (Qaf (Qav (nlc (NLt.of0 (nld Qa9 _)) (nlc (NLt.of0 nll) (nlc (NLt.of0 nll) (nlc (NLt.of0 (nld Qaq _)) (nlc (NLt.of0 nll) (nlc (NLt.of0 nll) (nlc (NLt.of0 nll) (nlc (NLt.of0 nll) (nlc (NLt.of0 nll) (nlc (NLt.of0 nll) (nlc (NLt.of0 nll) (nlc (NLt.of0 nll) (nlc (NLt.of0 nll) (nlc (NLt.of0 nll) (nlc (NLt.of0 nll) (nlc (NLt.of0 nll) (nlc (NLt.of0 nll) (nlc (NLt.of0 nll) (nlc (NLt.of0 nll) (nlc (NLt.of0 nll) (nlc (NLt.of0 nll) (nlc (NLt.of0 nll) (nlc (NLt.of0 nll) (nlc (NLt.of0 nll) (nlc (NLt.of0 nll) (nlc (NLt.of0 nll) (nlc (NLt.of0 nll) (nlc (NLt.of0 nll) (nlc (NLt.of0 nll) (nlc (NLt.of0 nll) (nlc (NLt.of0 nll) nl0)))))))))))))))))))))))))))))))) Qbd)⟩
def Qg0 (N : Nat) (p0 : Int) (p1 : Int) (p2 : Int) (p3 : Int) (_p4 : (List GRow)) (_p5 : Int) (_p6 : Int) (_p7 : (List GPart)) (p8 : Int) (_p9 : Int) (_p10 : Int) (_p11 : Int) (_p12 : Int) (_p13 : (List GRow)) (_p14 : Int) (_p15 : Int) (_p16 : (List GPart)) (_p17 : Int) (_p18 : Int) (_p19 : Int) (_p20 : Int) (_p21 : Int) (_p22 : Int) (_p23 : Int) (_p24 : Int) (_p25 : Int) (_p26 : Int) (_p27 : Int) (_p28 : Int) (_p29 : Int) (_p30 : Int) (_p31 : Int) (_p32 : Int) (_p33 : Int) (_p34 : Int) (_p35 : Int) (p36 : Int) (p37 : Int) (p38 : Int) (p39 : Int) (_p40 : Int) (_p41 : Int) (_p42 : Int) (_p43 : Int) : Option (Int × Int × Int × Int × Int × Int) :=
  (Qgu N (⟨p36, p37, p38, p39⟩ : GStream) (⟨p0, p1, p2, p3⟩ : GStream) p8).bind fun x8 =>
  some (x8.2.2, x8.2.1, x8.1.Mass, x8.1.Heat, x8.1.Silica, x8.1.Gas)
def Qyr : Slot := .own 1 [[(.ref 3 31 (0) 0)]]
def Qyq (p0 : Int) (p1 : Int) (p2 : Int) (p3 : Int) : Slot := .own 4 [[(I (p0)), (I (p1)), (I (p2)), (I (p3))]]
def Qyp (p4 : (List GRow)) (p5 : Int) (p6 : Int) (p7 : (List GPart)) (p8 : Int) (p9 : Int) (p10 : Int) (p11 : Int) (p12 : Int) : Slot := .own 9 [[(.dat 5 ((p4 : List GRow).map Qa6)), (I (p5)), (I (p6)), (.dat 2 ((p7 : List GPart).map Qba)), (I (p8)), (I (p9)), (I (p10)), (I (p11)), (I (p12))]]
def Qqh (p13 : (List GRow)) : AV := .dat 5 ((p13 : List GRow).map Qa6)
def Qqg (p16 : (List GPart)) : AV := .dat 2 ((p16 : List GPart).map Qba)
theorem Qjj (N : Nat) (p0 : Int) (p1 : Int) (p2 : Int) (p3 : Int) (p4 : (List GRow)) (p5 : Int) (p6 : Int) (p7 : (List GPart)) (p8 : Int) (p9 : Int) (p10 : Int) (p11 : Int) (p12 : Int) (p13 : (List GRow)) (p14 : Int) (p15 : Int) (p16 : (List GPart)) (p17 : Int) (p18 : Int) (p19 : Int) (p20 : Int) (p21 : Int) (p22 : Int) (p23 : Int) (p24 : Int) (p25 : Int) (p26 : Int) (p27 : Int) (p28 : Int) (p29 : Int) (p30 : Int) (p31 : Int) (p32 : Int) (p33 : Int) (p34 : Int) (p35 : Int) (p36 : Int) (p37 : Int) (p38 : Int) (p39 : Int) (p40 : Int) (p41 : Int) (p42 : Int) (p43 : Int) (r : (Int × Int × Int × Int × Int × Int)) (h : Qg0 N p0 p1 p2 p3 p4 p5 p6 p7 p8 p9 p10 p11 p12 p13 p14 p15 p16 p17 p18 p19 p20 p21 p22 p23 p24 p25 p26 p27 p28 p29 p30 p31 p32 p33 p34 p35 p36 p37 p38 p39 p40 p41 p42 p43 = some r) : Spec Tryz.prog 32 [(.ref 0 1 (0) 0), (.ref 1 4 (0) 0), (.ref 2 9 (0) 0)] [Qyr, (Qyq p0 p1 p2 p3), (Qyp p4 p5 p6 p7 p8 p9 p10 p11 p12), (.own 31 [[(Qqh p13), (I (p14)), (I (p15)), (Qqg p16), (I (p17)), (I (p18)), (I (p19)), (I (p20)), (I (p21)), (I (p22)), (I (p23)), (I (p24)), (I (p25)), (I (p26)), (I (p27)), (I (p28)), (I (p29)), (I (p30)), (I (p31)), (I (p32)), (I (p33)), (I (p34)), (I (p35)), (I (p36)), (I (p37)), (I (p38)), (I (p39)), (I (p40)), (I (p41)), (I (p42)), (I (p43))]])] (I (r.1)) [Qyr, (Qyq p0 p1 p2 p3), (Qyp p4 p5 p6 p7 p8 p9 p10 p11 p12), (.own 31 [[(Qqh p13), (I (p14)), (I (p15)), (Qqg p16), (I (p17)), (I (p18)), (I (p19)), (I (p20)), (I (p21)), (I (p22)), (I (r.2.1)), (I (p24)), (I (p25)), (I (p26)), (I (p27)), (I (r.2.2.1)), (I (r.2.2.2.1)), (I (r.2.2.2.2.1)), (I (r.2.2.2.2.2)), (I (p32)), (I (p33)), (I (p34)), (I (p35)), (I (p36)), (I (p37)), (I (p38)), (I (p39)), (I (p40)), (I (p41)), (I (p42)), (I (p43))]])] := by
  refine Qac Tryz.func32 rfl 4 (nle rfl) (fun X φ0 w0 hφ0 hd0 => ?_)
  unfold Qg0 at h
  refine Qbh ?_
  refine wx tbk [] trivial ?_
  obtain ⟨x8, hf7, h⟩ := bno h
  refine wxd tbk [(3, rb [(.tmp 7, .ref 3 31 0 0)] [(3, (.own 31 [[(Qqh p13), I p14, I p15, (Qqg p16), I p17, I p18, I p19, I p20, I p21, I p22, I p23, I p24, I p25, I p26, I p27, I p28, I p29, I p30, I p31, I p32, I p33, I p34, I p35, I p36, I p37, I p38, I p39, I p40, I p41, I p42, I p43]]))] (.ref 3 31 0 0)), (9, rp [fu 18, (.tmp 10, (.agg [I p36, I p37, I p38, I p39])), (.tmp 11, (.agg [I p0, I p1, I p2, I p3])), (.tmp 13, I p8)] (.tup [(.agg [I x8.1.Mass, I x8.1.Heat, I x8.1.Silica, I x8.1.Gas]), I x8.2.1, I x8.2.2])), (14, rb [(.tmp 5, .ref 3 31 0 0)] [(3, (.own 31 [[(Qqh p13), I p14, I p15, (Qqg p16), I p17, I p18, I p19, I p20, I p21, I p22, I p23, I p24, I p25, I p26, I p27, I p28, I p29, I p30, I p31, I p32, I p33, I p34, I p35, I p36, I p37, I p38, I p39, I p40, I p41, I p42, I p43]]))] (.ref 3 31 0 0)), (18, rb [(.tmp 6, .ref 3 31 0 0)] [(3, (.own 31 [[(Qqh p13), I p14, I p15, (Qqg p16), I p17, I p18, I p19, I p20, I p21, I p22, I p23, I p24, I p25, I p26, I p27, I x8.1.Mass, I x8.1.Heat, I x8.1.Silica, I x8.1.Gas, I p32, I p33, I p34, I p35, I p36, I p37, I p38, I p39, I p40, I p41, I p42, I p43]]))] (.ref 3 31 0 0))] ⟨Qbw rfl, apc (first := []) (cap := []) (vs := [(.agg [I p36, I p37, I p38, I p39]), (.agg [I p0, I p1, I p2, I p3]), I p8]) rfl Zcp (Qol N (⟨p36, p37, p38, p39⟩ : GStream) (⟨p0, p1, p2, p3⟩ : GStream) p8 _ hf7) rfl rfl (nlc (NLt.agg _ (nlc nll (nlc nll (nlc nll (nlc nll nl0))))) (nlc (NLt.agg _ (nlc nll (nlc nll (nlc nll (nlc nll nl0))))) (nlc nll nl0))) (NLt.tup _ (nlc (NLt.agg _ (nlc nll (nlc nll (nlc nll (nlc nll nl0))))) (nlc nll (nlc nll nl0)))) rfl, Qbw rfl, Qbw rfl, trivial⟩ ?_
  refine wx tbk [] trivial ?_
  refine wmr (mto (n := 25) (l' := [(3, I x8.2.2)]) (own' := [Qyr, (Qyq p0 p1 p2 p3), (Qyp p4 p5 p6 p7 p8 p9 p10 p11 p12), (.own 31 [[(Qqh p13), I p14, I p15, (Qqg p16), I p17, I p18, I p19, I p20, I p21, I p22, I x8.2.1, I p24, I p25, I p26, I p27, I x8.1.Mass, I x8.1.Heat, I x8.1.Silica, I x8.1.Gas, I p32, I p33, I p34, I p35, I p36, I p37, I p38, I p39, I p40, I p41, I p42, I p43]])]) [(3, I x8.2.2)] [0, 1, 2, 3] [Qyr, (Qyq p0 p1 p2 p3), (Qyp p4 p5 p6 p7 p8 p9 p10 p11 p12), (.own 31 [[(Qqh p13), I p14, I p15, (Qqg p16), I p17, I p18, I p19, I p20, I p21, I p22, I x8.2.1, I p24, I p25, I p26, I p27, I x8.1.Mass, I x8.1.Heat, I x8.1.Silica, I x8.1.Gas, I p32, I p33, I p34, I p35, I p36, I p37, I p38, I p39, I p40, I p41, I p42, I p43]])] hφ0 (pc rwl pn) (qc (spb (lc (.rn (rqr rfl)) ln)) (qc (spb (lc rwl (lc rwl (lc rwl (lc rwl ln))))) (qc (spb (lc (.rn (.plain _ (nld Qa9 _))) (lc rwl (lc rwl (lc (.rn (.plain _ (nld Qaq _))) (lc rwl (lc rwl (lc rwl (lc rwl (lc rwl ln)))))))))) (qc (spb (lc (.rn (.plain _ (nld Qa9 _))) (lc rwl (lc rwl (lc (.rn (.plain _ (nld Qaq _))) (lc rwl (lc rwl (lc rwl (lc rwl (lc rwl (lc rwl (lc rwl (lc rwl (lc rwl (lc rwl (lc rwl (lc rwl (lc rwl (lc rwl (lc rwl (lc rwl (lc rwl (lc rwl (lc rwl (lc rwl (lc rwl (lc rwl (lc rwl (lc rwl (lc rwl (lc rwl (lc rwl ln)))))))))))))))))))))))))))))))) qn))))) ?_
  refine Qaa ?_
  obtain rfl := osi h
  exact ⟨_, Mor.rfl, Qb7 (vs := [I x8.2.2]) ⟨rot (by kernel_rfl), trivial⟩ rfl (NLt.of0 nll) (by kernel_rfl) (Qaf (Qav (nlc (NLt.ref _ _ _ _ (by decide)) nl0)) (Qaf (Qav (nlc (NLt.of0 nll) (nlc (NLt.of0 nll) (nlc (NLt.of0 nll) (nlc (NLt.of0 nll) nl0))))) (Qaf (Qav (nlc (NLt.of0 (nld Qa9 _)) (nlc (NLt.of0 nll) (nlc (NLt.of0 nll) (nlc (NLt.of0 (nld Qaq _)) (nlc (NLt.of0 nll) (nlc (NLt.of0 nll) (nlc (NLt.of0 nll) (nlc (NLt.of0 nll) (nlc (NLt.of0 nll) nl0)))))))))) (Qaf (Qav (nlc (NLt.of0 (nld Qa9 _)) (nlc (NLt.of0 nll) (nlc (NLt.of0 nll) (nlc (NLt.of0 (nld Qaq _)) (nlc (NLt.of0 nll) (nlc (NLt.of0 nll) (nlc (NLt.of0 nll) (nlc (NLt.of0 nll) (nlc (NLt.of0 nll) (nlc (NLt.of0 nll) (nlc (NLt.of0 nll) (nlc (NLt.of0 nll) (nlc (NLt.of0 nll) (nlc (NLt.of0 nll) (nlc (NLt.of0 nll) (nlc (NLt.of0 nll) (nlc (NLt.of0 nll) (nlc (NLt.of0 nll) (nlc (NLt.of0 nll) (nlc (NLt.of0 nll) (nlc (NLt.of0 nll) (nlc (NLt.of0 nll) (nlc (NLt.of0 nll) (nlc (NLt.of0 nll) (nlc (NLt.of0 nll) (nlc (NLt.of0 nll) (nlc (NLt.of0 nll) (nlc (NLt.of0 nll) (nlc (NLt.of0 nll) (nlc (NLt.of0 nll) (nlc (NLt.of0 nll) nl0)))))))))))))))))))))))))))))))) Qbd))))⟩
def Qgi (N : Nat) (_p0 : (List GRow)) (_p1 : Int) (_p2 : Int) (_p3 : (List GPart)) (_p4 : Int) (p5 : Int) (_p6 : Int) (_p7 : Int) (_p8 : Int) (_p9 : Int) (_p10 : Int) (_p11 : Int) (_p12 : Int) (_p13 : Int) (_p14 : Int) (p15 : Int) (p16 : Int) (p17 : Int) (p18 : Int) (_p19 : Int) (_p20 : Int) (_p21 : Int) (_p22 : Int) (_p23 : Int) (_p24 : Int) (_p25 : Int) (_p26 : Int) (_p27 : Int) (_p28 : Int) (_p29 : Int) (_p30 : Int) : Option (Int × Int × Int × Int × Int × Int) :=
  (Qho N (⟨p15, p16, p17, p18⟩ : GStream) p5).bind fun x8 =>
  some (x8.2.2, x8.2.1, x8.1.Mass, x8.1.Heat, x8.1.Silica, x8.1.Gas)
def Quu (p0 : (List GRow)) : AV := .dat 5 ((p0 : List GRow).map Qa6)
def Qut (p3 : (List GPart)) : AV := .dat 2 ((p3 : List GPart).map Qba)
def Qyo (p0 : (List GRow)) (p1 : Int) (p2 : Int) (p3 : (List GPart)) (p4 : Int) (p5 : Int) (p6 : Int) (p7 : Int) (p8 : Int) (p9 : Int) (p10 : Int) (p11 : Int) (p12 : Int) (p13 : Int) (p14 : Int) (p15 : Int) (p16 : Int) (p17 : Int) (p18 : Int) (p19 : Int) (p20 : Int) (p21 : Int) (p22 : Int) (p23 : Int) (p24 : Int) (p25 : Int) (p26 : Int) (p27 : Int) (p28 : Int) (p29 : Int) (p30 : Int) : Slot := .own 31 [[(Quu p0), (I (p1)), (I (p2)), (Qut p3), (I (p4)), (I (p5)), (I (p6)), (I (p7)), (I (p8)), (I (p9)), (I (p10)), (I (p11)), (I (p12)), (I (p13)), (I (p14)), (I (p15)), (I (p16)), (I (p17)), (I (p18)), (I (p19)), (I (p20)), (I (p21)), (I (p22)), (I (p23)), (I (p24)), (I (p25)), (I (p26)), (I (p27)), (I (p28)), (I (p29)), (I (p30))]]
theorem Qi2 (N : Nat) (p0 : (List GRow)) (p1 : Int) (p2 : Int) (p3 : (List GPart)) (p4 : Int) (p5 : Int) (p6 : Int) (p7 : Int) (p8 : Int) (p9 : Int) (p10 : Int) (p11 : Int) (p12 : Int) (p13 : Int) (p14 : Int) (p15 : Int) (p16 : Int) (p17 : Int) (p18 : Int) (p19 : Int) (p20 : Int) (p21 : Int) (p22 : Int) (p23 : Int) (p24 : Int) (p25 : Int) (p26 : Int) (p27 : Int) (p28 : Int) (p29 : Int) (p30 : Int) (r : (Int × Int × Int × Int × Int × Int)) (h : Qgi N p0 p1 p2 p3 p4 p5 p6 p7 p8 p9 p10 p11 p12 p13 p14 p15 p16 p17 p18 p19 p20 p21 p22 p23 p24 p25 p26 p27 p28 p29 p30 = some r) : Spec Tryz.prog 34 [(.ref 0 31 (0) 0)] [(Qyo p0 p1 p2 p3 p4 p5 p6 p7 p8 p9 p10 p11 p12 p13 p14 p15 p16 p17 p18 p19 p20 p21 p22 p23 p24 p25 p26 p27 p28 p29 p30)] (I (r.1)) [(.own 31 [[(Quu p0), (I (p1)), (I (p2)), (Qut p3), (I (p4)), (I (p5)), (I (p6)), (I (p7)), (I (p8)), (I (p9)), (I (p10)), (I (r.2.1)), (I (p12)), (I (p13)), (I (p14)), (I (r.2.2.1)), (I (r.2.2.2.1)), (I (r.2.2.2.2.1)), (I (r.2.2.2.2.2)), (I (p19)), (I (p20)), (I (p21)), (I (p22)), (I (p23)), (I (p24)), (I (p25)), (I (p26)), (I (p27)), (I (p28)), (I (p29)), (I (p30))]])] := by
  refine Qac Tryz.func34 rfl 1 (nle rfl) (fun X φ0 w0 hφ0 hd0 => ?_)
  unfold Qgi at h
  refine Qbh ?_
  refine wx tbk [] trivial ?_
  obtain ⟨x8, hf7, h⟩ := bno h
  refine wxd tbk [(3, rb [(.tmp 6, .ref 0 31 0 0)] [(0, (Qyo p0 p1 p2 p3 p4 p5 p6 p7 p8 p9 p10 p11 p12 p13 p14 p15 p16 p17 p18 p19 p20 p21 p22 p23 p24 p25 p26 p27 p28 p29 p30))] (.ref 0 31 0 0)), (8, rb [(.tmp 11, .ref 0 31 0 0)] [(0, (Qyo p0 p1 p2 p3 p4 p5 p6 p7 p8 p9 p10 p11 p12 p13 p14 p15 p16 p17 p18 p19 p20 p21 p22 p23 p24 p25 p26 p27 p28 p29 p30))] (.ref 0 31 0 0)), (12, rp [fu 19, (.tmp 10, (.agg [I p15, I p16, I p17, I p18])), (.tmp 15, I p5)] (.tup [(.agg [I x8.1.Mass, I x8.1.Heat, I x8.1.Silica, I x8.1.Gas]), I x8.2.1, I x8.2.2])), (17, rb [(.tmp 4, .ref 0 31 0 0)] [(0, (Qyo p0 p1 p2 p3 p4 p5 p6 p7 p8 p9 p10 p11 p12 p13 p14 p15 p16 p17 p18 p19 p20 p21 p22 p23 p24 p25 p26 p27 p28 p29 p30))] (.ref 0 31 0 0)), (21, rb [(.tmp 5, .ref 0 31 0 0)] [(0, (.own 31 [[(Quu p0), I p1, I p2, (Qut p3), I p4, I p5, I p6, I p7, I p8, I p9, I p10, I p11, I p12, I p13, I p14, I x8.1.Mass, I x8.1.Heat, I x8.1.Silica, I x8.1.Gas, I p19, I p20, I p21, I p22, I p23, I p24, I p25, I p26, I p27, I p28, I p29, I p30]]))] (.ref 0 31 0 0))] ⟨Qbw rfl, Qbw rfl, apc (first := []) (cap := []) (vs := [(.agg [I p15, I p16, I p17, I p18]), I p5]) rfl Zco (Qqv N (⟨p15, p16, p17, p18⟩ : GStream) p5 _ hf7) rfl rfl (nlc (NLt.agg _ (nlc nll (nlc nll (nlc nll (nlc nll nl0))))) (nlc nll nl0)) (NLt.tup _ (nlc (NLt.agg _ (nlc nll (nlc nll (nlc nll (nlc nll nl0))))) (nlc nll (nlc nll nl0)))) rfl, Qbw rfl, Qbw rfl, trivial⟩ ?_
  refine wx tbk [] trivial ?_
  refine wmr (mto (n := 27) (l' := [(2, I x8.2.2)]) (own' := [(.own 31 [[(Quu p0), I p1, I p2, (Qut p3), I p4, I p5, I p6, I p7, I p8, I p9, I p10, I x8.2.1, I p12, I p13, I p14, I x8.1.Mass, I x8.1.Heat, I x8.1.Silica, I x8.1.Gas, I p19, I p20, I p21, I p22, I p23, I p24, I p25, I p26, I p27, I p28, I p29, I p30]])]) [(2, I x8.2.2)] [0] [(.own 31 [[(Quu p0), I p1, I p2, (Qut p3), I p4, I p5, I p6, I p7, I p8, I p9, I p10, I x8.2.1, I p12, I p13, I p14, I x8.1.Mass, I x8.1.Heat, I x8.1.Silica, I x8.1.Gas, I p19, I p20, I p21, I p22, I p23, I p24, I p25, I p26, I p27, I p28, I p29, I p30]])] hφ0 (pc rwl pn) (qc (spb (lc (.rn (.plain _ (nld Qa9 _))) (lc rwl (lc rwl (lc (.rn (.plain _ (nld Qaq _))) (lc rwl (lc rwl (lc rwl (lc rwl (lc rwl (lc rwl (lc rwl (lc rwl (lc rwl (lc rwl (lc rwl (lc rwl (lc rwl (lc rwl (lc rwl (lc rwl (lc rwl (lc rwl (lc rwl (lc rwl (lc rwl (lc rwl (lc rwl (lc rwl (lc rwl (lc rwl (lc rwl ln)))))))))))))))))))))))))))))))) qn)) ?_
  refine Qaa ?_
  obtain rfl := osi h
  exact ⟨_, Mor.rfl, Qb7 (vs := [I x8.2.2]) ⟨rot (by kernel_rfl), trivial⟩ rfl (NLt.of0 nll) (by kernel_rfl) (Qaf (Qav (nlc (NLt.of0 (nld Qa9 _)) (nlc (NLt.of0 nll) (nlc (NLt.of0 nll) (nlc (NLt.of0 (nld Qaq _)) (nlc (NLt.of0 nll) (nlc (NLt.of0 nll) (nlc (NLt.of0 nll) (nlc (NLt.of0 nll) (nlc (NLt.of0 nll) (nlc (NLt.of0 nll) (nlc (NLt.of0 nll) (nlc (NLt.of0 nll) (nlc (NLt.of0 nll) (nlc (NLt.of0 nll) (nlc (NLt.of0 nll) (nlc (NLt.of0 nll) (nlc (NLt.of0 nll) (nlc (NLt.of0 nll) (nlc (NLt.of0 nll) (nlc (NLt.of0 nll) (nlc (NLt.of0 nll) (nlc (NLt.of0 nll) (nlc (NLt.of0 nll) (nlc (NLt.of0 nll) (nlc (NLt.of0 nll) (nlc (NLt.of0 nll) (nlc (NLt.of0 nll) (nlc (NLt.of0 nll) (nlc (NLt.of0 nll) (nlc (NLt.of0 nll) (nlc (NLt.of0 nll) nl0)))))))))))))))))))))))))))))))) Qbd)⟩
def Qgj (N : Nat) (_p0 : (List GRow)) (_p1 : Int) (_p2 : Int) (_p3 : (List GPart)) (_p4 : Int) (_p5 : Int) (p6 : Int) (p7 : Int) (p8 : Int) (_p9 : Int) (_p10 : Int) (_p11 : Int) (_p12 : Int) (_p13 : Int) (_p14 : Int) (_p15 : Int) (_p16 : Int) (_p17 : Int) (_p18 : Int) (_p19 : Int) (_p20 : Int) (_p21 : Int) (_p22 : Int) (_p23 : Int) (_p24 : Int) (_p25 : Int) (_p26 : Int) (p27 : Int) (p28 : Int) (p29 : Int) (p30 : Int) : Option (Int × Int × Int × Int × Int × Int × Int) :=
  (Qju N (⟨p6, p7, p8⟩ : GCycle) (⟨p27, p28, p29, p30⟩ : GStream)).bind fun x9 =>
  some (x9.2.2.2, x9.2.1, x9.2.2.1, x9.1.Mass, x9.1.Heat, x9.1.Silica, x9.1.Gas)
def Qr0 (p0 : (List GRow)) : AV := .dat 5 ((p0 : List GRow).map Qa6)
def Qrz (p3 : (List GPart)) : AV := .dat 2 ((p3 : List GPart).map Qba)
def Qyn (p0 : (List GRow)) (p1 : Int) (p2 : Int) (p3 : (List GPart)) (p4 : Int) (p5 : Int) (p6 : Int) (p7 : Int) (p8 : Int) (p9 : Int) (p10 : Int) (p11 : Int) (p12 : Int) (p13 : Int) (p14 : Int) (p15 : Int) (p16 : Int) (p17 : Int) (p18 : Int) (p19 : Int) (p20 : Int) (p21 : Int) (p22 : Int) (p23 : Int) (p24 : Int) (p25 : Int) (p26 : Int) (p27 : Int) (p28 : Int) (p29 : Int) (p30 : Int) : Slot := .own 31 [[(Qr0 p0), (I (p1)), (I (p2)), (Qrz p3), (I (p4)), (I (p5)), (I (p6)), (I (p7)), (I (p8)), (I (p9)), (I (p10)), (I (p11)), (I (p12)), (I (p13)), (I (p14)), (I (p15)), (I (p16)), (I (p17)), (I (p18)), (I (p19)), (I (p20)), (I (p21)), (I (p22)), (I (p23)), (I (p24)), (I (p25)), (I (p26)), (I (p27)), (I (p28)), (I (p29)), (I (p30))]]
theorem Qi3 (N : Nat) (p0 : (List GRow)) (p1 : Int) (p2 : Int) (p3 : (List GPart)) (p4 : Int) (p5 : Int) (p6 : Int) (p7 : Int) (p8 : Int) (p9 : Int) (p10 : Int) (p11 : Int) (p12 : Int) (p13 : Int) (p14 : Int) (p15 : Int) (p16 : Int) (p17 : Int) (p18 : Int) (p19 : Int) (p20 : Int) (p21 : Int) (p22 : Int) (p23 : Int) (p24 : Int) (p25 : Int) (p26 : Int) (p27 : Int) (p28 : Int) (p29 : Int) (p30 : Int) (r : (Int × Int × Int × Int × Int × Int × Int)) (h : Qgj N p0 p1 p2 p3 p4 p5 p6 p7 p8 p9 p10 p11 p12 p13 p14 p15 p16 p17 p18 p19 p20 p21 p22 p23 p24 p25 p26 p27 p28 p29 p30 = some r) : Spec Tryz.prog 35 [(.ref 0 31 (0) 0)] [(Qyn p0 p1 p2 p3 p4 p5 p6 p7 p8 p9 p10 p11 p12 p13 p14 p15 p16 p17 p18 p19 p20 p21 p22 p23 p24 p25 p26 p27 p28 p29 p30)] (I (r.1)) [(.own 31 [[(Qr0 p0), (I (p1)), (I (p2)), (Qrz p3), (I (p4)), (I (p5)), (I (p6)), (I (p7)), (I (p8)), (I (p9)), (I (p10)), (I (p11)), (I (r.2.1)), (I (r.2.2.1)), (I (p14)), (I (p15)), (I (p16)), (I (p17)), (I (p18)), (I (r.2.2.2.1)), (I (r.2.2.2.2.1)), (I (r.2.2.2.2.2.1)), (I (r.2.2.2.2.2.2)), (I (p23)), (I (p24)), (I (p25)), (I (p26)), (I (p27)), (I (p28)), (I (p29)), (I (p30))]])] := by
  refine Qac Tryz.func35 rfl 1 (nle rfl) (fun X φ0 w0 hφ0 hd0 => ?_)
  unfold Qgj at h
  refine Qbh ?_
  refine wx tbk [] trivial ?_
  obtain ⟨x9, hf8, h⟩ := bno h
  refine wxd tbk [(4, rb [(.tmp 7, .ref 0 31 0 0)] [(0, (Qyn p0 p1 p2 p3 p4 p5 p6 p7 p8 p9 p10 p11 p12 p13 p14 p15 p16 p17 p18 p19 p20 p21 p22 p23 p24 p25 p26 p27 p28 p29 p30))] (.ref 0 31 0 0)), (9, rb [(.tmp 12, .ref 0 31 0 0)] [(0, (Qyn p0 p1 p2 p3 p4 p5 p6 p7 p8 p9 p10 p11 p12 p13 p14 p15 p16 p17 p18 p19 p20 p21 p22 p23 p24 p25 p26 p27 p28 p29 p30))] (.ref 0 31 0 0)), (12, rp [fu 20, (.tmp 11, (.agg [I p6, I p7, I p8])), (.tmp 15, (.agg [I p27, I p28, I p29, I p30]))] (.tup [(.agg [I x9.1.Mass, I x9.1.Heat, I x9.1.Silica, I x9.1.Gas]), I x9.2.1, I x9.2.2.1, I x9.2.2.2])), (18, rb [(.tmp 4, .ref 0 31 0 0)] [(0, (Qyn p0 p1 p2 p3 p4 p5 p6 p7 p8 p9 p10 p11 p12 p13 p14 p15 p16 p17 p18 p19 p20 p21 p22 p23 p24 p25 p26 p27 p28 p29 p30))] (.ref 0 31 0 0)), (22, rb [(.tmp 5, .ref 0 31 0 0)] [(0, (.own 31 [[(Qr0 p0), I p1, I p2, (Qrz p3), I p4, I p5, I p6, I p7, I p8, I p9, I p10, I p11, I p12, I p13, I p14, I p15, I p16, I p17, I p18, I x9.1.Mass, I x9.1.Heat, I x9.1.Silica, I x9.1.Gas, I p23, I p24, I p25, I p26, I p27, I p28, I p29, I p30]]))] (.ref 0 31 0 0)), (26, rb [(.tmp 6, .ref 0 31 0 0)] [(0, (.own 31 [[(Qr0 p0), I p1, I p2, (Qrz p3), I p4, I p5, I p6, I p7, I p8, I p9, I p10, I p11, I x9.2.1, I p13, I p14, I p15, I p16, I p17, I p18, I x9.1.Mass, I x9.1.Heat, I x9.1.Silica, I x9.1.Gas, I p23, I p24, I p25, I p26, I p27, I p28, I p29, I p30]]))] (.ref 0 31 0 0))] ⟨Qbw rfl, Qbw rfl, apc (first := []) (cap := []) (vs := [(.agg [I p6, I p7, I p8]), (.agg [I p27, I p28, I p29, I p30])]) rfl Q4l (Qoj N (⟨p6, p7, p8⟩ : GCycle) (⟨p27, p28, p29, p30⟩ : GStream) _ hf8) rfl rfl (nlc (NLt.agg _ (nlc nll (nlc nll (nlc nll nl0)))) (nlc (NLt.agg _ (nlc nll (nlc nll (nlc nll (nlc nll nl0))))) nl0)) (NLt.tup _ (nlc (NLt.agg _ (nlc nll (nlc nll (nlc nll (nlc nll nl0))))) (nlc nll (nlc nll (nlc nll nl0))))) rfl, Qbw rfl, Qbw rfl, Qbw rfl, trivial⟩ ?_
  refine wx tbk [] trivial ?_
  refine wmr (mto (n := 31) (l' := [(2, I x9.2.2.2)]) (own' := [(.own 31 [[(Qr0 p0), I p1, I p2, (Qrz p3), I p4, I p5, I p6, I p7, I p8, I p9, I p10, I p11, I x9.2.1, I x9.2.2.1, I p14, I p15, I p16, I p17, I p18, I x9.1.Mass, I x9.1.Heat, I x9.1.Silica, I x9.1.Gas, I p23, I p24, I p25, I p26, I p27, I p28, I p29, I p30]])]) [(2, I x9.2.2.2)] [0] [(.own 31 [[(Qr0 p0), I p1, I p2, (Qrz p3), I p4, I p5, I p6, I p7, I p8, I p9, I p10, I p11, I x9.2.1, I x9.2.2.1, I p14, I p15, I p16, I p17, I p18, I x9.1.Mass, I x9.1.Heat, I x9.1.Silica, I x9.1.Gas, I p23, I p24, I p25, I p26, I p27, I p28, I p29, I p30]])] hφ0 (pc rwl pn) (qc (spb (lc (.rn (.plain _ (nld Qa9 _))) (lc rwl (lc rwl (lc (.rn (.plain _ (nld Qaq _))) (lc rwl (lc rwl (lc rwl (lc rwl (lc rwl (lc rwl (lc rwl (lc rwl (lc rwl (lc rwl (lc rwl (lc rwl (lc rwl (lc rwl (lc rwl (lc rwl (lc rwl (lc rwl (lc rwl (lc rwl (lc rwl (lc rwl (lc rwl (lc rwl (lc rwl (lc rwl (lc rwl ln)))))))))))))))))))))))))))))))) qn)) ?_
  refine Qaa ?_
  obtain rfl := osi h
  exact ⟨_, Mor.rfl, Qb7 (vs := [I x9.2.2.2]) ⟨rot (by kernel_rfl), trivial⟩ rfl (NLt.of0 nll) (by kernel_rfl) (Qaf (Qav (nlc (NLt.of0 (nld Qa9 _)) (nlc (NLt.of0 nll) (nlc (NLt.of0 nll) (nlc (NLt.of0 (nld Qaq _)) (nlc (NLt.of0 nll) (nlc (NLt.of0 nll) (nlc (NLt.of0 nll) (nlc (NLt.of0 nll) (nlc (NLt.of0 nll) (nlc (NLt.of0 nll) (nlc (NLt.of0 nll) (nlc (NLt.of0 nll) (nlc (NLt.of0 nll) (nlc (NLt.of0 nll) (nlc (NLt.of0 nll) (nlc (NLt.of0 nll) (nlc (NLt.of0 nll) (nlc (NLt.of0 nll) (nlc (NLt.of0 nll) (nlc (NLt.of0 nll) (nlc (NLt.of0 nll) (nlc (NLt.of0 nll) (nlc (NLt.of0 nll) (nlc (NLt.of0 nll) (nlc (NLt.of0 nll) (nlc (NLt.of0 nll) (nlc (NLt.of0 nll) (nlc (NLt.of0 nll) (nlc (NLt.of0 nll) (nlc (NLt.of0 nll) (nlc (NLt.of0 nll) nl0)))))))))))))))))))))))))))))))) Qbd)⟩
def Q77 : Slot := .own 14 [[(I (0)), (I (0)), (I (0)), (I (0)), (I (0)), (I (0)), (I (0)), (I (0)), (I (0)), (I (0)), (I (0)), (I (0)), (I (0)), (I (0))]]
theorem Qe9 (v0 : Int) : DPan Tryz.prog 30 [14, 1] (.iface 89 (.agg #[(.int .i64 (v0))])) [[(I (0)), (I (0)), (I (0)), (I (0)), (I (0)), (I (0)), (I (0)), (I (0)), (I (0)), (I (0)), (I (0)), (I (0)), (I (0)), (I (0))], [(I (v0))]] := by
  refine Qoo (t := 5) (t2 := 2) (args := [.ref 0 14 0 0, .ref 1 1 0 0]) Tryz.func30 rfl (fun _ _ => rfl) rfl (by kernel_rfl) Za1 2 (nle rfl) (fun X φ0 w0 hφ0 => ?_)
  refine Qbh ?_
  refine wsq ?_
  refine wx tbk [(1, rp [(.tmp 6, (.lit (.iface 89 (.agg #[(.int .i64 (v0))])))), (.const .nilIface, (.lit .nilIface))] (B false))] ⟨Qx5 rfl Tryz.underlying20, trivial⟩ ?_
  refine Qfa (by kernel_rfl) ?_
  refine Qam ?_
  refine thn ?_
  refine wx tbk [(1, rp [(.tmp 9, (.lit (.iface 89 (.agg #[(.int .i64 (v0))]))))] (.tup [(.agg [I v0]), B true]))] ⟨Qx1 (r := .lit (.tuple #[(.agg #[(.int .i64 (v0))]), (.bool true)])) (Less.trans Q3u (Less.tup ⟨Q3v (l := [(.int .i64 (v0))]), lrf, trivial⟩)) (Qt0 rfl Tryz.underlying89), trivial⟩ ?_
  refine wsq ?_
  refine wx tbk [] trivial ?_
  refine Qfa (by kernel_rfl) ?_
  refine Qam ?_
  refine thn ?_
  refine wy1 tbk [(0, rp [] (.agg [I 0, I 0, I 0, I 0, I 0, I 0, I 0, I 0, I 0, I 0, I 0, I 0, I 0, I 0]))] ⟨Qao (vs := []) rfl ts37 tz37 rfl (by rfl) rfl, trivial⟩ ?_
  exact ⟨_, (mto (n := 19) (l' := []) (own' := [Q77, (.own 1 [[I v0]])]) [] [0, 1] [Q77, (.own 1 [[I v0]])] hφ0 pn (qc (spb (lc rwl (lc rwl (lc rwl (lc rwl (lc rwl (lc rwl (lc rwl (lc rwl (lc rwl (lc rwl (lc rwl (lc rwl (lc rwl (lc rwl ln))))))))))))))) (qc (spb (lc rwl ln)) qn))), Qb7 (vs := []) trivial rfl (NLt.tup _ nl0) (by kernel_rfl) (Qaf (Qav (nlt0 (nlc nll (nlc nll (nlc nll (nlc nll (nlc nll (nlc nll (nlc nll (nlc nll (nlc nll (nlc nll (nlc nll (nlc nll (nlc nll (nlc nll nl0)))))))))))))))) (Qaf (Qav (nlt0 (nlc nll nl0))) Qbd))⟩
def Qh7 (N : Nat) (p0 : GLine) (p1 : GStream) (p2 : GStream) : Option (GAccount × Int) :=
  (Qf1 N (⟨p0.Table, p0.Level, (⟨p0.Unit.Inlet, p0.Unit.Parts⟩ : GUnit), p0.Most, p0.Target, (⟨p0.Cycle.Out, p0.Cycle.Yield, p0.Cycle.Most⟩ : GCycle)⟩ : GLine)).bind fun x19 =>
  bif (!x19) then
   some ((⟨0, 0, 0, 0, 0, 0, (⟨0, 0, 0, 0⟩ : GStream), (⟨0, 0, 0, 0⟩ : GStream)⟩ : GAccount), 1)
  else
   (Qem N ([p1, p2])).bind fun x22 =>
   bif (!x22) then
    some ((⟨0, 0, 0, 0, 0, 0, (⟨0, 0, 0, 0⟩ : GStream), (⟨0, 0, 0, 0⟩ : GStream)⟩ : GAccount), 1)
   else
    (Qhn N p0.Table p0.Level p1).bind fun x25 =>
    (Qex N x25.2).bind (
     Sum.elim (fun _ =>
       Qc5 (fun ⟨y29, y30, y31, y32, y33, y34, y35, y36, y37, y38, y39, y40, y41, _, _, _, _⟩ =>
         some ((⟨y29, y30, y31, y32, y33, x25.1.Scale, (⟨y34, y35, y36, y37⟩ : GStream), (⟨y38, y39, y40, y41⟩ : GStream)⟩ : GAccount), 0)) fun k46 : Int × Int × Int × Int × Int × Int × Int × Int × Int × Int × Int × Int × Int × Int × Int × Int × Int → Option (GAccount × Int) =>
       (Qfv N p0.Table p0.Level p0.Unit.Inlet p0.Unit.Parts p0.Most p0.Target p0.Cycle.Out p0.Cycle.Yield p0.Cycle.Most 0 0 0 0 0 x25.1.Scale 0 0 0 0 0 0 0 0 x25.1.Steam.Mass x25.1.Steam.Heat x25.1.Steam.Silica x25.1.Steam.Gas x25.1.Water.Mass x25.1.Water.Heat x25.1.Water.Silica x25.1.Water.Gas).bind fun x48 =>
       (Qex N x48.1).bind (
        Sum.elim (fun _ =>
          (Qg0 N p2.Mass p2.Heat p2.Silica p2.Gas p0.Table p0.Level p0.Unit.Inlet p0.Unit.Parts p0.Most p0.Target p0.Cycle.Out p0.Cycle.Yield p0.Cycle.Most p0.Table p0.Level p0.Unit.Inlet p0.Unit.Parts p0.Most p0.Target p0.Cycle.Out p0.Cycle.Yield p0.Cycle.Most x48.2.1 0 0 0 0 x25.1.Scale 0 0 0 0 0 0 0 0 x48.2.2.1 x48.2.2.2.1 x48.2.2.2.2.1 x48.2.2.2.2.2 x25.1.Water.Mass x25.1.Water.Heat x25.1.Water.Silica x25.1.Water.Gas).bind fun x53 =>
          (Qex N x53.1).bind (
           Sum.elim (fun _ =>
             (Qgi N p0.Table p0.Level p0.Unit.Inlet p0.Unit.Parts p0.Most p0.Target p0.Cycle.Out p0.Cycle.Yield p0.Cycle.Most x48.2.1 x53.2.1 0 0 0 x25.1.Scale x53.2.2.1 x53.2.2.2.1 x53.2.2.2.2.1 x53.2.2.2.2.2 0 0 0 0 x48.2.2.1 x48.2.2.2.1 x48.2.2.2.2.1 x48.2.2.2.2.2 x25.1.Water.Mass x25.1.Water.Heat x25.1.Water.Silica x25.1.Water.Gas).bind fun x58 =>
             (Qex N x58.1).bind (
              Sum.elim (fun _ =>
                (Qgj N p0.Table p0.Level p0.Unit.Inlet p0.Unit.Parts p0.Most p0.Target p0.Cycle.Out p0.Cycle.Yield p0.Cycle.Most x48.2.1 x53.2.1 x58.2.1 0 0 x25.1.Scale x58.2.2.1 x58.2.2.2.1 x58.2.2.2.2.1 x58.2.2.2.2.2 0 0 0 0 x48.2.2.1 x48.2.2.2.1 x48.2.2.2.2.1 x48.2.2.2.2.2 x25.1.Water.Mass x25.1.Water.Heat x25.1.Water.Silica x25.1.Water.Gas).bind fun x63 =>
                (Qex N x63.1).bind (
                 Sum.elim (fun _ =>
                   k46 (x48.2.1, x53.2.1, x58.2.1, x63.2.1, x63.2.2.1, x58.2.2.1, x58.2.2.2.1, x58.2.2.2.2.1, x58.2.2.2.2.2, x63.2.2.2.1, x63.2.2.2.2.1, x63.2.2.2.2.2.1, x63.2.2.2.2.2.2, x48.2.2.1, x48.2.2.2.1, x48.2.2.2.2.1, x48.2.2.2.2.2))
                 (fun x67 =>
                   some ((⟨0, 0, 0, 0, 0, 0, (⟨0, 0, 0, 0⟩ : GStream), (⟨0, 0, 0, 0⟩ : GStream)⟩ : GAccount), x67))))
              (fun x68 =>
                some ((⟨0, 0, 0, 0, 0, 0, (⟨0, 0, 0, 0⟩ : GStream), (⟨0, 0, 0, 0⟩ : GStream)⟩ : GAccount), x68))))
           (fun x69 =>
             some ((⟨0, 0, 0, 0, 0, 0, (⟨0, 0, 0, 0⟩ : GStream), (⟨0, 0, 0, 0⟩ : GStream)⟩ : GAccount), x69))))
        (fun x70 =>
          some ((⟨0, 0, 0, 0, 0, 0, (⟨0, 0, 0, 0⟩ : GStream), (⟨0, 0, 0, 0⟩ : GStream)⟩ : GAccount), x70))))
     (fun x71 =>
       some ((⟨0, 0, 0, 0, 0, 0, (⟨0, 0, 0, 0⟩ : GStream), (⟨0, 0, 0, 0⟩ : GStream)⟩ : GAccount), x71)))
def Qlg (p0 : GLine) : AV := .dat 5 ((p0.Table : List GRow).map Qa6)
def Qnl (p0 : GLine) : AV := .dat 2 ((p0.Unit.Parts : List GPart).map Qba)
def Qr1 (p0 : GLine) : AV := .agg [(Qlg p0), (I (p0.Level)), (I (p0.Unit.Inlet)), (Qnl p0), (I (p0.Most)), (I (p0.Target)), (I (p0.Cycle.Out)), (I (p0.Cycle.Yield)), (I (p0.Cycle.Most))]
def Q79 : AV := .agg [(I (0)), (I (0)), (I (0)), (I (0)), (I (0)), (I (0)), (I (0)), (I (0)), (I (0)), (I (0)), (I (0)), (I (0)), (I (0)), (I (0))]
def Qnt : Slot := .own 14 [[(I (((⟨0, 0, 0, 0, 0, 0, (⟨0, 0, 0, 0⟩ : GStream), (⟨0, 0, 0, 0⟩ : GStream)⟩ : GAccount).Turbine))), (I (((⟨0, 0, 0, 0, 0, 0, (⟨0, 0, 0, 0⟩ : GStream), (⟨0, 0, 0, 0⟩ : GStream)⟩ : GAccount).Vent))), (I (((⟨0, 0, 0, 0, 0, 0, (⟨0, 0, 0, 0⟩ : GStream), (⟨0, 0, 0, 0⟩ : GStream)⟩ : GAccount).Air))), (I (((⟨0, 0, 0, 0, 0, 0, (⟨0, 0, 0, 0⟩ : GStream), (⟨0, 0, 0, 0⟩ : GStream)⟩ : GAccount).Work))), (I (((⟨0, 0, 0, 0, 0, 0, (⟨0, 0, 0, 0⟩ : GStream), (⟨0, 0, 0, 0⟩ : GStream)⟩ : GAccount).Sink))), (I (((⟨0, 0, 0, 0, 0, 0, (⟨0, 0, 0, 0⟩ : GStream), (⟨0, 0, 0, 0⟩ : GStream)⟩ : GAccount).Scale))), (I ((((⟨0, 0, 0, 0, 0, 0, (⟨0, 0, 0, 0⟩ : GStream), (⟨0, 0, 0, 0⟩ : GStream)⟩ : GAccount).Hot).Mass))), (I ((((⟨0, 0, 0, 0, 0, 0, (⟨0, 0, 0, 0⟩ : GStream), (⟨0, 0, 0, 0⟩ : GStream)⟩ : GAccount).Hot).Heat))), (I ((((⟨0, 0, 0, 0, 0, 0, (⟨0, 0, 0, 0⟩ : GStream), (⟨0, 0, 0, 0⟩ : GStream)⟩ : GAccount).Hot).Silica))), (I ((((⟨0, 0, 0, 0, 0, 0, (⟨0, 0, 0, 0⟩ : GStream), (⟨0, 0, 0, 0⟩ : GStream)⟩ : GAccount).Hot).Gas))), (I ((((⟨0, 0, 0, 0, 0, 0, (⟨0, 0, 0, 0⟩ : GStream), (⟨0, 0, 0, 0⟩ : GStream)⟩ : GAccount).Brine).Mass))), (I ((((⟨0, 0, 0, 0, 0, 0, (⟨0, 0, 0, 0⟩ : GStream), (⟨0, 0, 0, 0⟩ : GStream)⟩ : GAccount).Brine).Heat))), (I ((((⟨0, 0, 0, 0, 0, 0, (⟨0, 0, 0, 0⟩ : GStream), (⟨0, 0, 0, 0⟩ : GStream)⟩ : GAccount).Brine).Silica))), (I ((((⟨0, 0, 0, 0, 0, 0, (⟨0, 0, 0, 0⟩ : GStream), (⟨0, 0, 0, 0⟩ : GStream)⟩ : GAccount).Brine).Gas)))]]
def Qn9 : Slot := .own 14 [[(I (0)), (I (0)), (I (0)), (I (0)), (I (0)), (I (0)), (I (0)), (I (0)), (I (0)), (I (0)), (I (0)), (I (0)), (I (0)), (I (0))]]
def Qns : AV := .agg [(I ((⟨0, 0, 0, 0, 0, 0, (⟨0, 0, 0, 0⟩ : GStream), (⟨0, 0, 0, 0⟩ : GStream)⟩ : GAccount).Turbine)), (I ((⟨0, 0, 0, 0, 0, 0, (⟨0, 0, 0, 0⟩ : GStream), (⟨0, 0, 0, 0⟩ : GStream)⟩ : GAccount).Vent)), (I ((⟨0, 0, 0, 0, 0, 0, (⟨0, 0, 0, 0⟩ : GStream), (⟨0, 0, 0, 0⟩ : GStream)⟩ : GAccount).Air)), (I ((⟨0, 0, 0, 0, 0, 0, (⟨0, 0, 0, 0⟩ : GStream), (⟨0, 0, 0, 0⟩ : GStream)⟩ : GAccount).Work)), (I ((⟨0, 0, 0, 0, 0, 0, (⟨0, 0, 0, 0⟩ : GStream), (⟨0, 0, 0, 0⟩ : GStream)⟩ : GAccount).Sink)), (I ((⟨0, 0, 0, 0, 0, 0, (⟨0, 0, 0, 0⟩ : GStream), (⟨0, 0, 0, 0⟩ : GStream)⟩ : GAccount).Scale)), (I ((⟨0, 0, 0, 0, 0, 0, (⟨0, 0, 0, 0⟩ : GStream), (⟨0, 0, 0, 0⟩ : GStream)⟩ : GAccount).Hot.Mass)), (I ((⟨0, 0, 0, 0, 0, 0, (⟨0, 0, 0, 0⟩ : GStream), (⟨0, 0, 0, 0⟩ : GStream)⟩ : GAccount).Hot.Heat)), (I ((⟨0, 0, 0, 0, 0, 0, (⟨0, 0, 0, 0⟩ : GStream), (⟨0, 0, 0, 0⟩ : GStream)⟩ : GAccount).Hot.Silica)), (I ((⟨0, 0, 0, 0, 0, 0, (⟨0, 0, 0, 0⟩ : GStream), (⟨0, 0, 0, 0⟩ : GStream)⟩ : GAccount).Hot.Gas)), (I ((⟨0, 0, 0, 0, 0, 0, (⟨0, 0, 0, 0⟩ : GStream), (⟨0, 0, 0, 0⟩ : GStream)⟩ : GAccount).Brine.Mass)), (I ((⟨0, 0, 0, 0, 0, 0, (⟨0, 0, 0, 0⟩ : GStream), (⟨0, 0, 0, 0⟩ : GStream)⟩ : GAccount).Brine.Heat)), (I ((⟨0, 0, 0, 0, 0, 0, (⟨0, 0, 0, 0⟩ : GStream), (⟨0, 0, 0, 0⟩ : GStream)⟩ : GAccount).Brine.Silica)), (I ((⟨0, 0, 0, 0, 0, 0, (⟨0, 0, 0, 0⟩ : GStream), (⟨0, 0, 0, 0⟩ : GStream)⟩ : GAccount).Brine.Gas))]
def Qyt (p1 : GStream) : AV := .agg [(I (p1.Mass)), (I (p1.Heat)), (I (p1.Silica)), (I (p1.Gas))]
def Q8a (p2 : GStream) : AV := .agg [(I (p2.Mass)), (I (p2.Heat)), (I (p2.Silica)), (I (p2.Gas))]
def Qxb (p1 : GStream) (p2 : GStream) : AV := .dat 4 (([p1, p2] : List GStream).map Qa4)
def Q2u (x25 : (GParts × Int)) : AV := .agg [(I (x25.1.Steam.Mass)), (I (x25.1.Steam.Heat)), (I (x25.1.Steam.Silica)), (I (x25.1.Steam.Gas))]
def Q2t (x25 : (GParts × Int)) : AV := .agg [(I (x25.1.Water.Mass)), (I (x25.1.Water.Heat)), (I (x25.1.Water.Silica)), (I (x25.1.Water.Gas))]
def Qij : AV := .fn (.func 32) [] [(.ref 7 1 (0) 0), (.ref 2 4 (0) 0), (.ref 0 9 (0) 0)]
def Qnk (p0 : GLine) : Slot := .own 9 [[(Qlg p0), (I (p0.Level)), (I (p0.Unit.Inlet)), (Qnl p0), (I (p0.Most)), (I (p0.Target)), (I (p0.Cycle.Out)), (I (p0.Cycle.Yield)), (I (p0.Cycle.Most))]]
def Q8b (p1 : GStream) : Slot := .own 4 [[(I (p1.Mass)), (I (p1.Heat)), (I (p1.Silica)), (I (p1.Gas))]]
def Qnj (p2 : GStream) : Slot := .own 4 [[(I (p2.Mass)), (I (p2.Heat)), (I (p2.Silica)), (I (p2.Gas))]]
def Qkh : Slot := .own 1 [[(.ref 6 31 (0) 0)]]
def Q2s (p0 : GLine) (y29 : Int) (y30 : Int) (y31 : Int) (y32 : Int) (y33 : Int) (x25 : (GParts × Int)) (y34 : Int) (y35 : Int) (y36 : Int) (y37 : Int) (y38 : Int) (y39 : Int) (y40 : Int) (y41 : Int) (y42 : Int) (y43 : Int) (y44 : Int) (y45 : Int) : Slot := .own 31 [[(Qlg p0), (I (p0.Level)), (I (p0.Unit.Inlet)), (Qnl p0), (I (p0.Most)), (I (p0.Target)), (I (p0.Cycle.Out)), (I (p0.Cycle.Yield)), (I (p0.Cycle.Most)), (I (y29)), (I (y30)), (I (y31)), (I (y32)), (I (y33)), (I (x25.1.Scale)), (I (y34)), (I (y35)), (I (y36)), (I (y37)), (I (y38)), (I (y39)), (I (y40)), (I (y41)), (I (y42)), (I (y43)), (I (y44)), (I (y45)), (I (x25.1.Water.Mass)), (I (x25.1.Water.Heat)), (I (x25.1.Water.Silica)), (I (x25.1.Water.Gas))]]
def Qii : AV := .fn (.func 33) [(.ref 6 31 (0) 0)] []
def Qih : AV := .fn (.func 34) [(.ref 6 31 (0) 0)] []
def Qig : AV := .fn (.func 35) [(.ref 6 31 (0) 0)] []
def Qs8 (p0 : GLine) (x25 : (GParts × Int)) : Slot := .own 31 [[(Qlg p0), (I (p0.Level)), (I (p0.Unit.Inlet)), (Qnl p0), (I (p0.Most)), (I (p0.Target)), (I (p0.Cycle.Out)), (I (p0.Cycle.Yield)), (I (p0.Cycle.Most)), (I (0)), (I (0)), (I (0)), (I (0)), (I (0)), (I (x25.1.Scale)), (I (0)), (I (0)), (I (0)), (I (0)), (I (0)), (I (0)), (I (0)), (I (0)), (I (x25.1.Steam.Mass)), (I (x25.1.Steam.Heat)), (I (x25.1.Steam.Silica)), (I (x25.1.Steam.Gas)), (I (x25.1.Water.Mass)), (I (x25.1.Water.Heat)), (I (x25.1.Water.Silica)), (I (x25.1.Water.Gas))]]
def Ql2 (p0 : GLine) (x48 : (Int × Int × Int × Int × Int × Int)) (x25 : (GParts × Int)) : Slot := .own 31 [[(Qlg p0), (I (p0.Level)), (I (p0.Unit.Inlet)), (Qnl p0), (I (p0.Most)), (I (p0.Target)), (I (p0.Cycle.Out)), (I (p0.Cycle.Yield)), (I (p0.Cycle.Most)), (I (x48.2.1)), (I (0)), (I (0)), (I (0)), (I (0)), (I (x25.1.Scale)), (I (0)), (I (0)), (I (0)), (I (0)), (I (0)), (I (0)), (I (0)), (I (0)), (I (x48.2.2.1)), (I (x48.2.2.2.1)), (I (x48.2.2.2.2.1)), (I (x48.2.2.2.2.2)), (I (x25.1.Water.Mass)), (I (x25.1.Water.Heat)), (I (x25.1.Water.Silica)), (I (x25.1.Water.Gas))]]
def Ql1 (p0 : GLine) (x48 : (Int × Int × Int × Int × Int × Int)) (x53 : (Int × Int × Int × Int × Int × Int)) (x25 : (GParts × Int)) : Slot := .own 31 [[(Qlg p0), (I (p0.Level)), (I (p0.Unit.Inlet)), (Qnl p0), (I (p0.Most)), (I (p0.Target)), (I (p0.Cycle.Out)), (I (p0.Cycle.Yield)), (I (p0.Cycle.Most)), (I (x48.2.1)), (I (x53.2.1)), (I (0)), (I (0)), (I (0)), (I (x25.1.Scale)), (I (x53.2.2.1)), (I (x53.2.2.2.1)), (I (x53.2.2.2.2.1)), (I (x53.2.2.2.2.2)), (I (0)), (I (0)), (I (0)), (I (0)), (I (x48.2.2.1)), (I (x48.2.2.2.1)), (I (x48.2.2.2.2.1)), (I (x48.2.2.2.2.2)), (I (x25.1.Water.Mass)), (I (x25.1.Water.Heat)), (I (x25.1.Water.Silica)), (I (x25.1.Water.Gas))]]
def Ql0 (p0 : GLine) (x48 : (Int × Int × Int × Int × Int × Int)) (x53 : (Int × Int × Int × Int × Int × Int)) (x58 : (Int × Int × Int × Int × Int × Int)) (x25 : (GParts × Int)) : Slot := .own 31 [[(Qlg p0), (I (p0.Level)), (I (p0.Unit.Inlet)), (Qnl p0), (I (p0.Most)), (I (p0.Target)), (I (p0.Cycle.Out)), (I (p0.Cycle.Yield)), (I (p0.Cycle.Most)), (I (x48.2.1)), (I (x53.2.1)), (I (x58.2.1)), (I (0)), (I (0)), (I (x25.1.Scale)), (I (x58.2.2.1)), (I (x58.2.2.2.1)), (I (x58.2.2.2.2.1)), (I (x58.2.2.2.2.2)), (I (0)), (I (0)), (I (0)), (I (0)), (I (x48.2.2.1)), (I (x48.2.2.2.1)), (I (x48.2.2.2.2.1)), (I (x48.2.2.2.2.2)), (I (x25.1.Water.Mass)), (I (x25.1.Water.Heat)), (I (x25.1.Water.Silica)), (I (x25.1.Water.Gas))]]
def Qqj (p0 : GLine) (x48 : (Int × Int × Int × Int × Int × Int)) (x53 : (Int × Int × Int × Int × Int × Int)) (x58 : (Int × Int × Int × Int × Int × Int)) (x63 : (Int × Int × Int × Int × Int × Int × Int)) (x25 : (GParts × Int)) : Slot := .own 31 [[(Qlg p0), (I (p0.Level)), (I (p0.Unit.Inlet)), (Qnl p0), (I (p0.Most)), (I (p0.Target)), (I (p0.Cycle.Out)), (I (p0.Cycle.Yield)), (I (p0.Cycle.Most)), (I (x48.2.1)), (I (x53.2.1)), (I (x58.2.1)), (I (x63.2.1)), (I (x63.2.2.1)), (I (x25.1.Scale)), (I (x58.2.2.1)), (I (x58.2.2.2.1)), (I (x58.2.2.2.2.1)), (I (x58.2.2.2.2.2)), (I (x63.2.2.2.1)), (I (x63.2.2.2.2.1)), (I (x63.2.2.2.2.2.1)), (I (x63.2.2.2.2.2.2)), (I (x48.2.2.1)), (I (x48.2.2.2.1)), (I (x48.2.2.2.2.1)), (I (x48.2.2.2.2.2)), (I (x25.1.Water.Mass)), (I (x25.1.Water.Heat)), (I (x25.1.Water.Silica)), (I (x25.1.Water.Gas))]]
theorem Qp3 (N : Nat) (p0 : GLine) (p1 : GStream) (p2 : GStream) (r : (GAccount × Int)) (h : Qh7 N p0 p1 p2 = some r) : Spec Tryz.prog 8 [(.agg (Qn3 p0)), (.agg (Qa4 p1)), (.agg (Qa4 p2))] [] (.tup [(.agg [(I (r.1.Turbine)), (I (r.1.Vent)), (I (r.1.Air)), (I (r.1.Work)), (I (r.1.Sink)), (I (r.1.Scale)), (I (r.1.Hot.Mass)), (I (r.1.Hot.Heat)), (I (r.1.Hot.Silica)), (I (r.1.Hot.Gas)), (I (r.1.Brine.Mass)), (I (r.1.Brine.Heat)), (I (r.1.Brine.Silica)), (I (r.1.Brine.Gas))]), (I (r.2))]) [] := by
  refine Qu3 Tryz.func8 rfl (fun X φ0 w0 hφ0 hd0 => ?_)
  unfold Qh7 at h
  refine Qzq (k := 0) hd0 (fun n hn => hφ0 n (Nat.le_trans (nle rfl) hn)) ?_
  refine wx1 tbk [] trivial ?_
  refine thn ?_
  refine Qzq (k := 0) hd0 (fun n hn => hφ0 n (Nat.le_trans (nle rfl) hn)) ?_
  obtain ⟨x19, hf18, h⟩ := bno h
  rcases bft ((!x19)) with hb20 | hb20
  ·replace h := Qat hb20 h
   refine wx tbk [(1, rp [fu 28, (.tmp 13, (Qr1 p0))] (B x19)), (3, rp [(.tmp 15, (B ((!x19))))] (B true))] ⟨apc (first := []) (cap := []) (vs := [(Qr1 p0)]) rfl Q4i (Qjk N (⟨p0.Table, p0.Level, (⟨p0.Unit.Inlet, p0.Unit.Parts⟩ : GUnit), p0.Most, p0.Target, (⟨p0.Cycle.Out, p0.Cycle.Yield, p0.Cycle.Most⟩ : GCycle)⟩ : GLine) _ hf18) rfl rfl (nlc (NLt.agg _ (nlc (nld Qa9 _) (nlc nll (nlc nll (nlc (nld Qaq _) (nlc nll (nlc nll (nlc nll (nlc nll (nlc nll nl0)))))))))) nl0) nll rfl, asb hb20 (amv rfl), trivial⟩ ?_
   refine Qcy (by kernel_rfl) ?_
   refine wx tbk [(0, rp [] Q79)] ⟨Qao (vs := []) rfl ts37 tz37 rfl (by rfl) rfl, trivial⟩ ?_
   refine Qaa ?_
   refine Qan ?_
   obtain rfl := osi h
   exact ⟨_, (mto (n := 71) (l' := [(6, .ref 0 14 0 0), (7, .ref 1 1 0 0)]) (own' := [Qnt, (.own 1 [[I 1]])]) [(6, .ref 3 14 0 0), (7, .ref 4 1 0 0)] [3, 4] [Qn9, (.own 1 [[I 1]])] hφ0 (pc (.rn (rqr rfl)) (pc (.rn (rqr rfl)) pn)) (qc (spb (lc rwl (lc rwl (lc rwl (lc rwl (lc rwl (lc rwl (lc rwl (lc rwl (lc rwl (lc rwl (lc rwl (lc rwl (lc rwl (lc rwl ln))))))))))))))) (qc (spb (lc rwl ln)) qn))), ⟨⟨[Qns, I 1], ⟨Qa0 (n := 0) (m := 14) (j := 0) (i := 0) (xs := [[(I ((⟨0, 0, 0, 0, 0, 0, (⟨0, 0, 0, 0⟩ : GStream), (⟨0, 0, 0, 0⟩ : GStream)⟩ : GAccount).Turbine)), (I ((⟨0, 0, 0, 0, 0, 0, (⟨0, 0, 0, 0⟩ : GStream), (⟨0, 0, 0, 0⟩ : GStream)⟩ : GAccount).Vent)), (I ((⟨0, 0, 0, 0, 0, 0, (⟨0, 0, 0, 0⟩ : GStream), (⟨0, 0, 0, 0⟩ : GStream)⟩ : GAccount).Air)), (I ((⟨0, 0, 0, 0, 0, 0, (⟨0, 0, 0, 0⟩ : GStream), (⟨0, 0, 0, 0⟩ : GStream)⟩ : GAccount).Work)), (I ((⟨0, 0, 0, 0, 0, 0, (⟨0, 0, 0, 0⟩ : GStream), (⟨0, 0, 0, 0⟩ : GStream)⟩ : GAccount).Sink)), (I ((⟨0, 0, 0, 0, 0, 0, (⟨0, 0, 0, 0⟩ : GStream), (⟨0, 0, 0, 0⟩ : GStream)⟩ : GAccount).Scale)), (I ((⟨0, 0, 0, 0, 0, 0, (⟨0, 0, 0, 0⟩ : GStream), (⟨0, 0, 0, 0⟩ : GStream)⟩ : GAccount).Hot.Mass)), (I ((⟨0, 0, 0, 0, 0, 0, (⟨0, 0, 0, 0⟩ : GStream), (⟨0, 0, 0, 0⟩ : GStream)⟩ : GAccount).Hot.Heat)), (I ((⟨0, 0, 0, 0, 0, 0, (⟨0, 0, 0, 0⟩ : GStream), (⟨0, 0, 0, 0⟩ : GStream)⟩ : GAccount).Hot.Silica)), (I ((⟨0, 0, 0, 0, 0, 0, (⟨0, 0, 0, 0⟩ : GStream), (⟨0, 0, 0, 0⟩ : GStream)⟩ : GAccount).Hot.Gas)), (I ((⟨0, 0, 0, 0, 0, 0, (⟨0, 0, 0, 0⟩ : GStream), (⟨0, 0, 0, 0⟩ : GStream)⟩ : GAccount).Brine.Mass)), (I ((⟨0, 0, 0, 0, 0, 0, (⟨0, 0, 0, 0⟩ : GStream), (⟨0, 0, 0, 0⟩ : GStream)⟩ : GAccount).Brine.Heat)), (I ((⟨0, 0, 0, 0, 0, 0, (⟨0, 0, 0, 0⟩ : GStream), (⟨0, 0, 0, 0⟩ : GStream)⟩ : GAccount).Brine.Silica)), (I ((⟨0, 0, 0, 0, 0, 0, (⟨0, 0, 0, 0⟩ : GStream), (⟨0, 0, 0, 0⟩ : GStream)⟩ : GAccount).Brine.Gas))]]) (by kernel_rfl) (by kernel_rfl) ti37 (by decide) rfl (nle rfl) rfl, Qa0 (n := 1) (m := 1) (j := 0) (i := 0) (xs := [[I 1]]) (by kernel_rfl) (by kernel_rfl) ti38 (by decide) rfl (nle rfl) rfl, trivial⟩, rfl⟩, (NLt.tup _ (nlc (NLt.agg _ (nlc nll (nlc nll (nlc nll (nlc nll (nlc nll (nlc nll (nlc nll (nlc nll (nlc nll (nlc nll (nlc nll (nlc nll (nlc nll (nlc nll nl0))))))))))))))) (nlc nll nl0))), Nat.le_refl _, fun n hn => absurd hn (Nat.not_lt_zero n)⟩⟩
  ·replace h := Qau hb20 h
   obtain ⟨x22, hf21, h⟩ := bno h
   refine wx tbk [(1, rp [fu 28, (.tmp 13, (Qr1 p0))] (B x19)), (3, rp [(.tmp 15, (B ((!x19))))] (B false)), (6, rp [(.tmp 16, B false), (.tmp 17, (Qyt p1)), (.tmp 18, (Q8a p2))] (Qxb p1 p2)), (7, rp [(.tmp 16, B false), fu 29, (.tmp 19, (Qxb p1 p2))] (B x22))] ⟨apc (first := []) (cap := []) (vs := [(Qr1 p0)]) rfl Q4i (Qjk N (⟨p0.Table, p0.Level, (⟨p0.Unit.Inlet, p0.Unit.Parts⟩ : GUnit), p0.Most, p0.Target, (⟨p0.Cycle.Out, p0.Cycle.Yield, p0.Cycle.Most⟩ : GCycle)⟩ : GLine) _ hf18) rfl rfl (nlc (NLt.agg _ (nlc (nld Qa9 _) (nlc nll (nlc nll (nlc (nld Qaq _) (nlc nll (nlc nll (nlc nll (nlc nll (nlc nll nl0)))))))))) nl0) nll rfl, asb hb20 (amv rfl), ag_ (Qcb (vs := [(Qyt p1), (Q8a p2)]) rfl Tryz.underlying124 ti35 tz35 rfl (by decide) rfl (by decide) (by rfl) (by rfl) (by rfl) rfl), ag_ (apc (first := []) (cap := []) (vs := [(Qxb p1 p2)]) rfl Qra (Qgq N ([p1, p2]) _ hf21) rfl rfl (nlc (nld Qdc _) nl0) nll rfl), trivial⟩ ?_
   rcases bft ((!x22)) with hc23 | hc23
   ·replace h := Qat hc23 h
    refine wft hc23 (by kernel_rfl) ?_
    refine wx tbk [(0, rp [] Q79)] ⟨Qao (vs := []) rfl ts37 tz37 rfl (by rfl) rfl, trivial⟩ ?_
    refine Qaa ?_
    refine Qan ?_
    obtain rfl := osi h
    exact ⟨_, (mto (n := 71) (l' := [(6, .ref 0 14 0 0), (7, .ref 1 1 0 0)]) (own' := [Qnt, (.own 1 [[I 1]])]) [(6, .ref 3 14 0 0), (7, .ref 4 1 0 0)] [3, 4] [Qn9, (.own 1 [[I 1]])] hφ0 (pc (.rn (rqr rfl)) (pc (.rn (rqr rfl)) pn)) (qc (spb (lc rwl (lc rwl (lc rwl (lc rwl (lc rwl (lc rwl (lc rwl (lc rwl (lc rwl (lc rwl (lc rwl (lc rwl (lc rwl (lc rwl ln))))))))))))))) (qc (spb (lc rwl ln)) qn))), ⟨⟨[Qns, I 1], ⟨Qa0 (n := 0) (m := 14) (j := 0) (i := 0) (xs := [[(I ((⟨0, 0, 0, 0, 0, 0, (⟨0, 0, 0, 0⟩ : GStream), (⟨0, 0, 0, 0⟩ : GStream)⟩ : GAccount).Turbine)), (I ((⟨0, 0, 0, 0, 0, 0, (⟨0, 0, 0, 0⟩ : GStream), (⟨0, 0, 0, 0⟩ : GStream)⟩ : GAccount).Vent)), (I ((⟨0, 0, 0, 0, 0, 0, (⟨0, 0, 0, 0⟩ : GStream), (⟨0, 0, 0, 0⟩ : GStream)⟩ : GAccount).Air)), (I ((⟨0, 0, 0, 0, 0, 0, (⟨0, 0, 0, 0⟩ : GStream), (⟨0, 0, 0, 0⟩ : GStream)⟩ : GAccount).Work)), (I ((⟨0, 0, 0, 0, 0, 0, (⟨0, 0, 0, 0⟩ : GStream), (⟨0, 0, 0, 0⟩ : GStream)⟩ : GAccount).Sink)), (I ((⟨0, 0, 0, 0, 0, 0, (⟨0, 0, 0, 0⟩ : GStream), (⟨0, 0, 0, 0⟩ : GStream)⟩ : GAccount).Scale)), (I ((⟨0, 0, 0, 0, 0, 0, (⟨0, 0, 0, 0⟩ : GStream), (⟨0, 0, 0, 0⟩ : GStream)⟩ : GAccount).Hot.Mass)), (I ((⟨0, 0, 0, 0, 0, 0, (⟨0, 0, 0, 0⟩ : GStream), (⟨0, 0, 0, 0⟩ : GStream)⟩ : GAccount).Hot.Heat)), (I ((⟨0, 0, 0, 0, 0, 0, (⟨0, 0, 0, 0⟩ : GStream), (⟨0, 0, 0, 0⟩ : GStream)⟩ : GAccount).Hot.Silica)), (I ((⟨0, 0, 0, 0, 0, 0, (⟨0, 0, 0, 0⟩ : GStream), (⟨0, 0, 0, 0⟩ : GStream)⟩ : GAccount).Hot.Gas)), (I ((⟨0, 0, 0, 0, 0, 0, (⟨0, 0, 0, 0⟩ : GStream), (⟨0, 0, 0, 0⟩ : GStream)⟩ : GAccount).Brine.Mass)), (I ((⟨0, 0, 0, 0, 0, 0, (⟨0, 0, 0, 0⟩ : GStream), (⟨0, 0, 0, 0⟩ : GStream)⟩ : GAccount).Brine.Heat)), (I ((⟨0, 0, 0, 0, 0, 0, (⟨0, 0, 0, 0⟩ : GStream), (⟨0, 0, 0, 0⟩ : GStream)⟩ : GAccount).Brine.Silica)), (I ((⟨0, 0, 0, 0, 0, 0, (⟨0, 0, 0, 0⟩ : GStream), (⟨0, 0, 0, 0⟩ : GStream)⟩ : GAccount).Brine.Gas))]]) (by kernel_rfl) (by kernel_rfl) ti37 (by decide) rfl (nle rfl) rfl, Qa0 (n := 1) (m := 1) (j := 0) (i := 0) (xs := [[I 1]]) (by kernel_rfl) (by kernel_rfl) ti38 (by decide) rfl (nle rfl) rfl, trivial⟩, rfl⟩, (NLt.tup _ (nlc (NLt.agg _ (nlc nll (nlc nll (nlc nll (nlc nll (nlc nll (nlc nll (nlc nll (nlc nll (nlc nll (nlc nll (nlc nll (nlc nll (nlc nll (nlc nll nl0))))))))))))))) (nlc nll nl0))), Nat.le_refl _, fun n hn => absurd hn (Nat.not_lt_zero n)⟩⟩
   ·replace h := Qau hc23 h
    refine wfn hc23 (by kernel_rfl) ?_
    refine Qam ?_
    refine thn ?_
    refine Q0w (k := 0) [(3, 14), (4, 1)] hd0 (fun n hn => hφ0 n (Nat.le_trans (nle rfl) hn)) Zci rfl rfl (by kernel_rfl) (by kernel_rfl) (by kernel_rfl) Qoi (fun φ1 w1 hφ1 hd1 => ?_)
    obtain ⟨x25, hf24, h⟩ := bno h
    refine wx tbk [(5, rp [fu 16, (.tmp 27, (Qlg p0)), (.tmp 29, I p0.Level), (.tmp 30, (Qyt p1))] (.tup [(.agg [I x25.1.Steam.Mass, I x25.1.Steam.Heat, I x25.1.Steam.Silica, I x25.1.Steam.Gas, I x25.1.Water.Mass, I x25.1.Water.Heat, I x25.1.Water.Silica, I x25.1.Water.Gas, I x25.1.Rest, I x25.1.Scale]), I x25.2]))] ⟨apc (first := []) (cap := []) (vs := [(Qlg p0), I p0.Level, (Qyt p1)]) rfl Zcr (Qqp N p0.Table p0.Level p1 _ hf24) rfl rfl (nlc (nld Qa9 _) (nlc nll (nlc (NLt.agg _ (nlc nll (nlc nll (nlc nll (nlc nll nl0))))) nl0))) (NLt.tup _ (nlc (NLt.agg _ (nlc nll (nlc nll (nlc nll (nlc nll (nlc nll (nlc nll (nlc nll (nlc nll (nlc nll (nlc nll nl0))))))))))) (nlc nll nl0))) rfl, trivial⟩ ?_
    obtain ⟨x27, hf26, h⟩ := bno h
    rcases x27 with x28 | x71
    ·replace h := Q26 h
     refine wx tbk [(1, rp [fu 31, (.tmp 34, I x25.2)] (.tup []))] ⟨Qah (first := []) (cap := []) (vs := [I x25.2]) (σr := []) (σr' := []) (res' := (.tup [])) [] rfl Qkk (Qgs N x25.2 _ hf26) rfl (Qbc (rnc (.plain _ nll) rn0)) Qag Qag (.plain _ (NLt.tup _ nl0)) rfl rfl rfl, trivial⟩ ?_
     refine wx tbk [(5, rp [(.tmp 36, (Qr1 p0)), (.tmp 38, (Q2u x25)), (.tmp 40, (Q2t x25))] (.agg [(Qlg p0), I p0.Level, I p0.Unit.Inlet, (Qnl p0), I p0.Most, I p0.Target, I p0.Cycle.Out, I p0.Cycle.Yield, I p0.Cycle.Most, I 0, I 0, I 0, I 0, I 0, I 0, I 0, I 0, I 0, I 0, I 0, I 0, I 0, I 0, I x25.1.Steam.Mass, I x25.1.Steam.Heat, I x25.1.Steam.Silica, I x25.1.Steam.Gas, I x25.1.Water.Mass, I x25.1.Water.Heat, I x25.1.Water.Silica, I x25.1.Water.Gas]))] ⟨Qao (vs := [(Qr1 p0), (Q2u x25), (Q2t x25)]) rfl ts94 tz94 rfl (by rfl) rfl, trivial⟩ ?_
     refine wx tbk [(3, rb [(.tmp 43, .ref 6 31 0 0)] [(6, (.own 31 [[(Qlg p0), I p0.Level, I p0.Unit.Inlet, (Qnl p0), I p0.Most, I p0.Target, I p0.Cycle.Out, I p0.Cycle.Yield, I p0.Cycle.Most, I 0, I 0, I 0, I 0, I 0, I 0, I 0, I 0, I 0, I 0, I 0, I 0, I 0, I 0, I x25.1.Steam.Mass, I x25.1.Steam.Heat, I x25.1.Steam.Silica, I x25.1.Steam.Gas, I x25.1.Water.Mass, I x25.1.Water.Heat, I x25.1.Water.Silica, I x25.1.Water.Gas]]))] (.ref 6 31 0 0))] ⟨Qbw rfl, trivial⟩ ?_
     refine wx tbk [(0, rp [(.tmp 9, .ref 7 1 0 0), (.tmp 5, .ref 2 4 0 0), (.tmp 3, .ref 0 9 0 0)] Qij)] ⟨Qdd (fs := []) (cs := [.ref 7 1 0 0, .ref 2 4 0 0, .ref 0 9 0 0]) rfl rfl rfl rfl, trivial⟩ ?_
     obtain ⟨k46, hk_k46, h⟩ := jko h
     refine wjn (τ := Int × Int × Int × Int × Int × Int × Int × Int × Int × Int × Int × Int × Int × Int × Int × Int × Int) (fun t => k46 t = some r) (fun ⟨y29, y30, y31, y32, y33, y34, y35, y36, y37, y38, y39, y40, y41, y42, y43, y44, y45⟩ => ⟨mk 71 [(6, .ref 3 14 0 0), (7, .ref 4 1 0 0), (9, .ref 5 1 0 0)], [(Qnk p0), (Q8b p1), (Qnj p2), Qn9, (.own 1 [[I x25.2]]), Qkh, (Q2s p0 y29 y30 y31 y32 y33 x25 y34 y35 y36 y37 y38 y39 y40 y41 y42 y43 y44 y45)]⟩) (fun t h => ?_) ?_
     ·subst hk_k46
      obtain ⟨y29, y30, y31, y32, y33, y34, y35, y36, y37, y38, y39, y40, y41, y42, y43, y44, y45⟩ := t
      refine wx tbk [(1, rb [(.tmp 67, .ref 6 31 0 0)] [(6, (Q2s p0 y29 y30 y31 y32 y33 x25 y34 y35 y36 y37 y38 y39 y40 y41 y42 y43 y44 y45))] (.ref 6 31 0 0))] ⟨Qbw rfl, trivial⟩ ?_
      refine Qaa ?_
      obtain rfl := osi h
      exact ⟨_, (mto (n := 71) (l' := [(6, .ref 0 14 0 0), (7, .ref 1 1 0 0)]) (own' := [(.own 14 [[(I (((⟨y29, y30, y31, y32, y33, x25.1.Scale, (⟨y34, y35, y36, y37⟩ : GStream), (⟨y38, y39, y40, y41⟩ : GStream)⟩ : GAccount).Turbine))), (I (((⟨y29, y30, y31, y32, y33, x25.1.Scale, (⟨y34, y35, y36, y37⟩ : GStream), (⟨y38, y39, y40, y41⟩ : GStream)⟩ : GAccount).Vent))), (I (((⟨y29, y30, y31, y32, y33, x25.1.Scale, (⟨y34, y35, y36, y37⟩ : GStream), (⟨y38, y39, y40, y41⟩ : GStream)⟩ : GAccount).Air))), (I (((⟨y29, y30, y31, y32, y33, x25.1.Scale, (⟨y34, y35, y36, y37⟩ : GStream), (⟨y38, y39, y40, y41⟩ : GStream)⟩ : GAccount).Work))), (I (((⟨y29, y30, y31, y32, y33, x25.1.Scale, (⟨y34, y35, y36, y37⟩ : GStream), (⟨y38, y39, y40, y41⟩ : GStream)⟩ : GAccount).Sink))), (I (((⟨y29, y30, y31, y32, y33, x25.1.Scale, (⟨y34, y35, y36, y37⟩ : GStream), (⟨y38, y39, y40, y41⟩ : GStream)⟩ : GAccount).Scale))), (I ((((⟨y29, y30, y31, y32, y33, x25.1.Scale, (⟨y34, y35, y36, y37⟩ : GStream), (⟨y38, y39, y40, y41⟩ : GStream)⟩ : GAccount).Hot).Mass))), (I ((((⟨y29, y30, y31, y32, y33, x25.1.Scale, (⟨y34, y35, y36, y37⟩ : GStream), (⟨y38, y39, y40, y41⟩ : GStream)⟩ : GAccount).Hot).Heat))), (I ((((⟨y29, y30, y31, y32, y33, x25.1.Scale, (⟨y34, y35, y36, y37⟩ : GStream), (⟨y38, y39, y40, y41⟩ : GStream)⟩ : GAccount).Hot).Silica))), (I ((((⟨y29, y30, y31, y32, y33, x25.1.Scale, (⟨y34, y35, y36, y37⟩ : GStream), (⟨y38, y39, y40, y41⟩ : GStream)⟩ : GAccount).Hot).Gas))), (I ((((⟨y29, y30, y31, y32, y33, x25.1.Scale, (⟨y34, y35, y36, y37⟩ : GStream), (⟨y38, y39, y40, y41⟩ : GStream)⟩ : GAccount).Brine).Mass))), (I ((((⟨y29, y30, y31, y32, y33, x25.1.Scale, (⟨y34, y35, y36, y37⟩ : GStream), (⟨y38, y39, y40, y41⟩ : GStream)⟩ : GAccount).Brine).Heat))), (I ((((⟨y29, y30, y31, y32, y33, x25.1.Scale, (⟨y34, y35, y36, y37⟩ : GStream), (⟨y38, y39, y40, y41⟩ : GStream)⟩ : GAccount).Brine).Silica))), (I ((((⟨y29, y30, y31, y32, y33, x25.1.Scale, (⟨y34, y35, y36, y37⟩ : GStream), (⟨y38, y39, y40, y41⟩ : GStream)⟩ : GAccount).Brine).Gas)))]]), (.own 1 [[I 0]])]) [(6, .ref 3 14 0 0), (7, .ref 4 1 0 0)] [3, 4] [(.own 14 [[I y29, I y30, I y31, I y32, I y33, I x25.1.Scale, I y34, I y35, I y36, I y37, I y38, I y39, I y40, I y41]]), (.own 1 [[I 0]])] hφ0 (pc (.rn (rqr rfl)) (pc (.rn (rqr rfl)) pn)) (qc (spb (lc rwl (lc rwl (lc rwl (lc rwl (lc rwl (lc rwl (lc rwl (lc rwl (lc rwl (lc rwl (lc rwl (lc rwl (lc rwl (lc rwl ln))))))))))))))) (qc (spb (lc rwl ln)) qn))), ⟨⟨[(.agg [(I ((⟨y29, y30, y31, y32, y33, x25.1.Scale, (⟨y34, y35, y36, y37⟩ : GStream), (⟨y38, y39, y40, y41⟩ : GStream)⟩ : GAccount).Turbine)), (I ((⟨y29, y30, y31, y32, y33, x25.1.Scale, (⟨y34, y35, y36, y37⟩ : GStream), (⟨y38, y39, y40, y41⟩ : GStream)⟩ : GAccount).Vent)), (I ((⟨y29, y30, y31, y32, y33, x25.1.Scale, (⟨y34, y35, y36, y37⟩ : GStream), (⟨y38, y39, y40, y41⟩ : GStream)⟩ : GAccount).Air)), (I ((⟨y29, y30, y31, y32, y33, x25.1.Scale, (⟨y34, y35, y36, y37⟩ : GStream), (⟨y38, y39, y40, y41⟩ : GStream)⟩ : GAccount).Work)), (I ((⟨y29, y30, y31, y32, y33, x25.1.Scale, (⟨y34, y35, y36, y37⟩ : GStream), (⟨y38, y39, y40, y41⟩ : GStream)⟩ : GAccount).Sink)), (I ((⟨y29, y30, y31, y32, y33, x25.1.Scale, (⟨y34, y35, y36, y37⟩ : GStream), (⟨y38, y39, y40, y41⟩ : GStream)⟩ : GAccount).Scale)), (I ((⟨y29, y30, y31, y32, y33, x25.1.Scale, (⟨y34, y35, y36, y37⟩ : GStream), (⟨y38, y39, y40, y41⟩ : GStream)⟩ : GAccount).Hot.Mass)), (I ((⟨y29, y30, y31, y32, y33, x25.1.Scale, (⟨y34, y35, y36, y37⟩ : GStream), (⟨y38, y39, y40, y41⟩ : GStream)⟩ : GAccount).Hot.Heat)), (I ((⟨y29, y30, y31, y32, y33, x25.1.Scale, (⟨y34, y35, y36, y37⟩ : GStream), (⟨y38, y39, y40, y41⟩ : GStream)⟩ : GAccount).Hot.Silica)), (I ((⟨y29, y30, y31, y32, y33, x25.1.Scale, (⟨y34, y35, y36, y37⟩ : GStream), (⟨y38, y39, y40, y41⟩ : GStream)⟩ : GAccount).Hot.Gas)), (I ((⟨y29, y30, y31, y32, y33, x25.1.Scale, (⟨y34, y35, y36, y37⟩ : GStream), (⟨y38, y39, y40, y41⟩ : GStream)⟩ : GAccount).Brine.Mass)), (I ((⟨y29, y30, y31, y32, y33, x25.1.Scale, (⟨y34, y35, y36, y37⟩ : GStream), (⟨y38, y39, y40, y41⟩ : GStream)⟩ : GAccount).Brine.Heat)), (I ((⟨y29, y30, y31, y32, y33, x25.1.Scale, (⟨y34, y35, y36, y37⟩ : GStream), (⟨y38, y39, y40, y41⟩ : GStream)⟩ : GAccount).Brine.Silica)), (I ((⟨y29, y30, y31, y32, y33, x25.1.Scale, (⟨y34, y35, y36, y37⟩ : GStream), (⟨y38, y39, y40, y41⟩ : GStream)⟩ : GAccount).Brine.Gas))]), I 0], ⟨Qa0 (n := 0) (m := 14) (j := 0) (i := 0) (xs := [[(I ((⟨y29, y30, y31, y32, y33, x25.1.Scale, (⟨y34, y35, y36, y37⟩ : GStream), (⟨y38, y39, y40, y41⟩ : GStream)⟩ : GAccount).Turbine)), (I ((⟨y29, y30, y31, y32, y33, x25.1.Scale, (⟨y34, y35, y36, y37⟩ : GStream), (⟨y38, y39, y40, y41⟩ : GStream)⟩ : GAccount).Vent)), (I ((⟨y29, y30, y31, y32, y33, x25.1.Scale, (⟨y34, y35, y36, y37⟩ : GStream), (⟨y38, y39, y40, y41⟩ : GStream)⟩ : GAccount).Air)), (I ((⟨y29, y30, y31, y32, y33, x25.1.Scale, (⟨y34, y35, y36, y37⟩ : GStream), (⟨y38, y39, y40, y41⟩ : GStream)⟩ : GAccount).Work)), (I ((⟨y29, y30, y31, y32, y33, x25.1.Scale, (⟨y34, y35, y36, y37⟩ : GStream), (⟨y38, y39, y40, y41⟩ : GStream)⟩ : GAccount).Sink)), (I ((⟨y29, y30, y31, y32, y33, x25.1.Scale, (⟨y34, y35, y36, y37⟩ : GStream), (⟨y38, y39, y40, y41⟩ : GStream)⟩ : GAccount).Scale)), (I ((⟨y29, y30, y31, y32, y33, x25.1.Scale, (⟨y34, y35, y36, y37⟩ : GStream), (⟨y38, y39, y40, y41⟩ : GStream)⟩ : GAccount).Hot.Mass)), (I ((⟨y29, y30, y31, y32, y33, x25.1.Scale, (⟨y34, y35, y36, y37⟩ : GStream), (⟨y38, y39, y40, y41⟩ : GStream)⟩ : GAccount).Hot.Heat)), (I ((⟨y29, y30, y31, y32, y33, x25.1.Scale, (⟨y34, y35, y36, y37⟩ : GStream), (⟨y38, y39, y40, y41⟩ : GStream)⟩ : GAccount).Hot.Silica)), (I ((⟨y29, y30, y31, y32, y33, x25.1.Scale, (⟨y34, y35, y36, y37⟩ : GStream), (⟨y38, y39, y40, y41⟩ : GStream)⟩ : GAccount).Hot.Gas)), (I ((⟨y29, y30, y31, y32, y33, x25.1.Scale, (⟨y34, y35, y36, y37⟩ : GStream), (⟨y38, y39, y40, y41⟩ : GStream)⟩ : GAccount).Brine.Mass)), (I ((⟨y29, y30, y31, y32, y33, x25.1.Scale, (⟨y34, y35, y36, y37⟩ : GStream), (⟨y38, y39, y40, y41⟩ : GStream)⟩ : GAccount).Brine.Heat)), (I ((⟨y29, y30, y31, y32, y33, x25.1.Scale, (⟨y34, y35, y36, y37⟩ : GStream), (⟨y38, y39, y40, y41⟩ : GStream)⟩ : GAccount).Brine.Silica)), (I ((⟨y29, y30, y31, y32, y33, x25.1.Scale, (⟨y34, y35, y36, y37⟩ : GStream), (⟨y38, y39, y40, y41⟩ : GStream)⟩ : GAccount).Brine.Gas))]]) (by kernel_rfl) (by kernel_rfl) ti37 (by decide) rfl (nle rfl) rfl, Qa0 (n := 1) (m := 1) (j := 0) (i := 0) (xs := [[I 0]]) (by kernel_rfl) (by kernel_rfl) ti38 (by decide) rfl (nle rfl) rfl, trivial⟩, rfl⟩, (NLt.tup _ (nlc (NLt.agg _ (nlc nll (nlc nll (nlc nll (nlc nll (nlc nll (nlc nll (nlc nll (nlc nll (nlc nll (nlc nll (nlc nll (nlc nll (nlc nll (nlc nll nl0))))))))))))))) (nlc nll nl0))), Nat.le_refl _, fun n hn => absurd hn (Nat.not_lt_zero n)⟩⟩
     ·skip
      refine wx tbk [(1, rp [(.tmp 50, .ref 6 31 0 0)] Qii), (4, rp [(.tmp 53, .ref 6 31 0 0)] Qih), (6, rp [(.tmp 55, .ref 6 31 0 0)] Qig), (7, rp [(.tmp 51, Qii), (.tmp 52, Qij), (.tmp 54, Qih), (.tmp 56, Qig)] (.dat 1 [[Qii], [Qij], [Qih], [Qig]])), (8, rp [(.tmp 57, .dat 1 [[Qii], [Qij], [Qih], [Qig]])] (I 4))] ⟨Qdd (fs := [.ref 6 31 0 0]) (cs := []) rfl rfl rfl rfl, Qdd (fs := [.ref 6 31 0 0]) (cs := []) rfl rfl rfl rfl, Qdd (fs := [.ref 6 31 0 0]) (cs := []) rfl rfl rfl rfl, Qcb (vs := [Qii, Qij, Qih, Qig]) rfl Tryz.underlying96 ti95 tz95 rfl (by decide) rfl (by decide) (by rfl) (by rfl) (by rfl) rfl, aln rfl Tryz.underlying96 rfl, trivial⟩ ?_
      refine Qaj ?_
      refine Qty 17 ?_
      refine Qmp ?_
      refine wx tbk [] trivial ?_
      refine wsq ?_
      refine Qcy (by kernel_rfl) ?_
      refine Qam ?_
      refine thn ?_
      refine wsq ?_
      refine Qaj ?_
      refine wx tbk [(0, rp [(.tmp 57, .dat 1 [[Qii], [Qij], [Qih], [Qig]]), (.tmp 59, I 0)] (.dptr [Qii] 0))] ⟨aid rfl Tryz.underlying96 ti95 rfl rfl (by decide) rfl rfl, trivial⟩ ?_
      obtain ⟨x48, hf47, h⟩ := bno h
      obtain ⟨x50, hf49, h⟩ := bno h
      rcases x50 with x51 | x70
      ·replace h := Q26 h
       refine wx1 tbk [(1, ⟨[(.tmp 63, Qii)], [(6, (Qs8 p0 x25))], I x48.1, [(6, (Ql2 p0 x48 x25))], false⟩), (2, rp [fu 31, (.tmp 64, I x48.1)] (.tup []))] ⟨Qah (first := [.ref 6 31 0 0]) (cap := []) (vs := []) (σr := [(Qs8 p0 x25)]) (σr' := [(Ql2 p0 x48 x25)]) (res' := (I x48.1)) [6] rfl Q4g (Qh3 N p0.Table p0.Level p0.Unit.Inlet p0.Unit.Parts p0.Most p0.Target p0.Cycle.Out p0.Cycle.Yield p0.Cycle.Most 0 0 0 0 0 x25.1.Scale 0 0 0 0 0 0 0 0 x25.1.Steam.Mass x25.1.Steam.Heat x25.1.Steam.Silica x25.1.Steam.Gas x25.1.Water.Mass x25.1.Water.Heat x25.1.Water.Silica x25.1.Water.Gas _ hf47) rfl (Qbc (rnc (Qa2 rfl) rn0)) (slc (Qae (rnc (.plain _ (nld Qa9 _)) (rnc (.plain _ nll) (rnc (.plain _ nll) (rnc (.plain _ (nld Qaq _)) (rnc (.plain _ nll) (rnc (.plain _ nll) (rnc (.plain _ nll) (rnc (.plain _ nll) (rnc (.plain _ nll) (rnc (.plain _ nll) (rnc (.plain _ nll) (rnc (.plain _ nll) (rnc (.plain _ nll) (rnc (.plain _ nll) (rnc (.plain _ nll) (rnc (.plain _ nll) (rnc (.plain _ nll) (rnc (.plain _ nll) (rnc (.plain _ nll) (rnc (.plain _ nll) (rnc (.plain _ nll) (rnc (.plain _ nll) (rnc (.plain _ nll) (rnc (.plain _ nll) (rnc (.plain _ nll) (rnc (.plain _ nll) (rnc (.plain _ nll) (rnc (.plain _ nll) (rnc (.plain _ nll) (rnc (.plain _ nll) (rnc (.plain _ nll) rn0)))))))))))))))))))))))))))))))) Qag) (slc (Qae (rnc (.plain _ (nld Qa9 _)) (rnc (.plain _ nll) (rnc (.plain _ nll) (rnc (.plain _ (nld Qaq _)) (rnc (.plain _ nll) (rnc (.plain _ nll) (rnc (.plain _ nll) (rnc (.plain _ nll) (rnc (.plain _ nll) (rnc (.plain _ nll) (rnc (.plain _ nll) (rnc (.plain _ nll) (rnc (.plain _ nll) (rnc (.plain _ nll) (rnc (.plain _ nll) (rnc (.plain _ nll) (rnc (.plain _ nll) (rnc (.plain _ nll) (rnc (.plain _ nll) (rnc (.plain _ nll) (rnc (.plain _ nll) (rnc (.plain _ nll) (rnc (.plain _ nll) (rnc (.plain _ nll) (rnc (.plain _ nll) (rnc (.plain _ nll) (rnc (.plain _ nll) (rnc (.plain _ nll) (rnc (.plain _ nll) (rnc (.plain _ nll) (rnc (.plain _ nll) rn0)))))))))))))))))))))))))))))))) Qag) (.plain _ nll) rfl rfl rfl, Qah (first := []) (cap := []) (vs := [I x48.1]) (σr := []) (σr' := []) (res' := (.tup [])) [] rfl Qkk (Qgs N x48.1 _ hf49) rfl (Qbc (rnc (.plain _ nll) rn0)) Qag Qag (.plain _ (NLt.tup _ nl0)) rfl rfl rfl, trivial⟩ ?_
       refine bln ?_
       refine thn ?_
       refine wx1 tbk [] trivial ?_
       refine thn ?_
       refine Qmp ?_
       refine wx tbk [] trivial ?_
       refine wsq ?_
       refine Qcy (by kernel_rfl) ?_
       refine Qam ?_
       refine thn ?_
       refine wsq ?_
       refine Qaj ?_
       refine wx tbk [(0, rp [(.tmp 57, .dat 1 [[Qii], [Qij], [Qih], [Qig]]), (.tmp 59, I 1)] (.dptr [Qij] 0))] ⟨aid rfl Tryz.underlying96 ti95 rfl rfl (by decide) rfl rfl, trivial⟩ ?_
       obtain ⟨x53, hf52, h⟩ := bno h
       obtain ⟨x55, hf54, h⟩ := bno h
       rcases x55 with x56 | x69
       ·replace h := Q26 h
        refine wx1 tbk [(1, ⟨[(.tmp 63, Qij)], [(7, Qkh), (2, (Qnj p2)), (0, (Qnk p0)), (6, (Ql2 p0 x48 x25))], I x53.1, [(7, Qkh), (2, (Qnj p2)), (0, (Qnk p0)), (6, (Ql1 p0 x48 x53 x25))], false⟩), (2, rp [fu 31, (.tmp 64, I x53.1)] (.tup []))] ⟨Qah (first := []) (cap := [.ref 7 1 0 0, .ref 2 4 0 0, .ref 0 9 0 0]) (vs := []) (σr := [Qkh, (Qnj p2), (Qnk p0), (Ql2 p0 x48 x25)]) (σr' := [Qkh, (Qnj p2), (Qnk p0), (Ql1 p0 x48 x53 x25)]) (res' := (I x53.1)) [7, 2, 0, 6] rfl Q4h (Qjj N p2.Mass p2.Heat p2.Silica p2.Gas p0.Table p0.Level p0.Unit.Inlet p0.Unit.Parts p0.Most p0.Target p0.Cycle.Out p0.Cycle.Yield p0.Cycle.Most p0.Table p0.Level p0.Unit.Inlet p0.Unit.Parts p0.Most p0.Target p0.Cycle.Out p0.Cycle.Yield p0.Cycle.Most x48.2.1 0 0 0 0 x25.1.Scale 0 0 0 0 0 0 0 0 x48.2.2.1 x48.2.2.2.1 x48.2.2.2.2.1 x48.2.2.2.2.2 x25.1.Water.Mass x25.1.Water.Heat x25.1.Water.Silica x25.1.Water.Gas _ hf52) rfl (Qbc (rnc (Qa2 rfl) (rnc (Qa2 rfl) (rnc (Qa2 rfl) rn0)))) (slc (Qae (rnc (Qa2 rfl) rn0)) (slc (Qae (rnc (.plain _ nll) (rnc (.plain _ nll) (rnc (.plain _ nll) (rnc (.plain _ nll) rn0))))) (slc (Qae (rnc (.plain _ (nld Qa9 _)) (rnc (.plain _ nll) (rnc (.plain _ nll) (rnc (.plain _ (nld Qaq _)) (rnc (.plain _ nll) (rnc (.plain _ nll) (rnc (.plain _ nll) (rnc (.plain _ nll) (rnc (.plain _ nll) rn0)))))))))) (slc (Qae (rnc (.plain _ (nld Qa9 _)) (rnc (.plain _ nll) (rnc (.plain _ nll) (rnc (.plain _ (nld Qaq _)) (rnc (.plain _ nll) (rnc (.plain _ nll) (rnc (.plain _ nll) (rnc (.plain _ nll) (rnc (.plain _ nll) (rnc (.plain _ nll) (rnc (.plain _ nll) (rnc (.plain _ nll) (rnc (.plain _ nll) (rnc (.plain _ nll) (rnc (.plain _ nll) (rnc (.plain _ nll) (rnc (.plain _ nll) (rnc (.plain _ nll) (rnc (.plain _ nll) (rnc (.plain _ nll) (rnc (.plain _ nll) (rnc (.plain _ nll) (rnc (.plain _ nll) (rnc (.plain _ nll) (rnc (.plain _ nll) (rnc (.plain _ nll) (rnc (.plain _ nll) (rnc (.plain _ nll) (rnc (.plain _ nll) (rnc (.plain _ nll) (rnc (.plain _ nll) rn0)))))))))))))))))))))))))))))))) Qag)))) (slc (Qae (rnc (Qb3 rfl) rn0)) (slc (Qae (rnc (.plain _ nll) (rnc (.plain _ nll) (rnc (.plain _ nll) (rnc (.plain _ nll) rn0))))) (slc (Qae (rnc (.plain _ (nld Qa9 _)) (rnc (.plain _ nll) (rnc (.plain _ nll) (rnc (.plain _ (nld Qaq _)) (rnc (.plain _ nll) (rnc (.plain _ nll) (rnc (.plain _ nll) (rnc (.plain _ nll) (rnc (.plain _ nll) rn0)))))))))) (slc (Qae (rnc (.plain _ (nld Qa9 _)) (rnc (.plain _ nll) (rnc (.plain _ nll) (rnc (.plain _ (nld Qaq _)) (rnc (.plain _ nll) (rnc (.plain _ nll) (rnc (.plain _ nll) (rnc (.plain _ nll) (rnc (.plain _ nll) (rnc (.plain _ nll) (rnc (.plain _ nll) (rnc (.plain _ nll) (rnc (.plain _ nll) (rnc (.plain _ nll) (rnc (.plain _ nll) (rnc (.plain _ nll) (rnc (.plain _ nll) (rnc (.plain _ nll) (rnc (.plain _ nll) (rnc (.plain _ nll) (rnc (.plain _ nll) (rnc (.plain _ nll) (rnc (.plain _ nll) (rnc (.plain _ nll) (rnc (.plain _ nll) (rnc (.plain _ nll) (rnc (.plain _ nll) (rnc (.plain _ nll) (rnc (.plain _ nll) (rnc (.plain _ nll) (rnc (.plain _ nll) rn0)))))))))))))))))))))))))))))))) Qag)))) (.plain _ nll) rfl rfl rfl, Qah (first := []) (cap := []) (vs := [I x53.1]) (σr := []) (σr' := []) (res' := (.tup [])) [] rfl Qkk (Qgs N x53.1 _ hf54) rfl (Qbc (rnc (.plain _ nll) rn0)) Qag Qag (.plain _ (NLt.tup _ nl0)) rfl rfl rfl, trivial⟩ ?_
        refine bln ?_
        refine thn ?_
        refine wx1 tbk [] trivial ?_
        refine thn ?_
        refine Qmp ?_
        refine wx tbk [] trivial ?_
        refine wsq ?_
        refine Qcy (by kernel_rfl) ?_
        refine Qam ?_
        refine thn ?_
        refine wsq ?_
        refine Qaj ?_
        refine wx tbk [(0, rp [(.tmp 57, .dat 1 [[Qii], [Qij], [Qih], [Qig]]), (.tmp 59, I 2)] (.dptr [Qih] 0))] ⟨aid rfl Tryz.underlying96 ti95 rfl rfl (by decide) rfl rfl, trivial⟩ ?_
        obtain ⟨x58, hf57, h⟩ := bno h
        obtain ⟨x60, hf59, h⟩ := bno h
        rcases x60 with x61 | x68
        ·replace h := Q26 h
         refine wx1 tbk [(1, ⟨[(.tmp 63, Qih)], [(6, (Ql1 p0 x48 x53 x25))], I x58.1, [(6, (Ql0 p0 x48 x53 x58 x25))], false⟩), (2, rp [fu 31, (.tmp 64, I x58.1)] (.tup []))] ⟨Qah (first := [.ref 6 31 0 0]) (cap := []) (vs := []) (σr := [(Ql1 p0 x48 x53 x25)]) (σr' := [(Ql0 p0 x48 x53 x58 x25)]) (res' := (I x58.1)) [6] rfl Q4f (Qi2 N p0.Table p0.Level p0.Unit.Inlet p0.Unit.Parts p0.Most p0.Target p0.Cycle.Out p0.Cycle.Yield p0.Cycle.Most x48.2.1 x53.2.1 0 0 0 x25.1.Scale x53.2.2.1 x53.2.2.2.1 x53.2.2.2.2.1 x53.2.2.2.2.2 0 0 0 0 x48.2.2.1 x48.2.2.2.1 x48.2.2.2.2.1 x48.2.2.2.2.2 x25.1.Water.Mass x25.1.Water.Heat x25.1.Water.Silica x25.1.Water.Gas _ hf57) rfl (Qbc (rnc (Qa2 rfl) rn0)) (slc (Qae (rnc (.plain _ (nld Qa9 _)) (rnc (.plain _ nll) (rnc (.plain _ nll) (rnc (.plain _ (nld Qaq _)) (rnc (.plain _ nll) (rnc (.plain _ nll) (rnc (.plain _ nll) (rnc (.plain _ nll) (rnc (.plain _ nll) (rnc (.plain _ nll) (rnc (.plain _ nll) (rnc (.plain _ nll) (rnc (.plain _ nll) (rnc (.plain _ nll) (rnc (.plain _ nll) (rnc (.plain _ nll) (rnc (.plain _ nll) (rnc (.plain _ nll) (rnc (.plain _ nll) (rnc (.plain _ nll) (rnc (.plain _ nll) (rnc (.plain _ nll) (rnc (.plain _ nll) (rnc (.plain _ nll) (rnc (.plain _ nll) (rnc (.plain _ nll) (rnc (.plain _ nll) (rnc (.plain _ nll) (rnc (.plain _ nll) (rnc (.plain _ nll) (rnc (.plain _ nll) rn0)))))))))))))))))))))))))))))))) Qag) (slc (Qae (rnc (.plain _ (nld Qa9 _)) (rnc (.plain _ nll) (rnc (.plain _ nll) (rnc (.plain _ (nld Qaq _)) (rnc (.plain _ nll) (rnc (.plain _ nll) (rnc (.plain _ nll) (rnc (.plain _ nll) (rnc (.plain _ nll) (rnc (.plain _ nll) (rnc (.plain _ nll) (rnc (.plain _ nll) (rnc (.plain _ nll) (rnc (.plain _ nll) (rnc (.plain _ nll) (rnc (.plain _ nll) (rnc (.plain _ nll) (rnc (.plain _ nll) (rnc (.plain _ nll) (rnc (.plain _ nll) (rnc (.plain _ nll) (rnc (.plain _ nll) (rnc (.plain _ nll) (rnc (.plain _ nll) (rnc (.plain _ nll) (rnc (.plain _ nll) (rnc (.plain _ nll) (rnc (.plain _ nll) (rnc (.plain _ nll) (rnc (.plain _ nll) (rnc (.plain _ nll) rn0)))))))))))))))))))))))))))))))) Qag) (.plain _ nll) rfl rfl rfl, Qah (first := []) (cap := []) (vs := [I x58.1]) (σr := []) (σr' := []) (res' := (.tup [])) [] rfl Qkk (Qgs N x58.1 _ hf59) rfl (Qbc (rnc (.plain _ nll) rn0)) Qag Qag (.plain _ (NLt.tup _ nl0)) rfl rfl rfl, trivial⟩ ?_
         refine bln ?_
         refine thn ?_
         refine wx1 tbk [] trivial ?_
         refine thn ?_
         refine Qmp ?_
         refine wx tbk [] trivial ?_
         refine wsq ?_
         refine Qcy (by kernel_rfl) ?_
         refine Qam ?_
         refine thn ?_
         refine wsq ?_
         refine Qaj ?_
         refine wx tbk [(0, rp [(.tmp 57, .dat 1 [[Qii], [Qij], [Qih], [Qig]]), (.tmp 59, I 3)] (.dptr [Qig] 0))] ⟨aid rfl Tryz.underlying96 ti95 rfl rfl (by decide) rfl rfl, trivial⟩ ?_
         obtain ⟨x63, hf62, h⟩ := bno h
         obtain ⟨x65, hf64, h⟩ := bno h
         rcases x65 with x66 | x67
         ·replace h := Q26 h
          refine wx1 tbk [(1, ⟨[(.tmp 63, Qig)], [(6, (Ql0 p0 x48 x53 x58 x25))], I x63.1, [(6, (Qqj p0 x48 x53 x58 x63 x25))], false⟩), (2, rp [fu 31, (.tmp 64, I x63.1)] (.tup []))] ⟨Qah (first := [.ref 6 31 0 0]) (cap := []) (vs := []) (σr := [(Ql0 p0 x48 x53 x58 x25)]) (σr' := [(Qqj p0 x48 x53 x58 x63 x25)]) (res' := (I x63.1)) [6] rfl Q4e (Qi3 N p0.Table p0.Level p0.Unit.Inlet p0.Unit.Parts p0.Most p0.Target p0.Cycle.Out p0.Cycle.Yield p0.Cycle.Most x48.2.1 x53.2.1 x58.2.1 0 0 x25.1.Scale x58.2.2.1 x58.2.2.2.1 x58.2.2.2.2.1 x58.2.2.2.2.2 0 0 0 0 x48.2.2.1 x48.2.2.2.1 x48.2.2.2.2.1 x48.2.2.2.2.2 x25.1.Water.Mass x25.1.Water.Heat x25.1.Water.Silica x25.1.Water.Gas _ hf62) rfl (Qbc (rnc (Qa2 rfl) rn0)) (slc (Qae (rnc (.plain _ (nld Qa9 _)) (rnc (.plain _ nll) (rnc (.plain _ nll) (rnc (.plain _ (nld Qaq _)) (rnc (.plain _ nll) (rnc (.plain _ nll) (rnc (.plain _ nll) (rnc (.plain _ nll) (rnc (.plain _ nll) (rnc (.plain _ nll) (rnc (.plain _ nll) (rnc (.plain _ nll) (rnc (.plain _ nll) (rnc (.plain _ nll) (rnc (.plain _ nll) (rnc (.plain _ nll) (rnc (.plain _ nll) (rnc (.plain _ nll) (rnc (.plain _ nll) (rnc (.plain _ nll) (rnc (.plain _ nll) (rnc (.plain _ nll) (rnc (.plain _ nll) (rnc (.plain _ nll) (rnc (.plain _ nll) (rnc (.plain _ nll) (rnc (.plain _ nll) (rnc (.plain _ nll) (rnc (.plain _ nll) (rnc (.plain _ nll) (rnc (.plain _ nll) rn0)))))))))))))))))))))))))))))))) Qag) (slc (Qae (rnc (.plain _ (nld Qa9 _)) (rnc (.plain _ nll) (rnc (.plain _ nll) (rnc (.plain _ (nld Qaq _)) (rnc (.plain _ nll) (rnc (.plain _ nll) (rnc (.plain _ nll) (rnc (.plain _ nll) (rnc (.plain _ nll) (rnc (.plain _ nll) (rnc (.plain _ nll) (rnc (.plain _ nll) (rnc (.plain _ nll) (rnc (.plain _ nll) (rnc (.plain _ nll) (rnc (.plain _ nll) (rnc (.plain _ nll) (rnc (.plain _ nll) (rnc (.plain _ nll) (rnc (.plain _ nll) (rnc (.plain _ nll) (rnc (.plain _ nll) (rnc (.plain _ nll) (rnc (.plain _ nll) (rnc (.plain _ nll) (rnc (.plain _ nll) (rnc (.plain _ nll) (rnc (.plain _ nll) (rnc (.plain _ nll) (rnc (.plain _ nll) (rnc (.plain _ nll) rn0)))))))))))))))))))))))))))))))) Qag) (.plain _ nll) rfl rfl rfl, Qah (first := []) (cap := []) (vs := [I x63.1]) (σr := []) (σr' := []) (res' := (.tup [])) [] rfl Qkk (Qgs N x63.1 _ hf64) rfl (Qbc (rnc (.plain _ nll) rn0)) Qag Qag (.plain _ (NLt.tup _ nl0)) rfl rfl rfl, trivial⟩ ?_
          refine bln ?_
          refine thn ?_
          refine wx1 tbk [] trivial ?_
          refine thn ?_
          refine Qmp ?_
          refine wx tbk [] trivial ?_
          refine wsq ?_
          refine Qfa (by kernel_rfl) ?_
          refine Qbr ?_
          refine Qay ?_
          refine Qay ?_
          refine Qbq rfl ?_
          refine thn ?_
          exact ⟨(x48.2.1, x53.2.1, x58.2.1, x63.2.1, x63.2.2.1, x58.2.2.1, x58.2.2.2.1, x58.2.2.2.2.1, x58.2.2.2.2.2, x63.2.2.2.1, x63.2.2.2.2.1, x63.2.2.2.2.2.1, x63.2.2.2.2.2.2, x48.2.2.1, x48.2.2.2.1, x48.2.2.2.2.1, x48.2.2.2.2.2), h, (mto (n := 71) [(6, .ref 3 14 0 0), (7, .ref 4 1 0 0), (9, .ref 7 1 0 0)] [0, 1, 2, 3, 4, 7, 6] [(Qnk p0), (Q8b p1), (Qnj p2), Qn9, (.own 1 [[I x25.2]]), Qkh, (Qqj p0 x48 x53 x58 x63 x25)] hφ1 (pc (.rn (rqr rfl)) (pc (.rn (rqr rfl)) (pc (.rn (rqr rfl)) pn))) (qc (spb (lc (.rn (.plain _ (nld Qa9 _))) (lc rwl (lc rwl (lc (.rn (.plain _ (nld Qaq _))) (lc rwl (lc rwl (lc rwl (lc rwl (lc rwl ln)))))))))) (qc (spb (lc rwl (lc rwl (lc rwl (lc rwl ln))))) (qc (spb (lc rwl (lc rwl (lc rwl (lc rwl ln))))) (qc (spb (lc rwl (lc rwl (lc rwl (lc rwl (lc rwl (lc rwl (lc rwl (lc rwl (lc rwl (lc rwl (lc rwl (lc rwl (lc rwl (lc rwl ln))))))))))))))) (qc (spb (lc rwl ln)) (qc (spb (lc (.rn (rqr rfl)) ln)) (qc (spb (lc (.rn (.plain _ (nld Qa9 _))) (lc rwl (lc rwl (lc (.rn (.plain _ (nld Qaq _))) (lc rwl (lc rwl (lc rwl (lc rwl (lc rwl (lc rwl (lc rwl (lc rwl (lc rwl (lc rwl (lc rwl (lc rwl (lc rwl (lc rwl (lc rwl (lc rwl (lc rwl (lc rwl (lc rwl (lc rwl (lc rwl (lc rwl (lc rwl (lc rwl (lc rwl (lc rwl (lc rwl ln)))))))))))))))))))))))))))))))) qn))))))))⟩
         ·replace h := Q25 h
          refine Qm0 2 [mv 12 Qig, ⟨[(.tmp 63, Qig)], [(6, (Ql0 p0 x48 x53 x58 x25))], I x63.1, [(6, (Qqj p0 x48 x53 x58 x63 x25))], false⟩, ⟨[fu 31, (.tmp 64, I x63.1)], [], .any, [], false⟩] (by exact ⟨by kernel_rfl, by kernel_rfl⟩) rfl (by kernel_rfl) rfl (Qj1 (first := []) (cap := []) (vs := [I x63.1]) (σr := []) [] rfl Qkk (Qgr N x63.1 _ hf64) rfl (Qbc (rnc (.plain _ nll) rn0)) Qag rfl rfl rfl) (⟨fun _ _ => amv rfl, fun _ _ => Qah (first := [.ref 6 31 0 0]) (cap := []) (vs := []) (σr := [(Ql0 p0 x48 x53 x58 x25)]) (σr' := [(Qqj p0 x48 x53 x58 x63 x25)]) (res' := (I x63.1)) [6] rfl Q4e (Qi3 N p0.Table p0.Level p0.Unit.Inlet p0.Unit.Parts p0.Most p0.Target p0.Cycle.Out p0.Cycle.Yield p0.Cycle.Most x48.2.1 x53.2.1 x58.2.1 0 0 x25.1.Scale x58.2.2.1 x58.2.2.2.1 x58.2.2.2.2.1 x58.2.2.2.2.2 0 0 0 0 x48.2.2.1 x48.2.2.2.1 x48.2.2.2.2.1 x48.2.2.2.2.2 x25.1.Water.Mass x25.1.Water.Heat x25.1.Water.Silica x25.1.Water.Gas _ hf62) rfl (Qbc (rnc (Qa2 rfl) rn0)) (slc (Qae (rnc (.plain _ (nld Qa9 _)) (rnc (.plain _ nll) (rnc (.plain _ nll) (rnc (.plain _ (nld Qaq _)) (rnc (.plain _ nll) (rnc (.plain _ nll) (rnc (.plain _ nll) (rnc (.plain _ nll) (rnc (.plain _ nll) (rnc (.plain _ nll) (rnc (.plain _ nll) (rnc (.plain _ nll) (rnc (.plain _ nll) (rnc (.plain _ nll) (rnc (.plain _ nll) (rnc (.plain _ nll) (rnc (.plain _ nll) (rnc (.plain _ nll) (rnc (.plain _ nll) (rnc (.plain _ nll) (rnc (.plain _ nll) (rnc (.plain _ nll) (rnc (.plain _ nll) (rnc (.plain _ nll) (rnc (.plain _ nll) (rnc (.plain _ nll) (rnc (.plain _ nll) (rnc (.plain _ nll) (rnc (.plain _ nll) (rnc (.plain _ nll) (rnc (.plain _ nll) rn0)))))))))))))))))))))))))))))))) Qag) (slc (Qae (rnc (.plain _ (nld Qa9 _)) (rnc (.plain _ nll) (rnc (.plain _ nll) (rnc (.plain _ (nld Qaq _)) (rnc (.plain _ nll) (rnc (.plain _ nll) (rnc (.plain _ nll) (rnc (.plain _ nll) (rnc (.plain _ nll) (rnc (.plain _ nll) (rnc (.plain _ nll) (rnc (.plain _ nll) (rnc (.plain _ nll) (rnc (.plain _ nll) (rnc (.plain _ nll) (rnc (.plain _ nll) (rnc (.plain _ nll) (rnc (.plain _ nll) (rnc (.plain _ nll) (rnc (.plain _ nll) (rnc (.plain _ nll) (rnc (.plain _ nll) (rnc (.plain _ nll) (rnc (.plain _ nll) (rnc (.plain _ nll) (rnc (.plain _ nll) (rnc (.plain _ nll) (rnc (.plain _ nll) (rnc (.plain _ nll) (rnc (.plain _ nll) (rnc (.plain _ nll) rn0)))))))))))))))))))))))))))))))) Qag) (.plain _ nll) rfl rfl rfl, fun _ h => absurd rfl h, trivial⟩) ?_
          obtain rfl := osi h
          exact ⟨_, [[I 0, I 0, I 0, I 0, I 0, I 0, I 0, I 0, I 0, I 0, I 0, I 0, I 0, I 0], [I x67]], rfl, (Qe9 x67), (Qip (nlc nll (nlc nll (nlc nll (nlc nll (nlc nll (nlc nll (nlc nll (nlc nll (nlc nll (nlc nll (nlc nll (nlc nll (nlc nll (nlc nll nl0)))))))))))))) (Qip (nlc nll nl0) Qqu)), by kernel_rfl, _, (mto (n := 71) (l' := [(6, .ref 0 14 0 0), (7, .ref 1 1 0 0)]) (own' := [Qnt, (.own 1 [[I x67]])]) [(6, .ref 3 14 0 0), (7, .ref 4 1 0 0)] [3, 4] [Qn9, (.own 1 [[I x67]])] hφ0 (pc (.rn (rqr rfl)) (pc (.rn (rqr rfl)) pn)) (qc (spb (lc rwl (lc rwl (lc rwl (lc rwl (lc rwl (lc rwl (lc rwl (lc rwl (lc rwl (lc rwl (lc rwl (lc rwl (lc rwl (lc rwl ln))))))))))))))) (qc (spb (lc rwl ln)) qn))), ⟨⟨[Qns, I x67], ⟨Qa0 (n := 0) (m := 14) (j := 0) (i := 0) (xs := [[(I ((⟨0, 0, 0, 0, 0, 0, (⟨0, 0, 0, 0⟩ : GStream), (⟨0, 0, 0, 0⟩ : GStream)⟩ : GAccount).Turbine)), (I ((⟨0, 0, 0, 0, 0, 0, (⟨0, 0, 0, 0⟩ : GStream), (⟨0, 0, 0, 0⟩ : GStream)⟩ : GAccount).Vent)), (I ((⟨0, 0, 0, 0, 0, 0, (⟨0, 0, 0, 0⟩ : GStream), (⟨0, 0, 0, 0⟩ : GStream)⟩ : GAccount).Air)), (I ((⟨0, 0, 0, 0, 0, 0, (⟨0, 0, 0, 0⟩ : GStream), (⟨0, 0, 0, 0⟩ : GStream)⟩ : GAccount).Work)), (I ((⟨0, 0, 0, 0, 0, 0, (⟨0, 0, 0, 0⟩ : GStream), (⟨0, 0, 0, 0⟩ : GStream)⟩ : GAccount).Sink)), (I ((⟨0, 0, 0, 0, 0, 0, (⟨0, 0, 0, 0⟩ : GStream), (⟨0, 0, 0, 0⟩ : GStream)⟩ : GAccount).Scale)), (I ((⟨0, 0, 0, 0, 0, 0, (⟨0, 0, 0, 0⟩ : GStream), (⟨0, 0, 0, 0⟩ : GStream)⟩ : GAccount).Hot.Mass)), (I ((⟨0, 0, 0, 0, 0, 0, (⟨0, 0, 0, 0⟩ : GStream), (⟨0, 0, 0, 0⟩ : GStream)⟩ : GAccount).Hot.Heat)), (I ((⟨0, 0, 0, 0, 0, 0, (⟨0, 0, 0, 0⟩ : GStream), (⟨0, 0, 0, 0⟩ : GStream)⟩ : GAccount).Hot.Silica)), (I ((⟨0, 0, 0, 0, 0, 0, (⟨0, 0, 0, 0⟩ : GStream), (⟨0, 0, 0, 0⟩ : GStream)⟩ : GAccount).Hot.Gas)), (I ((⟨0, 0, 0, 0, 0, 0, (⟨0, 0, 0, 0⟩ : GStream), (⟨0, 0, 0, 0⟩ : GStream)⟩ : GAccount).Brine.Mass)), (I ((⟨0, 0, 0, 0, 0, 0, (⟨0, 0, 0, 0⟩ : GStream), (⟨0, 0, 0, 0⟩ : GStream)⟩ : GAccount).Brine.Heat)), (I ((⟨0, 0, 0, 0, 0, 0, (⟨0, 0, 0, 0⟩ : GStream), (⟨0, 0, 0, 0⟩ : GStream)⟩ : GAccount).Brine.Silica)), (I ((⟨0, 0, 0, 0, 0, 0, (⟨0, 0, 0, 0⟩ : GStream), (⟨0, 0, 0, 0⟩ : GStream)⟩ : GAccount).Brine.Gas))]]) (by kernel_rfl) (by kernel_rfl) ti37 (by decide) rfl (nle rfl) rfl, Qa0 (n := 1) (m := 1) (j := 0) (i := 0) (xs := [[I x67]]) (by kernel_rfl) (by kernel_rfl) ti38 (by decide) rfl (nle rfl) rfl, trivial⟩, rfl⟩, (NLt.tup _ (nlc (NLt.agg _ (nlc nll (nlc nll (nlc nll (nlc nll (nlc nll (nlc nll (nlc nll (nlc nll (nlc nll (nlc nll (nlc nll (nlc nll (nlc nll (nlc nll nl0))))))))))))))) (nlc nll nl0))), Nat.le_refl _, fun n hn => absurd hn (Nat.not_lt_zero n)⟩⟩
        ·replace h := Q25 h
         refine Qm0 2 [mv 12 Qih, ⟨[(.tmp 63, Qih)], [(6, (Ql1 p0 x48 x53 x25))], I x58.1, [(6, (Ql0 p0 x48 x53 x58 x25))], false⟩, ⟨[fu 31, (.tmp 64, I x58.1)], [], .any, [], false⟩] (by exact ⟨by kernel_rfl, by kernel_rfl⟩) rfl (by kernel_rfl) rfl (Qj1 (first := []) (cap := []) (vs := [I x58.1]) (σr := []) [] rfl Qkk (Qgr N x58.1 _ hf59) rfl (Qbc (rnc (.plain _ nll) rn0)) Qag rfl rfl rfl) (⟨fun _ _ => amv rfl, fun _ _ => Qah (first := [.ref 6 31 0 0]) (cap := []) (vs := []) (σr := [(Ql1 p0 x48 x53 x25)]) (σr' := [(Ql0 p0 x48 x53 x58 x25)]) (res' := (I x58.1)) [6] rfl Q4f (Qi2 N p0.Table p0.Level p0.Unit.Inlet p0.Unit.Parts p0.Most p0.Target p0.Cycle.Out p0.Cycle.Yield p0.Cycle.Most x48.2.1 x53.2.1 0 0 0 x25.1.Scale x53.2.2.1 x53.2.2.2.1 x53.2.2.2.2.1 x53.2.2.2.2.2 0 0 0 0 x48.2.2.1 x48.2.2.2.1 x48.2.2.2.2.1 x48.2.2.2.2.2 x25.1.Water.Mass x25.1.Water.Heat x25.1.Water.Silica x25.1.Water.Gas _ hf57) rfl (Qbc (rnc (Qa2 rfl) rn0)) (slc (Qae (rnc (.plain _ (nld Qa9 _)) (rnc (.plain _ nll) (rnc (.plain _ nll) (rnc (.plain _ (nld Qaq _)) (rnc (.plain _ nll) (rnc (.plain _ nll) (rnc (.plain _ nll) (rnc (.plain _ nll) (rnc (.plain _ nll) (rnc (.plain _ nll) (rnc (.plain _ nll) (rnc (.plain _ nll) (rnc (.plain _ nll) (rnc (.plain _ nll) (rnc (.plain _ nll) (rnc (.plain _ nll) (rnc (.plain _ nll) (rnc (.plain _ nll) (rnc (.plain _ nll) (rnc (.plain _ nll) (rnc (.plain _ nll) (rnc (.plain _ nll) (rnc (.plain _ nll) (rnc (.plain _ nll) (rnc (.plain _ nll) (rnc (.plain _ nll) (rnc (.plain _ nll) (rnc (.plain _ nll) (rnc (.plain _ nll) (rnc (.plain _ nll) (rnc (.plain _ nll) rn0)))))))))))))))))))))))))))))))) Qag) (slc (Qae (rnc (.plain _ (nld Qa9 _)) (rnc (.plain _ nll) (rnc (.plain _ nll) (rnc (.plain _ (nld Qaq _)) (rnc (.plain _ nll) (rnc (.plain _ nll) (rnc (.plain _ nll) (rnc (.plain _ nll) (rnc (.plain _ nll) (rnc (.plain _ nll) (rnc (.plain _ nll) (rnc (.plain _ nll) (rnc (.plain _ nll) (rnc (.plain _ nll) (rnc (.plain _ nll) (rnc (.plain _ nll) (rnc (.plain _ nll) (rnc (.plain _ nll) (rnc (.plain _ nll) (rnc (.plain _ nll) (rnc (.plain _ nll) (rnc (.plain _ nll) (rnc (.plain _ nll) (rnc (.plain _ nll) (rnc (.plain _ nll) (rnc (.plain _ nll) (rnc (.plain _ nll) (rnc (.plain _ nll) (rnc (.plain _ nll) (rnc (.plain _ nll) (rnc (.plain _ nll) rn0)))))))))))))))))))))))))))))))) Qag) (.plain _ nll) rfl rfl rfl, fun _ h => absurd rfl h, trivial⟩) ?_
         obtain rfl := osi h
         exact ⟨_, [[I 0, I 0, I 0, I 0, I 0, I 0, I 0, I 0, I 0, I 0, I 0, I 0, I 0, I 0], [I x68]], rfl, (Qe9 x68), (Qip (nlc nll (nlc nll (nlc nll (nlc nll (nlc nll (nlc nll (nlc nll (nlc nll (nlc nll (nlc nll (nlc nll (nlc nll (nlc nll (nlc nll nl0)))))))))))))) (Qip (nlc nll nl0) Qqu)), by kernel_rfl, _, (mto (n := 71) (l' := [(6, .ref 0 14 0 0), (7, .ref 1 1 0 0)]) (own' := [Qnt, (.own 1 [[I x68]])]) [(6, .ref 3 14 0 0), (7, .ref 4 1 0 0)] [3, 4] [Qn9, (.own 1 [[I x68]])] hφ0 (pc (.rn (rqr rfl)) (pc (.rn (rqr rfl)) pn)) (qc (spb (lc rwl (lc rwl (lc rwl (lc rwl (lc rwl (lc rwl (lc rwl (lc rwl (lc rwl (lc rwl (lc rwl (lc rwl (lc rwl (lc rwl ln))))))))))))))) (qc (spb (lc rwl ln)) qn))), ⟨⟨[Qns, I x68], ⟨Qa0 (n := 0) (m := 14) (j := 0) (i := 0) (xs := [[(I ((⟨0, 0, 0, 0, 0, 0, (⟨0, 0, 0, 0⟩ : GStream), (⟨0, 0, 0, 0⟩ : GStream)⟩ : GAccount).Turbine)), (I ((⟨0, 0, 0, 0, 0, 0, (⟨0, 0, 0, 0⟩ : GStream), (⟨0, 0, 0, 0⟩ : GStream)⟩ : GAccount).Vent)), (I ((⟨0, 0, 0, 0, 0, 0, (⟨0, 0, 0, 0⟩ : GStream), (⟨0, 0, 0, 0⟩ : GStream)⟩ : GAccount).Air)), (I ((⟨0, 0, 0, 0, 0, 0, (⟨0, 0, 0, 0⟩ : GStream), (⟨0, 0, 0, 0⟩ : GStream)⟩ : GAccount).Work)), (I ((⟨0, 0, 0, 0, 0, 0, (⟨0, 0, 0, 0⟩ : GStream), (⟨0, 0, 0, 0⟩ : GStream)⟩ : GAccount).Sink)), (I ((⟨0, 0, 0, 0, 0, 0, (⟨0, 0, 0, 0⟩ : GStream), (⟨0, 0, 0, 0⟩ : GStream)⟩ : GAccount).Scale)), (I ((⟨0, 0, 0, 0, 0, 0, (⟨0, 0, 0, 0⟩ : GStream), (⟨0, 0, 0, 0⟩ : GStream)⟩ : GAccount).Hot.Mass)), (I ((⟨0, 0, 0, 0, 0, 0, (⟨0, 0, 0, 0⟩ : GStream), (⟨0, 0, 0, 0⟩ : GStream)⟩ : GAccount).Hot.Heat)), (I ((⟨0, 0, 0, 0, 0, 0, (⟨0, 0, 0, 0⟩ : GStream), (⟨0, 0, 0, 0⟩ : GStream)⟩ : GAccount).Hot.Silica)), (I ((⟨0, 0, 0, 0, 0, 0, (⟨0, 0, 0, 0⟩ : GStream), (⟨0, 0, 0, 0⟩ : GStream)⟩ : GAccount).Hot.Gas)), (I ((⟨0, 0, 0, 0, 0, 0, (⟨0, 0, 0, 0⟩ : GStream), (⟨0, 0, 0, 0⟩ : GStream)⟩ : GAccount).Brine.Mass)), (I ((⟨0, 0, 0, 0, 0, 0, (⟨0, 0, 0, 0⟩ : GStream), (⟨0, 0, 0, 0⟩ : GStream)⟩ : GAccount).Brine.Heat)), (I ((⟨0, 0, 0, 0, 0, 0, (⟨0, 0, 0, 0⟩ : GStream), (⟨0, 0, 0, 0⟩ : GStream)⟩ : GAccount).Brine.Silica)), (I ((⟨0, 0, 0, 0, 0, 0, (⟨0, 0, 0, 0⟩ : GStream), (⟨0, 0, 0, 0⟩ : GStream)⟩ : GAccount).Brine.Gas))]]) (by kernel_rfl) (by kernel_rfl) ti37 (by decide) rfl (nle rfl) rfl, Qa0 (n := 1) (m := 1) (j := 0) (i := 0) (xs := [[I x68]]) (by kernel_rfl) (by kernel_rfl) ti38 (by decide) rfl (nle rfl) rfl, trivial⟩, rfl⟩, (NLt.tup _ (nlc (NLt.agg _ (nlc nll (nlc nll (nlc nll (nlc nll (nlc nll (nlc nll (nlc nll (nlc nll (nlc nll (nlc nll (nlc nll (nlc nll (nlc nll (nlc nll nl0))))))))))))))) (nlc nll nl0))), Nat.le_refl _, fun n hn => absurd hn (Nat.not_lt_zero n)⟩⟩
       ·replace h := Q25 h
        refine Qm0 2 [mv 12 Qij, ⟨[(.tmp 63, Qij)], [(7, Qkh), (2, (Qnj p2)), (0, (Qnk p0)), (6, (Ql2 p0 x48 x25))], I x53.1, [(7, Qkh), (2, (Qnj p2)), (0, (Qnk p0)), (6, (Ql1 p0 x48 x53 x25))], false⟩, ⟨[fu 31, (.tmp 64, I x53.1)], [], .any, [], false⟩] (by exact ⟨by kernel_rfl, by kernel_rfl⟩) rfl (by kernel_rfl) rfl (Qj1 (first := []) (cap := []) (vs := [I x53.1]) (σr := []) [] rfl Qkk (Qgr N x53.1 _ hf54) rfl (Qbc (rnc (.plain _ nll) rn0)) Qag rfl rfl rfl) (⟨fun _ _ => amv rfl, fun _ _ => Qah (first := []) (cap := [.ref 7 1 0 0, .ref 2 4 0 0, .ref 0 9 0 0]) (vs := []) (σr := [Qkh, (Qnj p2), (Qnk p0), (Ql2 p0 x48 x25)]) (σr' := [Qkh, (Qnj p2), (Qnk p0), (Ql1 p0 x48 x53 x25)]) (res' := (I x53.1)) [7, 2, 0, 6] rfl Q4h (Qjj N p2.Mass p2.Heat p2.Silica p2.Gas p0.Table p0.Level p0.Unit.Inlet p0.Unit.Parts p0.Most p0.Target p0.Cycle.Out p0.Cycle.Yield p0.Cycle.Most p0.Table p0.Level p0.Unit.Inlet p0.Unit.Parts p0.Most p0.Target p0.Cycle.Out p0.Cycle.Yield p0.Cycle.Most x48.2.1 0 0 0 0 x25.1.Scale 0 0 0 0 0 0 0 0 x48.2.2.1 x48.2.2.2.1 x48.2.2.2.2.1 x48.2.2.2.2.2 x25.1.Water.Mass x25.1.Water.Heat x25.1.Water.Silica x25.1.Water.Gas _ hf52) rfl (Qbc (rnc (Qa2 rfl) (rnc (Qa2 rfl) (rnc (Qa2 rfl) rn0)))) (slc (Qae (rnc (Qa2 rfl) rn0)) (slc (Qae (rnc (.plain _ nll) (rnc (.plain _ nll) (rnc (.plain _ nll) (rnc (.plain _ nll) rn0))))) (slc (Qae (rnc (.plain _ (nld Qa9 _)) (rnc (.plain _ nll) (rnc (.plain _ nll) (rnc (.plain _ (nld Qaq _)) (rnc (.plain _ nll) (rnc (.plain _ nll) (rnc (.plain _ nll) (rnc (.plain _ nll) (rnc (.plain _ nll) rn0)))))))))) (slc (Qae (rnc (.plain _ (nld Qa9 _)) (rnc (.plain _ nll) (rnc (.plain _ nll) (rnc (.plain _ (nld Qaq _)) (rnc (.plain _ nll) (rnc (.plain _ nll) (rnc (.plain _ nll) (rnc (.plain _ nll) (rnc (.plain _ nll) (rnc (.plain _ nll) (rnc (.plain _ nll) (rnc (.plain _ nll) (rnc (.plain _ nll) (rnc (.plain _ nll) (rnc (.plain _ nll) (rnc (.plain _ nll) (rnc (.plain _ nll) (rnc (.plain _ nll) (rnc (.plain _ nll) (rnc (.plain _ nll) (rnc (.plain _ nll) (rnc (.plain _ nll) (rnc (.plain _ nll) (rnc (.plain _ nll) (rnc (.plain _ nll) (rnc (.plain _ nll) (rnc (.plain _ nll) (rnc (.plain _ nll) (rnc (.plain _ nll) (rnc (.plain _ nll) (rnc (.plain _ nll) rn0)))))))))))))))))))))))))))))))) Qag)))) (slc (Qae (rnc (Qb3 rfl) rn0)) (slc (Qae (rnc (.plain _ nll) (rnc (.plain _ nll) (rnc (.plain _ nll) (rnc (.plain _ nll) rn0))))) (slc (Qae (rnc (.plain _ (nld Qa9 _)) (rnc (.plain _ nll) (rnc (.plain _ nll) (rnc (.plain _ (nld Qaq _)) (rnc (.plain _ nll) (rnc (.plain _ nll) (rnc (.plain _ nll) (rnc (.plain _ nll) (rnc (.plain _ nll) rn0)))))))))) (slc (Qae (rnc (.plain _ (nld Qa9 _)) (rnc (.plain _ nll) (rnc (.plain _ nll) (rnc (.plain _ (nld Qaq _)) (rnc (.plain _ nll) (rnc (.plain _ nll) (rnc (.plain _ nll) (rnc (.plain _ nll) (rnc (.plain _ nll) (rnc (.plain _ nll) (rnc (.plain _ nll) (rnc (.plain _ nll) (rnc (.plain _ nll) (rnc (.plain _ nll) (rnc (.plain _ nll) (rnc (.plain _ nll) (rnc (.plain _ nll) (rnc (.plain _ nll) (rnc (.plain _ nll) (rnc (.plain _ nll) (rnc (.plain _ nll) (rnc (.plain _ nll) (rnc (.plain _ nll) (rnc (.plain _ nll) (rnc (.plain _ nll) (rnc (.plain _ nll) (rnc (.plain _ nll) (rnc (.plain _ nll) (rnc (.plain _ nll) (rnc (.plain _ nll) (rnc (.plain _ nll) rn0)))))))))))))))))))))))))))))))) Qag)))) (.plain _ nll) rfl rfl rfl, fun _ h => absurd rfl h, trivial⟩) ?_
        obtain rfl := osi h
        exact ⟨_, [[I 0, I 0, I 0, I 0, I 0, I 0, I 0, I 0, I 0, I 0, I 0, I 0, I 0, I 0], [I x69]], rfl, (Qe9 x69), (Qip (nlc nll (nlc nll (nlc nll (nlc nll (nlc nll (nlc nll (nlc nll (nlc nll (nlc nll (nlc nll (nlc nll (nlc nll (nlc nll (nlc nll nl0)))))))))))))) (Qip (nlc nll nl0) Qqu)), by kernel_rfl, _, (mto (n := 71) (l' := [(6, .ref 0 14 0 0), (7, .ref 1 1 0 0)]) (own' := [Qnt, (.own 1 [[I x69]])]) [(6, .ref 3 14 0 0), (7, .ref 4 1 0 0)] [3, 4] [Qn9, (.own 1 [[I x69]])] hφ0 (pc (.rn (rqr rfl)) (pc (.rn (rqr rfl)) pn)) (qc (spb (lc rwl (lc rwl (lc rwl (lc rwl (lc rwl (lc rwl (lc rwl (lc rwl (lc rwl (lc rwl (lc rwl (lc rwl (lc rwl (lc rwl ln))))))))))))))) (qc (spb (lc rwl ln)) qn))), ⟨⟨[Qns, I x69], ⟨Qa0 (n := 0) (m := 14) (j := 0) (i := 0) (xs := [[(I ((⟨0, 0, 0, 0, 0, 0, (⟨0, 0, 0, 0⟩ : GStream), (⟨0, 0, 0, 0⟩ : GStream)⟩ : GAccount).Turbine)), (I ((⟨0, 0, 0, 0, 0, 0, (⟨0, 0, 0, 0⟩ : GStream), (⟨0, 0, 0, 0⟩ : GStream)⟩ : GAccount).Vent)), (I ((⟨0, 0, 0, 0, 0, 0, (⟨0, 0, 0, 0⟩ : GStream), (⟨0, 0, 0, 0⟩ : GStream)⟩ : GAccount).Air)), (I ((⟨0, 0, 0, 0, 0, 0, (⟨0, 0, 0, 0⟩ : GStream), (⟨0, 0, 0, 0⟩ : GStream)⟩ : GAccount).Work)), (I ((⟨0, 0, 0, 0, 0, 0, (⟨0, 0, 0, 0⟩ : GStream), (⟨0, 0, 0, 0⟩ : GStream)⟩ : GAccount).Sink)), (I ((⟨0, 0, 0, 0, 0, 0, (⟨0, 0, 0, 0⟩ : GStream), (⟨0, 0, 0, 0⟩ : GStream)⟩ : GAccount).Scale)), (I ((⟨0, 0, 0, 0, 0, 0, (⟨0, 0, 0, 0⟩ : GStream), (⟨0, 0, 0, 0⟩ : GStream)⟩ : GAccount).Hot.Mass)), (I ((⟨0, 0, 0, 0, 0, 0, (⟨0, 0, 0, 0⟩ : GStream), (⟨0, 0, 0, 0⟩ : GStream)⟩ : GAccount).Hot.Heat)), (I ((⟨0, 0, 0, 0, 0, 0, (⟨0, 0, 0, 0⟩ : GStream), (⟨0, 0, 0, 0⟩ : GStream)⟩ : GAccount).Hot.Silica)), (I ((⟨0, 0, 0, 0, 0, 0, (⟨0, 0, 0, 0⟩ : GStream), (⟨0, 0, 0, 0⟩ : GStream)⟩ : GAccount).Hot.Gas)), (I ((⟨0, 0, 0, 0, 0, 0, (⟨0, 0, 0, 0⟩ : GStream), (⟨0, 0, 0, 0⟩ : GStream)⟩ : GAccount).Brine.Mass)), (I ((⟨0, 0, 0, 0, 0, 0, (⟨0, 0, 0, 0⟩ : GStream), (⟨0, 0, 0, 0⟩ : GStream)⟩ : GAccount).Brine.Heat)), (I ((⟨0, 0, 0, 0, 0, 0, (⟨0, 0, 0, 0⟩ : GStream), (⟨0, 0, 0, 0⟩ : GStream)⟩ : GAccount).Brine.Silica)), (I ((⟨0, 0, 0, 0, 0, 0, (⟨0, 0, 0, 0⟩ : GStream), (⟨0, 0, 0, 0⟩ : GStream)⟩ : GAccount).Brine.Gas))]]) (by kernel_rfl) (by kernel_rfl) ti37 (by decide) rfl (nle rfl) rfl, Qa0 (n := 1) (m := 1) (j := 0) (i := 0) (xs := [[I x69]]) (by kernel_rfl) (by kernel_rfl) ti38 (by decide) rfl (nle rfl) rfl, trivial⟩, rfl⟩, (NLt.tup _ (nlc (NLt.agg _ (nlc nll (nlc nll (nlc nll (nlc nll (nlc nll (nlc nll (nlc nll (nlc nll (nlc nll (nlc nll (nlc nll (nlc nll (nlc nll (nlc nll nl0))))))))))))))) (nlc nll nl0))), Nat.le_refl _, fun n hn => absurd hn (Nat.not_lt_zero n)⟩⟩
      ·replace h := Q25 h
       refine Qm0 2 [mv 12 Qii, ⟨[(.tmp 63, Qii)], [(6, (Qs8 p0 x25))], I x48.1, [(6, (Ql2 p0 x48 x25))], false⟩, ⟨[fu 31, (.tmp 64, I x48.1)], [], .any, [], false⟩] (by exact ⟨by kernel_rfl, by kernel_rfl⟩) rfl (by kernel_rfl) rfl (Qj1 (first := []) (cap := []) (vs := [I x48.1]) (σr := []) [] rfl Qkk (Qgr N x48.1 _ hf49) rfl (Qbc (rnc (.plain _ nll) rn0)) Qag rfl rfl rfl) (⟨fun _ _ => amv rfl, fun _ _ => Qah (first := [.ref 6 31 0 0]) (cap := []) (vs := []) (σr := [(Qs8 p0 x25)]) (σr' := [(Ql2 p0 x48 x25)]) (res' := (I x48.1)) [6] rfl Q4g (Qh3 N p0.Table p0.Level p0.Unit.Inlet p0.Unit.Parts p0.Most p0.Target p0.Cycle.Out p0.Cycle.Yield p0.Cycle.Most 0 0 0 0 0 x25.1.Scale 0 0 0 0 0 0 0 0 x25.1.Steam.Mass x25.1.Steam.Heat x25.1.Steam.Silica x25.1.Steam.Gas x25.1.Water.Mass x25.1.Water.Heat x25.1.Water.Silica x25.1.Water.Gas _ hf47) rfl (Qbc (rnc (Qa2 rfl) rn0)) (slc (Qae (rnc (.plain _ (nld Qa9 _)) (rnc (.plain _ nll) (rnc (.plain _ nll) (rnc (.plain _ (nld Qaq _)) (rnc (.plain _ nll) (rnc (.plain _ nll) (rnc (.plain _ nll) (rnc (.plain _ nll) (rnc (.plain _ nll) (rnc (.plain _ nll) (rnc (.plain _ nll) (rnc (.plain _ nll) (rnc (.plain _ nll) (rnc (.plain _ nll) (rnc (.plain _ nll) (rnc (.plain _ nll) (rnc (.plain _ nll) (rnc (.plain _ nll) (rnc (.plain _ nll) (rnc (.plain _ nll) (rnc (.plain _ nll) (rnc (.plain _ nll) (rnc (.plain _ nll) (rnc (.plain _ nll) (rnc (.plain _ nll) (rnc (.plain _ nll) (rnc (.plain _ nll) (rnc (.plain _ nll) (rnc (.plain _ nll) (rnc (.plain _ nll) (rnc (.plain _ nll) rn0)))))))))))))))))))))))))))))))) Qag) (slc (Qae (rnc (.plain _ (nld Qa9 _)) (rnc (.plain _ nll) (rnc (.plain _ nll) (rnc (.plain _ (nld Qaq _)) (rnc (.plain _ nll) (rnc (.plain _ nll) (rnc (.plain _ nll) (rnc (.plain _ nll) (rnc (.plain _ nll) (rnc (.plain _ nll) (rnc (.plain _ nll) (rnc (.plain _ nll) (rnc (.plain _ nll) (rnc (.plain _ nll) (rnc (.plain _ nll) (rnc (.plain _ nll) (rnc (.plain _ nll) (rnc (.plain _ nll) (rnc (.plain _ nll) (rnc (.plain _ nll) (rnc (.plain _ nll) (rnc (.plain _ nll) (rnc (.plain _ nll) (rnc (.plain _ nll) (rnc (.plain _ nll) (rnc (.plain _ nll) (rnc (.plain _ nll) (rnc (.plain _ nll) (rnc (.plain _ nll) (rnc (.plain _ nll) (rnc (.plain _ nll) rn0)))))))))))))))))))))))))))))))) Qag) (.plain _ nll) rfl rfl rfl, fun _ h => absurd rfl h, trivial⟩) ?_
       obtain rfl := osi h
       exact ⟨_, [[I 0, I 0, I 0, I 0, I 0, I 0, I 0, I 0, I 0, I 0, I 0, I 0, I 0, I 0], [I x70]], rfl, (Qe9 x70), (Qip (nlc nll (nlc nll (nlc nll (nlc nll (nlc nll (nlc nll (nlc nll (nlc nll (nlc nll (nlc nll (nlc nll (nlc nll (nlc nll (nlc nll nl0)))))))))))))) (Qip (nlc nll nl0) Qqu)), by kernel_rfl, _, (mto (n := 71) (l' := [(6, .ref 0 14 0 0), (7, .ref 1 1 0 0)]) (own' := [Qnt, (.own 1 [[I x70]])]) [(6, .ref 3 14 0 0), (7, .ref 4 1 0 0)] [3, 4] [Qn9, (.own 1 [[I x70]])] hφ0 (pc (.rn (rqr rfl)) (pc (.rn (rqr rfl)) pn)) (qc (spb (lc rwl (lc rwl (lc rwl (lc rwl (lc rwl (lc rwl (lc rwl (lc rwl (lc rwl (lc rwl (lc rwl (lc rwl (lc rwl (lc rwl ln))))))))))))))) (qc (spb (lc rwl ln)) qn))), ⟨⟨[Qns, I x70], ⟨Qa0 (n := 0) (m := 14) (j := 0) (i := 0) (xs := [[(I ((⟨0, 0, 0, 0, 0, 0, (⟨0, 0, 0, 0⟩ : GStream), (⟨0, 0, 0, 0⟩ : GStream)⟩ : GAccount).Turbine)), (I ((⟨0, 0, 0, 0, 0, 0, (⟨0, 0, 0, 0⟩ : GStream), (⟨0, 0, 0, 0⟩ : GStream)⟩ : GAccount).Vent)), (I ((⟨0, 0, 0, 0, 0, 0, (⟨0, 0, 0, 0⟩ : GStream), (⟨0, 0, 0, 0⟩ : GStream)⟩ : GAccount).Air)), (I ((⟨0, 0, 0, 0, 0, 0, (⟨0, 0, 0, 0⟩ : GStream), (⟨0, 0, 0, 0⟩ : GStream)⟩ : GAccount).Work)), (I ((⟨0, 0, 0, 0, 0, 0, (⟨0, 0, 0, 0⟩ : GStream), (⟨0, 0, 0, 0⟩ : GStream)⟩ : GAccount).Sink)), (I ((⟨0, 0, 0, 0, 0, 0, (⟨0, 0, 0, 0⟩ : GStream), (⟨0, 0, 0, 0⟩ : GStream)⟩ : GAccount).Scale)), (I ((⟨0, 0, 0, 0, 0, 0, (⟨0, 0, 0, 0⟩ : GStream), (⟨0, 0, 0, 0⟩ : GStream)⟩ : GAccount).Hot.Mass)), (I ((⟨0, 0, 0, 0, 0, 0, (⟨0, 0, 0, 0⟩ : GStream), (⟨0, 0, 0, 0⟩ : GStream)⟩ : GAccount).Hot.Heat)), (I ((⟨0, 0, 0, 0, 0, 0, (⟨0, 0, 0, 0⟩ : GStream), (⟨0, 0, 0, 0⟩ : GStream)⟩ : GAccount).Hot.Silica)), (I ((⟨0, 0, 0, 0, 0, 0, (⟨0, 0, 0, 0⟩ : GStream), (⟨0, 0, 0, 0⟩ : GStream)⟩ : GAccount).Hot.Gas)), (I ((⟨0, 0, 0, 0, 0, 0, (⟨0, 0, 0, 0⟩ : GStream), (⟨0, 0, 0, 0⟩ : GStream)⟩ : GAccount).Brine.Mass)), (I ((⟨0, 0, 0, 0, 0, 0, (⟨0, 0, 0, 0⟩ : GStream), (⟨0, 0, 0, 0⟩ : GStream)⟩ : GAccount).Brine.Heat)), (I ((⟨0, 0, 0, 0, 0, 0, (⟨0, 0, 0, 0⟩ : GStream), (⟨0, 0, 0, 0⟩ : GStream)⟩ : GAccount).Brine.Silica)), (I ((⟨0, 0, 0, 0, 0, 0, (⟨0, 0, 0, 0⟩ : GStream), (⟨0, 0, 0, 0⟩ : GStream)⟩ : GAccount).Brine.Gas))]]) (by kernel_rfl) (by kernel_rfl) ti37 (by decide) rfl (nle rfl) rfl, Qa0 (n := 1) (m := 1) (j := 0) (i := 0) (xs := [[I x70]]) (by kernel_rfl) (by kernel_rfl) ti38 (by decide) rfl (nle rfl) rfl, trivial⟩, rfl⟩, (NLt.tup _ (nlc (NLt.agg _ (nlc nll (nlc nll (nlc nll (nlc nll (nlc nll (nlc nll (nlc nll (nlc nll (nlc nll (nlc nll (nlc nll (nlc nll (nlc nll (nlc nll nl0))))))))))))))) (nlc nll nl0))), Nat.le_refl _, fun n hn => absurd hn (Nat.not_lt_zero n)⟩⟩
    ·replace h := Q25 h
     refine wsq ?_
     refine Qm0 1 [rb [(.tmp 7, .ref 4 1 0 0)] [(4, .own 1 [[I x25.2]])] (I x25.2), ⟨[fu 31, (.tmp 34, I x25.2)], [], .any, [], false⟩] (by exact ⟨by kernel_rfl, by kernel_rfl⟩) rfl (by kernel_rfl) rfl (Qj1 (first := []) (cap := []) (vs := [I x25.2]) (σr := []) [] rfl Qkk (Qgr N x25.2 _ hf26) rfl (Qbc (rnc (.plain _ nll) rn0)) Qag rfl rfl rfl) (⟨fun _ _ => ald rfl ti38 (by decide) rfl (nle rfl) rfl, fun _ h => absurd rfl h, trivial⟩) ?_
     obtain rfl := osi h
     exact ⟨_, [[I 0, I 0, I 0, I 0, I 0, I 0, I 0, I 0, I 0, I 0, I 0, I 0, I 0, I 0], [I x71]], rfl, (Qe9 x71), (Qip (nlc nll (nlc nll (nlc nll (nlc nll (nlc nll (nlc nll (nlc nll (nlc nll (nlc nll (nlc nll (nlc nll (nlc nll (nlc nll (nlc nll nl0)))))))))))))) (Qip (nlc nll nl0) Qqu)), by kernel_rfl, _, (mto (n := 71) (l' := [(6, .ref 0 14 0 0), (7, .ref 1 1 0 0)]) (own' := [Qnt, (.own 1 [[I x71]])]) [(6, .ref 3 14 0 0), (7, .ref 4 1 0 0)] [3, 4] [Qn9, (.own 1 [[I x71]])] hφ0 (pc (.rn (rqr rfl)) (pc (.rn (rqr rfl)) pn)) (qc (spb (lc rwl (lc rwl (lc rwl (lc rwl (lc rwl (lc rwl (lc rwl (lc rwl (lc rwl (lc rwl (lc rwl (lc rwl (lc rwl (lc rwl ln))))))))))))))) (qc (spb (lc rwl ln)) qn))), ⟨⟨[Qns, I x71], ⟨Qa0 (n := 0) (m := 14) (j := 0) (i := 0) (xs := [[(I ((⟨0, 0, 0, 0, 0, 0, (⟨0, 0, 0, 0⟩ : GStream), (⟨0, 0, 0, 0⟩ : GStream)⟩ : GAccount).Turbine)), (I ((⟨0, 0, 0, 0, 0, 0, (⟨0, 0, 0, 0⟩ : GStream), (⟨0, 0, 0, 0⟩ : GStream)⟩ : GAccount).Vent)), (I ((⟨0, 0, 0, 0, 0, 0, (⟨0, 0, 0, 0⟩ : GStream), (⟨0, 0, 0, 0⟩ : GStream)⟩ : GAccount).Air)), (I ((⟨0, 0, 0, 0, 0, 0, (⟨0, 0, 0, 0⟩ : GStream), (⟨0, 0, 0, 0⟩ : GStream)⟩ : GAccount).Work)), (I ((⟨0, 0, 0, 0, 0, 0, (⟨0, 0, 0, 0⟩ : GStream), (⟨0, 0, 0, 0⟩ : GStream)⟩ : GAccount).Sink)), (I ((⟨0, 0, 0, 0, 0, 0, (⟨0, 0, 0, 0⟩ : GStream), (⟨0, 0, 0, 0⟩ : GStream)⟩ : GAccount).Scale)), (I ((⟨0, 0, 0, 0, 0, 0, (⟨0, 0, 0, 0⟩ : GStream), (⟨0, 0, 0, 0⟩ : GStream)⟩ : GAccount).Hot.Mass)), (I ((⟨0, 0, 0, 0, 0, 0, (⟨0, 0, 0, 0⟩ : GStream), (⟨0, 0, 0, 0⟩ : GStream)⟩ : GAccount).Hot.Heat)), (I ((⟨0, 0, 0, 0, 0, 0, (⟨0, 0, 0, 0⟩ : GStream), (⟨0, 0, 0, 0⟩ : GStream)⟩ : GAccount).Hot.Silica)), (I ((⟨0, 0, 0, 0, 0, 0, (⟨0, 0, 0, 0⟩ : GStream), (⟨0, 0, 0, 0⟩ : GStream)⟩ : GAccount).Hot.Gas)), (I ((⟨0, 0, 0, 0, 0, 0, (⟨0, 0, 0, 0⟩ : GStream), (⟨0, 0, 0, 0⟩ : GStream)⟩ : GAccount).Brine.Mass)), (I ((⟨0, 0, 0, 0, 0, 0, (⟨0, 0, 0, 0⟩ : GStream), (⟨0, 0, 0, 0⟩ : GStream)⟩ : GAccount).Brine.Heat)), (I ((⟨0, 0, 0, 0, 0, 0, (⟨0, 0, 0, 0⟩ : GStream), (⟨0, 0, 0, 0⟩ : GStream)⟩ : GAccount).Brine.Silica)), (I ((⟨0, 0, 0, 0, 0, 0, (⟨0, 0, 0, 0⟩ : GStream), (⟨0, 0, 0, 0⟩ : GStream)⟩ : GAccount).Brine.Gas))]]) (by kernel_rfl) (by kernel_rfl) ti37 (by decide) rfl (nle rfl) rfl, Qa0 (n := 1) (m := 1) (j := 0) (i := 0) (xs := [[I x71]]) (by kernel_rfl) (by kernel_rfl) ti38 (by decide) rfl (nle rfl) rfl, trivial⟩, rfl⟩, (NLt.tup _ (nlc (NLt.agg _ (nlc nll (nlc nll (nlc nll (nlc nll (nlc nll (nlc nll (nlc nll (nlc nll (nlc nll (nlc nll (nlc nll (nlc nll (nlc nll (nlc nll nl0))))))))))))))) (nlc nll nl0))), Nat.le_refl _, fun n hn => absurd hn (Nat.not_lt_zero n)⟩⟩
end Go.Proofs.YtlhakkkjgdbdpaaGreat
