/-
  Functions of the program: what they compute, as plain functions, and that they do. No conditions.
-/
import Derived.Test.YtlhakkkjgdbdpaaGreatX6
namespace Go.Proofs.YtlhakkkjgdbdpaaGreat
set_option maxRecDepth 100000
set_option maxHeartbeats 4000000
open Go.RowKit
def Qgf (N : Nat) (p0 : GRow) : Option Bool :=
  (Qdb N p0.T 0 400).bind fun x2 =>
  bif x2 then
   (Qdb N p0.P 1 10000).bind fun x5 =>
   bif x5 then
    (Qdb N p0.Liquid 0 4000).bind fun x8 =>
    bif x8 then
     (Qdb N p0.Silica 0 2000).bind fun x11 =>
     bif x11 then
      bif (decide (p0.Liquid < p0.Vapour)) then
       some (decide (p0.Vapour ≤ 4000))
      else
       some false
     else
      some false
    else
     some false
   else
    some false
  else
   some false
theorem Qof (N : Nat) (p0 : GRow) (r : Bool) (h : Qgf N p0 = some r) : Spec Tryz.prog 76 [(.agg (Qa6 p0))] [] (B r) [] := by
  refine Qab Tryz.func76 rfl 0 (nle rfl) (fun X φ0 w0 hφ0 hd0 => ?_)
  unfold Qgf at h
  refine wx tbk [] trivial ?_
  obtain ⟨x2, hf1, h⟩ := bno h
  rcases bft (x2) with hb3 | hb3
  ·replace h := Qav hb3 h
   obtain ⟨x5, hf4, h⟩ := bno h
   rcases bft (x5) with hb6 | hb6
   ·replace h := Qav hb6 h
    obtain ⟨x8, hf7, h⟩ := bno h
    rcases bft (x8) with hb9 | hb9
    ·replace h := Qav hb9 h
     obtain ⟨x11, hf10, h⟩ := bno h
     rcases bft (x11) with hb12 | hb12
     ·replace h := Qav hb12 h
      rcases bft ((decide (p0.Liquid < p0.Vapour))) with hb13 | hb13
      ·replace h := Qav hb13 h
       refine wx tbk [(2, rp [fu 74, (.tmp 4, I p0.T), ci 0, ci 400] (B x2)), (3, rp [(.tmp 5, B x2)] (B true)), (6, rp [(.tmp 6, B true), fu 74, (.tmp 8, I p0.P), ci 1, ci 10000] (B x5)), (8, rp [(.tmp 10, B x5)] (B true)), (11, rp [(.tmp 11, B true), fu 74, (.tmp 13, I p0.Liquid), ci 0, ci 4000] (B x8)), (13, rp [(.tmp 15, B x8)] (B true)), (16, rp [(.tmp 16, B true), fu 74, (.tmp 18, I p0.Silica), ci 0, ci 2000] (B x11)), (18, rp [(.tmp 20, B x11)] (B true)), (25, rp [(.tmp 27, (B ((decide (p0.Liquid < p0.Vapour)))))] (B true))] ⟨apc (first := []) (cap := []) (vs := [I p0.T, I 0, I 400]) rfl Qdz (Qaz N p0.T 0 400 _ hf1) rfl rfl (nlc nll (nlc nll (nlc nll nl0))) nll rfl, asb hb3 (amv rfl), ag_ (apc (first := []) (cap := []) (vs := [I p0.P, I 1, I 10000]) rfl Qdz (Qaz N p0.P 1 10000 _ hf4) rfl rfl (nlc nll (nlc nll (nlc nll nl0))) nll rfl), asb hb6 (amv rfl), ag_ (apc (first := []) (cap := []) (vs := [I p0.Liquid, I 0, I 4000]) rfl Qdz (Qaz N p0.Liquid 0 4000 _ hf7) rfl rfl (nlc nll (nlc nll (nlc nll nl0))) nll rfl), asb hb9 (amv rfl), ag_ (apc (first := []) (cap := []) (vs := [I p0.Silica, I 0, I 2000]) rfl Qdz (Qaz N p0.Silica 0 2000 _ hf10) rfl rfl (nlc nll (nlc nll (nlc nll nl0))) nll rfl), asb hb12 (amv rfl), asb hb13 (amv rfl), trivial⟩ ?_
       refine Qaa ?_
       obtain rfl := osi h
       exact fend ⟨[(B ((decide (p0.Vapour ≤ 4000))))], ⟨rot (by kernel_rfl), trivial⟩, rfl⟩ nll
      ·replace h := Qaw hb13 h
       refine wx tbk [(2, rp [fu 74, (.tmp 4, I p0.T), ci 0, ci 400] (B x2)), (3, rp [(.tmp 5, B x2)] (B true)), (6, rp [(.tmp 6, B true), fu 74, (.tmp 8, I p0.P), ci 1, ci 10000] (B x5)), (8, rp [(.tmp 10, B x5)] (B true)), (11, rp [(.tmp 11, B true), fu 74, (.tmp 13, I p0.Liquid), ci 0, ci 4000] (B x8)), (13, rp [(.tmp 15, B x8)] (B true)), (16, rp [(.tmp 16, B true), fu 74, (.tmp 18, I p0.Silica), ci 0, ci 2000] (B x11)), (18, rp [(.tmp 20, B x11)] (B true)), (25, rp [(.tmp 27, (B ((decide (p0.Liquid < p0.Vapour)))))] (B false))] ⟨apc (first := []) (cap := []) (vs := [I p0.T, I 0, I 400]) rfl Qdz (Qaz N p0.T 0 400 _ hf1) rfl rfl (nlc nll (nlc nll (nlc nll nl0))) nll rfl, asb hb3 (amv rfl), ag_ (apc (first := []) (cap := []) (vs := [I p0.P, I 1, I 10000]) rfl Qdz (Qaz N p0.P 1 10000 _ hf4) rfl rfl (nlc nll (nlc nll (nlc nll nl0))) nll rfl), asb hb6 (amv rfl), ag_ (apc (first := []) (cap := []) (vs := [I p0.Liquid, I 0, I 4000]) rfl Qdz (Qaz N p0.Liquid 0 4000 _ hf7) rfl rfl (nlc nll (nlc nll (nlc nll nl0))) nll rfl), asb hb9 (amv rfl), ag_ (apc (first := []) (cap := []) (vs := [I p0.Silica, I 0, I 2000]) rfl Qdz (Qaz N p0.Silica 0 2000 _ hf10) rfl rfl (nlc nll (nlc nll (nlc nll nl0))) nll rfl), asb hb12 (amv rfl), asb hb13 (amv rfl), trivial⟩ ?_
       refine Qaa ?_
       obtain rfl := osi h
       exact fend ⟨[B false], ⟨rot (by kernel_rfl), trivial⟩, rfl⟩ nll
     ·replace h := Qaw hb12 h
      refine wx tbk [(2, rp [fu 74, (.tmp 4, I p0.T), ci 0, ci 400] (B x2)), (3, rp [(.tmp 5, B x2)] (B true)), (6, rp [(.tmp 6, B true), fu 74, (.tmp 8, I p0.P), ci 1, ci 10000] (B x5)), (8, rp [(.tmp 10, B x5)] (B true)), (11, rp [(.tmp 11, B true), fu 74, (.tmp 13, I p0.Liquid), ci 0, ci 4000] (B x8)), (13, rp [(.tmp 15, B x8)] (B true)), (16, rp [(.tmp 16, B true), fu 74, (.tmp 18, I p0.Silica), ci 0, ci 2000] (B x11)), (18, rp [(.tmp 20, B x11)] (B false))] ⟨apc (first := []) (cap := []) (vs := [I p0.T, I 0, I 400]) rfl Qdz (Qaz N p0.T 0 400 _ hf1) rfl rfl (nlc nll (nlc nll (nlc nll nl0))) nll rfl, asb hb3 (amv rfl), ag_ (apc (first := []) (cap := []) (vs := [I p0.P, I 1, I 10000]) rfl Qdz (Qaz N p0.P 1 10000 _ hf4) rfl rfl (nlc nll (nlc nll (nlc nll nl0))) nll rfl), asb hb6 (amv rfl), ag_ (apc (first := []) (cap := []) (vs := [I p0.Liquid, I 0, I 4000]) rfl Qdz (Qaz N p0.Liquid 0 4000 _ hf7) rfl rfl (nlc nll (nlc nll (nlc nll nl0))) nll rfl), asb hb9 (amv rfl), ag_ (apc (first := []) (cap := []) (vs := [I p0.Silica, I 0, I 2000]) rfl Qdz (Qaz N p0.Silica 0 2000 _ hf10) rfl rfl (nlc nll (nlc nll (nlc nll nl0))) nll rfl), asb hb12 (amv rfl), trivial⟩ ?_
      refine Qaa ?_
      obtain rfl := osi h
      exact fend ⟨[B false], ⟨rot (by kernel_rfl), trivial⟩, rfl⟩ nll
    ·replace h := Qaw hb9 h
     refine wx tbk [(2, rp [fu 74, (.tmp 4, I p0.T), ci 0, ci 400] (B x2)), (3, rp [(.tmp 5, B x2)] (B true)), (6, rp [(.tmp 6, B true), fu 74, (.tmp 8, I p0.P), ci 1, ci 10000] (B x5)), (8, rp [(.tmp 10, B x5)] (B true)), (11, rp [(.tmp 11, B true), fu 74, (.tmp 13, I p0.Liquid), ci 0, ci 4000] (B x8)), (13, rp [(.tmp 15, B x8)] (B false))] ⟨apc (first := []) (cap := []) (vs := [I p0.T, I 0, I 400]) rfl Qdz (Qaz N p0.T 0 400 _ hf1) rfl rfl (nlc nll (nlc nll (nlc nll nl0))) nll rfl, asb hb3 (amv rfl), ag_ (apc (first := []) (cap := []) (vs := [I p0.P, I 1, I 10000]) rfl Qdz (Qaz N p0.P 1 10000 _ hf4) rfl rfl (nlc nll (nlc nll (nlc nll nl0))) nll rfl), asb hb6 (amv rfl), ag_ (apc (first := []) (cap := []) (vs := [I p0.Liquid, I 0, I 4000]) rfl Qdz (Qaz N p0.Liquid 0 4000 _ hf7) rfl rfl (nlc nll (nlc nll (nlc nll nl0))) nll rfl), asb hb9 (amv rfl), trivial⟩ ?_
     refine Qaa ?_
     obtain rfl := osi h
     exact fend ⟨[B false], ⟨rot (by kernel_rfl), trivial⟩, rfl⟩ nll
   ·replace h := Qaw hb6 h
    refine wx tbk [(2, rp [fu 74, (.tmp 4, I p0.T), ci 0, ci 400] (B x2)), (3, rp [(.tmp 5, B x2)] (B true)), (6, rp [(.tmp 6, B true), fu 74, (.tmp 8, I p0.P), ci 1, ci 10000] (B x5)), (8, rp [(.tmp 10, B x5)] (B false))] ⟨apc (first := []) (cap := []) (vs := [I p0.T, I 0, I 400]) rfl Qdz (Qaz N p0.T 0 400 _ hf1) rfl rfl (nlc nll (nlc nll (nlc nll nl0))) nll rfl, asb hb3 (amv rfl), ag_ (apc (first := []) (cap := []) (vs := [I p0.P, I 1, I 10000]) rfl Qdz (Qaz N p0.P 1 10000 _ hf4) rfl rfl (nlc nll (nlc nll (nlc nll nl0))) nll rfl), asb hb6 (amv rfl), trivial⟩ ?_
    refine Qaa ?_
    obtain rfl := osi h
    exact fend ⟨[B false], ⟨rot (by kernel_rfl), trivial⟩, rfl⟩ nll
  ·replace h := Qaw hb3 h
   refine wx tbk [(2, rp [fu 74, (.tmp 4, I p0.T), ci 0, ci 400] (B x2)), (3, rp [(.tmp 5, B x2)] (B false))] ⟨apc (first := []) (cap := []) (vs := [I p0.T, I 0, I 400]) rfl Qdz (Qaz N p0.T 0 400 _ hf1) rfl rfl (nlc nll (nlc nll (nlc nll nl0))) nll rfl, asb hb3 (amv rfl), trivial⟩ ?_
   refine Qaa ?_
   obtain rfl := osi h
   exact fend ⟨[B false], ⟨rot (by kernel_rfl), trivial⟩, rfl⟩ nll
def Qes (N : Nat) (p0 : GRow) : Option Bool :=
  (Qgf N p0).bind fun x3 =>
  some (!x3)
def Zan (p0 : GRow) : AV := .agg [(I (p0.T)), (I (p0.P)), (I (p0.Liquid)), (I (p0.Vapour)), (I (p0.Silica))]
def Q6u : Slot := .own 1 [[(.fn (.func 76) [] [])]]
theorem Qkb (N : Nat) (p0 : GRow) (r : Bool) (h : Qes N p0 = some r) : Spec Tryz.prog 97 [(Zan p0), (.ref 0 1 (0) 0)] [Q6u] (B (r)) [Q6u] := by
  refine Qab Tryz.func97 rfl 1 (nle rfl) (fun X φ0 w0 hφ0 hd0 => ?_)
  unfold Qes at h
  refine Qbh ?_
  refine wx tbk [] trivial ?_
  obtain ⟨x3, hf2, h⟩ := bno h
  refine wx tbk [(2, rp [(.tmp 4, (.fn (.func 76) [] [])), (.tmp 5, (Zan p0))] (B x3))] ⟨apc (first := []) (cap := []) (vs := [(Zan p0)]) rfl Zdz (Qof N p0 _ hf2) rfl rfl (nlc (NLt.agg _ (nlc nll (nlc nll (nlc nll (nlc nll (nlc nll nl0)))))) nl0) nll rfl, trivial⟩ ?_
  refine wmr (mto (n := 8) (l' := [(3, (B ((!x3))))]) (own' := [Q6u]) [(3, (B ((!x3))))] [0] [Q6u] hφ0 (pc rwl pn) (qc (spb (lc (.rn (Qau rn0 rn0)) ln)) qn)) ?_
  refine Qaa ?_
  obtain rfl := osi h
  exact ⟨_, Mor.rfl, Qb7 (vs := [(B ((!x3)))]) ⟨rot (by kernel_rfl), trivial⟩ rfl (NLt.of0 nll) (by kernel_rfl) (Qaf (Qay (nlc (NLt.of0 (NLt.fn _ _ _ nl0 nl0)) nl0)) Qbd)⟩
def Qba (N : Nat) (p0 : (List GRow)) (k2 : Unit → Option Int) : Nat → Int → Option Int
  | 0, _ => none
  | n5 + 1, y3 =>
    bif (decide (y3 < (p0.length : Int))) then
     (getI p0 y3).bind fun x7 =>
     (Qes N x7).bind fun x12 =>
     bif x12 then
      some y3
     else
      Qba N p0 k2 n5 (w64 (y3 + 1))
    else
     k2 ()
def Qcs (N : Nat) (p0 : (List GRow)) : Option Int :=
  Qck (fun _ =>
    some (-1)) fun k2 : Unit → Option Int =>
  Qba N p0 k2 N 0
def Qxd (p0 : (List GRow)) : AV := .dat 5 ((p0 : List GRow).map Qa6)
def Q06 : AV := .fn (.func 97) [] [(.ref 0 1 (0) 0)]
def Qnm : Slot := .own 1 [[(.fn (.func 76) [] [])]]
def Zfl (x7 : GRow) : AV := .agg [(I (x7.T)), (I (x7.P)), (I (x7.Liquid)), (I (x7.Vapour)), (I (x7.Silica))]
theorem Qgg (N : Nat) (p0 : (List GRow)) (r : Int) (h : Qcs N p0 = some r) : Spec Tryz.prog 114 [(Qxd p0), Q06] [Qnm] (I (r)) [Qnm] := by
  refine Qab Tryz.func114 rfl 1 (nle rfl) (fun X φ0 w0 hφ0 hd0 => ?_)
  unfold Qcs at h
  refine Qbh ?_
  refine wx tbk [] trivial ?_
  obtain ⟨k2, hk_k2, h⟩ := jko h
  refine wjn (τ := Unit) (fun t => k2 t = some r) (fun _ => ⟨mk 19 [], [Qnm]⟩) (fun t h => ?_) ?_
  ·subst hk_k2
   refine wx tbk [] trivial ?_
   refine wmr (mto (n := 19) (l' := [(4, (I ((-1))))]) (own' := [Qnm]) [(4, (I ((-1))))] [0] [Qnm] hφ0 (pc rwl pn) (qc (spb (lc (.rn (Qau rn0 rn0)) ln)) qn)) ?_
   refine Qaa ?_
   obtain rfl := osi h
   exact ⟨_, Mor.rfl, Qb7 (vs := [(I ((-1)))]) ⟨rot (by kernel_rfl), trivial⟩ rfl (NLt.of0 nll) (by kernel_rfl) (Qaf (Qay (nlc (NLt.of0 (NLt.fn _ _ _ nl0 nl0)) nl0)) Qbd)⟩
  ·skip
   refine wx tbk [(1, rp [(.tmp 6, (Qxd p0))] (I ((p0.length : Int))))] ⟨alm (c := Qa6) (l := p0) (aln rfl Tryz.underlying41 rfl), trivial⟩ ?_
   refine Qag ?_
   refine wmr (mto (n := 19) (l' := [(0, (Qxd p0)), (1, Q06), (7, (I ((p0.length : Int)))), (8, I 0)]) (own' := [Qnm]) [(0, (Qxd p0)), (1, Q06), (7, (I ((p0.length : Int)))), (8, I 0)] [0] [Qnm] hφ0 (pc (.rn (.plain _ (nld Qa8 _))) (pc (.rn (Qau rn0 (rnc (rqr rfl) rn0))) (pc rwl (pc rwl pn)))) (qc (spb (lc (.rn (Qau rn0 rn0)) ln)) qn)) ?_
   refine Qce (τ := Int) (fun n t => Qba N p0 k2 n t = some r) (fun y3 => ⟨mk 19 [(0, (Qxd p0)), (1, Q06), (7, (I ((p0.length : Int)))), (8, I y3)], [Qnm]⟩) (fun t h => by rw [Qba] at h; cases h) (fun n5 ih y3 h => ?_) N (0) h
   rw [Qba] at h
   skip
   refine wx tbk [] trivial ?_
   refine wsq ?_
   rcases bft ((decide (y3 < (p0.length : Int)))) with hc6 | hc6
   ·replace h := Qav hc6 h
    refine wft hc6 (by kernel_rfl) ?_
    refine Qak ?_
    refine thn ?_
    refine wsq ?_
    refine Qag ?_
    refine wx tbk [] trivial ?_
    obtain ⟨x7, hg8, h⟩ := bno h
    obtain ⟨hi9, hj10⟩ := gsm hg8
    obtain ⟨x12, hf11, h⟩ := bno h
    refine wx tbk [(3, rp [(.tmp 12, (Qxd p0)), (.tmp 13, I y3)] (.dptr (Qa6 (x7)) 0)), (5, ⟨[(.tmp 11, Q06), (.tmp 15, (Zfl x7))], [(0, Qnm)], B x12, [(0, Qnm)], false⟩)] ⟨aid rfl Tryz.underlying41 Qt6 rfl rfl hi9 (mgt Qa6 hj10) rfl, Qai (first := []) (cap := [.ref 0 1 0 0]) (vs := [(Zfl x7)]) (σr := [Qnm]) (σr' := [Qnm]) (res' := (B x12)) [0] rfl Zdh (Qkb N x7 _ hf11) rfl (Qbc (rnc (.plain _ (NLt.agg _ (nlc nll (nlc nll (nlc nll (nlc nll (nlc nll nl0))))))) (rnc (Qa3 rfl) rn0))) (slc (Qae (rnc (.plain _ (NLt.fn _ _ _ nl0 nl0)) rn0)) Qah) (slc (Qae (rnc (.plain _ (NLt.fn _ _ _ nl0 nl0)) rn0)) Qah) (.plain _ nll) rfl rfl rfl, trivial⟩ ?_
    rcases bft (x12) with hc13 | hc13
    ·replace h := Qav hc13 h
     refine wft hc13 (by kernel_rfl) ?_
     refine wx tbk [] trivial ?_
     refine wmr (mto (n := 19) (l' := [(4, I y3)]) (own' := [Qnm]) [(4, I y3)] [0] [Qnm] hφ0 (pc rwl pn) (qc (spb (lc (.rn (Qau rn0 rn0)) ln)) qn)) ?_
     refine Qaa ?_
     refine Qa5 ?_
     refine Qao ?_
     refine Qao ?_
     refine Qa5 ?_
     refine Qao ?_
     obtain rfl := osi h
     exact ⟨_, Mor.rfl, Qb7 (vs := [I y3]) ⟨rot (by kernel_rfl), trivial⟩ rfl (NLt.of0 nll) (by kernel_rfl) (Qaf (Qay (nlc (NLt.of0 (NLt.fn _ _ _ nl0 nl0)) nl0)) Qbd)⟩
    ·replace h := Qaw hc13 h
     refine wfn hc13 (by kernel_rfl) ?_
     refine Qak ?_
     refine bln ?_
     refine thn ?_
     refine wx1 tbk [] trivial ?_
     refine thn ?_
     exact arm (mto (n := 19) [(0, (Qxd p0)), (1, Q06), (7, (I ((p0.length : Int)))), (8, (I (w64 (y3 + 1))))] [0] [Qnm] hφ0 (pc (.rn (.plain _ (nld Qa8 _))) (pc (.rn (Qau rn0 (rnc (rqr rfl) rn0))) (pc rwl (pc rwl pn)))) (qc (spb (lc (.rn (Qau rn0 rn0)) ln)) qn)) (ih (w64 (y3 + 1)) h)
   ·replace h := Qaw hc6 h
    refine wfn hc6 (by kernel_rfl) ?_
    refine Qbk ?_
    refine Qax ?_
    refine Qax ?_
    refine Qbj rfl ?_
    refine thn ?_
    exact ⟨(), h, (mto (n := 19) [] [0] [Qnm] hφ0 pn (qc (spb (lc (.rn (Qau rn0 rn0)) ln)) qn))⟩
def Qci (N : Nat) (p0 : (List GRow)) : Option Bool :=
  (Qcs N p0).bind fun x3 =>
  some (decide (x3 ≥ 0))
def Zap (p0 : (List GRow)) : AV := .dat 5 ((p0 : List GRow).map Qa6)
def Zao : AV := .fn (.func 97) [] [(.ref 0 1 (0) 0)]
def Qu8 : Slot := .own 1 [[(.fn (.func 76) [] [])]]
theorem Qfz (N : Nat) (p0 : (List GRow)) (r : Bool) (h : Qci N p0 = some r) : Spec Tryz.prog 96 [(Zap p0), Zao] [Qu8] (B (r)) [Qu8] := by
  refine Qab Tryz.func96 rfl 1 (nle rfl) (fun X φ0 w0 hφ0 hd0 => ?_)
  unfold Qci at h
  refine Qbh ?_
  refine wx tbk [] trivial ?_
  obtain ⟨x3, hf2, h⟩ := bno h
  refine wx tbk [(2, ⟨[fu 114, (.tmp 5, (Zap p0)), (.tmp 6, Zao)], [(0, Qu8)], I x3, [(0, Qu8)], false⟩)] ⟨Qai (first := []) (cap := []) (vs := [(Zap p0), Zao]) (σr := [Qu8]) (σr' := [Qu8]) (res' := (I x3)) [0] rfl Q8k (Qgg N p0 _ hf2) rfl (Qbc (rnc (.plain _ (nld Qa8 _)) (rnc (Qau rn0 (rnc (Qa3 rfl) rn0)) rn0))) (slc (Qae (rnc (.plain _ (NLt.fn _ _ _ nl0 nl0)) rn0)) Qah) (slc (Qae (rnc (.plain _ (NLt.fn _ _ _ nl0 nl0)) rn0)) Qah) (.plain _ nll) rfl rfl rfl, trivial⟩ ?_
  refine wmr (mto (n := 9) (l' := [(4, (B ((decide (x3 ≥ 0)))))]) (own' := [Qu8]) [(4, (B ((decide (x3 ≥ 0)))))] [0] [Qu8] hφ0 (pc rwl pn) (qc (spb (lc (.rn (Qau rn0 rn0)) ln)) qn)) ?_
  refine Qaa ?_
  obtain rfl := osi h
  exact ⟨_, Mor.rfl, Qb7 (vs := [(B ((decide (x3 ≥ 0))))]) ⟨rot (by kernel_rfl), trivial⟩ rfl (NLt.of0 nll) (by kernel_rfl) (Qaf (Qay (nlc (NLt.of0 (NLt.fn _ _ _ nl0 nl0)) nl0)) Qbd)⟩
def Qed (N : Nat) (p0 : (List GRow)) : Option Bool :=
  (Qci N p0).bind fun x2 =>
  some (!x2)
def Zar (p0 : (List GRow)) : AV := .dat 5 ((p0 : List GRow).map Qa6)
def Zaq : AV := .fn (.func 97) [] [(.ref 0 1 (0) 0)]
def Q6v : Slot := .own 1 [[(.fn (.func 76) [] [])]]
theorem Qk0 (N : Nat) (p0 : (List GRow)) (r : Bool) (h : Qed N p0 = some r) : Spec Tryz.prog 75 [(Zar p0), (.fn (.func 76) [] [])] [] (B (r)) [] := by
  refine Qab Tryz.func75 rfl 0 (nle rfl) (fun X φ0 w0 hφ0 hd0 => ?_)
  unfold Qed at h
  refine wx tbk [] trivial ?_
  obtain ⟨x2, hf1, h⟩ := bno h
  refine wx tbk [(1, rp [(.tmp 3, .ref 0 1 0 0)] Zaq), (2, ⟨[fu 96, (.tmp 5, (Zar p0)), (.tmp 6, Zaq)], [(0, Q6v)], B x2, [(0, Q6v)], false⟩)] ⟨Qdc (fs := []) (cs := [.ref 0 1 0 0]) rfl rfl rfl rfl, Qai (first := []) (cap := []) (vs := [(Zar p0), Zaq]) (σr := [Q6v]) (σr' := [Q6v]) (res' := (B x2)) [0] rfl Zdi (Qfz N p0 _ hf1) rfl (Qbc (rnc (.plain _ (nld Qa8 _)) (rnc (Qau rn0 (rnc (Qa3 rfl) rn0)) rn0))) (slc (Qae (rnc (.plain _ (NLt.fn _ _ _ nl0 nl0)) rn0)) Qah) (slc (Qae (rnc (.plain _ (NLt.fn _ _ _ nl0 nl0)) rn0)) Qah) (.plain _ nll) rfl rfl rfl, trivial⟩ ?_
  refine Qaa ?_
  obtain rfl := osi h
  exact fend ⟨[(B ((!x2)))], ⟨rot (by kernel_rfl), trivial⟩, rfl⟩ nll
def Qc0 (N : Nat) (p0 : (List GRow)) (k2 : Unit → Option Bool) : Nat → Int → Option Bool
  | 0, _ => none
  | n6 + 1, y4 =>
    bif (decide (y4 < ((p0.drop (1 : Int).toNat).length : Int))) then
     (getI (p0.drop (1 : Int).toNat) y4).bind fun x8 =>
     (getI p0 y4).bind fun x12 =>
     bif (decide (x8.T ≤ x12.T)) then
      some false
     else
      bif (decide (x8.P ≤ x12.P)) then
       some false
      else
       bif (decide (x8.Liquid ≤ x12.Liquid)) then
        some false
       else
        bif (decide (x8.Silica < x12.Silica)) then
         some false
        else
         Qc0 N p0 k2 n6 (w64 (y4 + 1))
    else
     k2 ()
def Qet (N : Nat) (p0 : (List GRow)) : Option Bool :=
  Qck (fun _ =>
    Qck (fun _ =>
      some true) fun k2 : Unit → Option Bool =>
    chk (decide (0 ≤ 1) && decide (1 ≤ (p0.length : Int)) && decide ((p0.length : Int) ≤ (p0.length : Int))) <|
    Qc0 N p0 k2 N 0) fun k1 : Unit → Option Bool =>
  (Qdb N (p0.length : Int) 2 20).bind fun x21 =>
  bif (!x21) then
   some false
  else
   (Qed N p0).bind fun x24 =>
   bif (!x24) then
    some false
   else
    k1 ()
def Qqh (p0 : (List GRow)) : AV := .dat 5 ((p0 : List GRow).map Qa6)
def Qxe (p0 : (List GRow)) : AV := .dat 5 ((p0.drop (1 : Int).toNat : List GRow).map Qa6)
theorem Qi4 (N : Nat) (p0 : (List GRow)) (r : Bool) (h : Qet N p0 = some r) : Spec Tryz.prog 49 [(.dat 5 (p0.map Qa6))] [] (B r) [] := by
  refine Qab Tryz.func49 rfl 0 (nle rfl) (fun X φ0 w0 hφ0 hd0 => ?_)
  unfold Qet at h
  refine wx tbk [] trivial ?_
  obtain ⟨k1, hk_k1, h⟩ := jko h
  refine wjn (τ := Unit) (fun t => k1 t = some r) (fun _ => ⟨mk 54 [(0, (Qqh p0))], []⟩) (fun t h => ?_) ?_
  ·subst hk_k1
   obtain ⟨k2, hk_k2, h⟩ := jko h
   refine wjn (τ := Unit) (fun t => k2 t = some r) (fun _ => ⟨mk 54 [], []⟩) (fun t h => ?_) ?_
   ·subst hk_k2
    refine wx tbk [] trivial ?_
    refine Qaa ?_
    obtain rfl := osi h
    exact fend ⟨[B true], ⟨rot (by kernel_rfl), trivial⟩, rfl⟩ nll
   ·skip
    obtain ⟨hs3, h⟩ := cko h
    refine wx tbk [(1, rp [(.tmp 15, (Qqh p0)), ci 1] (Qxe p0)), (2, rp [(.tmp 16, (Qxe p0))] (I (((p0.drop (1 : Int).toNat).length : Int))))] ⟨Qw4 (k := .i64) (k' := .i64) (lo := some (.const (.int .i64 1))) (hi := none) (l := 1) (hh := ((p0.length : Nat) : Int)) rfl Tryz.underlying42 Qt6 rfl (fun e => nomatch e) (fun _ => by simp) (Qxb hs3) (Qxa hs3) (Zh1 (Qa6) hs3) (Zhr Qa6), alm (c := Qa6) (l := p0.drop (1 : Int).toNat) (aln rfl Tryz.underlying42 rfl), trivial⟩ ?_
    refine Qag ?_
    refine wmr (mto (n := 54) (l' := [(0, (Qqh p0)), (16, (Qxe p0)), (17, (I (((p0.drop (1 : Int).toNat).length : Int)))), (18, I 0)]) (own' := []) [(0, (Qqh p0)), (16, (Qxe p0)), (17, (I (((p0.drop (1 : Int).toNat).length : Int)))), (18, I 0)] [] [] hφ0 (pc (.rn (.plain _ (nld Qa8 _))) (pc (.rn (.plain _ (nld Qa8 _))) (pc rwl (pc rwl pn)))) qn) ?_
    refine Qce (τ := Int) (fun n t => Qc0 N p0 k2 n t = some r) (fun y4 => ⟨mk 54 [(0, (Qqh p0)), (16, (Qxe p0)), (17, (I (((p0.drop (1 : Int).toNat).length : Int)))), (18, I y4)], []⟩) (fun t h => by rw [Qc0] at h; cases h) (fun n6 ih y4 h => ?_) N (0) h
    rw [Qc0] at h
    skip
    refine wx tbk [] trivial ?_
    refine wsq ?_
    rcases bft ((decide (y4 < ((p0.drop (1 : Int).toNat).length : Int)))) with hc7 | hc7
    ·replace h := Qav hc7 h
     refine wft hc7 (by kernel_rfl) ?_
     refine Qak ?_
     refine thn ?_
     refine wsq ?_
     refine Qag ?_
     obtain ⟨x8, hg9, h⟩ := bno h
     obtain ⟨hi10, hj11⟩ := gsm hg9
     refine wx tbk [(1, rp [(.tmp 16, (Qxe p0)), (.tmp 18, I y4)] (.dptr (Qa6 (x8)) 0))] ⟨aid rfl Tryz.underlying42 Qt6 rfl rfl hi10 (mgt Qa6 hj11) rfl, trivial⟩ ?_
     obtain ⟨x12, hg13, h⟩ := bno h
     obtain ⟨hi14, hj15⟩ := gsm hg13
     refine wx tbk [(2, rp [(.tmp 23, (Qqh p0)), (.tmp 24, I y4)] (.dptr (Qa6 (x12)) 0))] ⟨aid rfl Tryz.underlying42 Qt6 rfl rfl hi14 (mgt Qa6 hj15) rfl, trivial⟩ ?_
     rcases bft ((decide (x8.T ≤ x12.T))) with hb16 | hb16
     ·replace h := Qav hb16 h
      refine wx tbk [(5, rp [(.tmp 31, (B ((decide (x8.T ≤ x12.T)))))] (B true))] ⟨asb hb16 (amv rfl), trivial⟩ ?_
      refine Qcw (by kernel_rfl) ?_
      refine wx tbk [] trivial ?_
      refine Qaa ?_
      refine Qa5 ?_
      refine Qao ?_
      refine Qao ?_
      refine Qa5 ?_
      refine Qao ?_
      obtain rfl := osi h
      exact fend ⟨[B false], ⟨rot (by kernel_rfl), trivial⟩, rfl⟩ nll
     ·replace h := Qaw hb16 h
      rcases bft ((decide (x8.P ≤ x12.P))) with hb17 | hb17
      ·replace h := Qav hb17 h
       refine wx tbk [(5, rp [(.tmp 31, (B ((decide (x8.T ≤ x12.T)))))] (B false)), (12, rp [(.tmp 38, (B ((decide (x8.P ≤ x12.P)))))] (B true))] ⟨asb hb16 (amv rfl), asb hb17 (amv rfl), trivial⟩ ?_
       refine Qcw (by kernel_rfl) ?_
       refine wx tbk [] trivial ?_
       refine Qaa ?_
       refine Qa5 ?_
       refine Qao ?_
       refine Qao ?_
       refine Qa5 ?_
       refine Qao ?_
       obtain rfl := osi h
       exact fend ⟨[B false], ⟨rot (by kernel_rfl), trivial⟩, rfl⟩ nll
      ·replace h := Qaw hb17 h
       rcases bft ((decide (x8.Liquid ≤ x12.Liquid))) with hb18 | hb18
       ·replace h := Qav hb18 h
        refine wx tbk [(5, rp [(.tmp 31, (B ((decide (x8.T ≤ x12.T)))))] (B false)), (12, rp [(.tmp 38, (B ((decide (x8.P ≤ x12.P)))))] (B false)), (19, rp [(.tmp 45, (B ((decide (x8.Liquid ≤ x12.Liquid)))))] (B true))] ⟨asb hb16 (amv rfl), asb hb17 (amv rfl), asb hb18 (amv rfl), trivial⟩ ?_
        refine Qcw (by kernel_rfl) ?_
        refine wx tbk [] trivial ?_
        refine Qaa ?_
        refine Qa5 ?_
        refine Qao ?_
        refine Qao ?_
        refine Qa5 ?_
        refine Qao ?_
        obtain rfl := osi h
        exact fend ⟨[B false], ⟨rot (by kernel_rfl), trivial⟩, rfl⟩ nll
       ·replace h := Qaw hb18 h
        refine wx tbk [(5, rp [(.tmp 31, (B ((decide (x8.T ≤ x12.T)))))] (B false)), (12, rp [(.tmp 38, (B ((decide (x8.P ≤ x12.P)))))] (B false)), (19, rp [(.tmp 45, (B ((decide (x8.Liquid ≤ x12.Liquid)))))] (B false))] ⟨asb hb16 (amv rfl), asb hb17 (amv rfl), asb hb18 (amv rfl), trivial⟩ ?_
        rcases bft ((decide (x8.Silica < x12.Silica))) with hc19 | hc19
        ·replace h := Qav hc19 h
         refine wft hc19 (by kernel_rfl) ?_
         refine wx tbk [] trivial ?_
         refine Qaa ?_
         refine Qa5 ?_
         refine Qao ?_
         refine Qao ?_
         refine Qa5 ?_
         refine Qao ?_
         obtain rfl := osi h
         exact fend ⟨[B false], ⟨rot (by kernel_rfl), trivial⟩, rfl⟩ nll
        ·replace h := Qaw hc19 h
         refine wfn hc19 (by kernel_rfl) ?_
         refine Qak ?_
         refine bln ?_
         refine thn ?_
         refine wx1 tbk [] trivial ?_
         refine thn ?_
         exact arm (mto (n := 54) [(0, (Qqh p0)), (16, (Qxe p0)), (17, (I (((p0.drop (1 : Int).toNat).length : Int)))), (18, (I (w64 (y4 + 1))))] [] [] hφ0 (pc (.rn (.plain _ (nld Qa8 _))) (pc (.rn (.plain _ (nld Qa8 _))) (pc rwl (pc rwl pn)))) qn) (ih (w64 (y4 + 1)) h)
    ·replace h := Qaw hc7 h
     refine wfn hc7 (by kernel_rfl) ?_
     refine Qbk ?_
     refine Qax ?_
     refine Qax ?_
     refine Qbj rfl ?_
     refine thn ?_
     exact ⟨(), h, (mto (n := 54) [] [] [] hφ0 pn qn)⟩
  ·skip
   obtain ⟨x21, hf20, h⟩ := bno h
   rcases bft ((!x21)) with hb22 | hb22
   ·replace h := Qav hb22 h
    refine wx tbk [(1, rp [(.tmp 6, (Qqh p0))] (I ((p0.length : Int)))), (2, rp [fu 74, (.tmp 7, (I ((p0.length : Int)))), ci 2, ci 20] (B x21)), (4, rp [(.tmp 9, (B ((!x21))))] (B true))] ⟨alm (c := Qa6) (l := p0) (aln rfl Tryz.underlying42 rfl), apc (first := []) (cap := []) (vs := [(I ((p0.length : Int))), I 2, I 20]) rfl Qdz (Qaz N (p0.length : Int) 2 20 _ hf20) rfl rfl (nlc nll (nlc nll (nlc nll nl0))) nll rfl, asb hb22 (amv rfl), trivial⟩ ?_
    refine Qcw (by kernel_rfl) ?_
    refine wx tbk [] trivial ?_
    refine Qaa ?_
    refine Qao ?_
    obtain rfl := osi h
    exact fend ⟨[B false], ⟨rot (by kernel_rfl), trivial⟩, rfl⟩ nll
   ·replace h := Qaw hb22 h
    obtain ⟨x24, hf23, h⟩ := bno h
    refine wx tbk [(1, rp [(.tmp 6, (Qqh p0))] (I ((p0.length : Int)))), (2, rp [fu 74, (.tmp 7, (I ((p0.length : Int)))), ci 2, ci 20] (B x21)), (4, rp [(.tmp 9, (B ((!x21))))] (B false)), (6, rp [(.tmp 10, B false), fu 75, (.tmp 11, (Qqh p0)), fu 76] (B x24))] ⟨alm (c := Qa6) (l := p0) (aln rfl Tryz.underlying42 rfl), apc (first := []) (cap := []) (vs := [(I ((p0.length : Int))), I 2, I 20]) rfl Qdz (Qaz N (p0.length : Int) 2 20 _ hf20) rfl rfl (nlc nll (nlc nll (nlc nll nl0))) nll rfl, asb hb22 (amv rfl), ag_ (Qai (first := []) (cap := []) (vs := [(Qqh p0), (.fn (.func 76) [] [])]) (σr := []) (σr' := []) (res' := (B x24)) [] rfl Zd0 (Qk0 N p0 _ hf23) rfl (Qbc (rnc (.plain _ (nld Qa8 _)) (rnc (.plain _ (NLt.fn _ _ _ nl0 nl0)) rn0))) Qah Qah (.plain _ nll) rfl rfl rfl), trivial⟩ ?_
    rcases bft ((!x24)) with hc25 | hc25
    ·replace h := Qav hc25 h
     refine wft hc25 (by kernel_rfl) ?_
     refine wx tbk [] trivial ?_
     refine Qaa ?_
     refine Qao ?_
     obtain rfl := osi h
     exact fend ⟨[B false], ⟨rot (by kernel_rfl), trivial⟩, rfl⟩ nll
    ·replace h := Qaw hc25 h
     refine wfn hc25 (by kernel_rfl) ?_
     refine Qak ?_
     refine thn ?_
     exact ⟨(), h, (mto (n := 54) [(0, (Qqh p0))] [] [] hφ0 (pc (.rn (.plain _ (nld Qa8 _))) pn) qn)⟩
def Qhf (N : Nat) (p0 : (List GRow)) (p1 : Int) : Option Bool :=
  (Qdb N p1 0 (w64 ((p0.length : Int) - 1))).bind fun x2 =>
  some x2
theorem Qoe (N : Nat) (p0 : (List GRow)) (p1 : Int) (r : Bool) (h : Qhf N p0 p1 = some r) : Spec Tryz.prog 50 [(.dat 5 (p0.map Qa6)), (I p1)] [] (B r) [] := by
  refine Qab Tryz.func50 rfl 0 (nle rfl) (fun X φ0 w0 hφ0 hd0 => ?_)
  unfold Qhf at h
  refine wx tbk [] trivial ?_
  obtain ⟨x2, hf1, h⟩ := bno h
  refine wx tbk [(2, rp [(.tmp 6, (.dat 5 ((p0 : List GRow).map Qa6)))] (I ((p0.length : Int)))), (4, rp [fu 74, (.tmp 5, I p1), ci 0, (.tmp 8, (I (w64 ((p0.length : Int) - 1))))] (B x2))] ⟨alm (c := Qa6) (l := p0) (aln rfl Tryz.underlying42 rfl), apc (first := []) (cap := []) (vs := [I p1, I 0, (I (w64 ((p0.length : Int) - 1)))]) rfl Qdz (Qaz N p1 0 (w64 ((p0.length : Int) - 1)) _ hf1) rfl rfl (nlc nll (nlc nll (nlc nll nl0))) nll rfl, trivial⟩ ?_
  refine Qaa ?_
  obtain rfl := osi h
  exact fend ⟨[B x2], ⟨rot (by kernel_rfl), trivial⟩, rfl⟩ nll
def Qh1 (_N : Nat) (p0 : (List GRow)) (p1 : Int) : Option GFlash :=
  (getI p0 p1).bind fun x1 =>
  some (⟨x1⟩ : GFlash)
def Zam (x1 : GRow) : AV := .agg [(I (x1.T)), (I (x1.P)), (I (x1.Liquid)), (I (x1.Vapour)), (I (x1.Silica))]
theorem Qo0 (N : Nat) (p0 : (List GRow)) (p1 : Int) (r : GFlash) (h : Qh1 N p0 p1 = some r) : Spec Tryz.prog 51 [(.dat 5 (p0.map Qa6)), (I p1)] [] (.agg (Quv r)) [] := by
  refine Qab Tryz.func51 rfl 0 (nle rfl) (fun X φ0 w0 hφ0 hd0 => ?_)
  unfold Qh1 at h
  refine wx tbk [] trivial ?_
  obtain ⟨x1, hg2, h⟩ := bno h
  obtain ⟨hi3, hj4⟩ := gsm hg2
  refine wx tbk [(2, rp [(.tmp 5, (.dat 5 ((p0 : List GRow).map Qa6))), (.tmp 6, I p1)] (.dptr (Qa6 (x1)) 0)), (4, mv 8 (Zam x1))] ⟨aid rfl Tryz.underlying42 Qt6 rfl rfl hi3 (mgt Qa6 hj4) rfl, Qan (vs := [(Zam x1)]) rfl Zhc Zgi rfl (by rfl) rfl, trivial⟩ ?_
  refine Qaa ?_
  obtain rfl := osi h
  exact fend ⟨[(Zam x1)], ⟨Qas (n := 0) (m := 5) (j := 0) (i := 0) (xs := [[I x1.T, I x1.P, I x1.Liquid, I x1.Vapour, I x1.Silica]]) (by kernel_rfl) (by kernel_rfl) Zgk (by decide) rfl (nle rfl) rfl, trivial⟩, rfl⟩ (NLt.agg _ (nlc nll (nlc nll (nlc nll (nlc nll (nlc nll nl0))))))
def Qfd (_N : Nat) (p0 : GFlash) (p1 : GStream) : Option Int :=
  (some (w64 (p1.Heat - (w64 (p1.Mass * p0.Row.Liquid))))).bind fun x1 =>
  bif (decide (x1 ≤ 0)) then
   some 0
  else
   bif (decide (p1.Heat ≥ (w64 (p1.Mass * p0.Row.Vapour)))) then
    some p1.Mass
   else
    chk ((w64 (p0.Row.Vapour - p0.Row.Liquid)) != 0) <|
    (some (w64 (x1.tdiv (w64 (p0.Row.Vapour - p0.Row.Liquid))))).bind fun x6 =>
    some x6
theorem Qmo (N : Nat) (p0 : GFlash) (p1 : GStream) (r : Int) (h : Qfd N p0 p1 = some r) : Spec Tryz.prog 77 [(.agg (Quv p0)), (.agg (Qaq p1))] [] (I r) [] := by
  refine Qab Tryz.func77 rfl 0 (nle rfl) (fun X φ0 w0 hφ0 hd0 => ?_)
  unfold Qfd at h
  refine wx tbk [] trivial ?_
  obtain ⟨x1, hl2, h⟩ := bno h
  refine wx tbk [(9, rp [(.tmp 14, (I (w64 (p1.Heat - (w64 (p1.Mass * p0.Row.Liquid))))))] (I x1))] ⟨Qdu hl2 (aas rfl), trivial⟩ ?_
  refine wsq ?_
  refine Qag ?_
  refine wx tbk [] trivial ?_
  rcases bft ((decide (x1 ≤ 0))) with hc3 | hc3
  ·replace h := Qav hc3 h
   refine wft hc3 (by kernel_rfl) ?_
   refine wx tbk [] trivial ?_
   refine Qaa ?_
   refine Qa5 ?_
   refine Qao ?_
   obtain rfl := osi h
   exact fend ⟨[I 0], ⟨rot (by kernel_rfl), trivial⟩, rfl⟩ nll
  ·replace h := Qaw hc3 h
   refine wfn hc3 (by kernel_rfl) ?_
   refine wx tbk [] trivial ?_
   rcases bft ((decide (p1.Heat ≥ (w64 (p1.Mass * p0.Row.Vapour))))) with hc4 | hc4
   ·replace h := Qav hc4 h
    refine wft hc4 (by kernel_rfl) ?_
    refine wx tbk [] trivial ?_
    refine Qaa ?_
    refine Qa5 ?_
    refine Qao ?_
    obtain rfl := osi h
    exact fend ⟨[I p1.Mass], ⟨rot (by kernel_rfl), trivial⟩, rfl⟩ nll
   ·replace h := Qaw hc4 h
    refine wfn hc4 (by kernel_rfl) ?_
    refine Qak ?_
    refine bln ?_
    refine thn ?_
    obtain ⟨hz5, h⟩ := cko h
    obtain ⟨x6, hl7, h⟩ := bno h
    refine wx tbk [(8, rp [(.tmp 30, I x1), (.tmp 37, (I (w64 (p0.Row.Vapour - p0.Row.Liquid))))] (I (w64 (x1.tdiv (w64 (p0.Row.Vapour - p0.Row.Liquid)))))), (9, rp [(.tmp 38, (I (w64 (x1.tdiv (w64 (p0.Row.Vapour - p0.Row.Liquid))))))] (I x6))] ⟨Qph rfl (Q58 hz5), Qdu hl7 (aas rfl), trivial⟩ ?_
    refine Qaa ?_
    obtain rfl := osi h
    exact fend ⟨[I x6], ⟨rot (by kernel_rfl), trivial⟩, rfl⟩ nll
def Qfy (N : Nat) (p0 : GFlash) (p1 : GStream) : Option GParts :=
  (Qfd N (⟨(⟨p0.Row.T, p0.Row.P, p0.Row.Liquid, p0.Row.Vapour, p0.Row.Silica⟩ : GRow)⟩ : GFlash) p1).bind fun x2 =>
  Qck (fun ⟨y3, y4, y5, y6, y7, _, y9⟩ =>
    (some (if (w64 (y6 * p0.Row.Silica)) < p1.Silica then w64 (y6 * p0.Row.Silica) else p1.Silica)).bind fun x11 =>
    bif (decide (y6 > 0)) then
     (some (if (w64 (y7 - (w64 (y6 * p0.Row.Liquid)))) > 0 then w64 (y7 - (w64 (y6 * p0.Row.Liquid))) else 0)).bind fun x14 =>
     some (⟨(⟨y3, y4, 0, y5⟩ : GStream), (⟨y6, y7, x11, y9⟩ : GStream), x14, w64 (p1.Silica - x11)⟩ : GParts)
    else
     some (⟨(⟨y3, y4, 0, y5⟩ : GStream), (⟨y6, y7, x11, y9⟩ : GStream), 0, w64 (p1.Silica - x11)⟩ : GParts)) fun k10 : Int × Int × Int × Int × Int × Int × Int → Option GParts =>
  bif (x2 == 0) then
   k10 (0, 0, 0, p1.Mass, p1.Heat, p1.Silica, p1.Gas)
  else
   bif (x2 == p1.Mass) then
    k10 (x2, p1.Heat, p1.Gas, 0, 0, 0, 0)
   else
    k10 (x2, w64 (x2 * p0.Row.Vapour), p1.Gas, w64 (p1.Mass - x2), w64 (p1.Heat - (w64 (x2 * p0.Row.Vapour))), 0, 0)
def Zfk (p0 : GFlash) : AV := .agg [(I (p0.Row.T)), (I (p0.Row.P)), (I (p0.Row.Liquid)), (I (p0.Row.Vapour)), (I (p0.Row.Silica))]
def Zfj (p1 : GStream) : AV := .agg [(I (p1.Mass)), (I (p1.Heat)), (I (p1.Silica)), (I (p1.Gas))]
def Q6t (p0 : GFlash) : Slot := .own 5 [[(I (p0.Row.T)), (I (p0.Row.P)), (I (p0.Row.Liquid)), (I (p0.Row.Vapour)), (I (p0.Row.Silica))]]
def Q6s (p1 : GStream) : Slot := .own 4 [[(I (p1.Mass)), (I (p1.Heat)), (I (p1.Silica)), (I (p1.Gas))]]
theorem Qoz (N : Nat) (p0 : GFlash) (p1 : GStream) (r : GParts) (h : Qfy N p0 p1 = some r) : Spec Tryz.prog 52 [(.agg (Quv p0)), (.agg (Qaq p1))] [] (.agg (Quu r)) [] := by
  refine Qab Tryz.func52 rfl 0 (nle rfl) (fun X φ0 w0 hφ0 hd0 => ?_)
  unfold Qfy at h
  refine wx tbk [] trivial ?_
  obtain ⟨x2, hf1, h⟩ := bno h
  refine wx tbk [(2, rp [fu 77, (.tmp 7, (Zfk p0)), (.tmp 8, (Zfj p1))] (I x2))] ⟨apc (first := []) (cap := []) (vs := [(Zfk p0), (Zfj p1)]) rfl Zdy (Qmo N (⟨(⟨p0.Row.T, p0.Row.P, p0.Row.Liquid, p0.Row.Vapour, p0.Row.Silica⟩ : GRow)⟩ : GFlash) p1 _ hf1) rfl rfl (nlc (NLt.agg _ (nlc nll (nlc nll (nlc nll (nlc nll (nlc nll nl0)))))) (nlc (NLt.agg _ (nlc nll (nlc nll (nlc nll (nlc nll nl0))))) nl0)) nll rfl, trivial⟩ ?_
  obtain ⟨k10, hk_k10, h⟩ := jko h
  refine wjn (τ := Int × Int × Int × Int × Int × Int × Int) (fun t => k10 t = some r) (fun ⟨y3, y4, y5, y6, y7, y8, y9⟩ => ⟨mk 87 [(2, .ref 0 5 0 0), (3, .ref 1 4 0 0), (4, .ref 2 10 0 0)], [(Q6t p0), (Q6s p1), (.own 10 [[I y3, I y4, I 0, I y5, I y6, I y7, I y8, I y9, I 0, I 0]])]⟩) (fun t h => ?_) ?_
  ·subst hk_k10
   obtain ⟨y3, y4, y5, y6, y7, y8, y9⟩ := t
   obtain ⟨x11, hl12, h⟩ := bno h
   refine wx tbk [(9, rp [(.tmp 52, I p1.Silica), (.tmp 59, (I (w64 (y6 * p0.Row.Silica))))] (I x11))] ⟨Qdu hl12 (Qkj rfl), trivial⟩ ?_
   refine wxd tbk [] trivial ?_
   refine wsq ?_
   refine wx tbk [] trivial ?_
   rcases bft ((decide (y6 > 0))) with hc13 | hc13
   ·replace h := Qav hc13 h
    refine wft hc13 (by kernel_rfl) ?_
    obtain ⟨x14, hl15, h⟩ := bno h
    refine wx1 tbk [(11, rp [ci 0, (.tmp 83, (I (w64 (y7 - (w64 (y6 * p0.Row.Liquid))))))] (I x14))] ⟨Qdu hl15 (Qji rfl), trivial⟩ ?_
    refine thn ?_
    refine wx tbk [] trivial ?_
    refine Qaa ?_
    obtain rfl := osi h
    exact fend ⟨[(.agg [I y3, I y4, I 0, I y5, I y6, I y7, I x11, I y9, I x14, (I (w64 (p1.Silica - x11)))])], ⟨Qas (n := 2) (m := 10) (j := 0) (i := 0) (xs := [[I y3, I y4, I 0, I y5, I y6, I y7, I x11, I y9, I x14, (I (w64 (p1.Silica - x11)))]]) (by kernel_rfl) (by kernel_rfl) ti61 (by decide) rfl (nle rfl) rfl, trivial⟩, rfl⟩ (NLt.agg _ (nlc nll (nlc nll (nlc nll (nlc nll (nlc nll (nlc nll (nlc nll (nlc nll (nlc nll (nlc nll nl0)))))))))))
   ·replace h := Qaw hc13 h
    refine wfn hc13 (by kernel_rfl) ?_
    refine Qak ?_
    refine thn ?_
    refine wx tbk [] trivial ?_
    refine Qaa ?_
    obtain rfl := osi h
    exact fend ⟨[(.agg [I y3, I y4, I 0, I y5, I y6, I y7, I x11, I y9, I 0, (I (w64 (p1.Silica - x11)))])], ⟨Qas (n := 2) (m := 10) (j := 0) (i := 0) (xs := [[I y3, I y4, I 0, I y5, I y6, I y7, I x11, I y9, I 0, (I (w64 (p1.Silica - x11)))]]) (by kernel_rfl) (by kernel_rfl) ti61 (by decide) rfl (nle rfl) rfl, trivial⟩, rfl⟩ (NLt.agg _ (nlc nll (nlc nll (nlc nll (nlc nll (nlc nll (nlc nll (nlc nll (nlc nll (nlc nll (nlc nll nl0)))))))))))
  ·skip
   refine Qag ?_
   refine wx tbk [] trivial ?_
   rcases bft ((x2 == 0)) with hc16 | hc16
   ·replace h := Qav hc16 h
    refine wft hc16 (by kernel_rfl) ?_
    refine wx1 tbk [] trivial ?_
    refine bln ?_
    refine thn ?_
    exact ⟨(0, 0, 0, p1.Mass, p1.Heat, p1.Silica, p1.Gas), h, (mto (n := 87) [(2, .ref 0 5 0 0), (3, .ref 1 4 0 0), (4, .ref 2 10 0 0)] [0, 1, 2] [(Q6t p0), (Q6s p1), (.own 10 [[I 0, I 0, I 0, I 0, I p1.Mass, I p1.Heat, I p1.Silica, I p1.Gas, I 0, I 0]])] hφ0 (pc (.rn (rqr rfl)) (pc (.rn (rqr rfl)) (pc (.rn (rqr rfl)) pn))) (qc (spb (lc rwl (lc rwl (lc rwl (lc rwl (lc rwl ln)))))) (qc (spb (lc rwl (lc rwl (lc rwl (lc rwl ln))))) (qc (spb (lc rwl (lc rwl (lc rwl (lc rwl (lc rwl (lc rwl (lc rwl (lc rwl (lc rwl (lc rwl ln))))))))))) qn))))⟩
   ·replace h := Qaw hc16 h
    refine wfn hc16 (by kernel_rfl) ?_
    refine wx tbk [] trivial ?_
    rcases bft ((x2 == p1.Mass)) with hc17 | hc17
    ·replace h := Qav hc17 h
     refine wft hc17 (by kernel_rfl) ?_
     refine wx1 tbk [(5, rp [(.tmp 44, I x2), (.tmp 46, I p1.Heat), (.tmp 48, I p1.Gas)] (.agg [I x2, I p1.Heat, I 0, I p1.Gas]))] ⟨Qan (vs := [I x2, I p1.Heat, I p1.Gas]) rfl ts35 tz35 rfl (by rfl) rfl, trivial⟩ ?_
     refine bln ?_
     refine thn ?_
     exact ⟨(x2, p1.Heat, p1.Gas, 0, 0, 0, 0), h, (mto (n := 87) [(2, .ref 0 5 0 0), (3, .ref 1 4 0 0), (4, .ref 2 10 0 0)] [0, 1, 2] [(Q6t p0), (Q6s p1), (.own 10 [[I x2, I p1.Heat, I 0, I p1.Gas, I 0, I 0, I 0, I 0, I 0, I 0]])] hφ0 (pc (.rn (rqr rfl)) (pc (.rn (rqr rfl)) (pc (.rn (rqr rfl)) pn))) (qc (spb (lc rwl (lc rwl (lc rwl (lc rwl (lc rwl ln)))))) (qc (spb (lc rwl (lc rwl (lc rwl (lc rwl ln))))) (qc (spb (lc rwl (lc rwl (lc rwl (lc rwl (lc rwl (lc rwl (lc rwl (lc rwl (lc rwl (lc rwl ln))))))))))) qn))))⟩
    ·replace h := Qaw hc17 h
     refine wfn hc17 (by kernel_rfl) ?_
     refine wx tbk [(8, rp [(.tmp 10, I x2), (.tmp 15, (I (w64 (x2 * p0.Row.Vapour)))), (.tmp 17, I p1.Gas)] (.agg [I x2, (I (w64 (x2 * p0.Row.Vapour))), I 0, I p1.Gas]))] ⟨Qan (vs := [I x2, (I (w64 (x2 * p0.Row.Vapour))), I p1.Gas]) rfl ts35 tz35 rfl (by rfl) rfl, trivial⟩ ?_
     refine wx1 tbk [(12, rp [(.tmp 23, (I (w64 (p1.Mass - x2)))), (.tmp 31, (I (w64 (p1.Heat - (w64 (x2 * p0.Row.Vapour))))))] (.agg [(I (w64 (p1.Mass - x2))), (I (w64 (p1.Heat - (w64 (x2 * p0.Row.Vapour))))), I 0, I 0]))] ⟨Qan (vs := [(I (w64 (p1.Mass - x2))), (I (w64 (p1.Heat - (w64 (x2 * p0.Row.Vapour)))))]) rfl ts35 tz35 rfl (by rfl) rfl, trivial⟩ ?_
     refine bln ?_
     refine thn ?_
     exact ⟨(x2, w64 (x2 * p0.Row.Vapour), p1.Gas, w64 (p1.Mass - x2), w64 (p1.Heat - (w64 (x2 * p0.Row.Vapour))), 0, 0), h, (mto (n := 87) [(2, .ref 0 5 0 0), (3, .ref 1 4 0 0), (4, .ref 2 10 0 0)] [0, 1, 2] [(Q6t p0), (Q6s p1), (.own 10 [[I x2, (I (w64 (x2 * p0.Row.Vapour))), I 0, I p1.Gas, (I (w64 (p1.Mass - x2))), (I (w64 (p1.Heat - (w64 (x2 * p0.Row.Vapour))))), I 0, I 0, I 0, I 0]])] hφ0 (pc (.rn (rqr rfl)) (pc (.rn (rqr rfl)) (pc (.rn (rqr rfl)) pn))) (qc (spb (lc rwl (lc rwl (lc rwl (lc rwl (lc rwl ln)))))) (qc (spb (lc rwl (lc rwl (lc rwl (lc rwl ln))))) (qc (spb (lc rwl (lc rwl (lc rwl (lc rwl (lc rwl (lc rwl (lc rwl (lc rwl (lc rwl (lc rwl ln))))))))))) qn))))⟩
def Qhu (N : Nat) (p0 : (List GRow)) (p1 : Int) (p2 : GStream) : Option (GParts × Int) :=
  (Qet N p0).bind fun x2 =>
  bif (!x2) then
   some ((⟨(⟨0, 0, 0, 0⟩ : GStream), (⟨0, 0, 0, 0⟩ : GStream), 0, 0⟩ : GParts), 1)
  else
   (Qhf N p0 p1).bind fun x5 =>
   bif (!x5) then
    some ((⟨(⟨0, 0, 0, 0⟩ : GStream), (⟨0, 0, 0, 0⟩ : GStream), 0, 0⟩ : GParts), 2)
   else
    (Qdv N p2).bind fun x8 =>
    bif (!x8) then
     some ((⟨(⟨0, 0, 0, 0⟩ : GStream), (⟨0, 0, 0, 0⟩ : GStream), 0, 0⟩ : GParts), 1)
    else
     (Qh1 N p0 p1).bind fun x11 =>
     (Qfy N (⟨(⟨x11.Row.T, x11.Row.P, x11.Row.Liquid, x11.Row.Vapour, x11.Row.Silica⟩ : GRow)⟩ : GFlash) p2).bind fun x13 =>
     some ((⟨(⟨x13.Steam.Mass, x13.Steam.Heat, x13.Steam.Silica, x13.Steam.Gas⟩ : GStream), (⟨x13.Water.Mass, x13.Water.Heat, x13.Water.Silica, x13.Water.Gas⟩ : GStream), x13.Rest, x13.Scale⟩ : GParts), 0)
def Q08 (p0 : (List GRow)) : AV := .dat 5 ((p0 : List GRow).map Qa6)
def Q07 : AV := .agg [(I (0)), (I (0)), (I (0)), (I (0)), (I (0)), (I (0)), (I (0)), (I (0)), (I (0)), (I (0))]
def Q6w (p2 : GStream) : AV := .agg [(I (p2.Mass)), (I (p2.Heat)), (I (p2.Silica)), (I (p2.Gas))]
def Zas (x11 : GFlash) : AV := .agg [(I (x11.Row.T)), (I (x11.Row.P)), (I (x11.Row.Liquid)), (I (x11.Row.Vapour)), (I (x11.Row.Silica))]
def Zfm (x13 : GParts) : AV := .agg [(I (x13.Steam.Mass)), (I (x13.Steam.Heat)), (I (x13.Steam.Silica)), (I (x13.Steam.Gas)), (I (x13.Water.Mass)), (I (x13.Water.Heat)), (I (x13.Water.Silica)), (I (x13.Water.Gas)), (I (x13.Rest)), (I (x13.Scale))]
theorem Qrc (N : Nat) (p0 : (List GRow)) (p1 : Int) (p2 : GStream) (r : (GParts × Int)) (h : Qhu N p0 p1 p2 = some r) : Spec Tryz.prog 16 [(.dat 5 (p0.map Qa6)), (I p1), (.agg (Qaq p2))] [] (.tup [(.agg (Quu r.1)), (I r.2)]) [] := by
  refine Qab Tryz.func16 rfl 0 (nle rfl) (fun X φ0 w0 hφ0 hd0 => ?_)
  unfold Qhu at h
  refine wx tbk [] trivial ?_
  refine wsq ?_
  refine Qag ?_
  obtain ⟨x2, hf1, h⟩ := bno h
  refine wx tbk [(1, rp [fu 49, (.tmp 9, (Q08 p0))] (B x2))] ⟨apc (first := []) (cap := []) (vs := [(Q08 p0)]) rfl Q5s (Qi4 N p0 _ hf1) rfl rfl (nlc (nld Qa8 _) nl0) nll rfl, trivial⟩ ?_
  rcases bft ((!x2)) with hc3 | hc3
  ·replace h := Qav hc3 h
   refine wft hc3 (by kernel_rfl) ?_
   refine wx tbk [(0, rp [] Q07)] ⟨Qan (vs := []) rfl ts61 tz61 rfl (by rfl) rfl, trivial⟩ ?_
   refine Qaa ?_
   refine Qa5 ?_
   refine Qao ?_
   obtain rfl := osi h
   exact fend ⟨[Q07, I 1], ⟨Qas (n := 1) (m := 10) (j := 0) (i := 0) (xs := [[I 0, I 0, I 0, I 0, I 0, I 0, I 0, I 0, I 0, I 0]]) (by kernel_rfl) (by kernel_rfl) ti61 (by decide) rfl (nle rfl) rfl, rot (by kernel_rfl), trivial⟩, rfl⟩ (NLt.tup _ (nlc (NLt.agg _ (nlc nll (nlc nll (nlc nll (nlc nll (nlc nll (nlc nll (nlc nll (nlc nll (nlc nll (nlc nll nl0))))))))))) (nlc nll nl0)))
  ·replace h := Qaw hc3 h
   refine wfn hc3 (by kernel_rfl) ?_
   obtain ⟨x5, hf4, h⟩ := bno h
   refine wx tbk [(2, rp [fu 50, (.tmp 14, (Q08 p0)), (.tmp 15, I p1)] (B x5))] ⟨apc (first := []) (cap := []) (vs := [(Q08 p0), I p1]) rfl Zeg (Qoe N p0 p1 _ hf4) rfl rfl (nlc (nld Qa8 _) (nlc nll nl0)) nll rfl, trivial⟩ ?_
   rcases bft ((!x5)) with hc6 | hc6
   ·replace h := Qav hc6 h
    refine wft hc6 (by kernel_rfl) ?_
    refine wx tbk [(0, rp [] Q07)] ⟨Qan (vs := []) rfl ts61 tz61 rfl (by rfl) rfl, trivial⟩ ?_
    refine Qaa ?_
    refine Qa5 ?_
    refine Qao ?_
    obtain rfl := osi h
    exact fend ⟨[Q07, I 2], ⟨Qas (n := 1) (m := 10) (j := 0) (i := 0) (xs := [[I 0, I 0, I 0, I 0, I 0, I 0, I 0, I 0, I 0, I 0]]) (by kernel_rfl) (by kernel_rfl) ti61 (by decide) rfl (nle rfl) rfl, rot (by kernel_rfl), trivial⟩, rfl⟩ (NLt.tup _ (nlc (NLt.agg _ (nlc nll (nlc nll (nlc nll (nlc nll (nlc nll (nlc nll (nlc nll (nlc nll (nlc nll (nlc nll nl0))))))))))) (nlc nll nl0)))
   ·replace h := Qaw hc6 h
    refine wfn hc6 (by kernel_rfl) ?_
    obtain ⟨x8, hf7, h⟩ := bno h
    refine wx tbk [(1, rp [fu 48, (.tmp 20, (Q6w p2))] (B x8))] ⟨apc (first := []) (cap := []) (vs := [(Q6w p2)]) rfl Qyr (Qgm N p2 _ hf7) rfl rfl (nlc (NLt.agg _ (nlc nll (nlc nll (nlc nll (nlc nll nl0))))) nl0) nll rfl, trivial⟩ ?_
    rcases bft ((!x8)) with hc9 | hc9
    ·replace h := Qav hc9 h
     refine wft hc9 (by kernel_rfl) ?_
     refine wx tbk [(0, rp [] Q07)] ⟨Qan (vs := []) rfl ts61 tz61 rfl (by rfl) rfl, trivial⟩ ?_
     refine Qaa ?_
     refine Qa5 ?_
     refine Qao ?_
     obtain rfl := osi h
     exact fend ⟨[Q07, I 1], ⟨Qas (n := 1) (m := 10) (j := 0) (i := 0) (xs := [[I 0, I 0, I 0, I 0, I 0, I 0, I 0, I 0, I 0, I 0]]) (by kernel_rfl) (by kernel_rfl) ti61 (by decide) rfl (nle rfl) rfl, rot (by kernel_rfl), trivial⟩, rfl⟩ (NLt.tup _ (nlc (NLt.agg _ (nlc nll (nlc nll (nlc nll (nlc nll (nlc nll (nlc nll (nlc nll (nlc nll (nlc nll (nlc nll nl0))))))))))) (nlc nll nl0)))
    ·replace h := Qaw hc9 h
     refine wfn hc9 (by kernel_rfl) ?_
     refine Qak ?_
     refine bln ?_
     refine thn ?_
     obtain ⟨x11, hf10, h⟩ := bno h
     obtain ⟨x13, hf12, h⟩ := bno h
     refine wxd tbk [(2, rp [fu 51, (.tmp 24, (Q08 p0)), (.tmp 25, I p1)] (Zas x11)), (4, rp [fu 52, (.tmp 26, (Zas x11)), (.tmp 27, (Q6w p2))] (Zfm x13))] ⟨apc (first := []) (cap := []) (vs := [(Q08 p0), I p1]) rfl Zef (Qo0 N p0 p1 _ hf10) rfl rfl (nlc (nld Qa8 _) (nlc nll nl0)) (NLt.agg _ (nlc nll (nlc nll (nlc nll (nlc nll (nlc nll nl0)))))) rfl, apc (first := []) (cap := []) (vs := [(Zas x11), (Q6w p2)]) rfl Zee (Qoz N (⟨(⟨x11.Row.T, x11.Row.P, x11.Row.Liquid, x11.Row.Vapour, x11.Row.Silica⟩ : GRow)⟩ : GFlash) p2 _ hf12) rfl rfl (nlc (NLt.agg _ (nlc nll (nlc nll (nlc nll (nlc nll (nlc nll nl0)))))) (nlc (NLt.agg _ (nlc nll (nlc nll (nlc nll (nlc nll nl0))))) nl0)) (NLt.agg _ (nlc nll (nlc nll (nlc nll (nlc nll (nlc nll (nlc nll (nlc nll (nlc nll (nlc nll (nlc nll nl0))))))))))) rfl, trivial⟩ ?_
     refine Qaa ?_
     obtain rfl := osi h
     exact fend ⟨[(Zfm x13), I 0], ⟨Qas (n := 1) (m := 10) (j := 0) (i := 0) (xs := [[I x13.Steam.Mass, I x13.Steam.Heat, I x13.Steam.Silica, I x13.Steam.Gas, I x13.Water.Mass, I x13.Water.Heat, I x13.Water.Silica, I x13.Water.Gas, I x13.Rest, I x13.Scale]]) (by kernel_rfl) (by kernel_rfl) ti61 (by decide) rfl (nle rfl) rfl, rot (by kernel_rfl), trivial⟩, rfl⟩ (NLt.tup _ (nlc (NLt.agg _ (nlc nll (nlc nll (nlc nll (nlc nll (nlc nll (nlc nll (nlc nll (nlc nll (nlc nll (nlc nll nl0))))))))))) (nlc nll nl0)))
def Qii (N : Nat) (p0 : GUnit) (p1 : GStream) : Option (GStream × Int × Int) :=
  Qck (fun _ =>
    (Qeg N p0 p1.Mass).bind fun x3 =>
    bif (decide (p1.Heat < x3)) then
     some ((⟨0, 0, 0, 0⟩ : GStream), 0, 9)
    else
     some ((⟨p1.Mass, w64 (p1.Heat - x3), p1.Silica, p1.Gas⟩ : GStream), x3, 0)) fun k1 : Unit → Option (GStream × Int × Int) =>
  (Qd6 N p0).bind fun x6 =>
  bif (!x6) then
   some ((⟨0, 0, 0, 0⟩ : GStream), 0, 1)
  else
   (Qem N ([p1])).bind fun x9 =>
   bif (!x9) then
    some ((⟨0, 0, 0, 0⟩ : GStream), 0, 1)
   else
    (Qec N p0).bind fun x12 =>
    bif (decide (p1.Mass > x12)) then
     some ((⟨0, 0, 0, 0⟩ : GStream), 0, 2)
    else
     k1 ()
def Zal (p0 : GUnit) : AV := .dat 2 ((p0.Parts : List GPart).map Qa4)
def Zfi (p1 : GStream) : Slot := .own 4 [[(I (p1.Mass)), (I (p1.Heat)), (I (p1.Silica)), (I (p1.Gas))]]
def Zfg : Slot := .own 4 [[(I (0)), (I (0)), (I (0)), (I (0))]]
def Qu7 (p0 : GUnit) : AV := .agg [(I (p0.Inlet)), (Zal p0)]
def Qu6 : AV := .agg [(I (0)), (I (0)), (I (0)), (I (0))]
def Zfh (p1 : GStream) : AV := .agg [(I (p1.Mass)), (I (p1.Heat)), (I (p1.Silica)), (I (p1.Gas))]
def Zak (p1 : GStream) : AV := .dat 4 (([p1] : List GStream).map Qaq)
theorem Qqr (N : Nat) (p0 : GUnit) (p1 : GStream) (r : (GStream × Int × Int)) (h : Qii N p0 p1 = some r) : Spec Tryz.prog 17 [(.agg (Qcd p0)), (.agg (Qaq p1))] [] (.tup [(.agg (Qaq r.1)), (I r.2.1), (I r.2.2)]) [] := by
  refine Qab Tryz.func17 rfl 0 (nle rfl) (fun X φ0 w0 hφ0 hd0 => ?_)
  unfold Qii at h
  refine wx tbk [] trivial ?_
  obtain ⟨k1, hk_k1, h⟩ := jko h
  refine wjn (τ := Unit) (fun t => k1 t = some r) (fun _ => ⟨mk 41 [(2, .ref 0 2 0 0), (3, .ref 1 4 0 0), (4, .ref 2 4 0 0)], [(.own 2 [[I p0.Inlet, (Zal p0)]]), (Zfi p1), Zfg]⟩) (fun t h => ?_) ?_
  ·subst hk_k1
   obtain ⟨x3, hf2, h⟩ := bno h
   refine wx tbk [(3, rp [fu 55, (.tmp 25, (Qu7 p0)), (.tmp 27, I p1.Mass)] (I x3))] ⟨apc (first := []) (cap := []) (vs := [(Qu7 p0), I p1.Mass]) rfl Qyq (Qhb N p0 p1.Mass _ hf2) rfl rfl (nlc (NLt.agg _ (nlc nll (nlc (nld Qap _) nl0))) (nlc nll nl0)) nll rfl, trivial⟩ ?_
   refine wsq ?_
   refine wx tbk [] trivial ?_
   rcases bft ((decide (p1.Heat < x3))) with hc4 | hc4
   ·replace h := Qav hc4 h
    refine wft hc4 (by kernel_rfl) ?_
    refine wx tbk [(0, rp [] Qu6)] ⟨Qan (vs := []) rfl ts35 tz35 rfl (by rfl) rfl, trivial⟩ ?_
    refine Qaa ?_
    refine Qao ?_
    obtain rfl := osi h
    exact fend ⟨[Qu6, I 0, I 9], ⟨Qas (n := 2) (m := 4) (j := 0) (i := 0) (xs := [[I 0, I 0, I 0, I 0]]) (by kernel_rfl) (by kernel_rfl) ti35 (by decide) rfl (nle rfl) rfl, rot (by kernel_rfl), rot (by kernel_rfl), trivial⟩, rfl⟩ (NLt.tup _ (nlc (NLt.agg _ (nlc nll (nlc nll (nlc nll (nlc nll nl0))))) (nlc nll (nlc nll nl0))))
   ·replace h := Qaw hc4 h
    refine wfn hc4 (by kernel_rfl) ?_
    refine Qak ?_
    refine thn ?_
    refine wx tbk [] trivial ?_
    refine wx tbk [] trivial ?_
    refine Qaa ?_
    obtain rfl := osi h
    exact fend ⟨[(.agg [I p1.Mass, (I (w64 (p1.Heat - x3))), I p1.Silica, I p1.Gas]), I x3, I 0], ⟨Qas (n := 2) (m := 4) (j := 0) (i := 0) (xs := [[I p1.Mass, (I (w64 (p1.Heat - x3))), I p1.Silica, I p1.Gas]]) (by kernel_rfl) (by kernel_rfl) ti35 (by decide) rfl (nle rfl) rfl, rot (by kernel_rfl), rot (by kernel_rfl), trivial⟩, rfl⟩ (NLt.tup _ (nlc (NLt.agg _ (nlc nll (nlc nll (nlc nll (nlc nll nl0))))) (nlc nll (nlc nll nl0))))
  ·skip
   refine Qag ?_
   obtain ⟨x6, hf5, h⟩ := bno h
   rcases bft ((!x6)) with hb7 | hb7
   ·replace h := Qav hb7 h
    refine wx tbk [(1, rp [fu 53, (.tmp 8, (Qu7 p0))] (B x6)), (3, rp [(.tmp 10, (B ((!x6))))] (B true))] ⟨apc (first := []) (cap := []) (vs := [(Qu7 p0)]) rfl Ql0 (Qcz N p0 _ hf5) rfl rfl (nlc (NLt.agg _ (nlc nll (nlc (nld Qap _) nl0))) nl0) nll rfl, asb hb7 (amv rfl), trivial⟩ ?_
    refine Qcw (by kernel_rfl) ?_
    refine wx tbk [(0, rp [] Qu6)] ⟨Qan (vs := []) rfl ts35 tz35 rfl (by rfl) rfl, trivial⟩ ?_
    refine Qaa ?_
    refine Qa5 ?_
    refine Qao ?_
    obtain rfl := osi h
    exact fend ⟨[Qu6, I 0, I 1], ⟨Qas (n := 2) (m := 4) (j := 0) (i := 0) (xs := [[I 0, I 0, I 0, I 0]]) (by kernel_rfl) (by kernel_rfl) ti35 (by decide) rfl (nle rfl) rfl, rot (by kernel_rfl), rot (by kernel_rfl), trivial⟩, rfl⟩ (NLt.tup _ (nlc (NLt.agg _ (nlc nll (nlc nll (nlc nll (nlc nll nl0))))) (nlc nll (nlc nll nl0))))
   ·replace h := Qaw hb7 h
    obtain ⟨x9, hf8, h⟩ := bno h
    refine wx tbk [(1, rp [fu 53, (.tmp 8, (Qu7 p0))] (B x6)), (3, rp [(.tmp 10, (B ((!x6))))] (B false)), (5, rp [(.tmp 11, B false), (.tmp 12, (Zfh p1))] (Zak p1)), (6, rp [(.tmp 11, B false), fu 29, (.tmp 13, (Zak p1))] (B x9))] ⟨apc (first := []) (cap := []) (vs := [(Qu7 p0)]) rfl Ql0 (Qcz N p0 _ hf5) rfl rfl (nlc (NLt.agg _ (nlc nll (nlc (nld Qap _) nl0))) nl0) nll rfl, asb hb7 (amv rfl), ag_ (Qb8 (vs := [(Zfh p1)]) rfl Tryz.underlying124 ti35 tz35 rfl (by decide) rfl (by decide) (by rfl) (by rfl) (by rfl) rfl), ag_ (apc (first := []) (cap := []) (vs := [(Zak p1)]) rfl Qr1 (Qgx N ([p1]) _ hf8) rfl rfl (nlc (nld Qc2 _) nl0) nll rfl), trivial⟩ ?_
    rcases bft ((!x9)) with hc10 | hc10
    ·replace h := Qav hc10 h
     refine wft hc10 (by kernel_rfl) ?_
     refine wx tbk [(0, rp [] Qu6)] ⟨Qan (vs := []) rfl ts35 tz35 rfl (by rfl) rfl, trivial⟩ ?_
     refine Qaa ?_
     refine Qa5 ?_
     refine Qao ?_
     obtain rfl := osi h
     exact fend ⟨[Qu6, I 0, I 1], ⟨Qas (n := 2) (m := 4) (j := 0) (i := 0) (xs := [[I 0, I 0, I 0, I 0]]) (by kernel_rfl) (by kernel_rfl) ti35 (by decide) rfl (nle rfl) rfl, rot (by kernel_rfl), rot (by kernel_rfl), trivial⟩, rfl⟩ (NLt.tup _ (nlc (NLt.agg _ (nlc nll (nlc nll (nlc nll (nlc nll nl0))))) (nlc nll (nlc nll nl0))))
    ·replace h := Qaw hc10 h
     refine wfn hc10 (by kernel_rfl) ?_
     obtain ⟨x12, hf11, h⟩ := bno h
     refine wxd tbk [(3, rp [fu 54, (.tmp 21, (Qu7 p0))] (I x12))] ⟨apc (first := []) (cap := []) (vs := [(Qu7 p0)]) rfl Q5r (Qie N p0 _ hf11) rfl rfl (nlc (NLt.agg _ (nlc nll (nlc (nld Qap _) nl0))) nl0) nll rfl, trivial⟩ ?_
     rcases bft ((decide (p1.Mass > x12))) with hc13 | hc13
     ·replace h := Qav hc13 h
      refine wft hc13 (by kernel_rfl) ?_
      refine wx tbk [(0, rp [] Qu6)] ⟨Qan (vs := []) rfl ts35 tz35 rfl (by rfl) rfl, trivial⟩ ?_
      refine Qaa ?_
      refine Qa5 ?_
      refine Qao ?_
      obtain rfl := osi h
      exact fend ⟨[Qu6, I 0, I 2], ⟨Qas (n := 2) (m := 4) (j := 0) (i := 0) (xs := [[I 0, I 0, I 0, I 0]]) (by kernel_rfl) (by kernel_rfl) ti35 (by decide) rfl (nle rfl) rfl, rot (by kernel_rfl), rot (by kernel_rfl), trivial⟩, rfl⟩ (NLt.tup _ (nlc (NLt.agg _ (nlc nll (nlc nll (nlc nll (nlc nll nl0))))) (nlc nll (nlc nll nl0))))
     ·replace h := Qaw hc13 h
      refine wfn hc13 (by kernel_rfl) ?_
      refine Qak ?_
      refine bln ?_
      refine thn ?_
      exact ⟨(), h, (mto (n := 41) [(2, .ref 0 2 0 0), (3, .ref 1 4 0 0), (4, .ref 2 4 0 0)] [0, 1, 2] [(.own 2 [[I p0.Inlet, (Zal p0)]]), (Zfi p1), Zfg] hφ0 (pc (.rn (rqr rfl)) (pc (.rn (rqr rfl)) (pc (.rn (rqr rfl)) pn))) (qc (spb (lc rwl (lc (.rn (.plain _ (nld Qap _))) ln))) (qc (spb (lc rwl (lc rwl (lc rwl (lc rwl ln))))) (qc (spb (lc rwl (lc rwl (lc rwl (lc rwl ln))))) qn))))⟩
def Qd8 (N : Nat) (p0 : GStream) : Option Bool :=
  (Qdv N p0).bind fun x3 =>
  some (!x3)
def Q4g (p0 : GStream) : AV := .agg [(I (p0.Mass)), (I (p0.Heat)), (I (p0.Silica)), (I (p0.Gas))]
def Qz7 : Slot := .own 1 [[(.fn (.func 48) [] [])]]
theorem Qi3 (N : Nat) (p0 : GStream) (r : Bool) (h : Qd8 N p0 = some r) : Spec Tryz.prog 116 [(Q4g p0), (.ref 0 1 (0) 0)] [Qz7] (B (r)) [Qz7] := by
  refine Qab Tryz.func116 rfl 1 (nle rfl) (fun X φ0 w0 hφ0 hd0 => ?_)
  unfold Qd8 at h
  refine Qbh ?_
  refine wx tbk [] trivial ?_
  obtain ⟨x3, hf2, h⟩ := bno h
  refine wx tbk [(2, rp [(.tmp 4, (.fn (.func 48) [] [])), (.tmp 5, (Q4g p0))] (B x3))] ⟨apc (first := []) (cap := []) (vs := [(Q4g p0)]) rfl Qyr (Qgm N p0 _ hf2) rfl rfl (nlc (NLt.agg _ (nlc nll (nlc nll (nlc nll (nlc nll nl0))))) nl0) nll rfl, trivial⟩ ?_
  refine wmr (mto (n := 8) (l' := [(3, (B ((!x3))))]) (own' := [Qz7]) [(3, (B ((!x3))))] [0] [Qz7] hφ0 (pc rwl pn) (qc (spb (lc (.rn (Qau rn0 rn0)) ln)) qn)) ?_
  refine Qaa ?_
  obtain rfl := osi h
  exact ⟨_, Mor.rfl, Qb7 (vs := [(B ((!x3)))]) ⟨rot (by kernel_rfl), trivial⟩ rfl (NLt.of0 nll) (by kernel_rfl) (Qaf (Qay (nlc (NLt.of0 (NLt.fn _ _ _ nl0 nl0)) nl0)) Qbd)⟩
def Qa9 (N : Nat) (p0 : (List GStream)) (k2 : Unit → Option Int) : Nat → Int → Option Int
  | 0, _ => none
  | n5 + 1, y3 =>
    bif (decide (y3 < (p0.length : Int))) then
     (getI p0 y3).bind fun x7 =>
     (Qd8 N x7).bind fun x12 =>
     bif x12 then
      some y3
     else
      Qa9 N p0 k2 n5 (w64 (y3 + 1))
    else
     k2 ()
def Qca (N : Nat) (p0 : (List GStream)) : Option Int :=
  Qck (fun _ =>
    some (-1)) fun k2 : Unit → Option Int =>
  Qa9 N p0 k2 N 0
def Qq9 (p0 : (List GStream)) : AV := .dat 4 ((p0 : List GStream).map Qaq)
def Qs0 : AV := .fn (.func 116) [] [(.ref 0 1 (0) 0)]
def Qju : Slot := .own 1 [[(.fn (.func 48) [] [])]]
def Q98 (x7 : GStream) : AV := .agg [(I (x7.Mass)), (I (x7.Heat)), (I (x7.Silica)), (I (x7.Gas))]
theorem Qff (N : Nat) (p0 : (List GStream)) (r : Int) (h : Qca N p0 = some r) : Spec Tryz.prog 113 [(Qq9 p0), Qs0] [Qju] (I (r)) [Qju] := by
  refine Qab Tryz.func113 rfl 1 (nle rfl) (fun X φ0 w0 hφ0 hd0 => ?_)
  unfold Qca at h
  refine Qbh ?_
  refine wx tbk [] trivial ?_
  obtain ⟨k2, hk_k2, h⟩ := jko h
  refine wjn (τ := Unit) (fun t => k2 t = some r) (fun _ => ⟨mk 19 [], [Qju]⟩) (fun t h => ?_) ?_
  ·subst hk_k2
   refine wx tbk [] trivial ?_
   refine wmr (mto (n := 19) (l' := [(4, (I ((-1))))]) (own' := [Qju]) [(4, (I ((-1))))] [0] [Qju] hφ0 (pc rwl pn) (qc (spb (lc (.rn (Qau rn0 rn0)) ln)) qn)) ?_
   refine Qaa ?_
   obtain rfl := osi h
   exact ⟨_, Mor.rfl, Qb7 (vs := [(I ((-1)))]) ⟨rot (by kernel_rfl), trivial⟩ rfl (NLt.of0 nll) (by kernel_rfl) (Qaf (Qay (nlc (NLt.of0 (NLt.fn _ _ _ nl0 nl0)) nl0)) Qbd)⟩
  ·skip
   refine wx tbk [(1, rp [(.tmp 6, (Qq9 p0))] (I ((p0.length : Int))))] ⟨alm (c := Qaq) (l := p0) (aln rfl Tryz.underlying124 rfl), trivial⟩ ?_
   refine Qag ?_
   refine wmr (mto (n := 19) (l' := [(0, (Qq9 p0)), (1, Qs0), (7, (I ((p0.length : Int)))), (8, I 0)]) (own' := [Qju]) [(0, (Qq9 p0)), (1, Qs0), (7, (I ((p0.length : Int)))), (8, I 0)] [0] [Qju] hφ0 (pc (.rn (.plain _ (nld Qc2 _))) (pc (.rn (Qau rn0 (rnc (rqr rfl) rn0))) (pc rwl (pc rwl pn)))) (qc (spb (lc (.rn (Qau rn0 rn0)) ln)) qn)) ?_
   refine Qce (τ := Int) (fun n t => Qa9 N p0 k2 n t = some r) (fun y3 => ⟨mk 19 [(0, (Qq9 p0)), (1, Qs0), (7, (I ((p0.length : Int)))), (8, I y3)], [Qju]⟩) (fun t h => by rw [Qa9] at h; cases h) (fun n5 ih y3 h => ?_) N (0) h
   rw [Qa9] at h
   skip
   refine wx tbk [] trivial ?_
   refine wsq ?_
   rcases bft ((decide (y3 < (p0.length : Int)))) with hc6 | hc6
   ·replace h := Qav hc6 h
    refine wft hc6 (by kernel_rfl) ?_
    refine Qak ?_
    refine thn ?_
    refine wsq ?_
    refine Qag ?_
    refine wx tbk [] trivial ?_
    obtain ⟨x7, hg8, h⟩ := bno h
    obtain ⟨hi9, hj10⟩ := gsm hg8
    obtain ⟨x12, hf11, h⟩ := bno h
    refine wx tbk [(3, rp [(.tmp 12, (Qq9 p0)), (.tmp 13, I y3)] (.dptr (Qaq (x7)) 0)), (5, ⟨[(.tmp 11, Qs0), (.tmp 15, (Q98 x7))], [(0, Qju)], B x12, [(0, Qju)], false⟩)] ⟨aid rfl Tryz.underlying124 ti35 rfl rfl hi9 (mgt Qaq hj10) rfl, Qai (first := []) (cap := [.ref 0 1 0 0]) (vs := [(Q98 x7)]) (σr := [Qju]) (σr' := [Qju]) (res' := (B x12)) [0] rfl Q8i (Qi3 N x7 _ hf11) rfl (Qbc (rnc (.plain _ (NLt.agg _ (nlc nll (nlc nll (nlc nll (nlc nll nl0)))))) (rnc (Qa3 rfl) rn0))) (slc (Qae (rnc (.plain _ (NLt.fn _ _ _ nl0 nl0)) rn0)) Qah) (slc (Qae (rnc (.plain _ (NLt.fn _ _ _ nl0 nl0)) rn0)) Qah) (.plain _ nll) rfl rfl rfl, trivial⟩ ?_
    rcases bft (x12) with hc13 | hc13
    ·replace h := Qav hc13 h
     refine wft hc13 (by kernel_rfl) ?_
     refine wx tbk [] trivial ?_
     refine wmr (mto (n := 19) (l' := [(4, I y3)]) (own' := [Qju]) [(4, I y3)] [0] [Qju] hφ0 (pc rwl pn) (qc (spb (lc (.rn (Qau rn0 rn0)) ln)) qn)) ?_
     refine Qaa ?_
     refine Qa5 ?_
     refine Qao ?_
     refine Qao ?_
     refine Qa5 ?_
     refine Qao ?_
     obtain rfl := osi h
     exact ⟨_, Mor.rfl, Qb7 (vs := [I y3]) ⟨rot (by kernel_rfl), trivial⟩ rfl (NLt.of0 nll) (by kernel_rfl) (Qaf (Qay (nlc (NLt.of0 (NLt.fn _ _ _ nl0 nl0)) nl0)) Qbd)⟩
    ·replace h := Qaw hc13 h
     refine wfn hc13 (by kernel_rfl) ?_
     refine Qak ?_
     refine bln ?_
     refine thn ?_
     refine wx1 tbk [] trivial ?_
     refine thn ?_
     exact arm (mto (n := 19) [(0, (Qq9 p0)), (1, Qs0), (7, (I ((p0.length : Int)))), (8, (I (w64 (y3 + 1))))] [0] [Qju] hφ0 (pc (.rn (.plain _ (nld Qc2 _))) (pc (.rn (Qau rn0 (rnc (rqr rfl) rn0))) (pc rwl (pc rwl pn)))) (qc (spb (lc (.rn (Qau rn0 rn0)) ln)) qn)) (ih (w64 (y3 + 1)) h)
   ·replace h := Qaw hc6 h
    refine wfn hc6 (by kernel_rfl) ?_
    refine Qbk ?_
    refine Qax ?_
    refine Qax ?_
    refine Qbj rfl ?_
    refine thn ?_
    exact ⟨(), h, (mto (n := 19) [] [0] [Qju] hφ0 pn (qc (spb (lc (.rn (Qau rn0 rn0)) ln)) qn))⟩
def Qb2 (N : Nat) (p0 : (List GStream)) : Option Bool :=
  (Qca N p0).bind fun x3 =>
  some (decide (x3 ≥ 0))
def Zag (p0 : (List GStream)) : AV := .dat 4 ((p0 : List GStream).map Qaq)
def Zaf : AV := .fn (.func 116) [] [(.ref 0 1 (0) 0)]
def Qu4 : Slot := .own 1 [[(.fn (.func 48) [] [])]]
theorem Qe4 (N : Nat) (p0 : (List GStream)) (r : Bool) (h : Qb2 N p0 = some r) : Spec Tryz.prog 94 [(Zag p0), Zaf] [Qu4] (B (r)) [Qu4] := by
  refine Qab Tryz.func94 rfl 1 (nle rfl) (fun X φ0 w0 hφ0 hd0 => ?_)
  unfold Qb2 at h
  refine Qbh ?_
  refine wx tbk [] trivial ?_
  obtain ⟨x3, hf2, h⟩ := bno h
  refine wx tbk [(2, ⟨[fu 113, (.tmp 5, (Zag p0)), (.tmp 6, Zaf)], [(0, Qu4)], I x3, [(0, Qu4)], false⟩)] ⟨Qai (first := []) (cap := []) (vs := [(Zag p0), Zaf]) (σr := [Qu4]) (σr' := [Qu4]) (res' := (I x3)) [0] rfl Q0u (Qff N p0 _ hf2) rfl (Qbc (rnc (.plain _ (nld Qc2 _)) (rnc (Qau rn0 (rnc (Qa3 rfl) rn0)) rn0))) (slc (Qae (rnc (.plain _ (NLt.fn _ _ _ nl0 nl0)) rn0)) Qah) (slc (Qae (rnc (.plain _ (NLt.fn _ _ _ nl0 nl0)) rn0)) Qah) (.plain _ nll) rfl rfl rfl, trivial⟩ ?_
  refine wmr (mto (n := 9) (l' := [(4, (B ((decide (x3 ≥ 0)))))]) (own' := [Qu4]) [(4, (B ((decide (x3 ≥ 0)))))] [0] [Qu4] hφ0 (pc rwl pn) (qc (spb (lc (.rn (Qau rn0 rn0)) ln)) qn)) ?_
  refine Qaa ?_
  obtain rfl := osi h
  exact ⟨_, Mor.rfl, Qb7 (vs := [(B ((decide (x3 ≥ 0))))]) ⟨rot (by kernel_rfl), trivial⟩ rfl (NLt.of0 nll) (by kernel_rfl) (Qaf (Qay (nlc (NLt.of0 (NLt.fn _ _ _ nl0 nl0)) nl0)) Qbd)⟩
def Qej (N : Nat) (p0 : (List GStream)) : Option Bool :=
  (Qb2 N p0).bind fun x2 =>
  some (!x2)
def Zai (p0 : (List GStream)) : AV := .dat 4 ((p0 : List GStream).map Qaq)
def Zah : AV := .fn (.func 116) [] [(.ref 0 1 (0) 0)]
def Q6o : Slot := .own 1 [[(.fn (.func 48) [] [])]]
theorem Qjz (N : Nat) (p0 : (List GStream)) (r : Bool) (h : Qej N p0 = some r) : Spec Tryz.prog 101 [(Zai p0), (.fn (.func 48) [] [])] [] (B (r)) [] := by
  refine Qab Tryz.func101 rfl 0 (nle rfl) (fun X φ0 w0 hφ0 hd0 => ?_)
  unfold Qej at h
  refine wx tbk [] trivial ?_
  obtain ⟨x2, hf1, h⟩ := bno h
  refine wx tbk [(1, rp [(.tmp 3, .ref 0 1 0 0)] Zah), (2, ⟨[fu 94, (.tmp 5, (Zai p0)), (.tmp 6, Zah)], [(0, Q6o)], B x2, [(0, Q6o)], false⟩)] ⟨Qdc (fs := []) (cs := [.ref 0 1 0 0]) rfl rfl rfl rfl, Qai (first := []) (cap := []) (vs := [(Zai p0), Zah]) (σr := [Q6o]) (σr' := [Q6o]) (res' := (B x2)) [0] rfl Q5o (Qe4 N p0 _ hf1) rfl (Qbc (rnc (.plain _ (nld Qc2 _)) (rnc (Qau rn0 (rnc (Qa3 rfl) rn0)) rn0))) (slc (Qae (rnc (.plain _ (NLt.fn _ _ _ nl0 nl0)) rn0)) Qah) (slc (Qae (rnc (.plain _ (NLt.fn _ _ _ nl0 nl0)) rn0)) Qah) (.plain _ nll) rfl rfl rfl, trivial⟩ ?_
  refine Qaa ?_
  obtain rfl := osi h
  exact fend ⟨[(B ((!x2)))], ⟨rot (by kernel_rfl), trivial⟩, rfl⟩ nll
def Qhd (N : Nat) (p0 : (List GStream)) : Option Int :=
  bif (decide ((p0.length : Int) > 40)) then
   some 3
  else
   (Qej N p0).bind fun x3 =>
   bif (!x3) then
    some 1
   else
    some 0
def Zaj (p0 : (List GStream)) : AV := .dat 4 ((p0 : List GStream).map Qaq)
theorem Qpt (N : Nat) (p0 : (List GStream)) (r : Int) (h : Qhd N p0 = some r) : Spec Tryz.prog 81 [(.dat 4 (p0.map Qaq))] [] (I r) [] := by
  refine Qab Tryz.func81 rfl 0 (nle rfl) (fun X φ0 w0 hφ0 hd0 => ?_)
  unfold Qhd at h
  refine wx tbk [] trivial ?_
  refine wsq ?_
  refine Qag ?_
  refine wx tbk [(1, rp [(.tmp 4, (Zaj p0))] (I ((p0.length : Int))))] ⟨alm (c := Qaq) (l := p0) (aln rfl Tryz.underlying124 rfl), trivial⟩ ?_
  rcases bft ((decide ((p0.length : Int) > 40))) with hc1 | hc1
  ·replace h := Qav hc1 h
   refine wft hc1 (by kernel_rfl) ?_
   refine wx tbk [] trivial ?_
   refine Qaa ?_
   refine Qa5 ?_
   refine Qao ?_
   obtain rfl := osi h
   exact fend ⟨[I 3], ⟨rot (by kernel_rfl), trivial⟩, rfl⟩ nll
  ·replace h := Qaw hc1 h
   refine wfn hc1 (by kernel_rfl) ?_
   obtain ⟨x3, hf2, h⟩ := bno h
   refine wx tbk [(1, rp [fu 101, (.tmp 8, (Zaj p0)), fu 48] (B x3))] ⟨Qai (first := []) (cap := []) (vs := [(Zaj p0), (.fn (.func 48) [] [])]) (σr := []) (σr' := []) (res' := (B x3)) [] rfl Q8s (Qjz N p0 _ hf2) rfl (Qbc (rnc (.plain _ (nld Qc2 _)) (rnc (.plain _ (NLt.fn _ _ _ nl0 nl0)) rn0))) Qah Qah (.plain _ nll) rfl rfl rfl, trivial⟩ ?_
   rcases bft ((!x3)) with hc4 | hc4
   ·replace h := Qav hc4 h
    refine wft hc4 (by kernel_rfl) ?_
    refine wx tbk [] trivial ?_
    refine Qaa ?_
    refine Qa5 ?_
    refine Qao ?_
    obtain rfl := osi h
    exact fend ⟨[I 1], ⟨rot (by kernel_rfl), trivial⟩, rfl⟩ nll
   ·replace h := Qaw hc4 h
    refine wfn hc4 (by kernel_rfl) ?_
    refine Qak ?_
    refine bln ?_
    refine thn ?_
    refine wx tbk [] trivial ?_
    refine Qaa ?_
    obtain rfl := osi h
    exact fend ⟨[I 0], ⟨rot (by kernel_rfl), trivial⟩, rfl⟩ nll
def Qcq (_N : Nat) (_p0 : Int) (_p1 : Int) (_p2 : Int) (_p3 : Int) : Option Unit :=
  some ()
def Qqd (p0 : Int) (p1 : Int) (p2 : Int) (p3 : Int) : Slot := .own 4 [[(I (p0)), (I (p1)), (I (p2)), (I (p3))]]
def Q4e : AV := .agg [(.ref 0 4 (0) 0), (.ref 0 4 (0) 1), (.ref 0 4 (0) 2), (.ref 0 4 (0) 3)]
def Q4d : Slot := .own 4 [[(.ref 0 4 (0) 0), (.ref 0 4 (0) 1), (.ref 0 4 (0) 2), (.ref 0 4 (0) 3)]]
theorem Qdj (N : Nat) (p0 : Int) (p1 : Int) (p2 : Int) (p3 : Int) (r : Unit) (h : Qcq N p0 p1 p2 p3 = some r) : Spec Tryz.prog 103 [(.ref 0 4 (0) 0)] [(Qqd p0 p1 p2 p3)] Q4e [(Qqd p0 p1 p2 p3), Q4d] := by
  refine Qab Tryz.func103 rfl 2 (nle rfl) (fun X φ0 w0 hφ0 hd0 => ?_)
  unfold Qcq at h
  refine Qbh ?_
  refine wx tbk [] trivial ?_
  refine wxd tbk [(1, rb [(.tmp 3, .ref 0 4 0 0)] [(0, (Qqd p0 p1 p2 p3))] (.ref 0 4 0 0)), (4, rb [(.tmp 6, .ref 0 4 0 0)] [(0, (Qqd p0 p1 p2 p3))] (.ref 0 4 0 0)), (7, rb [(.tmp 9, .ref 0 4 0 0)] [(0, (Qqd p0 p1 p2 p3))] (.ref 0 4 0 0)), (10, rb [(.tmp 12, .ref 0 4 0 0)] [(0, (Qqd p0 p1 p2 p3))] (.ref 0 4 0 0)), (12, rp [(.tmp 5, .ref 0 4 0 0), (.tmp 8, .ref 0 4 0 1), (.tmp 11, .ref 0 4 0 2), (.tmp 14, .ref 0 4 0 3)] Q4e)] ⟨Qbw rfl, Qbw rfl, Qbw rfl, Qbw rfl, Qw7 (vs := [.ref 0 4 0 0, .ref 0 4 0 1, .ref 0 4 0 2, .ref 0 4 0 3]) rfl Tryz.underlying172 Qsi Zgf rfl (by rfl) rfl, trivial⟩ ?_
  refine wmr (mto (n := 16) (l' := [(2, .ref 1 4 0 0)]) (own' := [(Qqd p0 p1 p2 p3), Q4d]) [(2, .ref 1 4 0 0)] [0, 1] [(Qqd p0 p1 p2 p3), Q4d] hφ0 (pc (.rn (rqr rfl)) pn) (qc (spb (lc rwl (lc rwl (lc rwl (lc rwl ln))))) (qc (spb (lc (.rn (rqr rfl)) (lc (.rn (rqr rfl)) (lc (.rn (rqr rfl)) (lc (.rn (rqr rfl)) ln))))) qn))) ?_
  refine Qaa ?_
  obtain rfl := osi h
  exact ⟨_, Mor.rfl, Qb7 (vs := [Q4e]) ⟨Qas (n := 1) (m := 4) (j := 0) (i := 0) (xs := [[.ref 0 4 0 0, .ref 0 4 0 1, .ref 0 4 0 2, .ref 0 4 0 3]]) (by kernel_rfl) (by kernel_rfl) Zgj (by decide) rfl (nle rfl) rfl, trivial⟩ rfl (NLt.agg _ (nlc (NLt.ref _ _ _ _ (by decide)) (nlc (NLt.ref _ _ _ _ (by decide)) (nlc (NLt.ref _ _ _ _ (by decide)) (nlc (NLt.ref _ _ _ _ (by decide)) nl0))))) (by kernel_rfl) (Qaf (Qay (nlc (NLt.of0 nll) (nlc (NLt.of0 nll) (nlc (NLt.of0 nll) (nlc (NLt.of0 nll) nl0))))) (Qaf (Qay (nlc (NLt.ref _ _ _ _ (by decide)) (nlc (NLt.ref _ _ _ _ (by decide)) (nlc (NLt.ref _ _ _ _ (by decide)) (nlc (NLt.ref _ _ _ _ (by decide)) nl0))))) Qbd))⟩
def Qiw (N : Nat) (p0 : GStream) (p1 : Int) (p2 : Int) (p3 : Int) (p4 : Int) : Option Unit :=
  (Qcq N p0.Mass p0.Heat p0.Silica p0.Gas).bind fun _ =>
  (Qcq N p1 p2 p3 p4).bind fun _ =>
  (Qcq N (w64 (p1 + p0.Mass)) p2 p3 p4).bind fun _ =>
  (Qcq N (w64 (p1 + p0.Mass)) (w64 (p2 + p0.Heat)) p3 p4).bind fun _ =>
  (Qcq N (w64 (p1 + p0.Mass)) (w64 (p2 + p0.Heat)) (w64 (p3 + p0.Silica)) p4).bind fun _ =>
  some ()
def Qq8 (p1 : Int) (p2 : Int) (p3 : Int) (p4 : Int) : Slot := .own 4 [[(I (p1)), (I (p2)), (I (p3)), (I (p4))]]
def Qyc (p1 : Int) (p0 : GStream) (p2 : Int) (p3 : Int) (p4 : Int) : Slot := .own 4 [[(I (w64 (p1 + p0.Mass))), (I (w64 (p2 + p0.Heat))), (I (w64 (p3 + p0.Silica))), (I (w64 (p4 + p0.Gas)))]]
def Qqf (p0 : GStream) : Slot := .own 4 [[(I (p0.Mass)), (I (p0.Heat)), (I (p0.Silica)), (I (p0.Gas))]]
def Qsx : AV := .agg [(.ref 1 4 (0) 0), (.ref 1 4 (0) 1), (.ref 1 4 (0) 2), (.ref 1 4 (0) 3)]
def Q96 : Slot := .own 4 [[(.ref 1 4 (0) 0), (.ref 1 4 (0) 1), (.ref 1 4 (0) 2), (.ref 1 4 (0) 3)]]
def Ql2 : AV := .agg [(.ref 0 4 (0) 0), (.ref 0 4 (0) 1), (.ref 0 4 (0) 2), (.ref 0 4 (0) 3)]
def Qqe : Slot := .own 4 [[(.ref 0 4 (0) 0), (.ref 0 4 (0) 1), (.ref 0 4 (0) 2), (.ref 0 4 (0) 3)]]
def Qsw (p1 : Int) (p0 : GStream) (p2 : Int) (p3 : Int) (p4 : Int) : Slot := .own 4 [[(I (w64 (p1 + p0.Mass))), (I (p2)), (I (p3)), (I (p4))]]
def Qsv (p1 : Int) (p0 : GStream) (p2 : Int) (p3 : Int) (p4 : Int) : Slot := .own 4 [[(I (w64 (p1 + p0.Mass))), (I (w64 (p2 + p0.Heat))), (I (p3)), (I (p4))]]
def Qsu (p1 : Int) (p0 : GStream) (p2 : Int) (p3 : Int) (p4 : Int) : Slot := .own 4 [[(I (w64 (p1 + p0.Mass))), (I (w64 (p2 + p0.Heat))), (I (w64 (p3 + p0.Silica))), (I (p4))]]
theorem Qps (N : Nat) (p0 : GStream) (p1 : Int) (p2 : Int) (p3 : Int) (p4 : Int) (r : Unit) (h : Qiw N p0 p1 p2 p3 p4 = some r) : Spec Tryz.prog 102 [(.agg [(I (p0.Mass)), (I (p0.Heat)), (I (p0.Silica)), (I (p0.Gas))]), (.ref 0 4 (0) 0)] [(Qq8 p1 p2 p3 p4)] (.tup []) [(Qyc p1 p0 p2 p3 p4)] := by
  refine Qab Tryz.func102 rfl 1 (nle rfl) (fun X φ0 w0 hφ0 hd0 => ?_)
  unfold Qiw at h
  refine Qbh ?_
  refine wx tbk [] trivial ?_
  obtain ⟨x2, hf1, h⟩ := bno h
  refine wx tbk [(0, ⟨[fu 103, (.tmp 2, .ref 1 4 0 0)], [(1, (Qqf p0)), (2, .unused)], Qsx, [(1, (Qqf p0)), (2, Q96)], false⟩)] ⟨Qai (first := []) (cap := []) (vs := [.ref 1 4 0 0]) (σr := [(Qqf p0)]) (σr' := [(Qqf p0), Q96]) (res' := Qsx) [1, 2] rfl Qpa (Qdj N p0.Mass p0.Heat p0.Silica p0.Gas _ hf1) rfl (Qbc (rnc (Qa3 rfl) rn0)) (slc (Qae (rnc (.plain _ nll) (rnc (.plain _ nll) (rnc (.plain _ nll) (rnc (.plain _ nll) rn0))))) Qah) (slc (Qae (rnc (.plain _ nll) (rnc (.plain _ nll) (rnc (.plain _ nll) (rnc (.plain _ nll) rn0))))) (slc (Qae (rnc (Qb3 rfl) (rnc (Qb3 rfl) (rnc (Qb3 rfl) (rnc (Qb3 rfl) rn0))))) Qah)) (Qbc (rnc (Qb3 rfl) (rnc (Qb3 rfl) (rnc (Qb3 rfl) (rnc (Qb3 rfl) rn0))))) rfl rfl rfl, trivial⟩ ?_
  refine Qag ?_
  refine Qux 17 ?_
  refine Qm8 ?_
  refine wx tbk [] trivial ?_
  refine wsq ?_
  refine Qcw (by kernel_rfl) ?_
  refine Qak ?_
  refine thn ?_
  refine wsq ?_
  refine Qag ?_
  refine wx tbk [(1, rp [(.tmp 5, Qsx), (.tmp 6, I 0)] (.ref 1 4 0 0))] ⟨Qg2 rfl Tryz.underlying172 Qsi (by decide) (by decide) (nle rfl) (by decide) rfl, trivial⟩ ?_
  obtain ⟨x4, hf3, h⟩ := bno h
  refine wy1 tbk [(0, ⟨[fu 103, (.tmp 1, .ref 0 4 0 0)], [(0, (Qq8 p1 p2 p3 p4)), (3, .unused)], Ql2, [(0, (Qq8 p1 p2 p3 p4)), (3, Qqe)], false⟩), (2, rp [(.tmp 10, Ql2), (.tmp 11, I 0)] (.ref 0 4 0 0)), (3, rb [(.tmp 12, .ref 0 4 0 0)] [(0, (Qq8 p1 p2 p3 p4))] (.ref 0 4 0 0)), (6, rb [(.tmp 15, .ref 1 4 0 0)] [(1, (Qqf p0))] (.ref 1 4 0 0)), (9, rb [(.tmp 12, .ref 0 4 0 0)] [(0, (Qq8 p1 p2 p3 p4))] (.ref 0 4 0 0))] ⟨Qai (first := []) (cap := []) (vs := [.ref 0 4 0 0]) (σr := [(Qq8 p1 p2 p3 p4)]) (σr' := [(Qq8 p1 p2 p3 p4), Qqe]) (res' := Ql2) [0, 3] rfl Qpa (Qdj N p1 p2 p3 p4 _ hf3) rfl (Qbc (rnc (Qa3 rfl) rn0)) (slc (Qae (rnc (.plain _ nll) (rnc (.plain _ nll) (rnc (.plain _ nll) (rnc (.plain _ nll) rn0))))) Qah) (slc (Qae (rnc (.plain _ nll) (rnc (.plain _ nll) (rnc (.plain _ nll) (rnc (.plain _ nll) rn0))))) (slc (Qae (rnc (Qb3 rfl) (rnc (Qb3 rfl) (rnc (Qb3 rfl) (rnc (Qb3 rfl) rn0))))) Qah)) (Qbc (rnc (Qb3 rfl) (rnc (Qb3 rfl) (rnc (Qb3 rfl) (rnc (Qb3 rfl) rn0))))) rfl rfl rfl, Qg2 rfl Tryz.underlying172 Qsi (by decide) (by decide) (nle rfl) (by decide) rfl, Qbw rfl, Qbw rfl, Qbw rfl, trivial⟩ ?_
  refine bln ?_
  refine thn ?_
  refine wx1 tbk [] trivial ?_
  refine thn ?_
  refine Qm8 ?_
  refine wx tbk [] trivial ?_
  refine wsq ?_
  refine Qcw (by kernel_rfl) ?_
  refine Qak ?_
  refine thn ?_
  refine wsq ?_
  refine Qag ?_
  refine wx tbk [(1, rp [(.tmp 5, Qsx), (.tmp 6, I 1)] (.ref 1 4 0 1))] ⟨Qg2 rfl Tryz.underlying172 Qsi (by decide) (by decide) (nle rfl) (by decide) rfl, trivial⟩ ?_
  obtain ⟨x6, hf5, h⟩ := bno h
  refine wy1 tbk [(0, ⟨[fu 103, (.tmp 1, .ref 0 4 0 0)], [(0, (Qsw p1 p0 p2 p3 p4)), (4, .unused)], Ql2, [(0, (Qsw p1 p0 p2 p3 p4)), (4, Qqe)], false⟩), (2, rp [(.tmp 10, Ql2), (.tmp 11, I 1)] (.ref 0 4 0 1)), (3, rb [(.tmp 12, .ref 0 4 0 1)] [(0, (Qsw p1 p0 p2 p3 p4))] (.ref 0 4 0 1)), (6, rb [(.tmp 15, .ref 1 4 0 1)] [(1, (Qqf p0))] (.ref 1 4 0 1)), (9, rb [(.tmp 12, .ref 0 4 0 1)] [(0, (Qsw p1 p0 p2 p3 p4))] (.ref 0 4 0 1))] ⟨Qai (first := []) (cap := []) (vs := [.ref 0 4 0 0]) (σr := [(Qsw p1 p0 p2 p3 p4)]) (σr' := [(Qsw p1 p0 p2 p3 p4), Qqe]) (res' := Ql2) [0, 4] rfl Qpa (Qdj N (w64 (p1 + p0.Mass)) p2 p3 p4 _ hf5) rfl (Qbc (rnc (Qa3 rfl) rn0)) (slc (Qae (rnc (.plain _ nll) (rnc (.plain _ nll) (rnc (.plain _ nll) (rnc (.plain _ nll) rn0))))) Qah) (slc (Qae (rnc (.plain _ nll) (rnc (.plain _ nll) (rnc (.plain _ nll) (rnc (.plain _ nll) rn0))))) (slc (Qae (rnc (Qb3 rfl) (rnc (Qb3 rfl) (rnc (Qb3 rfl) (rnc (Qb3 rfl) rn0))))) Qah)) (Qbc (rnc (Qb3 rfl) (rnc (Qb3 rfl) (rnc (Qb3 rfl) (rnc (Qb3 rfl) rn0))))) rfl rfl rfl, Qg2 rfl Tryz.underlying172 Qsi (by decide) (by decide) (nle rfl) (by decide) rfl, Qbw rfl, Qbw rfl, Qbw rfl, trivial⟩ ?_
  refine bln ?_
  refine thn ?_
  refine wx1 tbk [] trivial ?_
  refine thn ?_
  refine Qm8 ?_
  refine wx tbk [] trivial ?_
  refine wsq ?_
  refine Qcw (by kernel_rfl) ?_
  refine Qak ?_
  refine thn ?_
  refine wsq ?_
  refine Qag ?_
  refine wx tbk [(1, rp [(.tmp 5, Qsx), (.tmp 6, I 2)] (.ref 1 4 0 2))] ⟨Qg2 rfl Tryz.underlying172 Qsi (by decide) (by decide) (nle rfl) (by decide) rfl, trivial⟩ ?_
  obtain ⟨x8, hf7, h⟩ := bno h
  refine wy1 tbk [(0, ⟨[fu 103, (.tmp 1, .ref 0 4 0 0)], [(0, (Qsv p1 p0 p2 p3 p4)), (5, .unused)], Ql2, [(0, (Qsv p1 p0 p2 p3 p4)), (5, Qqe)], false⟩), (2, rp [(.tmp 10, Ql2), (.tmp 11, I 2)] (.ref 0 4 0 2)), (3, rb [(.tmp 12, .ref 0 4 0 2)] [(0, (Qsv p1 p0 p2 p3 p4))] (.ref 0 4 0 2)), (6, rb [(.tmp 15, .ref 1 4 0 2)] [(1, (Qqf p0))] (.ref 1 4 0 2)), (9, rb [(.tmp 12, .ref 0 4 0 2)] [(0, (Qsv p1 p0 p2 p3 p4))] (.ref 0 4 0 2))] ⟨Qai (first := []) (cap := []) (vs := [.ref 0 4 0 0]) (σr := [(Qsv p1 p0 p2 p3 p4)]) (σr' := [(Qsv p1 p0 p2 p3 p4), Qqe]) (res' := Ql2) [0, 5] rfl Qpa (Qdj N (w64 (p1 + p0.Mass)) (w64 (p2 + p0.Heat)) p3 p4 _ hf7) rfl (Qbc (rnc (Qa3 rfl) rn0)) (slc (Qae (rnc (.plain _ nll) (rnc (.plain _ nll) (rnc (.plain _ nll) (rnc (.plain _ nll) rn0))))) Qah) (slc (Qae (rnc (.plain _ nll) (rnc (.plain _ nll) (rnc (.plain _ nll) (rnc (.plain _ nll) rn0))))) (slc (Qae (rnc (Qb3 rfl) (rnc (Qb3 rfl) (rnc (Qb3 rfl) (rnc (Qb3 rfl) rn0))))) Qah)) (Qbc (rnc (Qb3 rfl) (rnc (Qb3 rfl) (rnc (Qb3 rfl) (rnc (Qb3 rfl) rn0))))) rfl rfl rfl, Qg2 rfl Tryz.underlying172 Qsi (by decide) (by decide) (nle rfl) (by decide) rfl, Qbw rfl, Qbw rfl, Qbw rfl, trivial⟩ ?_
  refine bln ?_
  refine thn ?_
  refine wx1 tbk [] trivial ?_
  refine thn ?_
  refine Qm8 ?_
  refine wx tbk [] trivial ?_
  refine wsq ?_
  refine Qcw (by kernel_rfl) ?_
  refine Qak ?_
  refine thn ?_
  refine wsq ?_
  refine Qag ?_
  refine wx tbk [(1, rp [(.tmp 5, Qsx), (.tmp 6, I 3)] (.ref 1 4 0 3))] ⟨Qg2 rfl Tryz.underlying172 Qsi (by decide) (by decide) (nle rfl) (by decide) rfl, trivial⟩ ?_
  obtain ⟨x10, hf9, h⟩ := bno h
  refine wy1 tbk [(0, ⟨[fu 103, (.tmp 1, .ref 0 4 0 0)], [(0, (Qsu p1 p0 p2 p3 p4)), (6, .unused)], Ql2, [(0, (Qsu p1 p0 p2 p3 p4)), (6, Qqe)], false⟩), (2, rp [(.tmp 10, Ql2), (.tmp 11, I 3)] (.ref 0 4 0 3)), (3, rb [(.tmp 12, .ref 0 4 0 3)] [(0, (Qsu p1 p0 p2 p3 p4))] (.ref 0 4 0 3)), (6, rb [(.tmp 15, .ref 1 4 0 3)] [(1, (Qqf p0))] (.ref 1 4 0 3)), (9, rb [(.tmp 12, .ref 0 4 0 3)] [(0, (Qsu p1 p0 p2 p3 p4))] (.ref 0 4 0 3))] ⟨Qai (first := []) (cap := []) (vs := [.ref 0 4 0 0]) (σr := [(Qsu p1 p0 p2 p3 p4)]) (σr' := [(Qsu p1 p0 p2 p3 p4), Qqe]) (res' := Ql2) [0, 6] rfl Qpa (Qdj N (w64 (p1 + p0.Mass)) (w64 (p2 + p0.Heat)) (w64 (p3 + p0.Silica)) p4 _ hf9) rfl (Qbc (rnc (Qa3 rfl) rn0)) (slc (Qae (rnc (.plain _ nll) (rnc (.plain _ nll) (rnc (.plain _ nll) (rnc (.plain _ nll) rn0))))) Qah) (slc (Qae (rnc (.plain _ nll) (rnc (.plain _ nll) (rnc (.plain _ nll) (rnc (.plain _ nll) rn0))))) (slc (Qae (rnc (Qb3 rfl) (rnc (Qb3 rfl) (rnc (Qb3 rfl) (rnc (Qb3 rfl) rn0))))) Qah)) (Qbc (rnc (Qb3 rfl) (rnc (Qb3 rfl) (rnc (Qb3 rfl) (rnc (Qb3 rfl) rn0))))) rfl rfl rfl, Qg2 rfl Tryz.underlying172 Qsi (by decide) (by decide) (nle rfl) (by decide) rfl, Qbw rfl, Qbw rfl, Qbw rfl, trivial⟩ ?_
  refine bln ?_
  refine thn ?_
  refine wx1 tbk [] trivial ?_
  refine thn ?_
  refine Qm8 ?_
  refine wx tbk [] trivial ?_
  refine wsq ?_
  refine Qep (by kernel_rfl) ?_
  refine Qbk ?_
  refine Qax ?_
  refine Qax ?_
  refine Qbj rfl ?_
  obtain rfl := osi h
  exact ⟨_, (mto (n := 21) (l' := []) (own' := [(Qyc p1 p0 p2 p3 p4)]) [] [0] [(Qyc p1 p0 p2 p3 p4)] hφ0 pn (qc (spb (lc rwl (lc rwl (lc rwl (lc rwl ln))))) qn)), Qb7 (vs := []) trivial rfl (NLt.tup _ nl0) (by kernel_rfl) (Qaf (Qay (nlc (NLt.of0 nll) (nlc (NLt.of0 nll) (nlc (NLt.of0 nll) (nlc (NLt.of0 nll) nl0))))) Qbd)⟩
def Qfa (N : Nat) (p0 : (List GStream)) (k5 : Int × Int × Int × Int → Option GStream) : Nat → Int → Int → Int → Int → Int → Option GStream
  | 0, _, _, _, _, _ => none
  | n16 + 1, y6, y7, y8, y9, y10 =>
    bif (decide (y6 < (p0.length : Int))) then
     (getI p0 y6).bind fun x18 =>
     (Qiw N x18 y7 y8 y9 y10).bind fun _ =>
     Qfa N p0 k5 n16 (w64 (y6 + 1)) (w64 (y7 + x18.Mass)) (w64 (y8 + x18.Heat)) (w64 (y9 + x18.Silica)) (w64 (y10 + x18.Gas))
    else
     k5 (y7, y8, y9, y10)
def Qk7 (N : Nat) (p0 : (List GStream)) : Option GStream :=
  Qck (fun ⟨y1, y2, y3, y4⟩ =>
    some (⟨y1, y2, y3, y4⟩ : GStream)) fun k5 : Int × Int × Int × Int → Option GStream =>
  Qfa N p0 k5 N 0 0 0 0 0
def Qsz : AV := .fn (.func 102) [] [(.ref 0 4 (0) 0)]
def Qsy (p0 : (List GStream)) : AV := .dat 4 ((p0 : List GStream).map Qaq)
def Q97 : Slot := .own 4 [[(I (0)), (I (0)), (I (0)), (I (0))]]
def Qt3 (y7 : Int) (y8 : Int) (y9 : Int) (y10 : Int) : Slot := .own 4 [[(I (y7)), (I (y8)), (I (y9)), (I (y10))]]
def Q4f (x18 : GStream) : AV := .agg [(I (x18.Mass)), (I (x18.Heat)), (I (x18.Silica)), (I (x18.Gas))]
def Qyd (y7 : Int) (x18 : GStream) (y8 : Int) (y9 : Int) (y10 : Int) : Slot := .own 4 [[(I (w64 (y7 + x18.Mass))), (I (w64 (y8 + x18.Heat))), (I (w64 (y9 + x18.Silica))), (I (w64 (y10 + x18.Gas)))]]
theorem Qt8 (N : Nat) (p0 : (List GStream)) (r : GStream) (h : Qk7 N p0 = some r) : Spec Tryz.prog 82 [(.dat 4 (p0.map Qaq))] [] (.agg (Qaq r)) [] := by
  refine Qab Tryz.func82 rfl 0 (nle rfl) (fun X φ0 w0 hφ0 hd0 => ?_)
  unfold Qk7 at h
  refine wx tbk [] trivial ?_
  refine wx tbk [(0, rp [(.tmp 2, .ref 0 4 0 0)] Qsz)] ⟨Qdc (fs := []) (cs := [.ref 0 4 0 0]) rfl rfl rfl rfl, trivial⟩ ?_
  obtain ⟨k5, hk_k5, h⟩ := jko h
  refine wjn (τ := Int × Int × Int × Int) (fun t => k5 t = some r) (fun ⟨y1, y2, y3, y4⟩ => ⟨mk 18 [(2, .ref 0 4 0 0)], [(.own 4 [[I y1, I y2, I y3, I y4]])]⟩) (fun t h => ?_) ?_
  ·subst hk_k5
   obtain ⟨y1, y2, y3, y4⟩ := t
   refine wx tbk [] trivial ?_
   refine Qaa ?_
   obtain rfl := osi h
   exact fend ⟨[(.agg [I y1, I y2, I y3, I y4])], ⟨Qas (n := 0) (m := 4) (j := 0) (i := 0) (xs := [[I y1, I y2, I y3, I y4]]) (by kernel_rfl) (by kernel_rfl) ti35 (by decide) rfl (nle rfl) rfl, trivial⟩, rfl⟩ (NLt.agg _ (nlc nll (nlc nll (nlc nll (nlc nll nl0)))))
  ·skip
   refine wx tbk [(1, rp [(.tmp 7, (Qsy p0))] (I ((p0.length : Int))))] ⟨alm (c := Qaq) (l := p0) (aln rfl Tryz.underlying124 rfl), trivial⟩ ?_
   refine Qag ?_
   refine wmr (mto (n := 18) (l' := [(2, .ref 0 4 0 0), (3, Qsz), (7, (Qsy p0)), (8, (I ((p0.length : Int)))), (9, I 0)]) (own' := [Q97]) [(2, .ref 0 4 0 0), (3, Qsz), (7, (Qsy p0)), (8, (I ((p0.length : Int)))), (9, I 0)] [0] [Q97] hφ0 (pc (.rn (rqr rfl)) (pc (.rn (Qau rn0 (rnc (rqr rfl) rn0))) (pc (.rn (.plain _ (nld Qc2 _))) (pc rwl (pc rwl pn))))) (qc (spb (lc rwl (lc rwl (lc rwl (lc rwl ln))))) qn)) ?_
   refine Qce (τ := Int × Int × Int × Int × Int) (fun n t => Qfa N p0 k5 n t.1 t.2.1 t.2.2.1 t.2.2.2.1 t.2.2.2.2 = some r) (fun ⟨y6, y7, y8, y9, y10⟩ => ⟨mk 18 [(2, .ref 0 4 0 0), (3, Qsz), (7, (Qsy p0)), (8, (I ((p0.length : Int)))), (9, I y6)], [(Qt3 y7 y8 y9 y10)]⟩) (fun t h => by rw [Qfa] at h; cases h) (fun n16 ih t h => ?_) N (0, 0, 0, 0, 0) h
   obtain ⟨y6, y7, y8, y9, y10⟩ := t
   rw [Qfa] at h
   skip
   refine wx tbk [] trivial ?_
   refine wsq ?_
   rcases bft ((decide (y6 < (p0.length : Int)))) with hc17 | hc17
   ·replace h := Qav hc17 h
    refine wft hc17 (by kernel_rfl) ?_
    refine Qak ?_
    refine thn ?_
    refine wsq ?_
    refine Qag ?_
    obtain ⟨x18, hg19, h⟩ := bno h
    obtain ⟨hi20, hj21⟩ := gsm hg19
    refine wx tbk [(0, rp [(.tmp 7, (Qsy p0)), (.tmp 9, I y6)] (.dptr (Qaq (x18)) 0))] ⟨aid rfl Tryz.underlying124 ti35 rfl rfl hi20 (mgt Qaq hj21) rfl, trivial⟩ ?_
    obtain ⟨x23, hf22, h⟩ := bno h
    refine wx1 tbk [(2, ⟨[(.tmp 13, Qsz), (.tmp 14, (Q4f x18))], [(0, (Qt3 y7 y8 y9 y10))], (.tup []), [(0, (Qyd y7 x18 y8 y9 y10))], false⟩)] ⟨Qai (first := []) (cap := [.ref 0 4 0 0]) (vs := [(Q4f x18)]) (σr := [(Qt3 y7 y8 y9 y10)]) (σr' := [(Qyd y7 x18 y8 y9 y10)]) (res' := (.tup [])) [0] rfl Q8r (Qps N x18 y7 y8 y9 y10 _ hf22) rfl (Qbc (rnc (.plain _ (NLt.agg _ (nlc nll (nlc nll (nlc nll (nlc nll nl0)))))) (rnc (Qa3 rfl) rn0))) (slc (Qae (rnc (.plain _ nll) (rnc (.plain _ nll) (rnc (.plain _ nll) (rnc (.plain _ nll) rn0))))) Qah) (slc (Qae (rnc (.plain _ nll) (rnc (.plain _ nll) (rnc (.plain _ nll) (rnc (.plain _ nll) rn0))))) Qah) (.plain _ (NLt.tup _ nl0)) rfl rfl rfl, trivial⟩ ?_
    refine bln ?_
    refine thn ?_
    refine wx1 tbk [] trivial ?_
    refine thn ?_
    exact arm (mto (n := 18) [(2, .ref 0 4 0 0), (3, Qsz), (7, (Qsy p0)), (8, (I ((p0.length : Int)))), (9, (I (w64 (y6 + 1))))] [0] [(Qyd y7 x18 y8 y9 y10)] hφ0 (pc (.rn (rqr rfl)) (pc (.rn (Qau rn0 (rnc (rqr rfl) rn0))) (pc (.rn (.plain _ (nld Qc2 _))) (pc rwl (pc rwl pn))))) (qc (spb (lc rwl (lc rwl (lc rwl (lc rwl ln))))) qn)) (ih (w64 (y6 + 1), w64 (y7 + x18.Mass), w64 (y8 + x18.Heat), w64 (y9 + x18.Silica), w64 (y10 + x18.Gas)) h)
   ·replace h := Qaw hc17 h
    refine wfn hc17 (by kernel_rfl) ?_
    refine Qbk ?_
    refine Qax ?_
    refine Qax ?_
    refine Qbj rfl ?_
    refine thn ?_
    exact ⟨(y7, y8, y9, y10), h, (mto (n := 18) [(2, .ref 0 4 0 0)] [0] [(Qt3 y7 y8 y9 y10)] hφ0 (pc (.rn (rqr rfl)) pn) (qc (spb (lc rwl (lc rwl (lc rwl (lc rwl ln))))) qn))⟩
def Qnc (N : Nat) (p0 : (List GStream)) : Option (GStream × Int) :=
  (Qhd N p0).bind fun x2 =>
  bif (x2 != 0) then
   some ((⟨0, 0, 0, 0⟩ : GStream), x2)
  else
   (Qk7 N p0).bind fun x5 =>
   bif (decide (x5.Mass > 1000000)) then
    some ((⟨0, 0, 0, 0⟩ : GStream), 3)
   else
    bif (decide (x5.Gas > 1000000000)) then
     some ((⟨0, 0, 0, 0⟩ : GStream), 3)
    else
     some (x5, 0)
def Q6p (p0 : (List GStream)) : AV := .dat 4 ((p0 : List GStream).map Qaq)
def Q04 : AV := .agg [(I (0)), (I (0)), (I (0)), (I (0))]
def Zff (x5 : GStream) : AV := .agg [(I (x5.Mass)), (I (x5.Heat)), (I (x5.Silica)), (I (x5.Gas))]
theorem Qt9 (N : Nat) (p0 : (List GStream)) (r : (GStream × Int)) (h : Qnc N p0 = some r) : Spec Tryz.prog 57 [(.dat 4 (p0.map Qaq))] [] (.tup [(.agg (Qaq r.1)), (I r.2)]) [] := by
  refine Qab Tryz.func57 rfl 0 (nle rfl) (fun X φ0 w0 hφ0 hd0 => ?_)
  unfold Qnc at h
  refine wx tbk [] trivial ?_
  refine wsq ?_
  obtain ⟨x2, hf1, h⟩ := bno h
  refine wx tbk [(1, rp [fu 81, (.tmp 6, (Q6p p0))] (I x2))] ⟨apc (first := []) (cap := []) (vs := [(Q6p p0)]) rfl Zdu (Qpt N p0 _ hf1) rfl rfl (nlc (nld Qc2 _) nl0) nll rfl, trivial⟩ ?_
  refine wx tbk [] trivial ?_
  rcases bft ((x2 != 0)) with hc3 | hc3
  ·replace h := Qav hc3 h
   refine wft hc3 (by kernel_rfl) ?_
   refine wx tbk [(0, rp [] Q04)] ⟨Qan (vs := []) rfl ts35 tz35 rfl (by rfl) rfl, trivial⟩ ?_
   refine Qaa ?_
   refine Qao ?_
   obtain rfl := osi h
   exact fend ⟨[Q04, I x2], ⟨Qas (n := 0) (m := 4) (j := 0) (i := 0) (xs := [[I 0, I 0, I 0, I 0]]) (by kernel_rfl) (by kernel_rfl) ti35 (by decide) rfl (nle rfl) rfl, rot (by kernel_rfl), trivial⟩, rfl⟩ (NLt.tup _ (nlc (NLt.agg _ (nlc nll (nlc nll (nlc nll (nlc nll nl0))))) (nlc nll nl0)))
  ·replace h := Qaw hc3 h
   refine wfn hc3 (by kernel_rfl) ?_
   refine Qak ?_
   refine thn ?_
   obtain ⟨x5, hf4, h⟩ := bno h
   refine wx tbk [(1, rp [fu 82, (.tmp 12, (Q6p p0))] (Zff x5))] ⟨apc (first := []) (cap := []) (vs := [(Q6p p0)]) rfl Zdt (Qt8 N p0 _ hf4) rfl rfl (nlc (nld Qc2 _) nl0) (NLt.agg _ (nlc nll (nlc nll (nlc nll (nlc nll nl0))))) rfl, trivial⟩ ?_
   refine wsq ?_
   rcases bft ((decide (x5.Mass > 1000000))) with hb6 | hb6
   ·replace h := Qav hb6 h
    refine wx tbk [(3, rp [(.tmp 16, (B ((decide (x5.Mass > 1000000)))))] (B true))] ⟨asb hb6 (amv rfl), trivial⟩ ?_
    refine Qcw (by kernel_rfl) ?_
    refine wx tbk [(0, rp [] Q04)] ⟨Qan (vs := []) rfl ts35 tz35 rfl (by rfl) rfl, trivial⟩ ?_
    refine Qaa ?_
    refine Qao ?_
    obtain rfl := osi h
    exact fend ⟨[Q04, I 3], ⟨Qas (n := 0) (m := 4) (j := 0) (i := 0) (xs := [[I 0, I 0, I 0, I 0]]) (by kernel_rfl) (by kernel_rfl) ti35 (by decide) rfl (nle rfl) rfl, rot (by kernel_rfl), trivial⟩, rfl⟩ (NLt.tup _ (nlc (NLt.agg _ (nlc nll (nlc nll (nlc nll (nlc nll nl0))))) (nlc nll nl0)))
   ·replace h := Qaw hb6 h
    refine wx tbk [(3, rp [(.tmp 16, (B ((decide (x5.Mass > 1000000)))))] (B false))] ⟨asb hb6 (amv rfl), trivial⟩ ?_
    rcases bft ((decide (x5.Gas > 1000000000))) with hc7 | hc7
    ·replace h := Qav hc7 h
     refine wft hc7 (by kernel_rfl) ?_
     refine wx tbk [(0, rp [] Q04)] ⟨Qan (vs := []) rfl ts35 tz35 rfl (by rfl) rfl, trivial⟩ ?_
     refine Qaa ?_
     refine Qao ?_
     obtain rfl := osi h
     exact fend ⟨[Q04, I 3], ⟨Qas (n := 0) (m := 4) (j := 0) (i := 0) (xs := [[I 0, I 0, I 0, I 0]]) (by kernel_rfl) (by kernel_rfl) ti35 (by decide) rfl (nle rfl) rfl, rot (by kernel_rfl), trivial⟩, rfl⟩ (NLt.tup _ (nlc (NLt.agg _ (nlc nll (nlc nll (nlc nll (nlc nll nl0))))) (nlc nll nl0)))
    ·replace h := Qaw hc7 h
     refine wfn hc7 (by kernel_rfl) ?_
     refine Qak ?_
     refine thn ?_
     refine wx tbk [] trivial ?_
     refine Qaa ?_
     obtain rfl := osi h
     exact fend ⟨[(Zff x5), I 0], ⟨Qas (n := 0) (m := 4) (j := 0) (i := 0) (xs := [[I x5.Mass, I x5.Heat, I x5.Silica, I x5.Gas]]) (by kernel_rfl) (by kernel_rfl) ti35 (by decide) rfl (nle rfl) rfl, rot (by kernel_rfl), trivial⟩, rfl⟩ (NLt.tup _ (nlc (NLt.agg _ (nlc nll (nlc nll (nlc nll (nlc nll nl0))))) (nlc nll nl0)))
def Qg1 (N : Nat) (p0 : GStream) (p1 : GStream) (p2 : Int) : Option (GStream × Int × Int) :=
  (Qem N ([p0, p1])).bind fun x2 =>
  bif (!x2) then
   some ((⟨0, 0, 0, 0⟩ : GStream), 0, 1)
  else
   (Qbb N p2 0 1000000000).bind fun x5 =>
   bif (!x5) then
    some ((⟨0, 0, 0, 0⟩ : GStream), 0, 2)
   else
    (Qnc N ([p0, p1])).bind fun x8 =>
    bif (x8.2 != 0) then
     some ((⟨0, 0, 0, 0⟩ : GStream), 0, x8.2)
    else
     bif (decide (x8.1.Gas > p2)) then
      some ((⟨0, 0, 0, 0⟩ : GStream), 0, 11)
     else
      some ((⟨x8.1.Mass, x8.1.Heat, x8.1.Silica, 0⟩ : GStream), x8.1.Gas, 0)
def Q6r (p0 : GStream) : AV := .agg [(I (p0.Mass)), (I (p0.Heat)), (I (p0.Silica)), (I (p0.Gas))]
def Q6q (p1 : GStream) : AV := .agg [(I (p1.Mass)), (I (p1.Heat)), (I (p1.Silica)), (I (p1.Gas))]
def Q05 (p0 : GStream) (p1 : GStream) : AV := .dat 4 (([p0, p1] : List GStream).map Qaq)
def Qu5 : AV := .agg [(I (0)), (I (0)), (I (0)), (I (0))]
theorem Qo8 (N : Nat) (p0 : GStream) (p1 : GStream) (p2 : Int) (r : (GStream × Int × Int)) (h : Qg1 N p0 p1 p2 = some r) : Spec Tryz.prog 18 [(.agg (Qaq p0)), (.agg (Qaq p1)), (I p2)] [] (.tup [(.agg (Qaq r.1)), (I r.2.1), (I r.2.2)]) [] := by
  refine Qab Tryz.func18 rfl 0 (nle rfl) (fun X φ0 w0 hφ0 hd0 => ?_)
  unfold Qg1 at h
  refine wx tbk [] trivial ?_
  refine wsq ?_
  refine Qag ?_
  obtain ⟨x2, hf1, h⟩ := bno h
  refine wx tbk [(2, rp [(.tmp 10, (Q6r p0)), (.tmp 11, (Q6q p1))] (Q05 p0 p1)), (3, rp [fu 29, (.tmp 12, (Q05 p0 p1))] (B x2))] ⟨Qb8 (vs := [(Q6r p0), (Q6q p1)]) rfl Tryz.underlying124 ti35 tz35 rfl (by decide) rfl (by decide) (by rfl) (by rfl) (by rfl) rfl, apc (first := []) (cap := []) (vs := [(Q05 p0 p1)]) rfl Qr1 (Qgx N ([p0, p1]) _ hf1) rfl rfl (nlc (nld Qc2 _) nl0) nll rfl, trivial⟩ ?_
  rcases bft ((!x2)) with hc3 | hc3
  ·replace h := Qav hc3 h
   refine wft hc3 (by kernel_rfl) ?_
   refine wx tbk [(0, rp [] Qu5)] ⟨Qan (vs := []) rfl ts35 tz35 rfl (by rfl) rfl, trivial⟩ ?_
   refine Qaa ?_
   refine Qa5 ?_
   refine Qao ?_
   obtain rfl := osi h
   exact fend ⟨[Qu5, I 0, I 1], ⟨Qas (n := 2) (m := 4) (j := 0) (i := 0) (xs := [[I 0, I 0, I 0, I 0]]) (by kernel_rfl) (by kernel_rfl) ti35 (by decide) rfl (nle rfl) rfl, rot (by kernel_rfl), rot (by kernel_rfl), trivial⟩, rfl⟩ (NLt.tup _ (nlc (NLt.agg _ (nlc nll (nlc nll (nlc nll (nlc nll nl0))))) (nlc nll (nlc nll nl0))))
  ·replace h := Qaw hc3 h
   refine wfn hc3 (by kernel_rfl) ?_
   obtain ⟨x5, hf4, h⟩ := bno h
   refine wx tbk [(1, rp [fu 56, (.tmp 17, I p2), ci 0, ci 1000000000] (B x5))] ⟨apc (first := []) (cap := []) (vs := [I p2, I 0, I 1000000000]) rfl Qbs (Qad N p2 0 1000000000 _ hf4) rfl rfl (nlc nll (nlc nll (nlc nll nl0))) nll rfl, trivial⟩ ?_
   rcases bft ((!x5)) with hc6 | hc6
   ·replace h := Qav hc6 h
    refine wft hc6 (by kernel_rfl) ?_
    refine wx tbk [(0, rp [] Qu5)] ⟨Qan (vs := []) rfl ts35 tz35 rfl (by rfl) rfl, trivial⟩ ?_
    refine Qaa ?_
    refine Qa5 ?_
    refine Qao ?_
    obtain rfl := osi h
    exact fend ⟨[Qu5, I 0, I 2], ⟨Qas (n := 2) (m := 4) (j := 0) (i := 0) (xs := [[I 0, I 0, I 0, I 0]]) (by kernel_rfl) (by kernel_rfl) ti35 (by decide) rfl (nle rfl) rfl, rot (by kernel_rfl), rot (by kernel_rfl), trivial⟩, rfl⟩ (NLt.tup _ (nlc (NLt.agg _ (nlc nll (nlc nll (nlc nll (nlc nll nl0))))) (nlc nll (nlc nll nl0))))
   ·replace h := Qaw hc6 h
    refine wfn hc6 (by kernel_rfl) ?_
    refine Qak ?_
    refine bln ?_
    refine thn ?_
    obtain ⟨x8, hf7, h⟩ := bno h
    refine wx tbk [(2, rp [(.tmp 22, (Q6r p0)), (.tmp 23, (Q6q p1))] (Q05 p0 p1)), (3, rp [fu 57, (.tmp 24, (Q05 p0 p1))] (.tup [(.agg [I x8.1.Mass, I x8.1.Heat, I x8.1.Silica, I x8.1.Gas]), I x8.2]))] ⟨Qb8 (vs := [(Q6r p0), (Q6q p1)]) rfl Tryz.underlying124 ti35 tz35 rfl (by decide) rfl (by decide) (by rfl) (by rfl) (by rfl) rfl, apc (first := []) (cap := []) (vs := [(Q05 p0 p1)]) rfl Zed (Qt9 N ([p0, p1]) _ hf7) rfl rfl (nlc (nld Qc2 _) nl0) (NLt.tup _ (nlc (NLt.agg _ (nlc nll (nlc nll (nlc nll (nlc nll nl0))))) (nlc nll nl0))) rfl, trivial⟩ ?_
    refine wsq ?_
    refine wx tbk [] trivial ?_
    rcases bft ((x8.2 != 0)) with hc9 | hc9
    ·replace h := Qav hc9 h
     refine wft hc9 (by kernel_rfl) ?_
     refine wx tbk [(0, rp [] Qu5)] ⟨Qan (vs := []) rfl ts35 tz35 rfl (by rfl) rfl, trivial⟩ ?_
     refine Qaa ?_
     refine Qao ?_
     obtain rfl := osi h
     exact fend ⟨[Qu5, I 0, I x8.2], ⟨Qas (n := 2) (m := 4) (j := 0) (i := 0) (xs := [[I 0, I 0, I 0, I 0]]) (by kernel_rfl) (by kernel_rfl) ti35 (by decide) rfl (nle rfl) rfl, rot (by kernel_rfl), rot (by kernel_rfl), trivial⟩, rfl⟩ (NLt.tup _ (nlc (NLt.agg _ (nlc nll (nlc nll (nlc nll (nlc nll nl0))))) (nlc nll (nlc nll nl0))))
    ·replace h := Qaw hc9 h
     refine wfn hc9 (by kernel_rfl) ?_
     refine Qak ?_
     refine thn ?_
     refine wsq ?_
     refine wx tbk [] trivial ?_
     rcases bft ((decide (x8.1.Gas > p2))) with hc10 | hc10
     ·replace h := Qav hc10 h
      refine wft hc10 (by kernel_rfl) ?_
      refine wx tbk [(0, rp [] Qu5)] ⟨Qan (vs := []) rfl ts35 tz35 rfl (by rfl) rfl, trivial⟩ ?_
      refine Qaa ?_
      refine Qao ?_
      obtain rfl := osi h
      exact fend ⟨[Qu5, I 0, I 11], ⟨Qas (n := 2) (m := 4) (j := 0) (i := 0) (xs := [[I 0, I 0, I 0, I 0]]) (by kernel_rfl) (by kernel_rfl) ti35 (by decide) rfl (nle rfl) rfl, rot (by kernel_rfl), rot (by kernel_rfl), trivial⟩, rfl⟩ (NLt.tup _ (nlc (NLt.agg _ (nlc nll (nlc nll (nlc nll (nlc nll nl0))))) (nlc nll (nlc nll nl0))))
     ·replace h := Qaw hc10 h
      refine wfn hc10 (by kernel_rfl) ?_
      refine Qak ?_
      refine thn ?_
      refine wx tbk [] trivial ?_
      refine wx tbk [] trivial ?_
      refine Qaa ?_
      obtain rfl := osi h
      exact fend ⟨[(.agg [I x8.1.Mass, I x8.1.Heat, I x8.1.Silica, I 0]), I x8.1.Gas, I 0], ⟨Qas (n := 2) (m := 4) (j := 0) (i := 0) (xs := [[I x8.1.Mass, I x8.1.Heat, I x8.1.Silica, I 0]]) (by kernel_rfl) (by kernel_rfl) ti35 (by decide) rfl (nle rfl) rfl, rot (by kernel_rfl), rot (by kernel_rfl), trivial⟩, rfl⟩ (NLt.tup _ (nlc (NLt.agg _ (nlc nll (nlc nll (nlc nll (nlc nll nl0))))) (nlc nll (nlc nll nl0))))
def Qhv (N : Nat) (p0 : GStream) (p1 : Int) : Option (GStream × Int × Int) :=
  (Qem N ([p0])).bind fun x2 =>
  bif (!x2) then
   some ((⟨0, 0, 0, 0⟩ : GStream), 0, 1)
  else
   (Qbb N p1 0 4000).bind fun x5 =>
   bif (!x5) then
    some ((⟨0, 0, 0, 0⟩ : GStream), 0, 2)
   else
    (some (if (w64 (p0.Heat - (w64 (p1 * p0.Mass)))) > 0 then w64 (p0.Heat - (w64 (p1 * p0.Mass))) else 0)).bind fun x7 =>
    some ((⟨p0.Mass, w64 (p0.Heat - x7), p0.Silica, p0.Gas⟩ : GStream), x7, 0)
def Q95 (p0 : GStream) : AV := .agg [(I (p0.Mass)), (I (p0.Heat)), (I (p0.Silica)), (I (p0.Gas))]
def Q4c (p0 : GStream) : AV := .dat 4 (([p0] : List GStream).map Qaq)
def Qz6 : AV := .agg [(I (0)), (I (0)), (I (0)), (I (0))]
theorem Qrl (N : Nat) (p0 : GStream) (p1 : Int) (r : (GStream × Int × Int)) (h : Qhv N p0 p1 = some r) : Spec Tryz.prog 19 [(.agg (Qaq p0)), (I p1)] [] (.tup [(.agg (Qaq r.1)), (I r.2.1), (I r.2.2)]) [] := by
  refine Qab Tryz.func19 rfl 0 (nle rfl) (fun X φ0 w0 hφ0 hd0 => ?_)
  unfold Qhv at h
  refine wx tbk [] trivial ?_
  refine wsq ?_
  refine Qag ?_
  obtain ⟨x2, hf1, h⟩ := bno h
  refine wx tbk [(1, rp [(.tmp 8, (Q95 p0))] (Q4c p0)), (2, rp [fu 29, (.tmp 9, (Q4c p0))] (B x2))] ⟨Qb8 (vs := [(Q95 p0)]) rfl Tryz.underlying124 ti35 tz35 rfl (by decide) rfl (by decide) (by rfl) (by rfl) (by rfl) rfl, apc (first := []) (cap := []) (vs := [(Q4c p0)]) rfl Qr1 (Qgx N ([p0]) _ hf1) rfl rfl (nlc (nld Qc2 _) nl0) nll rfl, trivial⟩ ?_
  rcases bft ((!x2)) with hc3 | hc3
  ·replace h := Qav hc3 h
   refine wft hc3 (by kernel_rfl) ?_
   refine wx tbk [(0, rp [] Qz6)] ⟨Qan (vs := []) rfl ts35 tz35 rfl (by rfl) rfl, trivial⟩ ?_
   refine Qaa ?_
   refine Qa5 ?_
   refine Qao ?_
   obtain rfl := osi h
   exact fend ⟨[Qz6, I 0, I 1], ⟨Qas (n := 1) (m := 4) (j := 0) (i := 0) (xs := [[I 0, I 0, I 0, I 0]]) (by kernel_rfl) (by kernel_rfl) ti35 (by decide) rfl (nle rfl) rfl, rot (by kernel_rfl), rot (by kernel_rfl), trivial⟩, rfl⟩ (NLt.tup _ (nlc (NLt.agg _ (nlc nll (nlc nll (nlc nll (nlc nll nl0))))) (nlc nll (nlc nll nl0))))
  ·replace h := Qaw hc3 h
   refine wfn hc3 (by kernel_rfl) ?_
   obtain ⟨x5, hf4, h⟩ := bno h
   refine wx tbk [(1, rp [fu 56, (.tmp 14, I p1), ci 0, ci 4000] (B x5))] ⟨apc (first := []) (cap := []) (vs := [I p1, I 0, I 4000]) rfl Qbs (Qad N p1 0 4000 _ hf4) rfl rfl (nlc nll (nlc nll (nlc nll nl0))) nll rfl, trivial⟩ ?_
   rcases bft ((!x5)) with hc6 | hc6
   ·replace h := Qav hc6 h
    refine wft hc6 (by kernel_rfl) ?_
    refine wx tbk [(0, rp [] Qz6)] ⟨Qan (vs := []) rfl ts35 tz35 rfl (by rfl) rfl, trivial⟩ ?_
    refine Qaa ?_
    refine Qa5 ?_
    refine Qao ?_
    obtain rfl := osi h
    exact fend ⟨[Qz6, I 0, I 2], ⟨Qas (n := 1) (m := 4) (j := 0) (i := 0) (xs := [[I 0, I 0, I 0, I 0]]) (by kernel_rfl) (by kernel_rfl) ti35 (by decide) rfl (nle rfl) rfl, rot (by kernel_rfl), rot (by kernel_rfl), trivial⟩, rfl⟩ (NLt.tup _ (nlc (NLt.agg _ (nlc nll (nlc nll (nlc nll (nlc nll nl0))))) (nlc nll (nlc nll nl0))))
   ·replace h := Qaw hc6 h
    refine wfn hc6 (by kernel_rfl) ?_
    refine Qak ?_
    refine bln ?_
    refine thn ?_
    obtain ⟨x7, hl8, h⟩ := bno h
    refine wx tbk [(7, rp [ci 0, (.tmp 24, (I (w64 (p0.Heat - (w64 (p1 * p0.Mass))))))] (I x7))] ⟨Qdu hl8 (Qji rfl), trivial⟩ ?_
    refine wx tbk [] trivial ?_
    refine wx tbk [] trivial ?_
    refine Qaa ?_
    obtain rfl := osi h
    exact fend ⟨[(.agg [I p0.Mass, (I (w64 (p0.Heat - x7))), I p0.Silica, I p0.Gas]), I x7, I 0], ⟨Qas (n := 1) (m := 4) (j := 0) (i := 0) (xs := [[I p0.Mass, (I (w64 (p0.Heat - x7))), I p0.Silica, I p0.Gas]]) (by kernel_rfl) (by kernel_rfl) ti35 (by decide) rfl (nle rfl) rfl, rot (by kernel_rfl), rot (by kernel_rfl), trivial⟩, rfl⟩ (NLt.tup _ (nlc (NLt.agg _ (nlc nll (nlc nll (nlc nll (nlc nll nl0))))) (nlc nll (nlc nll nl0))))
def Qg3 (N : Nat) (p0 : (List GRow)) : Option Int :=
  (Qet N p0).bind fun x2 =>
  bif (!x2) then
   some 1
  else
   some 0
theorem Qeb (N : Nat) (p0 : (List GRow)) (r : Int) (h : Qg3 N p0 = some r) : Spec Tryz.prog 68 [(.dat 5 (p0.map Qa6))] [] (I r) [] := by
  refine Qab Tryz.func68 rfl 0 (nle rfl) (fun X φ0 w0 hφ0 hd0 => ?_)
  unfold Qg3 at h
  refine wx tbk [] trivial ?_
  refine wsq ?_
  obtain ⟨x2, hf1, h⟩ := bno h
  refine wx tbk [(1, rp [fu 49, (.tmp 3, (.dat 5 ((p0 : List GRow).map Qa6)))] (B x2))] ⟨apc (first := []) (cap := []) (vs := [(.dat 5 ((p0 : List GRow).map Qa6))]) rfl Q5s (Qi4 N p0 _ hf1) rfl rfl (nlc (nld Qa8 _) nl0) nll rfl, trivial⟩ ?_
  rcases bft ((!x2)) with hc3 | hc3
  ·replace h := Qav hc3 h
   refine wft hc3 (by kernel_rfl) ?_
   refine wx tbk [] trivial ?_
   refine Qaa ?_
   refine Qao ?_
   obtain rfl := osi h
   exact fend ⟨[I 1], ⟨rot (by kernel_rfl), trivial⟩, rfl⟩ nll
  ·replace h := Qaw hc3 h
   refine wfn hc3 (by kernel_rfl) ?_
   refine Qak ?_
   refine thn ?_
   refine wx tbk [] trivial ?_
   refine Qaa ?_
   obtain rfl := osi h
   exact fend ⟨[I 0], ⟨rot (by kernel_rfl), trivial⟩, rfl⟩ nll
def Qf3 (N : Nat) (p0 : GLine) : Option Bool :=
  (Qg3 N p0.Table).bind fun x2 =>
  bif (x2 == 0) then
   (Qbb N p0.Level 0 (w64 ((p0.Table.length : Int) - 1))).bind fun x5 =>
   bif x5 then
    (Qd6 N (⟨p0.Unit.Inlet, p0.Unit.Parts⟩ : GUnit)).bind fun x8 =>
    bif x8 then
     (Qbb N p0.Most 0 1000000000).bind fun x11 =>
     bif x11 then
      (Qbb N p0.Target 0 4000).bind fun x14 =>
      bif x14 then
       (Qev N (⟨p0.Cycle.Out, p0.Cycle.Yield, p0.Cycle.Most⟩ : GCycle)).bind fun x17 =>
       some x17
      else
       some false
     else
      some false
    else
     some false
   else
    some false
  else
   some false
def Qi2 (p0 : GLine) : AV := .dat 5 ((p0.Table : List GRow).map Qa6)
def Zge (p0 : GLine) : AV := .dat 2 ((p0.Unit.Parts : List GPart).map Qa4)
def Qqc (p0 : GLine) : AV := .agg [(I (p0.Unit.Inlet)), (Zge p0)]
def Q91 (p0 : GLine) : AV := .agg [(I (p0.Cycle.Out)), (I (p0.Cycle.Yield)), (I (p0.Cycle.Most))]
theorem Qjw (N : Nat) (p0 : GLine) (r : Bool) (h : Qf3 N p0 = some r) : Spec Tryz.prog 28 [(.agg (Qm4 p0))] [] (B r) [] := by
  refine Qab Tryz.func28 rfl 0 (nle rfl) (fun X φ0 w0 hφ0 hd0 => ?_)
  unfold Qf3 at h
  refine wx tbk [] trivial ?_
  obtain ⟨x2, hf1, h⟩ := bno h
  rcases bft ((x2 == 0)) with hb3 | hb3
  ·replace h := Qav hb3 h
   obtain ⟨x5, hf4, h⟩ := bno h
   rcases bft (x5) with hb6 | hb6
   ·replace h := Qav hb6 h
    obtain ⟨x8, hf7, h⟩ := bno h
    rcases bft (x8) with hb9 | hb9
    ·replace h := Qav hb9 h
     obtain ⟨x11, hf10, h⟩ := bno h
     rcases bft (x11) with hb12 | hb12
     ·replace h := Qav hb12 h
      obtain ⟨x14, hf13, h⟩ := bno h
      rcases bft (x14) with hb15 | hb15
      ·replace h := Qav hb15 h
       obtain ⟨x17, hf16, h⟩ := bno h
       refine wx tbk [(2, rp [fu 68, (.tmp 4, (Qi2 p0))] (I x2)), (4, rp [(.tmp 6, (B ((x2 == 0))))] (B true)), (9, rp [(.tmp 7, B true), (.tmp 11, (Qi2 p0))] (I ((p0.Table.length : Int)))), (11, rp [(.tmp 7, B true), fu 56, (.tmp 9, I p0.Level), ci 0, (.tmp 13, (I (w64 ((p0.Table.length : Int) - 1))))] (B x5)), (13, rp [(.tmp 15, B x5)] (B true)), (16, rp [(.tmp 16, B true), fu 53, (.tmp 18, (Qqc p0))] (B x8)), (18, rp [(.tmp 20, B x8)] (B true)), (21, rp [(.tmp 21, B true), fu 56, (.tmp 23, I p0.Most), ci 0, ci 1000000000] (B x11)), (23, rp [(.tmp 25, B x11)] (B true)), (26, rp [(.tmp 26, B true), fu 56, (.tmp 28, I p0.Target), ci 0, ci 4000] (B x14)), (28, rp [(.tmp 30, B x14)] (B true)), (31, rp [(.tmp 31, B true), fu 58, (.tmp 33, (Q91 p0))] (B x17))] ⟨apc (first := []) (cap := []) (vs := [(Qi2 p0)]) rfl Qp3 (Qeb N p0.Table _ hf1) rfl rfl (nlc (nld Qa8 _) nl0) nll rfl, asb hb3 (amv rfl), ag_ (alm (c := Qa6) (l := p0.Table) (aln rfl Tryz.underlying42 rfl)), ag_ (apc (first := []) (cap := []) (vs := [I p0.Level, I 0, (I (w64 ((p0.Table.length : Int) - 1)))]) rfl Qbs (Qad N p0.Level 0 (w64 ((p0.Table.length : Int) - 1)) _ hf4) rfl rfl (nlc nll (nlc nll (nlc nll nl0))) nll rfl), asb hb6 (amv rfl), ag_ (apc (first := []) (cap := []) (vs := [(Qqc p0)]) rfl Ql0 (Qcz N (⟨p0.Unit.Inlet, p0.Unit.Parts⟩ : GUnit) _ hf7) rfl rfl (nlc (NLt.agg _ (nlc nll (nlc (nld Qap _) nl0))) nl0) nll rfl), asb hb9 (amv rfl), ag_ (apc (first := []) (cap := []) (vs := [I p0.Most, I 0, I 1000000000]) rfl Qbs (Qad N p0.Most 0 1000000000 _ hf10) rfl rfl (nlc nll (nlc nll (nlc nll nl0))) nll rfl), asb hb12 (amv rfl), ag_ (apc (first := []) (cap := []) (vs := [I p0.Target, I 0, I 4000]) rfl Qbs (Qad N p0.Target 0 4000 _ hf13) rfl rfl (nlc nll (nlc nll (nlc nll nl0))) nll rfl), asb hb15 (amv rfl), ag_ (apc (first := []) (cap := []) (vs := [(Q91 p0)]) rfl Qyp (Qg0 N (⟨p0.Cycle.Out, p0.Cycle.Yield, p0.Cycle.Most⟩ : GCycle) _ hf16) rfl rfl (nlc (NLt.agg _ (nlc nll (nlc nll (nlc nll nl0)))) nl0) nll rfl), trivial⟩ ?_
       refine Qaa ?_
       obtain rfl := osi h
       exact fend ⟨[B x17], ⟨rot (by kernel_rfl), trivial⟩, rfl⟩ nll
      ·replace h := Qaw hb15 h
       refine wx tbk [(2, rp [fu 68, (.tmp 4, (Qi2 p0))] (I x2)), (4, rp [(.tmp 6, (B ((x2 == 0))))] (B true)), (9, rp [(.tmp 7, B true), (.tmp 11, (Qi2 p0))] (I ((p0.Table.length : Int)))), (11, rp [(.tmp 7, B true), fu 56, (.tmp 9, I p0.Level), ci 0, (.tmp 13, (I (w64 ((p0.Table.length : Int) - 1))))] (B x5)), (13, rp [(.tmp 15, B x5)] (B true)), (16, rp [(.tmp 16, B true), fu 53, (.tmp 18, (Qqc p0))] (B x8)), (18, rp [(.tmp 20, B x8)] (B true)), (21, rp [(.tmp 21, B true), fu 56, (.tmp 23, I p0.Most), ci 0, ci 1000000000] (B x11)), (23, rp [(.tmp 25, B x11)] (B true)), (26, rp [(.tmp 26, B true), fu 56, (.tmp 28, I p0.Target), ci 0, ci 4000] (B x14)), (28, rp [(.tmp 30, B x14)] (B false))] ⟨apc (first := []) (cap := []) (vs := [(Qi2 p0)]) rfl Qp3 (Qeb N p0.Table _ hf1) rfl rfl (nlc (nld Qa8 _) nl0) nll rfl, asb hb3 (amv rfl), ag_ (alm (c := Qa6) (l := p0.Table) (aln rfl Tryz.underlying42 rfl)), ag_ (apc (first := []) (cap := []) (vs := [I p0.Level, I 0, (I (w64 ((p0.Table.length : Int) - 1)))]) rfl Qbs (Qad N p0.Level 0 (w64 ((p0.Table.length : Int) - 1)) _ hf4) rfl rfl (nlc nll (nlc nll (nlc nll nl0))) nll rfl), asb hb6 (amv rfl), ag_ (apc (first := []) (cap := []) (vs := [(Qqc p0)]) rfl Ql0 (Qcz N (⟨p0.Unit.Inlet, p0.Unit.Parts⟩ : GUnit) _ hf7) rfl rfl (nlc (NLt.agg _ (nlc nll (nlc (nld Qap _) nl0))) nl0) nll rfl), asb hb9 (amv rfl), ag_ (apc (first := []) (cap := []) (vs := [I p0.Most, I 0, I 1000000000]) rfl Qbs (Qad N p0.Most 0 1000000000 _ hf10) rfl rfl (nlc nll (nlc nll (nlc nll nl0))) nll rfl), asb hb12 (amv rfl), ag_ (apc (first := []) (cap := []) (vs := [I p0.Target, I 0, I 4000]) rfl Qbs (Qad N p0.Target 0 4000 _ hf13) rfl rfl (nlc nll (nlc nll (nlc nll nl0))) nll rfl), asb hb15 (amv rfl), trivial⟩ ?_
       refine Qaa ?_
       obtain rfl := osi h
       exact fend ⟨[B false], ⟨rot (by kernel_rfl), trivial⟩, rfl⟩ nll
     ·replace h := Qaw hb12 h
      refine wx tbk [(2, rp [fu 68, (.tmp 4, (Qi2 p0))] (I x2)), (4, rp [(.tmp 6, (B ((x2 == 0))))] (B true)), (9, rp [(.tmp 7, B true), (.tmp 11, (Qi2 p0))] (I ((p0.Table.length : Int)))), (11, rp [(.tmp 7, B true), fu 56, (.tmp 9, I p0.Level), ci 0, (.tmp 13, (I (w64 ((p0.Table.length : Int) - 1))))] (B x5)), (13, rp [(.tmp 15, B x5)] (B true)), (16, rp [(.tmp 16, B true), fu 53, (.tmp 18, (Qqc p0))] (B x8)), (18, rp [(.tmp 20, B x8)] (B true)), (21, rp [(.tmp 21, B true), fu 56, (.tmp 23, I p0.Most), ci 0, ci 1000000000] (B x11)), (23, rp [(.tmp 25, B x11)] (B false))] ⟨apc (first := []) (cap := []) (vs := [(Qi2 p0)]) rfl Qp3 (Qeb N p0.Table _ hf1) rfl rfl (nlc (nld Qa8 _) nl0) nll rfl, asb hb3 (amv rfl), ag_ (alm (c := Qa6) (l := p0.Table) (aln rfl Tryz.underlying42 rfl)), ag_ (apc (first := []) (cap := []) (vs := [I p0.Level, I 0, (I (w64 ((p0.Table.length : Int) - 1)))]) rfl Qbs (Qad N p0.Level 0 (w64 ((p0.Table.length : Int) - 1)) _ hf4) rfl rfl (nlc nll (nlc nll (nlc nll nl0))) nll rfl), asb hb6 (amv rfl), ag_ (apc (first := []) (cap := []) (vs := [(Qqc p0)]) rfl Ql0 (Qcz N (⟨p0.Unit.Inlet, p0.Unit.Parts⟩ : GUnit) _ hf7) rfl rfl (nlc (NLt.agg _ (nlc nll (nlc (nld Qap _) nl0))) nl0) nll rfl), asb hb9 (amv rfl), ag_ (apc (first := []) (cap := []) (vs := [I p0.Most, I 0, I 1000000000]) rfl Qbs (Qad N p0.Most 0 1000000000 _ hf10) rfl rfl (nlc nll (nlc nll (nlc nll nl0))) nll rfl), asb hb12 (amv rfl), trivial⟩ ?_
      refine Qaa ?_
      obtain rfl := osi h
      exact fend ⟨[B false], ⟨rot (by kernel_rfl), trivial⟩, rfl⟩ nll
    ·replace h := Qaw hb9 h
     refine wx tbk [(2, rp [fu 68, (.tmp 4, (Qi2 p0))] (I x2)), (4, rp [(.tmp 6, (B ((x2 == 0))))] (B true)), (9, rp [(.tmp 7, B true), (.tmp 11, (Qi2 p0))] (I ((p0.Table.length : Int)))), (11, rp [(.tmp 7, B true), fu 56, (.tmp 9, I p0.Level), ci 0, (.tmp 13, (I (w64 ((p0.Table.length : Int) - 1))))] (B x5)), (13, rp [(.tmp 15, B x5)] (B true)), (16, rp [(.tmp 16, B true), fu 53, (.tmp 18, (Qqc p0))] (B x8)), (18, rp [(.tmp 20, B x8)] (B false))] ⟨apc (first := []) (cap := []) (vs := [(Qi2 p0)]) rfl Qp3 (Qeb N p0.Table _ hf1) rfl rfl (nlc (nld Qa8 _) nl0) nll rfl, asb hb3 (amv rfl), ag_ (alm (c := Qa6) (l := p0.Table) (aln rfl Tryz.underlying42 rfl)), ag_ (apc (first := []) (cap := []) (vs := [I p0.Level, I 0, (I (w64 ((p0.Table.length : Int) - 1)))]) rfl Qbs (Qad N p0.Level 0 (w64 ((p0.Table.length : Int) - 1)) _ hf4) rfl rfl (nlc nll (nlc nll (nlc nll nl0))) nll rfl), asb hb6 (amv rfl), ag_ (apc (first := []) (cap := []) (vs := [(Qqc p0)]) rfl Ql0 (Qcz N (⟨p0.Unit.Inlet, p0.Unit.Parts⟩ : GUnit) _ hf7) rfl rfl (nlc (NLt.agg _ (nlc nll (nlc (nld Qap _) nl0))) nl0) nll rfl), asb hb9 (amv rfl), trivial⟩ ?_
     refine Qaa ?_
     obtain rfl := osi h
     exact fend ⟨[B false], ⟨rot (by kernel_rfl), trivial⟩, rfl⟩ nll
   ·replace h := Qaw hb6 h
    refine wx tbk [(2, rp [fu 68, (.tmp 4, (Qi2 p0))] (I x2)), (4, rp [(.tmp 6, (B ((x2 == 0))))] (B true)), (9, rp [(.tmp 7, B true), (.tmp 11, (Qi2 p0))] (I ((p0.Table.length : Int)))), (11, rp [(.tmp 7, B true), fu 56, (.tmp 9, I p0.Level), ci 0, (.tmp 13, (I (w64 ((p0.Table.length : Int) - 1))))] (B x5)), (13, rp [(.tmp 15, B x5)] (B false))] ⟨apc (first := []) (cap := []) (vs := [(Qi2 p0)]) rfl Qp3 (Qeb N p0.Table _ hf1) rfl rfl (nlc (nld Qa8 _) nl0) nll rfl, asb hb3 (amv rfl), ag_ (alm (c := Qa6) (l := p0.Table) (aln rfl Tryz.underlying42 rfl)), ag_ (apc (first := []) (cap := []) (vs := [I p0.Level, I 0, (I (w64 ((p0.Table.length : Int) - 1)))]) rfl Qbs (Qad N p0.Level 0 (w64 ((p0.Table.length : Int) - 1)) _ hf4) rfl rfl (nlc nll (nlc nll (nlc nll nl0))) nll rfl), asb hb6 (amv rfl), trivial⟩ ?_
    refine Qaa ?_
    obtain rfl := osi h
    exact fend ⟨[B false], ⟨rot (by kernel_rfl), trivial⟩, rfl⟩ nll
  ·replace h := Qaw hb3 h
   refine wx tbk [(2, rp [fu 68, (.tmp 4, (Qi2 p0))] (I x2)), (4, rp [(.tmp 6, (B ((x2 == 0))))] (B false))] ⟨apc (first := []) (cap := []) (vs := [(Qi2 p0)]) rfl Qp3 (Qeb N p0.Table _ hf1) rfl rfl (nlc (nld Qa8 _) nl0) nll rfl, asb hb3 (amv rfl), trivial⟩ ?_
   refine Qaa ?_
   obtain rfl := osi h
   exact fend ⟨[B false], ⟨rot (by kernel_rfl), trivial⟩, rfl⟩ nll
theorem Qo5 : DRet Tryz.prog 30 [14, 1] := by
  refine Qpb (t := 5) (t2 := 2) (args := [.any, .any]) Tryz.func30 rfl (fun _ _ => rfl) rfl (by kernel_rfl) Zcy 0 (nle rfl) (fun X φ0 w0 hφ0 => ?_)
  refine wsq ?_
  refine wx tbk [(1, rp [(.tmp 6, (.lit .nilIface)), (.const .nilIface, (.lit .nilIface))] (B true))] ⟨Qw5 rfl Tryz.underlying20, trivial⟩ ?_
  refine Qcw (by kernel_rfl) ?_
  refine Qaa ?_
  refine Qao ?_
  exact fend ⟨[], trivial, rfl⟩ (.tup _ nl0)
def Qew (_N : Nat) (p0 : Int) : Option (Unit ⊕ Int) :=
  bif (p0 != 0) then
   some (.inr p0)
  else
   some (.inl ())
theorem Qn5 (N : Nat) (p0 : Int) (r : (Unit ⊕ Int)) (h : Qew N p0 = some r) : Zg3 Tryz.prog 31 [(I p0)] []  ((Sum.elim (fun r => .ret (.tup []) []) (fun r => .pan (.iface 89 (.agg #[(.int .i64 (r))]))) : (Unit ⊕ Int) → Out) r) := by
  refine Qv2 Tryz.func31 rfl 0 (nle rfl) (fun X φ0 w0 hφ0 hd0 => ?_)
  unfold Qew at h
  refine wx tbk [] trivial ?_
  rcases bft ((p0 != 0)) with hc2 | hc2
  ·replace h := Qav hc2 h
   refine wft hc2 (by kernel_rfl) ?_
   refine Qnk 3 [mv 0 (I p0), rp [(.tmp 4, I p0)] (.agg [I p0]), rp [(.tmp 5, (.agg [I p0]))] (.lit (.iface 89 (.agg #[(.int .i64 (p0))]))), ⟨[(.tmp 6, (.lit (.iface 89 (.agg #[(.int .i64 (p0))]))))], [], .any, [], false⟩] (by exact ⟨by kernel_rfl, by kernel_rfl⟩) rfl (by kernel_rfl) rfl (Qyk rfl) (⟨fun _ _ => amv rfl, fun _ _ => Qan (vs := [I p0]) rfl ts89 tz89 rfl (by rfl) rfl, fun _ _ => awk (rd' := [(.tmp 5, .lit (.agg #[(.int .i64 (p0))]))]) ⟨rfl, (Less.lits [(.int .i64 (p0))]), trivial⟩ (Qy9 rfl Tryz.underlying89), fun _ h => absurd rfl h, trivial⟩) ?_
   obtain rfl := osi h
   exact rfl
  ·replace h := Qaw hc2 h
   refine wfn hc2 (by kernel_rfl) ?_
   refine Qak ?_
   obtain rfl := osi h
   exact ⟨_, (mto (n := 7) (l' := []) (own' := []) [] [] [] hφ0 pn qn), Q79 (vs := []) trivial rfl (NLt.tup _ nl0) (by kernel_rfl) Qbd⟩
theorem Qgz (N : Nat) (p0 : Int) (r : Unit) (h : Qew N p0 = some (.inl r)) : Spec Tryz.prog 31 [I p0] [] (.tup []) [] := Qn5 N p0 _ h
theorem Qgy (N : Nat) (p0 : Int) (r : Int) (h : Qew N p0 = some (.inr r)) : Q9c Tryz.prog 31 [I p0] [] (.iface 89 (.agg #[(.int .i64 (r))])) := Qn5 N p0 _ h
def Qfx (N : Nat) (_p0 : (List GRow)) (_p1 : Int) (p2 : Int) (p3 : (List GPart)) (_p4 : Int) (_p5 : Int) (_p6 : Int) (_p7 : Int) (_p8 : Int) (_p9 : Int) (_p10 : Int) (_p11 : Int) (_p12 : Int) (_p13 : Int) (_p14 : Int) (_p15 : Int) (_p16 : Int) (_p17 : Int) (_p18 : Int) (_p19 : Int) (_p20 : Int) (_p21 : Int) (_p22 : Int) (p23 : Int) (p24 : Int) (p25 : Int) (p26 : Int) (_p27 : Int) (_p28 : Int) (_p29 : Int) (_p30 : Int) : Option (Int × Int × Int × Int × Int × Int) :=
  (Qii N (⟨p2, p3⟩ : GUnit) (⟨p23, p24, p25, p26⟩ : GStream)).bind fun x8 =>
  some (x8.2.2, x8.2.1, x8.1.Mass, x8.1.Heat, x8.1.Silica, x8.1.Gas)
def Qvu (p0 : (List GRow)) : AV := .dat 5 ((p0 : List GRow).map Qa6)
def Qq6 (p3 : (List GPart)) : AV := .dat 2 ((p3 : List GPart).map Qa4)
def Qz4 (p0 : (List GRow)) (p1 : Int) (p2 : Int) (p3 : (List GPart)) (p4 : Int) (p5 : Int) (p6 : Int) (p7 : Int) (p8 : Int) (p9 : Int) (p10 : Int) (p11 : Int) (p12 : Int) (p13 : Int) (p14 : Int) (p15 : Int) (p16 : Int) (p17 : Int) (p18 : Int) (p19 : Int) (p20 : Int) (p21 : Int) (p22 : Int) (p23 : Int) (p24 : Int) (p25 : Int) (p26 : Int) (p27 : Int) (p28 : Int) (p29 : Int) (p30 : Int) : Slot := .own 31 [[(Qvu p0), (I (p1)), (I (p2)), (Qq6 p3), (I (p4)), (I (p5)), (I (p6)), (I (p7)), (I (p8)), (I (p9)), (I (p10)), (I (p11)), (I (p12)), (I (p13)), (I (p14)), (I (p15)), (I (p16)), (I (p17)), (I (p18)), (I (p19)), (I (p20)), (I (p21)), (I (p22)), (I (p23)), (I (p24)), (I (p25)), (I (p26)), (I (p27)), (I (p28)), (I (p29)), (I (p30))]]
theorem Qib (N : Nat) (p0 : (List GRow)) (p1 : Int) (p2 : Int) (p3 : (List GPart)) (p4 : Int) (p5 : Int) (p6 : Int) (p7 : Int) (p8 : Int) (p9 : Int) (p10 : Int) (p11 : Int) (p12 : Int) (p13 : Int) (p14 : Int) (p15 : Int) (p16 : Int) (p17 : Int) (p18 : Int) (p19 : Int) (p20 : Int) (p21 : Int) (p22 : Int) (p23 : Int) (p24 : Int) (p25 : Int) (p26 : Int) (p27 : Int) (p28 : Int) (p29 : Int) (p30 : Int) (r : (Int × Int × Int × Int × Int × Int)) (h : Qfx N p0 p1 p2 p3 p4 p5 p6 p7 p8 p9 p10 p11 p12 p13 p14 p15 p16 p17 p18 p19 p20 p21 p22 p23 p24 p25 p26 p27 p28 p29 p30 = some r) : Spec Tryz.prog 33 [(.ref 0 31 (0) 0)] [(Qz4 p0 p1 p2 p3 p4 p5 p6 p7 p8 p9 p10 p11 p12 p13 p14 p15 p16 p17 p18 p19 p20 p21 p22 p23 p24 p25 p26 p27 p28 p29 p30)] (I (r.1)) [(.own 31 [[(Qvu p0), (I (p1)), (I (p2)), (Qq6 p3), (I (p4)), (I (p5)), (I (p6)), (I (p7)), (I (p8)), (I (r.2.1)), (I (p10)), (I (p11)), (I (p12)), (I (p13)), (I (p14)), (I (p15)), (I (p16)), (I (p17)), (I (p18)), (I (p19)), (I (p20)), (I (p21)), (I (p22)), (I (r.2.2.1)), (I (r.2.2.2.1)), (I (r.2.2.2.2.1)), (I (r.2.2.2.2.2)), (I (p27)), (I (p28)), (I (p29)), (I (p30))]])] := by
  refine Qab Tryz.func33 rfl 1 (nle rfl) (fun X φ0 w0 hφ0 hd0 => ?_)
  unfold Qfx at h
  refine Qbh ?_
  refine wx tbk [] trivial ?_
  obtain ⟨x8, hf7, h⟩ := bno h
  refine wxd tbk [(3, rb [(.tmp 6, .ref 0 31 0 0)] [(0, (Qz4 p0 p1 p2 p3 p4 p5 p6 p7 p8 p9 p10 p11 p12 p13 p14 p15 p16 p17 p18 p19 p20 p21 p22 p23 p24 p25 p26 p27 p28 p29 p30))] (.ref 0 31 0 0)), (8, rb [(.tmp 11, .ref 0 31 0 0)] [(0, (Qz4 p0 p1 p2 p3 p4 p5 p6 p7 p8 p9 p10 p11 p12 p13 p14 p15 p16 p17 p18 p19 p20 p21 p22 p23 p24 p25 p26 p27 p28 p29 p30))] (.ref 0 31 0 0)), (11, rp [fu 17, (.tmp 10, (.agg [I p2, (Qq6 p3)])), (.tmp 14, (.agg [I p23, I p24, I p25, I p26]))] (.tup [(.agg [I x8.1.Mass, I x8.1.Heat, I x8.1.Silica, I x8.1.Gas]), I x8.2.1, I x8.2.2])), (16, rb [(.tmp 4, .ref 0 31 0 0)] [(0, (Qz4 p0 p1 p2 p3 p4 p5 p6 p7 p8 p9 p10 p11 p12 p13 p14 p15 p16 p17 p18 p19 p20 p21 p22 p23 p24 p25 p26 p27 p28 p29 p30))] (.ref 0 31 0 0)), (19, rb [(.tmp 5, .ref 0 31 0 0)] [(0, (.own 31 [[(Qvu p0), I p1, I p2, (Qq6 p3), I p4, I p5, I p6, I p7, I p8, I p9, I p10, I p11, I p12, I p13, I p14, I p15, I p16, I p17, I p18, I p19, I p20, I p21, I p22, I x8.1.Mass, I x8.1.Heat, I x8.1.Silica, I x8.1.Gas, I p27, I p28, I p29, I p30]]))] (.ref 0 31 0 0))] ⟨Qbw rfl, Qbw rfl, apc (first := []) (cap := []) (vs := [(.agg [I p2, (Qq6 p3)]), (.agg [I p23, I p24, I p25, I p26])]) rfl Zey (Qqr N (⟨p2, p3⟩ : GUnit) (⟨p23, p24, p25, p26⟩ : GStream) _ hf7) rfl rfl (nlc (NLt.agg _ (nlc nll (nlc (nld Qap _) nl0))) (nlc (NLt.agg _ (nlc nll (nlc nll (nlc nll (nlc nll nl0))))) nl0)) (NLt.tup _ (nlc (NLt.agg _ (nlc nll (nlc nll (nlc nll (nlc nll nl0))))) (nlc nll (nlc nll nl0)))) rfl, Qbw rfl, Qbw rfl, trivial⟩ ?_
  refine wx tbk [] trivial ?_
  refine wmr (mto (n := 25) (l' := [(2, I x8.2.2)]) (own' := [(.own 31 [[(Qvu p0), I p1, I p2, (Qq6 p3), I p4, I p5, I p6, I p7, I p8, I x8.2.1, I p10, I p11, I p12, I p13, I p14, I p15, I p16, I p17, I p18, I p19, I p20, I p21, I p22, I x8.1.Mass, I x8.1.Heat, I x8.1.Silica, I x8.1.Gas, I p27, I p28, I p29, I p30]])]) [(2, I x8.2.2)] [0] [(.own 31 [[(Qvu p0), I p1, I p2, (Qq6 p3), I p4, I p5, I p6, I p7, I p8, I x8.2.1, I p10, I p11, I p12, I p13, I p14, I p15, I p16, I p17, I p18, I p19, I p20, I p21, I p22, I x8.1.Mass, I x8.1.Heat, I x8.1.Silica, I x8.1.Gas, I p27, I p28, I p29, I p30]])] hφ0 (pc rwl pn) (qc (spb (lc (.rn (.plain _ (nld Qa8 _))) (lc rwl (lc rwl (lc (.rn (.plain _ (nld Qap _))) (lc rwl (lc rwl (lc rwl (lc rwl (lc rwl (lc rwl (lc rwl (lc rwl (lc rwl (lc rwl (lc rwl (lc rwl (lc rwl (lc rwl (lc rwl (lc rwl (lc rwl (lc rwl (lc rwl (lc rwl (lc rwl (lc rwl (lc rwl (lc rwl (lc rwl (lc rwl (lc rwl ln)))))))))))))))))))))))))))))))) qn)) ?_
  refine Qaa ?_
  obtain rfl := osi h
  exact ⟨_, Mor.rfl, Qb7 (vs := [I x8.2.2]) ⟨rot (by kernel_rfl), trivial⟩ rfl (NLt.of0 nll) (by kernel_rfl) (Qaf (Qay (nlc (NLt.of0 (nld Qa8 _)) (nlc (NLt.of0 nll) (nlc (NLt.of0 nll) (nlc (NLt.of0 (nld Qap _)) (nlc (NLt.of0 nll) (nlc (NLt.of0 nll) (nlc (NLt.of0 nll) (nlc (NLt.of0 nll) (nlc (NLt.of0 nll) (nlc (NLt.of0 nll) (nlc (NLt.of0 nll) (nlc (NLt.of0 nll) (nlc (NLt.of0 nll) (nlc (NLt.of0 nll) (nlc (NLt.of0 nll) (nlc (NLt.of0 nll) (nlc (NLt.of0 nll) (nlc (NLt.of0 nll) (nlc (NLt.of0 nll) (nlc (NLt.of0 nll) (nlc (NLt.of0 nll) (nlc (NLt.of0 nll) (nlc (NLt.of0 nll) (nlc (NLt.of0 nll) (nlc (NLt.of0 nll) (nlc (NLt.of0 nll) (nlc (NLt.of0 nll) (nlc (NLt.of0 nll) (nlc (NLt.of0 nll) (nlc (NLt.of0 nll) (nlc (NLt.of0 nll) nl0)))))))))))))))))))))))))))))))) Qbd)⟩
def Qg6 (N : Nat) (p0 : Int) (p1 : Int) (p2 : Int) (p3 : Int) (_p4 : (List GRow)) (_p5 : Int) (_p6 : Int) (_p7 : (List GPart)) (p8 : Int) (_p9 : Int) (_p10 : Int) (_p11 : Int) (_p12 : Int) (_p13 : (List GRow)) (_p14 : Int) (_p15 : Int) (_p16 : (List GPart)) (_p17 : Int) (_p18 : Int) (_p19 : Int) (_p20 : Int) (_p21 : Int) (_p22 : Int) (_p23 : Int) (_p24 : Int) (_p25 : Int) (_p26 : Int) (_p27 : Int) (_p28 : Int) (_p29 : Int) (_p30 : Int) (_p31 : Int) (_p32 : Int) (_p33 : Int) (_p34 : Int) (_p35 : Int) (p36 : Int) (p37 : Int) (p38 : Int) (p39 : Int) (_p40 : Int) (_p41 : Int) (_p42 : Int) (_p43 : Int) : Option (Int × Int × Int × Int × Int × Int) :=
  (Qg1 N (⟨p36, p37, p38, p39⟩ : GStream) (⟨p0, p1, p2, p3⟩ : GStream) p8).bind fun x8 =>
  some (x8.2.2, x8.2.1, x8.1.Mass, x8.1.Heat, x8.1.Silica, x8.1.Gas)
def Qz3 : Slot := .own 1 [[(.ref 3 31 (0) 0)]]
def Qz2 (p0 : Int) (p1 : Int) (p2 : Int) (p3 : Int) : Slot := .own 4 [[(I (p0)), (I (p1)), (I (p2)), (I (p3))]]
def Qz1 (p4 : (List GRow)) (p5 : Int) (p6 : Int) (p7 : (List GPart)) (p8 : Int) (p9 : Int) (p10 : Int) (p11 : Int) (p12 : Int) : Slot := .own 9 [[(.dat 5 ((p4 : List GRow).map Qa6)), (I (p5)), (I (p6)), (.dat 2 ((p7 : List GPart).map Qa4)), (I (p8)), (I (p9)), (I (p10)), (I (p11)), (I (p12))]]
def Qq5 (p13 : (List GRow)) : AV := .dat 5 ((p13 : List GRow).map Qa6)
def Qq4 (p16 : (List GPart)) : AV := .dat 2 ((p16 : List GPart).map Qa4)
theorem Qjv (N : Nat) (p0 : Int) (p1 : Int) (p2 : Int) (p3 : Int) (p4 : (List GRow)) (p5 : Int) (p6 : Int) (p7 : (List GPart)) (p8 : Int) (p9 : Int) (p10 : Int) (p11 : Int) (p12 : Int) (p13 : (List GRow)) (p14 : Int) (p15 : Int) (p16 : (List GPart)) (p17 : Int) (p18 : Int) (p19 : Int) (p20 : Int) (p21 : Int) (p22 : Int) (p23 : Int) (p24 : Int) (p25 : Int) (p26 : Int) (p27 : Int) (p28 : Int) (p29 : Int) (p30 : Int) (p31 : Int) (p32 : Int) (p33 : Int) (p34 : Int) (p35 : Int) (p36 : Int) (p37 : Int) (p38 : Int) (p39 : Int) (p40 : Int) (p41 : Int) (p42 : Int) (p43 : Int) (r : (Int × Int × Int × Int × Int × Int)) (h : Qg6 N p0 p1 p2 p3 p4 p5 p6 p7 p8 p9 p10 p11 p12 p13 p14 p15 p16 p17 p18 p19 p20 p21 p22 p23 p24 p25 p26 p27 p28 p29 p30 p31 p32 p33 p34 p35 p36 p37 p38 p39 p40 p41 p42 p43 = some r) : Spec Tryz.prog 32 [(.ref 0 1 (0) 0), (.ref 1 4 (0) 0), (.ref 2 9 (0) 0)] [Qz3, (Qz2 p0 p1 p2 p3), (Qz1 p4 p5 p6 p7 p8 p9 p10 p11 p12), (.own 31 [[(Qq5 p13), (I (p14)), (I (p15)), (Qq4 p16), (I (p17)), (I (p18)), (I (p19)), (I (p20)), (I (p21)), (I (p22)), (I (p23)), (I (p24)), (I (p25)), (I (p26)), (I (p27)), (I (p28)), (I (p29)), (I (p30)), (I (p31)), (I (p32)), (I (p33)), (I (p34)), (I (p35)), (I (p36)), (I (p37)), (I (p38)), (I (p39)), (I (p40)), (I (p41)), (I (p42)), (I (p43))]])] (I (r.1)) [Qz3, (Qz2 p0 p1 p2 p3), (Qz1 p4 p5 p6 p7 p8 p9 p10 p11 p12), (.own 31 [[(Qq5 p13), (I (p14)), (I (p15)), (Qq4 p16), (I (p17)), (I (p18)), (I (p19)), (I (p20)), (I (p21)), (I (p22)), (I (r.2.1)), (I (p24)), (I (p25)), (I (p26)), (I (p27)), (I (r.2.2.1)), (I (r.2.2.2.1)), (I (r.2.2.2.2.1)), (I (r.2.2.2.2.2)), (I (p32)), (I (p33)), (I (p34)), (I (p35)), (I (p36)), (I (p37)), (I (p38)), (I (p39)), (I (p40)), (I (p41)), (I (p42)), (I (p43))]])] := by
  refine Qab Tryz.func32 rfl 4 (nle rfl) (fun X φ0 w0 hφ0 hd0 => ?_)
  unfold Qg6 at h
  refine Qbh ?_
  refine wx tbk [] trivial ?_
  obtain ⟨x8, hf7, h⟩ := bno h
  refine wxd tbk [(3, rb [(.tmp 7, .ref 3 31 0 0)] [(3, (.own 31 [[(Qq5 p13), I p14, I p15, (Qq4 p16), I p17, I p18, I p19, I p20, I p21, I p22, I p23, I p24, I p25, I p26, I p27, I p28, I p29, I p30, I p31, I p32, I p33, I p34, I p35, I p36, I p37, I p38, I p39, I p40, I p41, I p42, I p43]]))] (.ref 3 31 0 0)), (9, rp [fu 18, (.tmp 10, (.agg [I p36, I p37, I p38, I p39])), (.tmp 11, (.agg [I p0, I p1, I p2, I p3])), (.tmp 13, I p8)] (.tup [(.agg [I x8.1.Mass, I x8.1.Heat, I x8.1.Silica, I x8.1.Gas]), I x8.2.1, I x8.2.2])), (14, rb [(.tmp 5, .ref 3 31 0 0)] [(3, (.own 31 [[(Qq5 p13), I p14, I p15, (Qq4 p16), I p17, I p18, I p19, I p20, I p21, I p22, I p23, I p24, I p25, I p26, I p27, I p28, I p29, I p30, I p31, I p32, I p33, I p34, I p35, I p36, I p37, I p38, I p39, I p40, I p41, I p42, I p43]]))] (.ref 3 31 0 0)), (18, rb [(.tmp 6, .ref 3 31 0 0)] [(3, (.own 31 [[(Qq5 p13), I p14, I p15, (Qq4 p16), I p17, I p18, I p19, I p20, I p21, I p22, I p23, I p24, I p25, I p26, I p27, I x8.1.Mass, I x8.1.Heat, I x8.1.Silica, I x8.1.Gas, I p32, I p33, I p34, I p35, I p36, I p37, I p38, I p39, I p40, I p41, I p42, I p43]]))] (.ref 3 31 0 0))] ⟨Qbw rfl, apc (first := []) (cap := []) (vs := [(.agg [I p36, I p37, I p38, I p39]), (.agg [I p0, I p1, I p2, I p3]), I p8]) rfl Zex (Qo8 N (⟨p36, p37, p38, p39⟩ : GStream) (⟨p0, p1, p2, p3⟩ : GStream) p8 _ hf7) rfl rfl (nlc (NLt.agg _ (nlc nll (nlc nll (nlc nll (nlc nll nl0))))) (nlc (NLt.agg _ (nlc nll (nlc nll (nlc nll (nlc nll nl0))))) (nlc nll nl0))) (NLt.tup _ (nlc (NLt.agg _ (nlc nll (nlc nll (nlc nll (nlc nll nl0))))) (nlc nll (nlc nll nl0)))) rfl, Qbw rfl, Qbw rfl, trivial⟩ ?_
  refine wx tbk [] trivial ?_
  refine wmr (mto (n := 25) (l' := [(3, I x8.2.2)]) (own' := [Qz3, (Qz2 p0 p1 p2 p3), (Qz1 p4 p5 p6 p7 p8 p9 p10 p11 p12), (.own 31 [[(Qq5 p13), I p14, I p15, (Qq4 p16), I p17, I p18, I p19, I p20, I p21, I p22, I x8.2.1, I p24, I p25, I p26, I p27, I x8.1.Mass, I x8.1.Heat, I x8.1.Silica, I x8.1.Gas, I p32, I p33, I p34, I p35, I p36, I p37, I p38, I p39, I p40, I p41, I p42, I p43]])]) [(3, I x8.2.2)] [0, 1, 2, 3] [Qz3, (Qz2 p0 p1 p2 p3), (Qz1 p4 p5 p6 p7 p8 p9 p10 p11 p12), (.own 31 [[(Qq5 p13), I p14, I p15, (Qq4 p16), I p17, I p18, I p19, I p20, I p21, I p22, I x8.2.1, I p24, I p25, I p26, I p27, I x8.1.Mass, I x8.1.Heat, I x8.1.Silica, I x8.1.Gas, I p32, I p33, I p34, I p35, I p36, I p37, I p38, I p39, I p40, I p41, I p42, I p43]])] hφ0 (pc rwl pn) (qc (spb (lc (.rn (rqr rfl)) ln)) (qc (spb (lc rwl (lc rwl (lc rwl (lc rwl ln))))) (qc (spb (lc (.rn (.plain _ (nld Qa8 _))) (lc rwl (lc rwl (lc (.rn (.plain _ (nld Qap _))) (lc rwl (lc rwl (lc rwl (lc rwl (lc rwl ln)))))))))) (qc (spb (lc (.rn (.plain _ (nld Qa8 _))) (lc rwl (lc rwl (lc (.rn (.plain _ (nld Qap _))) (lc rwl (lc rwl (lc rwl (lc rwl (lc rwl (lc rwl (lc rwl (lc rwl (lc rwl (lc rwl (lc rwl (lc rwl (lc rwl (lc rwl (lc rwl (lc rwl (lc rwl (lc rwl (lc rwl (lc rwl (lc rwl (lc rwl (lc rwl (lc rwl (lc rwl (lc rwl (lc rwl ln)))))))))))))))))))))))))))))))) qn))))) ?_
  refine Qaa ?_
  obtain rfl := osi h
  exact ⟨_, Mor.rfl, Qb7 (vs := [I x8.2.2]) ⟨rot (by kernel_rfl), trivial⟩ rfl (NLt.of0 nll) (by kernel_rfl) (Qaf (Qay (nlc (NLt.ref _ _ _ _ (by decide)) nl0)) (Qaf (Qay (nlc (NLt.of0 nll) (nlc (NLt.of0 nll) (nlc (NLt.of0 nll) (nlc (NLt.of0 nll) nl0))))) (Qaf (Qay (nlc (NLt.of0 (nld Qa8 _)) (nlc (NLt.of0 nll) (nlc (NLt.of0 nll) (nlc (NLt.of0 (nld Qap _)) (nlc (NLt.of0 nll) (nlc (NLt.of0 nll) (nlc (NLt.of0 nll) (nlc (NLt.of0 nll) (nlc (NLt.of0 nll) nl0)))))))))) (Qaf (Qay (nlc (NLt.of0 (nld Qa8 _)) (nlc (NLt.of0 nll) (nlc (NLt.of0 nll) (nlc (NLt.of0 (nld Qap _)) (nlc (NLt.of0 nll) (nlc (NLt.of0 nll) (nlc (NLt.of0 nll) (nlc (NLt.of0 nll) (nlc (NLt.of0 nll) (nlc (NLt.of0 nll) (nlc (NLt.of0 nll) (nlc (NLt.of0 nll) (nlc (NLt.of0 nll) (nlc (NLt.of0 nll) (nlc (NLt.of0 nll) (nlc (NLt.of0 nll) (nlc (NLt.of0 nll) (nlc (NLt.of0 nll) (nlc (NLt.of0 nll) (nlc (NLt.of0 nll) (nlc (NLt.of0 nll) (nlc (NLt.of0 nll) (nlc (NLt.of0 nll) (nlc (NLt.of0 nll) (nlc (NLt.of0 nll) (nlc (NLt.of0 nll) (nlc (NLt.of0 nll) (nlc (NLt.of0 nll) (nlc (NLt.of0 nll) (nlc (NLt.of0 nll) (nlc (NLt.of0 nll) nl0)))))))))))))))))))))))))))))))) Qbd))))⟩
def Qgn (N : Nat) (_p0 : (List GRow)) (_p1 : Int) (_p2 : Int) (_p3 : (List GPart)) (_p4 : Int) (p5 : Int) (_p6 : Int) (_p7 : Int) (_p8 : Int) (_p9 : Int) (_p10 : Int) (_p11 : Int) (_p12 : Int) (_p13 : Int) (_p14 : Int) (p15 : Int) (p16 : Int) (p17 : Int) (p18 : Int) (_p19 : Int) (_p20 : Int) (_p21 : Int) (_p22 : Int) (_p23 : Int) (_p24 : Int) (_p25 : Int) (_p26 : Int) (_p27 : Int) (_p28 : Int) (_p29 : Int) (_p30 : Int) : Option (Int × Int × Int × Int × Int × Int) :=
  (Qhv N (⟨p15, p16, p17, p18⟩ : GStream) p5).bind fun x8 =>
  some (x8.2.2, x8.2.1, x8.1.Mass, x8.1.Heat, x8.1.Silica, x8.1.Gas)
def Qvt (p0 : (List GRow)) : AV := .dat 5 ((p0 : List GRow).map Qa6)
def Qvs (p3 : (List GPart)) : AV := .dat 2 ((p3 : List GPart).map Qa4)
def Qz0 (p0 : (List GRow)) (p1 : Int) (p2 : Int) (p3 : (List GPart)) (p4 : Int) (p5 : Int) (p6 : Int) (p7 : Int) (p8 : Int) (p9 : Int) (p10 : Int) (p11 : Int) (p12 : Int) (p13 : Int) (p14 : Int) (p15 : Int) (p16 : Int) (p17 : Int) (p18 : Int) (p19 : Int) (p20 : Int) (p21 : Int) (p22 : Int) (p23 : Int) (p24 : Int) (p25 : Int) (p26 : Int) (p27 : Int) (p28 : Int) (p29 : Int) (p30 : Int) : Slot := .own 31 [[(Qvt p0), (I (p1)), (I (p2)), (Qvs p3), (I (p4)), (I (p5)), (I (p6)), (I (p7)), (I (p8)), (I (p9)), (I (p10)), (I (p11)), (I (p12)), (I (p13)), (I (p14)), (I (p15)), (I (p16)), (I (p17)), (I (p18)), (I (p19)), (I (p20)), (I (p21)), (I (p22)), (I (p23)), (I (p24)), (I (p25)), (I (p26)), (I (p27)), (I (p28)), (I (p29)), (I (p30))]]
theorem Qjc (N : Nat) (p0 : (List GRow)) (p1 : Int) (p2 : Int) (p3 : (List GPart)) (p4 : Int) (p5 : Int) (p6 : Int) (p7 : Int) (p8 : Int) (p9 : Int) (p10 : Int) (p11 : Int) (p12 : Int) (p13 : Int) (p14 : Int) (p15 : Int) (p16 : Int) (p17 : Int) (p18 : Int) (p19 : Int) (p20 : Int) (p21 : Int) (p22 : Int) (p23 : Int) (p24 : Int) (p25 : Int) (p26 : Int) (p27 : Int) (p28 : Int) (p29 : Int) (p30 : Int) (r : (Int × Int × Int × Int × Int × Int)) (h : Qgn N p0 p1 p2 p3 p4 p5 p6 p7 p8 p9 p10 p11 p12 p13 p14 p15 p16 p17 p18 p19 p20 p21 p22 p23 p24 p25 p26 p27 p28 p29 p30 = some r) : Spec Tryz.prog 34 [(.ref 0 31 (0) 0)] [(Qz0 p0 p1 p2 p3 p4 p5 p6 p7 p8 p9 p10 p11 p12 p13 p14 p15 p16 p17 p18 p19 p20 p21 p22 p23 p24 p25 p26 p27 p28 p29 p30)] (I (r.1)) [(.own 31 [[(Qvt p0), (I (p1)), (I (p2)), (Qvs p3), (I (p4)), (I (p5)), (I (p6)), (I (p7)), (I (p8)), (I (p9)), (I (p10)), (I (r.2.1)), (I (p12)), (I (p13)), (I (p14)), (I (r.2.2.1)), (I (r.2.2.2.1)), (I (r.2.2.2.2.1)), (I (r.2.2.2.2.2)), (I (p19)), (I (p20)), (I (p21)), (I (p22)), (I (p23)), (I (p24)), (I (p25)), (I (p26)), (I (p27)), (I (p28)), (I (p29)), (I (p30))]])] := by
  refine Qab Tryz.func34 rfl 1 (nle rfl) (fun X φ0 w0 hφ0 hd0 => ?_)
  unfold Qgn at h
  refine Qbh ?_
  refine wx tbk [] trivial ?_
  obtain ⟨x8, hf7, h⟩ := bno h
  refine wxd tbk [(3, rb [(.tmp 6, .ref 0 31 0 0)] [(0, (Qz0 p0 p1 p2 p3 p4 p5 p6 p7 p8 p9 p10 p11 p12 p13 p14 p15 p16 p17 p18 p19 p20 p21 p22 p23 p24 p25 p26 p27 p28 p29 p30))] (.ref 0 31 0 0)), (8, rb [(.tmp 11, .ref 0 31 0 0)] [(0, (Qz0 p0 p1 p2 p3 p4 p5 p6 p7 p8 p9 p10 p11 p12 p13 p14 p15 p16 p17 p18 p19 p20 p21 p22 p23 p24 p25 p26 p27 p28 p29 p30))] (.ref 0 31 0 0)), (12, rp [fu 19, (.tmp 10, (.agg [I p15, I p16, I p17, I p18])), (.tmp 15, I p5)] (.tup [(.agg [I x8.1.Mass, I x8.1.Heat, I x8.1.Silica, I x8.1.Gas]), I x8.2.1, I x8.2.2])), (17, rb [(.tmp 4, .ref 0 31 0 0)] [(0, (Qz0 p0 p1 p2 p3 p4 p5 p6 p7 p8 p9 p10 p11 p12 p13 p14 p15 p16 p17 p18 p19 p20 p21 p22 p23 p24 p25 p26 p27 p28 p29 p30))] (.ref 0 31 0 0)), (21, rb [(.tmp 5, .ref 0 31 0 0)] [(0, (.own 31 [[(Qvt p0), I p1, I p2, (Qvs p3), I p4, I p5, I p6, I p7, I p8, I p9, I p10, I p11, I p12, I p13, I p14, I x8.1.Mass, I x8.1.Heat, I x8.1.Silica, I x8.1.Gas, I p19, I p20, I p21, I p22, I p23, I p24, I p25, I p26, I p27, I p28, I p29, I p30]]))] (.ref 0 31 0 0))] ⟨Qbw rfl, Qbw rfl, apc (first := []) (cap := []) (vs := [(.agg [I p15, I p16, I p17, I p18]), I p5]) rfl Zew (Qrl N (⟨p15, p16, p17, p18⟩ : GStream) p5 _ hf7) rfl rfl (nlc (NLt.agg _ (nlc nll (nlc nll (nlc nll (nlc nll nl0))))) (nlc nll nl0)) (NLt.tup _ (nlc (NLt.agg _ (nlc nll (nlc nll (nlc nll (nlc nll nl0))))) (nlc nll (nlc nll nl0)))) rfl, Qbw rfl, Qbw rfl, trivial⟩ ?_
  refine wx tbk [] trivial ?_
  refine wmr (mto (n := 27) (l' := [(2, I x8.2.2)]) (own' := [(.own 31 [[(Qvt p0), I p1, I p2, (Qvs p3), I p4, I p5, I p6, I p7, I p8, I p9, I p10, I x8.2.1, I p12, I p13, I p14, I x8.1.Mass, I x8.1.Heat, I x8.1.Silica, I x8.1.Gas, I p19, I p20, I p21, I p22, I p23, I p24, I p25, I p26, I p27, I p28, I p29, I p30]])]) [(2, I x8.2.2)] [0] [(.own 31 [[(Qvt p0), I p1, I p2, (Qvs p3), I p4, I p5, I p6, I p7, I p8, I p9, I p10, I x8.2.1, I p12, I p13, I p14, I x8.1.Mass, I x8.1.Heat, I x8.1.Silica, I x8.1.Gas, I p19, I p20, I p21, I p22, I p23, I p24, I p25, I p26, I p27, I p28, I p29, I p30]])] hφ0 (pc rwl pn) (qc (spb (lc (.rn (.plain _ (nld Qa8 _))) (lc rwl (lc rwl (lc (.rn (.plain _ (nld Qap _))) (lc rwl (lc rwl (lc rwl (lc rwl (lc rwl (lc rwl (lc rwl (lc rwl (lc rwl (lc rwl (lc rwl (lc rwl (lc rwl (lc rwl (lc rwl (lc rwl (lc rwl (lc rwl (lc rwl (lc rwl (lc rwl (lc rwl (lc rwl (lc rwl (lc rwl (lc rwl (lc rwl ln)))))))))))))))))))))))))))))))) qn)) ?_
  refine Qaa ?_
  obtain rfl := osi h
  exact ⟨_, Mor.rfl, Qb7 (vs := [I x8.2.2]) ⟨rot (by kernel_rfl), trivial⟩ rfl (NLt.of0 nll) (by kernel_rfl) (Qaf (Qay (nlc (NLt.of0 (nld Qa8 _)) (nlc (NLt.of0 nll) (nlc (NLt.of0 nll) (nlc (NLt.of0 (nld Qap _)) (nlc (NLt.of0 nll) (nlc (NLt.of0 nll) (nlc (NLt.of0 nll) (nlc (NLt.of0 nll) (nlc (NLt.of0 nll) (nlc (NLt.of0 nll) (nlc (NLt.of0 nll) (nlc (NLt.of0 nll) (nlc (NLt.of0 nll) (nlc (NLt.of0 nll) (nlc (NLt.of0 nll) (nlc (NLt.of0 nll) (nlc (NLt.of0 nll) (nlc (NLt.of0 nll) (nlc (NLt.of0 nll) (nlc (NLt.of0 nll) (nlc (NLt.of0 nll) (nlc (NLt.of0 nll) (nlc (NLt.of0 nll) (nlc (NLt.of0 nll) (nlc (NLt.of0 nll) (nlc (NLt.of0 nll) (nlc (NLt.of0 nll) (nlc (NLt.of0 nll) (nlc (NLt.of0 nll) (nlc (NLt.of0 nll) (nlc (NLt.of0 nll) nl0)))))))))))))))))))))))))))))))) Qbd)⟩
def Qgo (N : Nat) (_p0 : (List GRow)) (_p1 : Int) (_p2 : Int) (_p3 : (List GPart)) (_p4 : Int) (_p5 : Int) (p6 : Int) (p7 : Int) (p8 : Int) (_p9 : Int) (_p10 : Int) (_p11 : Int) (_p12 : Int) (_p13 : Int) (_p14 : Int) (_p15 : Int) (_p16 : Int) (_p17 : Int) (_p18 : Int) (_p19 : Int) (_p20 : Int) (_p21 : Int) (_p22 : Int) (_p23 : Int) (_p24 : Int) (_p25 : Int) (_p26 : Int) (p27 : Int) (p28 : Int) (p29 : Int) (p30 : Int) : Option (Int × Int × Int × Int × Int × Int × Int) :=
  (Qj6 N (⟨p6, p7, p8⟩ : GCycle) (⟨p27, p28, p29, p30⟩ : GStream)).bind fun x9 =>
  some (x9.2.2.2, x9.2.1, x9.2.2.1, x9.1.Mass, x9.1.Heat, x9.1.Silica, x9.1.Gas)
def Qss (p0 : (List GRow)) : AV := .dat 5 ((p0 : List GRow).map Qa6)
def Qsr (p3 : (List GPart)) : AV := .dat 2 ((p3 : List GPart).map Qa4)
def Qzz (p0 : (List GRow)) (p1 : Int) (p2 : Int) (p3 : (List GPart)) (p4 : Int) (p5 : Int) (p6 : Int) (p7 : Int) (p8 : Int) (p9 : Int) (p10 : Int) (p11 : Int) (p12 : Int) (p13 : Int) (p14 : Int) (p15 : Int) (p16 : Int) (p17 : Int) (p18 : Int) (p19 : Int) (p20 : Int) (p21 : Int) (p22 : Int) (p23 : Int) (p24 : Int) (p25 : Int) (p26 : Int) (p27 : Int) (p28 : Int) (p29 : Int) (p30 : Int) : Slot := .own 31 [[(Qss p0), (I (p1)), (I (p2)), (Qsr p3), (I (p4)), (I (p5)), (I (p6)), (I (p7)), (I (p8)), (I (p9)), (I (p10)), (I (p11)), (I (p12)), (I (p13)), (I (p14)), (I (p15)), (I (p16)), (I (p17)), (I (p18)), (I (p19)), (I (p20)), (I (p21)), (I (p22)), (I (p23)), (I (p24)), (I (p25)), (I (p26)), (I (p27)), (I (p28)), (I (p29)), (I (p30))]]
theorem Qjd (N : Nat) (p0 : (List GRow)) (p1 : Int) (p2 : Int) (p3 : (List GPart)) (p4 : Int) (p5 : Int) (p6 : Int) (p7 : Int) (p8 : Int) (p9 : Int) (p10 : Int) (p11 : Int) (p12 : Int) (p13 : Int) (p14 : Int) (p15 : Int) (p16 : Int) (p17 : Int) (p18 : Int) (p19 : Int) (p20 : Int) (p21 : Int) (p22 : Int) (p23 : Int) (p24 : Int) (p25 : Int) (p26 : Int) (p27 : Int) (p28 : Int) (p29 : Int) (p30 : Int) (r : (Int × Int × Int × Int × Int × Int × Int)) (h : Qgo N p0 p1 p2 p3 p4 p5 p6 p7 p8 p9 p10 p11 p12 p13 p14 p15 p16 p17 p18 p19 p20 p21 p22 p23 p24 p25 p26 p27 p28 p29 p30 = some r) : Spec Tryz.prog 35 [(.ref 0 31 (0) 0)] [(Qzz p0 p1 p2 p3 p4 p5 p6 p7 p8 p9 p10 p11 p12 p13 p14 p15 p16 p17 p18 p19 p20 p21 p22 p23 p24 p25 p26 p27 p28 p29 p30)] (I (r.1)) [(.own 31 [[(Qss p0), (I (p1)), (I (p2)), (Qsr p3), (I (p4)), (I (p5)), (I (p6)), (I (p7)), (I (p8)), (I (p9)), (I (p10)), (I (p11)), (I (r.2.1)), (I (r.2.2.1)), (I (p14)), (I (p15)), (I (p16)), (I (p17)), (I (p18)), (I (r.2.2.2.1)), (I (r.2.2.2.2.1)), (I (r.2.2.2.2.2.1)), (I (r.2.2.2.2.2.2)), (I (p23)), (I (p24)), (I (p25)), (I (p26)), (I (p27)), (I (p28)), (I (p29)), (I (p30))]])] := by
  refine Qab Tryz.func35 rfl 1 (nle rfl) (fun X φ0 w0 hφ0 hd0 => ?_)
  unfold Qgo at h
  refine Qbh ?_
  refine wx tbk [] trivial ?_
  obtain ⟨x9, hf8, h⟩ := bno h
  refine wxd tbk [(4, rb [(.tmp 7, .ref 0 31 0 0)] [(0, (Qzz p0 p1 p2 p3 p4 p5 p6 p7 p8 p9 p10 p11 p12 p13 p14 p15 p16 p17 p18 p19 p20 p21 p22 p23 p24 p25 p26 p27 p28 p29 p30))] (.ref 0 31 0 0)), (9, rb [(.tmp 12, .ref 0 31 0 0)] [(0, (Qzz p0 p1 p2 p3 p4 p5 p6 p7 p8 p9 p10 p11 p12 p13 p14 p15 p16 p17 p18 p19 p20 p21 p22 p23 p24 p25 p26 p27 p28 p29 p30))] (.ref 0 31 0 0)), (12, rp [fu 20, (.tmp 11, (.agg [I p6, I p7, I p8])), (.tmp 15, (.agg [I p27, I p28, I p29, I p30]))] (.tup [(.agg [I x9.1.Mass, I x9.1.Heat, I x9.1.Silica, I x9.1.Gas]), I x9.2.1, I x9.2.2.1, I x9.2.2.2])), (18, rb [(.tmp 4, .ref 0 31 0 0)] [(0, (Qzz p0 p1 p2 p3 p4 p5 p6 p7 p8 p9 p10 p11 p12 p13 p14 p15 p16 p17 p18 p19 p20 p21 p22 p23 p24 p25 p26 p27 p28 p29 p30))] (.ref 0 31 0 0)), (22, rb [(.tmp 5, .ref 0 31 0 0)] [(0, (.own 31 [[(Qss p0), I p1, I p2, (Qsr p3), I p4, I p5, I p6, I p7, I p8, I p9, I p10, I p11, I p12, I p13, I p14, I p15, I p16, I p17, I p18, I x9.1.Mass, I x9.1.Heat, I x9.1.Silica, I x9.1.Gas, I p23, I p24, I p25, I p26, I p27, I p28, I p29, I p30]]))] (.ref 0 31 0 0)), (26, rb [(.tmp 6, .ref 0 31 0 0)] [(0, (.own 31 [[(Qss p0), I p1, I p2, (Qsr p3), I p4, I p5, I p6, I p7, I p8, I p9, I p10, I p11, I x9.2.1, I p13, I p14, I p15, I p16, I p17, I p18, I x9.1.Mass, I x9.1.Heat, I x9.1.Silica, I x9.1.Gas, I p23, I p24, I p25, I p26, I p27, I p28, I p29, I p30]]))] (.ref 0 31 0 0))] ⟨Qbw rfl, Qbw rfl, apc (first := []) (cap := []) (vs := [(.agg [I p6, I p7, I p8]), (.agg [I p27, I p28, I p29, I p30])]) rfl Q50 (Qo6 N (⟨p6, p7, p8⟩ : GCycle) (⟨p27, p28, p29, p30⟩ : GStream) _ hf8) rfl rfl (nlc (NLt.agg _ (nlc nll (nlc nll (nlc nll nl0)))) (nlc (NLt.agg _ (nlc nll (nlc nll (nlc nll (nlc nll nl0))))) nl0)) (NLt.tup _ (nlc (NLt.agg _ (nlc nll (nlc nll (nlc nll (nlc nll nl0))))) (nlc nll (nlc nll (nlc nll nl0))))) rfl, Qbw rfl, Qbw rfl, Qbw rfl, trivial⟩ ?_
  refine wx tbk [] trivial ?_
  refine wmr (mto (n := 31) (l' := [(2, I x9.2.2.2)]) (own' := [(.own 31 [[(Qss p0), I p1, I p2, (Qsr p3), I p4, I p5, I p6, I p7, I p8, I p9, I p10, I p11, I x9.2.1, I x9.2.2.1, I p14, I p15, I p16, I p17, I p18, I x9.1.Mass, I x9.1.Heat, I x9.1.Silica, I x9.1.Gas, I p23, I p24, I p25, I p26, I p27, I p28, I p29, I p30]])]) [(2, I x9.2.2.2)] [0] [(.own 31 [[(Qss p0), I p1, I p2, (Qsr p3), I p4, I p5, I p6, I p7, I p8, I p9, I p10, I p11, I x9.2.1, I x9.2.2.1, I p14, I p15, I p16, I p17, I p18, I x9.1.Mass, I x9.1.Heat, I x9.1.Silica, I x9.1.Gas, I p23, I p24, I p25, I p26, I p27, I p28, I p29, I p30]])] hφ0 (pc rwl pn) (qc (spb (lc (.rn (.plain _ (nld Qa8 _))) (lc rwl (lc rwl (lc (.rn (.plain _ (nld Qap _))) (lc rwl (lc rwl (lc rwl (lc rwl (lc rwl (lc rwl (lc rwl (lc rwl (lc rwl (lc rwl (lc rwl (lc rwl (lc rwl (lc rwl (lc rwl (lc rwl (lc rwl (lc rwl (lc rwl (lc rwl (lc rwl (lc rwl (lc rwl (lc rwl (lc rwl (lc rwl (lc rwl ln)))))))))))))))))))))))))))))))) qn)) ?_
  refine Qaa ?_
  obtain rfl := osi h
  exact ⟨_, Mor.rfl, Qb7 (vs := [I x9.2.2.2]) ⟨rot (by kernel_rfl), trivial⟩ rfl (NLt.of0 nll) (by kernel_rfl) (Qaf (Qay (nlc (NLt.of0 (nld Qa8 _)) (nlc (NLt.of0 nll) (nlc (NLt.of0 nll) (nlc (NLt.of0 (nld Qap _)) (nlc (NLt.of0 nll) (nlc (NLt.of0 nll) (nlc (NLt.of0 nll) (nlc (NLt.of0 nll) (nlc (NLt.of0 nll) (nlc (NLt.of0 nll) (nlc (NLt.of0 nll) (nlc (NLt.of0 nll) (nlc (NLt.of0 nll) (nlc (NLt.of0 nll) (nlc (NLt.of0 nll) (nlc (NLt.of0 nll) (nlc (NLt.of0 nll) (nlc (NLt.of0 nll) (nlc (NLt.of0 nll) (nlc (NLt.of0 nll) (nlc (NLt.of0 nll) (nlc (NLt.of0 nll) (nlc (NLt.of0 nll) (nlc (NLt.of0 nll) (nlc (NLt.of0 nll) (nlc (NLt.of0 nll) (nlc (NLt.of0 nll) (nlc (NLt.of0 nll) (nlc (NLt.of0 nll) (nlc (NLt.of0 nll) (nlc (NLt.of0 nll) nl0)))))))))))))))))))))))))))))))) Qbd)⟩
def Q90 : Slot := .own 14 [[(I (0)), (I (0)), (I (0)), (I (0)), (I (0)), (I (0)), (I (0)), (I (0)), (I (0)), (I (0)), (I (0)), (I (0)), (I (0)), (I (0))]]
theorem Qe8 (v0 : Int) : DPan Tryz.prog 30 [14, 1] (.iface 89 (.agg #[(.int .i64 (v0))])) [[(I (0)), (I (0)), (I (0)), (I (0)), (I (0)), (I (0)), (I (0)), (I (0)), (I (0)), (I (0)), (I (0)), (I (0)), (I (0)), (I (0))], [(I (v0))]] := by
  refine Qpb (t := 5) (t2 := 2) (args := [.ref 0 14 0 0, .ref 1 1 0 0]) Tryz.func30 rfl (fun _ _ => rfl) rfl (by kernel_rfl) Zcz 2 (nle rfl) (fun X φ0 w0 hφ0 => ?_)
  refine Qbh ?_
  refine wsq ?_
  refine wx tbk [(1, rp [(.tmp 6, (.lit (.iface 89 (.agg #[(.int .i64 (v0))])))), (.const .nilIface, (.lit .nilIface))] (B false))] ⟨Qy8 rfl Tryz.underlying20, trivial⟩ ?_
  refine Qep (by kernel_rfl) ?_
  refine Qak ?_
  refine thn ?_
  refine wx tbk [(1, rp [(.tmp 9, (.lit (.iface 89 (.agg #[(.int .i64 (v0))]))))] (.tup [(.agg [I v0]), B true]))] ⟨Qy4 (r := .lit (.tuple #[(.agg #[(.int .i64 (v0))]), (.bool true)])) (Less.trans Q5b (Less.tup ⟨Q5c (l := [(.int .i64 (v0))]), lrf, trivial⟩)) (Quz rfl Tryz.underlying89), trivial⟩ ?_
  refine wsq ?_
  refine wx tbk [] trivial ?_
  refine Qep (by kernel_rfl) ?_
  refine Qak ?_
  refine thn ?_
  refine wy1 tbk [(0, rp [] (.agg [I 0, I 0, I 0, I 0, I 0, I 0, I 0, I 0, I 0, I 0, I 0, I 0, I 0, I 0]))] ⟨Qan (vs := []) rfl ts37 tz37 rfl (by rfl) rfl, trivial⟩ ?_
  exact ⟨_, (mto (n := 19) (l' := []) (own' := [Q90, (.own 1 [[I v0]])]) [] [0, 1] [Q90, (.own 1 [[I v0]])] hφ0 pn (qc (spb (lc rwl (lc rwl (lc rwl (lc rwl (lc rwl (lc rwl (lc rwl (lc rwl (lc rwl (lc rwl (lc rwl (lc rwl (lc rwl (lc rwl ln))))))))))))))) (qc (spb (lc rwl ln)) qn))), Qb7 (vs := []) trivial rfl (NLt.tup _ nl0) (by kernel_rfl) (Qaf (Qay (nlt0 (nlc nll (nlc nll (nlc nll (nlc nll (nlc nll (nlc nll (nlc nll (nlc nll (nlc nll (nlc nll (nlc nll (nlc nll (nlc nll (nlc nll nl0)))))))))))))))) (Qaf (Qay (nlt0 (nlc nll nl0))) Qbd))⟩
def Qif (N : Nat) (p0 : GLine) (p1 : GStream) (p2 : GStream) : Option (GAccount × Int) :=
  (Qf3 N (⟨p0.Table, p0.Level, (⟨p0.Unit.Inlet, p0.Unit.Parts⟩ : GUnit), p0.Most, p0.Target, (⟨p0.Cycle.Out, p0.Cycle.Yield, p0.Cycle.Most⟩ : GCycle)⟩ : GLine)).bind fun x19 =>
  bif (!x19) then
   some ((⟨0, 0, 0, 0, 0, 0, (⟨0, 0, 0, 0⟩ : GStream), (⟨0, 0, 0, 0⟩ : GStream)⟩ : GAccount), 1)
  else
   (Qem N ([p1, p2])).bind fun x22 =>
   bif (!x22) then
    some ((⟨0, 0, 0, 0, 0, 0, (⟨0, 0, 0, 0⟩ : GStream), (⟨0, 0, 0, 0⟩ : GStream)⟩ : GAccount), 1)
   else
    (Qhu N p0.Table p0.Level p1).bind fun x25 =>
    (Qew N x25.2).bind (
     Sum.elim (fun _ =>
       Qck (fun ⟨y29, y30, y31, y32, y33, y34, y35, y36, y37, y38, y39, y40, y41, _, _, _, _⟩ =>
         some ((⟨y29, y30, y31, y32, y33, x25.1.Scale, (⟨y34, y35, y36, y37⟩ : GStream), (⟨y38, y39, y40, y41⟩ : GStream)⟩ : GAccount), 0)) fun k46 : Int × Int × Int × Int × Int × Int × Int × Int × Int × Int × Int × Int × Int × Int × Int × Int × Int → Option (GAccount × Int) =>
       (Qfx N p0.Table p0.Level p0.Unit.Inlet p0.Unit.Parts p0.Most p0.Target p0.Cycle.Out p0.Cycle.Yield p0.Cycle.Most 0 0 0 0 0 x25.1.Scale 0 0 0 0 0 0 0 0 x25.1.Steam.Mass x25.1.Steam.Heat x25.1.Steam.Silica x25.1.Steam.Gas x25.1.Water.Mass x25.1.Water.Heat x25.1.Water.Silica x25.1.Water.Gas).bind fun x48 =>
       (Qew N x48.1).bind (
        Sum.elim (fun _ =>
          (Qg6 N p2.Mass p2.Heat p2.Silica p2.Gas p0.Table p0.Level p0.Unit.Inlet p0.Unit.Parts p0.Most p0.Target p0.Cycle.Out p0.Cycle.Yield p0.Cycle.Most p0.Table p0.Level p0.Unit.Inlet p0.Unit.Parts p0.Most p0.Target p0.Cycle.Out p0.Cycle.Yield p0.Cycle.Most x48.2.1 0 0 0 0 x25.1.Scale 0 0 0 0 0 0 0 0 x48.2.2.1 x48.2.2.2.1 x48.2.2.2.2.1 x48.2.2.2.2.2 x25.1.Water.Mass x25.1.Water.Heat x25.1.Water.Silica x25.1.Water.Gas).bind fun x53 =>
          (Qew N x53.1).bind (
           Sum.elim (fun _ =>
             (Qgn N p0.Table p0.Level p0.Unit.Inlet p0.Unit.Parts p0.Most p0.Target p0.Cycle.Out p0.Cycle.Yield p0.Cycle.Most x48.2.1 x53.2.1 0 0 0 x25.1.Scale x53.2.2.1 x53.2.2.2.1 x53.2.2.2.2.1 x53.2.2.2.2.2 0 0 0 0 x48.2.2.1 x48.2.2.2.1 x48.2.2.2.2.1 x48.2.2.2.2.2 x25.1.Water.Mass x25.1.Water.Heat x25.1.Water.Silica x25.1.Water.Gas).bind fun x58 =>
             (Qew N x58.1).bind (
              Sum.elim (fun _ =>
                (Qgo N p0.Table p0.Level p0.Unit.Inlet p0.Unit.Parts p0.Most p0.Target p0.Cycle.Out p0.Cycle.Yield p0.Cycle.Most x48.2.1 x53.2.1 x58.2.1 0 0 x25.1.Scale x58.2.2.1 x58.2.2.2.1 x58.2.2.2.2.1 x58.2.2.2.2.2 0 0 0 0 x48.2.2.1 x48.2.2.2.1 x48.2.2.2.2.1 x48.2.2.2.2.2 x25.1.Water.Mass x25.1.Water.Heat x25.1.Water.Silica x25.1.Water.Gas).bind fun x63 =>
                (Qew N x63.1).bind (
                 Sum.elim (fun _ =>
                   k46 (x48.2.1, x53.2.1, x58.2.1, x63.2.1, x63.2.2.1, x58.2.2.1, x58.2.2.2.1, x58.2.2.2.2.1, x58.2.2.2.2.2, x63.2.2.2.1, x63.2.2.2.2.1, x63.2.2.2.2.2.1, x63.2.2.2.2.2.2, x48.2.2.1, x48.2.2.2.1, x48.2.2.2.2.1, x48.2.2.2.2.2))
                 (fun x67 =>
                   some ((⟨0, 0, 0, 0, 0, 0, (⟨0, 0, 0, 0⟩ : GStream), (⟨0, 0, 0, 0⟩ : GStream)⟩ : GAccount), x67))))
              (fun x68 =>
                some ((⟨0, 0, 0, 0, 0, 0, (⟨0, 0, 0, 0⟩ : GStream), (⟨0, 0, 0, 0⟩ : GStream)⟩ : GAccount), x68))))
           (fun x69 =>
             some ((⟨0, 0, 0, 0, 0, 0, (⟨0, 0, 0, 0⟩ : GStream), (⟨0, 0, 0, 0⟩ : GStream)⟩ : GAccount), x69))))
        (fun x70 =>
          some ((⟨0, 0, 0, 0, 0, 0, (⟨0, 0, 0, 0⟩ : GStream), (⟨0, 0, 0, 0⟩ : GStream)⟩ : GAccount), x70))))
     (fun x71 =>
       some ((⟨0, 0, 0, 0, 0, 0, (⟨0, 0, 0, 0⟩ : GStream), (⟨0, 0, 0, 0⟩ : GStream)⟩ : GAccount), x71)))
def Ql1 (p0 : GLine) : AV := .dat 5 ((p0.Table : List GRow).map Qa6)
def Qn4 (p0 : GLine) : AV := .dat 2 ((p0.Unit.Parts : List GPart).map Qa4)
def Qst (p0 : GLine) : AV := .agg [(Ql1 p0), (I (p0.Level)), (I (p0.Unit.Inlet)), (Qn4 p0), (I (p0.Most)), (I (p0.Target)), (I (p0.Cycle.Out)), (I (p0.Cycle.Yield)), (I (p0.Cycle.Most))]
def Q92 : AV := .agg [(I (0)), (I (0)), (I (0)), (I (0)), (I (0)), (I (0)), (I (0)), (I (0)), (I (0)), (I (0)), (I (0)), (I (0)), (I (0)), (I (0))]
def Qod : Slot := .own 14 [[(I (((⟨0, 0, 0, 0, 0, 0, (⟨0, 0, 0, 0⟩ : GStream), (⟨0, 0, 0, 0⟩ : GStream)⟩ : GAccount).Turbine))), (I (((⟨0, 0, 0, 0, 0, 0, (⟨0, 0, 0, 0⟩ : GStream), (⟨0, 0, 0, 0⟩ : GStream)⟩ : GAccount).Vent))), (I (((⟨0, 0, 0, 0, 0, 0, (⟨0, 0, 0, 0⟩ : GStream), (⟨0, 0, 0, 0⟩ : GStream)⟩ : GAccount).Air))), (I (((⟨0, 0, 0, 0, 0, 0, (⟨0, 0, 0, 0⟩ : GStream), (⟨0, 0, 0, 0⟩ : GStream)⟩ : GAccount).Work))), (I (((⟨0, 0, 0, 0, 0, 0, (⟨0, 0, 0, 0⟩ : GStream), (⟨0, 0, 0, 0⟩ : GStream)⟩ : GAccount).Sink))), (I (((⟨0, 0, 0, 0, 0, 0, (⟨0, 0, 0, 0⟩ : GStream), (⟨0, 0, 0, 0⟩ : GStream)⟩ : GAccount).Scale))), (I ((((⟨0, 0, 0, 0, 0, 0, (⟨0, 0, 0, 0⟩ : GStream), (⟨0, 0, 0, 0⟩ : GStream)⟩ : GAccount).Hot).Mass))), (I ((((⟨0, 0, 0, 0, 0, 0, (⟨0, 0, 0, 0⟩ : GStream), (⟨0, 0, 0, 0⟩ : GStream)⟩ : GAccount).Hot).Heat))), (I ((((⟨0, 0, 0, 0, 0, 0, (⟨0, 0, 0, 0⟩ : GStream), (⟨0, 0, 0, 0⟩ : GStream)⟩ : GAccount).Hot).Silica))), (I ((((⟨0, 0, 0, 0, 0, 0, (⟨0, 0, 0, 0⟩ : GStream), (⟨0, 0, 0, 0⟩ : GStream)⟩ : GAccount).Hot).Gas))), (I ((((⟨0, 0, 0, 0, 0, 0, (⟨0, 0, 0, 0⟩ : GStream), (⟨0, 0, 0, 0⟩ : GStream)⟩ : GAccount).Brine).Mass))), (I ((((⟨0, 0, 0, 0, 0, 0, (⟨0, 0, 0, 0⟩ : GStream), (⟨0, 0, 0, 0⟩ : GStream)⟩ : GAccount).Brine).Heat))), (I ((((⟨0, 0, 0, 0, 0, 0, (⟨0, 0, 0, 0⟩ : GStream), (⟨0, 0, 0, 0⟩ : GStream)⟩ : GAccount).Brine).Silica))), (I ((((⟨0, 0, 0, 0, 0, 0, (⟨0, 0, 0, 0⟩ : GStream), (⟨0, 0, 0, 0⟩ : GStream)⟩ : GAccount).Brine).Gas)))]]
def Qot : Slot := .own 14 [[(I (0)), (I (0)), (I (0)), (I (0)), (I (0)), (I (0)), (I (0)), (I (0)), (I (0)), (I (0)), (I (0)), (I (0)), (I (0)), (I (0))]]
def Qoc : AV := .agg [(I ((⟨0, 0, 0, 0, 0, 0, (⟨0, 0, 0, 0⟩ : GStream), (⟨0, 0, 0, 0⟩ : GStream)⟩ : GAccount).Turbine)), (I ((⟨0, 0, 0, 0, 0, 0, (⟨0, 0, 0, 0⟩ : GStream), (⟨0, 0, 0, 0⟩ : GStream)⟩ : GAccount).Vent)), (I ((⟨0, 0, 0, 0, 0, 0, (⟨0, 0, 0, 0⟩ : GStream), (⟨0, 0, 0, 0⟩ : GStream)⟩ : GAccount).Air)), (I ((⟨0, 0, 0, 0, 0, 0, (⟨0, 0, 0, 0⟩ : GStream), (⟨0, 0, 0, 0⟩ : GStream)⟩ : GAccount).Work)), (I ((⟨0, 0, 0, 0, 0, 0, (⟨0, 0, 0, 0⟩ : GStream), (⟨0, 0, 0, 0⟩ : GStream)⟩ : GAccount).Sink)), (I ((⟨0, 0, 0, 0, 0, 0, (⟨0, 0, 0, 0⟩ : GStream), (⟨0, 0, 0, 0⟩ : GStream)⟩ : GAccount).Scale)), (I ((⟨0, 0, 0, 0, 0, 0, (⟨0, 0, 0, 0⟩ : GStream), (⟨0, 0, 0, 0⟩ : GStream)⟩ : GAccount).Hot.Mass)), (I ((⟨0, 0, 0, 0, 0, 0, (⟨0, 0, 0, 0⟩ : GStream), (⟨0, 0, 0, 0⟩ : GStream)⟩ : GAccount).Hot.Heat)), (I ((⟨0, 0, 0, 0, 0, 0, (⟨0, 0, 0, 0⟩ : GStream), (⟨0, 0, 0, 0⟩ : GStream)⟩ : GAccount).Hot.Silica)), (I ((⟨0, 0, 0, 0, 0, 0, (⟨0, 0, 0, 0⟩ : GStream), (⟨0, 0, 0, 0⟩ : GStream)⟩ : GAccount).Hot.Gas)), (I ((⟨0, 0, 0, 0, 0, 0, (⟨0, 0, 0, 0⟩ : GStream), (⟨0, 0, 0, 0⟩ : GStream)⟩ : GAccount).Brine.Mass)), (I ((⟨0, 0, 0, 0, 0, 0, (⟨0, 0, 0, 0⟩ : GStream), (⟨0, 0, 0, 0⟩ : GStream)⟩ : GAccount).Brine.Heat)), (I ((⟨0, 0, 0, 0, 0, 0, (⟨0, 0, 0, 0⟩ : GStream), (⟨0, 0, 0, 0⟩ : GStream)⟩ : GAccount).Brine.Silica)), (I ((⟨0, 0, 0, 0, 0, 0, (⟨0, 0, 0, 0⟩ : GStream), (⟨0, 0, 0, 0⟩ : GStream)⟩ : GAccount).Brine.Gas))]
def Qz5 (p1 : GStream) : AV := .agg [(I (p1.Mass)), (I (p1.Heat)), (I (p1.Silica)), (I (p1.Gas))]
def Q93 (p2 : GStream) : AV := .agg [(I (p2.Mass)), (I (p2.Heat)), (I (p2.Silica)), (I (p2.Gas))]
def Qyb (p1 : GStream) (p2 : GStream) : AV := .dat 4 (([p1, p2] : List GStream).map Qaq)
def Q4b (x25 : (GParts × Int)) : AV := .agg [(I (x25.1.Steam.Mass)), (I (x25.1.Steam.Heat)), (I (x25.1.Steam.Silica)), (I (x25.1.Steam.Gas))]
def Q4a (x25 : (GParts × Int)) : AV := .agg [(I (x25.1.Water.Mass)), (I (x25.1.Water.Heat)), (I (x25.1.Water.Silica)), (I (x25.1.Water.Gas))]
def Qir : AV := .fn (.func 32) [] [(.ref 7 1 (0) 0), (.ref 2 4 (0) 0), (.ref 0 9 (0) 0)]
def Qn3 (p0 : GLine) : Slot := .own 9 [[(Ql1 p0), (I (p0.Level)), (I (p0.Unit.Inlet)), (Qn4 p0), (I (p0.Most)), (I (p0.Target)), (I (p0.Cycle.Out)), (I (p0.Cycle.Yield)), (I (p0.Cycle.Most))]]
def Q94 (p1 : GStream) : Slot := .own 4 [[(I (p1.Mass)), (I (p1.Heat)), (I (p1.Silica)), (I (p1.Gas))]]
def Qn2 (p2 : GStream) : Slot := .own 4 [[(I (p2.Mass)), (I (p2.Heat)), (I (p2.Silica)), (I (p2.Gas))]]
def Qky : Slot := .own 1 [[(.ref 6 31 (0) 0)]]
def Q39 (p0 : GLine) (y29 : Int) (y30 : Int) (y31 : Int) (y32 : Int) (y33 : Int) (x25 : (GParts × Int)) (y34 : Int) (y35 : Int) (y36 : Int) (y37 : Int) (y38 : Int) (y39 : Int) (y40 : Int) (y41 : Int) (y42 : Int) (y43 : Int) (y44 : Int) (y45 : Int) : Slot := .own 31 [[(Ql1 p0), (I (p0.Level)), (I (p0.Unit.Inlet)), (Qn4 p0), (I (p0.Most)), (I (p0.Target)), (I (p0.Cycle.Out)), (I (p0.Cycle.Yield)), (I (p0.Cycle.Most)), (I (y29)), (I (y30)), (I (y31)), (I (y32)), (I (y33)), (I (x25.1.Scale)), (I (y34)), (I (y35)), (I (y36)), (I (y37)), (I (y38)), (I (y39)), (I (y40)), (I (y41)), (I (y42)), (I (y43)), (I (y44)), (I (y45)), (I (x25.1.Water.Mass)), (I (x25.1.Water.Heat)), (I (x25.1.Water.Silica)), (I (x25.1.Water.Gas))]]
def Qiq : AV := .fn (.func 33) [(.ref 6 31 (0) 0)] []
def Qip : AV := .fn (.func 34) [(.ref 6 31 (0) 0)] []
def Qio : AV := .fn (.func 35) [(.ref 6 31 (0) 0)] []
def Qt2 (p0 : GLine) (x25 : (GParts × Int)) : Slot := .own 31 [[(Ql1 p0), (I (p0.Level)), (I (p0.Unit.Inlet)), (Qn4 p0), (I (p0.Most)), (I (p0.Target)), (I (p0.Cycle.Out)), (I (p0.Cycle.Yield)), (I (p0.Cycle.Most)), (I (0)), (I (0)), (I (0)), (I (0)), (I (0)), (I (x25.1.Scale)), (I (0)), (I (0)), (I (0)), (I (0)), (I (0)), (I (0)), (I (0)), (I (0)), (I (x25.1.Steam.Mass)), (I (x25.1.Steam.Heat)), (I (x25.1.Steam.Silica)), (I (x25.1.Steam.Gas)), (I (x25.1.Water.Mass)), (I (x25.1.Water.Heat)), (I (x25.1.Water.Silica)), (I (x25.1.Water.Gas))]]
def Qmm (p0 : GLine) (x48 : (Int × Int × Int × Int × Int × Int)) (x25 : (GParts × Int)) : Slot := .own 31 [[(Ql1 p0), (I (p0.Level)), (I (p0.Unit.Inlet)), (Qn4 p0), (I (p0.Most)), (I (p0.Target)), (I (p0.Cycle.Out)), (I (p0.Cycle.Yield)), (I (p0.Cycle.Most)), (I (x48.2.1)), (I (0)), (I (0)), (I (0)), (I (0)), (I (x25.1.Scale)), (I (0)), (I (0)), (I (0)), (I (0)), (I (0)), (I (0)), (I (0)), (I (0)), (I (x48.2.2.1)), (I (x48.2.2.2.1)), (I (x48.2.2.2.2.1)), (I (x48.2.2.2.2.2)), (I (x25.1.Water.Mass)), (I (x25.1.Water.Heat)), (I (x25.1.Water.Silica)), (I (x25.1.Water.Gas))]]
def Qml (p0 : GLine) (x48 : (Int × Int × Int × Int × Int × Int)) (x53 : (Int × Int × Int × Int × Int × Int)) (x25 : (GParts × Int)) : Slot := .own 31 [[(Ql1 p0), (I (p0.Level)), (I (p0.Unit.Inlet)), (Qn4 p0), (I (p0.Most)), (I (p0.Target)), (I (p0.Cycle.Out)), (I (p0.Cycle.Yield)), (I (p0.Cycle.Most)), (I (x48.2.1)), (I (x53.2.1)), (I (0)), (I (0)), (I (0)), (I (x25.1.Scale)), (I (x53.2.2.1)), (I (x53.2.2.2.1)), (I (x53.2.2.2.2.1)), (I (x53.2.2.2.2.2)), (I (0)), (I (0)), (I (0)), (I (0)), (I (x48.2.2.1)), (I (x48.2.2.2.1)), (I (x48.2.2.2.2.1)), (I (x48.2.2.2.2.2)), (I (x25.1.Water.Mass)), (I (x25.1.Water.Heat)), (I (x25.1.Water.Silica)), (I (x25.1.Water.Gas))]]
def Qmk (p0 : GLine) (x48 : (Int × Int × Int × Int × Int × Int)) (x53 : (Int × Int × Int × Int × Int × Int)) (x58 : (Int × Int × Int × Int × Int × Int)) (x25 : (GParts × Int)) : Slot := .own 31 [[(Ql1 p0), (I (p0.Level)), (I (p0.Unit.Inlet)), (Qn4 p0), (I (p0.Most)), (I (p0.Target)), (I (p0.Cycle.Out)), (I (p0.Cycle.Yield)), (I (p0.Cycle.Most)), (I (x48.2.1)), (I (x53.2.1)), (I (x58.2.1)), (I (0)), (I (0)), (I (x25.1.Scale)), (I (x58.2.2.1)), (I (x58.2.2.2.1)), (I (x58.2.2.2.2.1)), (I (x58.2.2.2.2.2)), (I (0)), (I (0)), (I (0)), (I (0)), (I (x48.2.2.1)), (I (x48.2.2.2.1)), (I (x48.2.2.2.2.1)), (I (x48.2.2.2.2.2)), (I (x25.1.Water.Mass)), (I (x25.1.Water.Heat)), (I (x25.1.Water.Silica)), (I (x25.1.Water.Gas))]]
def Qq7 (p0 : GLine) (x48 : (Int × Int × Int × Int × Int × Int)) (x53 : (Int × Int × Int × Int × Int × Int)) (x58 : (Int × Int × Int × Int × Int × Int)) (x63 : (Int × Int × Int × Int × Int × Int × Int)) (x25 : (GParts × Int)) : Slot := .own 31 [[(Ql1 p0), (I (p0.Level)), (I (p0.Unit.Inlet)), (Qn4 p0), (I (p0.Most)), (I (p0.Target)), (I (p0.Cycle.Out)), (I (p0.Cycle.Yield)), (I (p0.Cycle.Most)), (I (x48.2.1)), (I (x53.2.1)), (I (x58.2.1)), (I (x63.2.1)), (I (x63.2.2.1)), (I (x25.1.Scale)), (I (x58.2.2.1)), (I (x58.2.2.2.1)), (I (x58.2.2.2.2.1)), (I (x58.2.2.2.2.2)), (I (x63.2.2.2.1)), (I (x63.2.2.2.2.1)), (I (x63.2.2.2.2.2.1)), (I (x63.2.2.2.2.2.2)), (I (x48.2.2.1)), (I (x48.2.2.2.1)), (I (x48.2.2.2.2.1)), (I (x48.2.2.2.2.2)), (I (x25.1.Water.Mass)), (I (x25.1.Water.Heat)), (I (x25.1.Water.Silica)), (I (x25.1.Water.Gas))]]
theorem Qqq (N : Nat) (p0 : GLine) (p1 : GStream) (p2 : GStream) (r : (GAccount × Int)) (h : Qif N p0 p1 p2 = some r) : Spec Tryz.prog 8 [(.agg (Qm4 p0)), (.agg (Qaq p1)), (.agg (Qaq p2))] [] (.tup [(.agg [(I (r.1.Turbine)), (I (r.1.Vent)), (I (r.1.Air)), (I (r.1.Work)), (I (r.1.Sink)), (I (r.1.Scale)), (I (r.1.Hot.Mass)), (I (r.1.Hot.Heat)), (I (r.1.Hot.Silica)), (I (r.1.Hot.Gas)), (I (r.1.Brine.Mass)), (I (r.1.Brine.Heat)), (I (r.1.Brine.Silica)), (I (r.1.Brine.Gas))]), (I (r.2))]) [] := by
  refine Qv3 Tryz.func8 rfl (fun X φ0 w0 hφ0 hd0 => ?_)
  unfold Qif at h
  refine Q0z (k := 0) hd0 (fun n hn => hφ0 n (Nat.le_trans (nle rfl) hn)) ?_
  refine wx1 tbk [] trivial ?_
  refine thn ?_
  refine Q0z (k := 0) hd0 (fun n hn => hφ0 n (Nat.le_trans (nle rfl) hn)) ?_
  obtain ⟨x19, hf18, h⟩ := bno h
  rcases bft ((!x19)) with hb20 | hb20
  ·replace h := Qav hb20 h
   refine wx tbk [(1, rp [fu 28, (.tmp 13, (Qst p0))] (B x19)), (3, rp [(.tmp 15, (B ((!x19))))] (B true))] ⟨apc (first := []) (cap := []) (vs := [(Qst p0)]) rfl Q5x (Qjw N (⟨p0.Table, p0.Level, (⟨p0.Unit.Inlet, p0.Unit.Parts⟩ : GUnit), p0.Most, p0.Target, (⟨p0.Cycle.Out, p0.Cycle.Yield, p0.Cycle.Most⟩ : GCycle)⟩ : GLine) _ hf18) rfl rfl (nlc (NLt.agg _ (nlc (nld Qa8 _) (nlc nll (nlc nll (nlc (nld Qap _) (nlc nll (nlc nll (nlc nll (nlc nll (nlc nll nl0)))))))))) nl0) nll rfl, asb hb20 (amv rfl), trivial⟩ ?_
   refine Qcw (by kernel_rfl) ?_
   refine wx tbk [(0, rp [] Q92)] ⟨Qan (vs := []) rfl ts37 tz37 rfl (by rfl) rfl, trivial⟩ ?_
   refine Qaa ?_
   refine Qao ?_
   obtain rfl := osi h
   exact ⟨_, (mto (n := 71) (l' := [(6, .ref 0 14 0 0), (7, .ref 1 1 0 0)]) (own' := [Qod, (.own 1 [[I 1]])]) [(6, .ref 3 14 0 0), (7, .ref 4 1 0 0)] [3, 4] [Qot, (.own 1 [[I 1]])] hφ0 (pc (.rn (rqr rfl)) (pc (.rn (rqr rfl)) pn)) (qc (spb (lc rwl (lc rwl (lc rwl (lc rwl (lc rwl (lc rwl (lc rwl (lc rwl (lc rwl (lc rwl (lc rwl (lc rwl (lc rwl (lc rwl ln))))))))))))))) (qc (spb (lc rwl ln)) qn))), ⟨⟨[Qoc, I 1], ⟨Qas (n := 0) (m := 14) (j := 0) (i := 0) (xs := [[(I ((⟨0, 0, 0, 0, 0, 0, (⟨0, 0, 0, 0⟩ : GStream), (⟨0, 0, 0, 0⟩ : GStream)⟩ : GAccount).Turbine)), (I ((⟨0, 0, 0, 0, 0, 0, (⟨0, 0, 0, 0⟩ : GStream), (⟨0, 0, 0, 0⟩ : GStream)⟩ : GAccount).Vent)), (I ((⟨0, 0, 0, 0, 0, 0, (⟨0, 0, 0, 0⟩ : GStream), (⟨0, 0, 0, 0⟩ : GStream)⟩ : GAccount).Air)), (I ((⟨0, 0, 0, 0, 0, 0, (⟨0, 0, 0, 0⟩ : GStream), (⟨0, 0, 0, 0⟩ : GStream)⟩ : GAccount).Work)), (I ((⟨0, 0, 0, 0, 0, 0, (⟨0, 0, 0, 0⟩ : GStream), (⟨0, 0, 0, 0⟩ : GStream)⟩ : GAccount).Sink)), (I ((⟨0, 0, 0, 0, 0, 0, (⟨0, 0, 0, 0⟩ : GStream), (⟨0, 0, 0, 0⟩ : GStream)⟩ : GAccount).Scale)), (I ((⟨0, 0, 0, 0, 0, 0, (⟨0, 0, 0, 0⟩ : GStream), (⟨0, 0, 0, 0⟩ : GStream)⟩ : GAccount).Hot.Mass)), (I ((⟨0, 0, 0, 0, 0, 0, (⟨0, 0, 0, 0⟩ : GStream), (⟨0, 0, 0, 0⟩ : GStream)⟩ : GAccount).Hot.Heat)), (I ((⟨0, 0, 0, 0, 0, 0, (⟨0, 0, 0, 0⟩ : GStream), (⟨0, 0, 0, 0⟩ : GStream)⟩ : GAccount).Hot.Silica)), (I ((⟨0, 0, 0, 0, 0, 0, (⟨0, 0, 0, 0⟩ : GStream), (⟨0, 0, 0, 0⟩ : GStream)⟩ : GAccount).Hot.Gas)), (I ((⟨0, 0, 0, 0, 0, 0, (⟨0, 0, 0, 0⟩ : GStream), (⟨0, 0, 0, 0⟩ : GStream)⟩ : GAccount).Brine.Mass)), (I ((⟨0, 0, 0, 0, 0, 0, (⟨0, 0, 0, 0⟩ : GStream), (⟨0, 0, 0, 0⟩ : GStream)⟩ : GAccount).Brine.Heat)), (I ((⟨0, 0, 0, 0, 0, 0, (⟨0, 0, 0, 0⟩ : GStream), (⟨0, 0, 0, 0⟩ : GStream)⟩ : GAccount).Brine.Silica)), (I ((⟨0, 0, 0, 0, 0, 0, (⟨0, 0, 0, 0⟩ : GStream), (⟨0, 0, 0, 0⟩ : GStream)⟩ : GAccount).Brine.Gas))]]) (by kernel_rfl) (by kernel_rfl) ti37 (by decide) rfl (nle rfl) rfl, Qas (n := 1) (m := 1) (j := 0) (i := 0) (xs := [[I 1]]) (by kernel_rfl) (by kernel_rfl) ti38 (by decide) rfl (nle rfl) rfl, trivial⟩, rfl⟩, (NLt.tup _ (nlc (NLt.agg _ (nlc nll (nlc nll (nlc nll (nlc nll (nlc nll (nlc nll (nlc nll (nlc nll (nlc nll (nlc nll (nlc nll (nlc nll (nlc nll (nlc nll nl0))))))))))))))) (nlc nll nl0))), Nat.le_refl _, fun n hn => absurd hn (Nat.not_lt_zero n)⟩⟩
  ·replace h := Qaw hb20 h
   obtain ⟨x22, hf21, h⟩ := bno h
   refine wx tbk [(1, rp [fu 28, (.tmp 13, (Qst p0))] (B x19)), (3, rp [(.tmp 15, (B ((!x19))))] (B false)), (6, rp [(.tmp 16, B false), (.tmp 17, (Qz5 p1)), (.tmp 18, (Q93 p2))] (Qyb p1 p2)), (7, rp [(.tmp 16, B false), fu 29, (.tmp 19, (Qyb p1 p2))] (B x22))] ⟨apc (first := []) (cap := []) (vs := [(Qst p0)]) rfl Q5x (Qjw N (⟨p0.Table, p0.Level, (⟨p0.Unit.Inlet, p0.Unit.Parts⟩ : GUnit), p0.Most, p0.Target, (⟨p0.Cycle.Out, p0.Cycle.Yield, p0.Cycle.Most⟩ : GCycle)⟩ : GLine) _ hf18) rfl rfl (nlc (NLt.agg _ (nlc (nld Qa8 _) (nlc nll (nlc nll (nlc (nld Qap _) (nlc nll (nlc nll (nlc nll (nlc nll (nlc nll nl0)))))))))) nl0) nll rfl, asb hb20 (amv rfl), ag_ (Qb8 (vs := [(Qz5 p1), (Q93 p2)]) rfl Tryz.underlying124 ti35 tz35 rfl (by decide) rfl (by decide) (by rfl) (by rfl) (by rfl) rfl), ag_ (apc (first := []) (cap := []) (vs := [(Qyb p1 p2)]) rfl Qr1 (Qgx N ([p1, p2]) _ hf21) rfl rfl (nlc (nld Qc2 _) nl0) nll rfl), trivial⟩ ?_
   rcases bft ((!x22)) with hc23 | hc23
   ·replace h := Qav hc23 h
    refine wft hc23 (by kernel_rfl) ?_
    refine wx tbk [(0, rp [] Q92)] ⟨Qan (vs := []) rfl ts37 tz37 rfl (by rfl) rfl, trivial⟩ ?_
    refine Qaa ?_
    refine Qao ?_
    obtain rfl := osi h
    exact ⟨_, (mto (n := 71) (l' := [(6, .ref 0 14 0 0), (7, .ref 1 1 0 0)]) (own' := [Qod, (.own 1 [[I 1]])]) [(6, .ref 3 14 0 0), (7, .ref 4 1 0 0)] [3, 4] [Qot, (.own 1 [[I 1]])] hφ0 (pc (.rn (rqr rfl)) (pc (.rn (rqr rfl)) pn)) (qc (spb (lc rwl (lc rwl (lc rwl (lc rwl (lc rwl (lc rwl (lc rwl (lc rwl (lc rwl (lc rwl (lc rwl (lc rwl (lc rwl (lc rwl ln))))))))))))))) (qc (spb (lc rwl ln)) qn))), ⟨⟨[Qoc, I 1], ⟨Qas (n := 0) (m := 14) (j := 0) (i := 0) (xs := [[(I ((⟨0, 0, 0, 0, 0, 0, (⟨0, 0, 0, 0⟩ : GStream), (⟨0, 0, 0, 0⟩ : GStream)⟩ : GAccount).Turbine)), (I ((⟨0, 0, 0, 0, 0, 0, (⟨0, 0, 0, 0⟩ : GStream), (⟨0, 0, 0, 0⟩ : GStream)⟩ : GAccount).Vent)), (I ((⟨0, 0, 0, 0, 0, 0, (⟨0, 0, 0, 0⟩ : GStream), (⟨0, 0, 0, 0⟩ : GStream)⟩ : GAccount).Air)), (I ((⟨0, 0, 0, 0, 0, 0, (⟨0, 0, 0, 0⟩ : GStream), (⟨0, 0, 0, 0⟩ : GStream)⟩ : GAccount).Work)), (I ((⟨0, 0, 0, 0, 0, 0, (⟨0, 0, 0, 0⟩ : GStream), (⟨0, 0, 0, 0⟩ : GStream)⟩ : GAccount).Sink)), (I ((⟨0, 0, 0, 0, 0, 0, (⟨0, 0, 0, 0⟩ : GStream), (⟨0, 0, 0, 0⟩ : GStream)⟩ : GAccount).Scale)), (I ((⟨0, 0, 0, 0, 0, 0, (⟨0, 0, 0, 0⟩ : GStream), (⟨0, 0, 0, 0⟩ : GStream)⟩ : GAccount).Hot.Mass)), (I ((⟨0, 0, 0, 0, 0, 0, (⟨0, 0, 0, 0⟩ : GStream), (⟨0, 0, 0, 0⟩ : GStream)⟩ : GAccount).Hot.Heat)), (I ((⟨0, 0, 0, 0, 0, 0, (⟨0, 0, 0, 0⟩ : GStream), (⟨0, 0, 0, 0⟩ : GStream)⟩ : GAccount).Hot.Silica)), (I ((⟨0, 0, 0, 0, 0, 0, (⟨0, 0, 0, 0⟩ : GStream), (⟨0, 0, 0, 0⟩ : GStream)⟩ : GAccount).Hot.Gas)), (I ((⟨0, 0, 0, 0, 0, 0, (⟨0, 0, 0, 0⟩ : GStream), (⟨0, 0, 0, 0⟩ : GStream)⟩ : GAccount).Brine.Mass)), (I ((⟨0, 0, 0, 0, 0, 0, (⟨0, 0, 0, 0⟩ : GStream), (⟨0, 0, 0, 0⟩ : GStream)⟩ : GAccount).Brine.Heat)), (I ((⟨0, 0, 0, 0, 0, 0, (⟨0, 0, 0, 0⟩ : GStream), (⟨0, 0, 0, 0⟩ : GStream)⟩ : GAccount).Brine.Silica)), (I ((⟨0, 0, 0, 0, 0, 0, (⟨0, 0, 0, 0⟩ : GStream), (⟨0, 0, 0, 0⟩ : GStream)⟩ : GAccount).Brine.Gas))]]) (by kernel_rfl) (by kernel_rfl) ti37 (by decide) rfl (nle rfl) rfl, Qas (n := 1) (m := 1) (j := 0) (i := 0) (xs := [[I 1]]) (by kernel_rfl) (by kernel_rfl) ti38 (by decide) rfl (nle rfl) rfl, trivial⟩, rfl⟩, (NLt.tup _ (nlc (NLt.agg _ (nlc nll (nlc nll (nlc nll (nlc nll (nlc nll (nlc nll (nlc nll (nlc nll (nlc nll (nlc nll (nlc nll (nlc nll (nlc nll (nlc nll nl0))))))))))))))) (nlc nll nl0))), Nat.le_refl _, fun n hn => absurd hn (Nat.not_lt_zero n)⟩⟩
   ·replace h := Qaw hc23 h
    refine wfn hc23 (by kernel_rfl) ?_
    refine Qak ?_
    refine thn ?_
    refine Q16 (k := 0) [(3, 14), (4, 1)] hd0 (fun n hn => hφ0 n (Nat.le_trans (nle rfl) hn)) Zeq rfl rfl (by kernel_rfl) (by kernel_rfl) (by kernel_rfl) Qo5 (fun φ1 w1 hφ1 hd1 => ?_)
    obtain ⟨x25, hf24, h⟩ := bno h
    refine wx tbk [(5, rp [fu 16, (.tmp 27, (Ql1 p0)), (.tmp 29, I p0.Level), (.tmp 30, (Qz5 p1))] (.tup [(.agg [I x25.1.Steam.Mass, I x25.1.Steam.Heat, I x25.1.Steam.Silica, I x25.1.Steam.Gas, I x25.1.Water.Mass, I x25.1.Water.Heat, I x25.1.Water.Silica, I x25.1.Water.Gas, I x25.1.Rest, I x25.1.Scale]), I x25.2]))] ⟨apc (first := []) (cap := []) (vs := [(Ql1 p0), I p0.Level, (Qz5 p1)]) rfl Zez (Qrc N p0.Table p0.Level p1 _ hf24) rfl rfl (nlc (nld Qa8 _) (nlc nll (nlc (NLt.agg _ (nlc nll (nlc nll (nlc nll (nlc nll nl0))))) nl0))) (NLt.tup _ (nlc (NLt.agg _ (nlc nll (nlc nll (nlc nll (nlc nll (nlc nll (nlc nll (nlc nll (nlc nll (nlc nll (nlc nll nl0))))))))))) (nlc nll nl0))) rfl, trivial⟩ ?_
    obtain ⟨x27, hf26, h⟩ := bno h
    rcases x27 with x28 | x71
    ·replace h := Q4m h
     refine wx tbk [(1, rp [fu 31, (.tmp 34, I x25.2)] (.tup []))] ⟨Qai (first := []) (cap := []) (vs := [I x25.2]) (σr := []) (σr' := []) (res' := (.tup [])) [] rfl Qk1 (Qgz N x25.2 _ hf26) rfl (Qbc (rnc (.plain _ nll) rn0)) Qah Qah (.plain _ (NLt.tup _ nl0)) rfl rfl rfl, trivial⟩ ?_
     refine wx tbk [(5, rp [(.tmp 36, (Qst p0)), (.tmp 38, (Q4b x25)), (.tmp 40, (Q4a x25))] (.agg [(Ql1 p0), I p0.Level, I p0.Unit.Inlet, (Qn4 p0), I p0.Most, I p0.Target, I p0.Cycle.Out, I p0.Cycle.Yield, I p0.Cycle.Most, I 0, I 0, I 0, I 0, I 0, I 0, I 0, I 0, I 0, I 0, I 0, I 0, I 0, I 0, I x25.1.Steam.Mass, I x25.1.Steam.Heat, I x25.1.Steam.Silica, I x25.1.Steam.Gas, I x25.1.Water.Mass, I x25.1.Water.Heat, I x25.1.Water.Silica, I x25.1.Water.Gas]))] ⟨Qan (vs := [(Qst p0), (Q4b x25), (Q4a x25)]) rfl ts94 tz94 rfl (by rfl) rfl, trivial⟩ ?_
     refine wx tbk [(3, rb [(.tmp 43, .ref 6 31 0 0)] [(6, (.own 31 [[(Ql1 p0), I p0.Level, I p0.Unit.Inlet, (Qn4 p0), I p0.Most, I p0.Target, I p0.Cycle.Out, I p0.Cycle.Yield, I p0.Cycle.Most, I 0, I 0, I 0, I 0, I 0, I 0, I 0, I 0, I 0, I 0, I 0, I 0, I 0, I 0, I x25.1.Steam.Mass, I x25.1.Steam.Heat, I x25.1.Steam.Silica, I x25.1.Steam.Gas, I x25.1.Water.Mass, I x25.1.Water.Heat, I x25.1.Water.Silica, I x25.1.Water.Gas]]))] (.ref 6 31 0 0))] ⟨Qbw rfl, trivial⟩ ?_
     refine wx tbk [(0, rp [(.tmp 9, .ref 7 1 0 0), (.tmp 5, .ref 2 4 0 0), (.tmp 3, .ref 0 9 0 0)] Qir)] ⟨Qdc (fs := []) (cs := [.ref 7 1 0 0, .ref 2 4 0 0, .ref 0 9 0 0]) rfl rfl rfl rfl, trivial⟩ ?_
     obtain ⟨k46, hk_k46, h⟩ := jko h
     refine wjn (τ := Int × Int × Int × Int × Int × Int × Int × Int × Int × Int × Int × Int × Int × Int × Int × Int × Int) (fun t => k46 t = some r) (fun ⟨y29, y30, y31, y32, y33, y34, y35, y36, y37, y38, y39, y40, y41, y42, y43, y44, y45⟩ => ⟨mk 71 [(6, .ref 3 14 0 0), (7, .ref 4 1 0 0), (9, .ref 5 1 0 0)], [(Qn3 p0), (Q94 p1), (Qn2 p2), Qot, (.own 1 [[I x25.2]]), Qky, (Q39 p0 y29 y30 y31 y32 y33 x25 y34 y35 y36 y37 y38 y39 y40 y41 y42 y43 y44 y45)]⟩) (fun t h => ?_) ?_
     ·subst hk_k46
      obtain ⟨y29, y30, y31, y32, y33, y34, y35, y36, y37, y38, y39, y40, y41, y42, y43, y44, y45⟩ := t
      refine wx tbk [(1, rb [(.tmp 67, .ref 6 31 0 0)] [(6, (Q39 p0 y29 y30 y31 y32 y33 x25 y34 y35 y36 y37 y38 y39 y40 y41 y42 y43 y44 y45))] (.ref 6 31 0 0))] ⟨Qbw rfl, trivial⟩ ?_
      refine Qaa ?_
      obtain rfl := osi h
      exact ⟨_, (mto (n := 71) (l' := [(6, .ref 0 14 0 0), (7, .ref 1 1 0 0)]) (own' := [(.own 14 [[(I (((⟨y29, y30, y31, y32, y33, x25.1.Scale, (⟨y34, y35, y36, y37⟩ : GStream), (⟨y38, y39, y40, y41⟩ : GStream)⟩ : GAccount).Turbine))), (I (((⟨y29, y30, y31, y32, y33, x25.1.Scale, (⟨y34, y35, y36, y37⟩ : GStream), (⟨y38, y39, y40, y41⟩ : GStream)⟩ : GAccount).Vent))), (I (((⟨y29, y30, y31, y32, y33, x25.1.Scale, (⟨y34, y35, y36, y37⟩ : GStream), (⟨y38, y39, y40, y41⟩ : GStream)⟩ : GAccount).Air))), (I (((⟨y29, y30, y31, y32, y33, x25.1.Scale, (⟨y34, y35, y36, y37⟩ : GStream), (⟨y38, y39, y40, y41⟩ : GStream)⟩ : GAccount).Work))), (I (((⟨y29, y30, y31, y32, y33, x25.1.Scale, (⟨y34, y35, y36, y37⟩ : GStream), (⟨y38, y39, y40, y41⟩ : GStream)⟩ : GAccount).Sink))), (I (((⟨y29, y30, y31, y32, y33, x25.1.Scale, (⟨y34, y35, y36, y37⟩ : GStream), (⟨y38, y39, y40, y41⟩ : GStream)⟩ : GAccount).Scale))), (I ((((⟨y29, y30, y31, y32, y33, x25.1.Scale, (⟨y34, y35, y36, y37⟩ : GStream), (⟨y38, y39, y40, y41⟩ : GStream)⟩ : GAccount).Hot).Mass))), (I ((((⟨y29, y30, y31, y32, y33, x25.1.Scale, (⟨y34, y35, y36, y37⟩ : GStream), (⟨y38, y39, y40, y41⟩ : GStream)⟩ : GAccount).Hot).Heat))), (I ((((⟨y29, y30, y31, y32, y33, x25.1.Scale, (⟨y34, y35, y36, y37⟩ : GStream), (⟨y38, y39, y40, y41⟩ : GStream)⟩ : GAccount).Hot).Silica))), (I ((((⟨y29, y30, y31, y32, y33, x25.1.Scale, (⟨y34, y35, y36, y37⟩ : GStream), (⟨y38, y39, y40, y41⟩ : GStream)⟩ : GAccount).Hot).Gas))), (I ((((⟨y29, y30, y31, y32, y33, x25.1.Scale, (⟨y34, y35, y36, y37⟩ : GStream), (⟨y38, y39, y40, y41⟩ : GStream)⟩ : GAccount).Brine).Mass))), (I ((((⟨y29, y30, y31, y32, y33, x25.1.Scale, (⟨y34, y35, y36, y37⟩ : GStream), (⟨y38, y39, y40, y41⟩ : GStream)⟩ : GAccount).Brine).Heat))), (I ((((⟨y29, y30, y31, y32, y33, x25.1.Scale, (⟨y34, y35, y36, y37⟩ : GStream), (⟨y38, y39, y40, y41⟩ : GStream)⟩ : GAccount).Brine).Silica))), (I ((((⟨y29, y30, y31, y32, y33, x25.1.Scale, (⟨y34, y35, y36, y37⟩ : GStream), (⟨y38, y39, y40, y41⟩ : GStream)⟩ : GAccount).Brine).Gas)))]]), (.own 1 [[I 0]])]) [(6, .ref 3 14 0 0), (7, .ref 4 1 0 0)] [3, 4] [(.own 14 [[I y29, I y30, I y31, I y32, I y33, I x25.1.Scale, I y34, I y35, I y36, I y37, I y38, I y39, I y40, I y41]]), (.own 1 [[I 0]])] hφ0 (pc (.rn (rqr rfl)) (pc (.rn (rqr rfl)) pn)) (qc (spb (lc rwl (lc rwl (lc rwl (lc rwl (lc rwl (lc rwl (lc rwl (lc rwl (lc rwl (lc rwl (lc rwl (lc rwl (lc rwl (lc rwl ln))))))))))))))) (qc (spb (lc rwl ln)) qn))), ⟨⟨[(.agg [(I ((⟨y29, y30, y31, y32, y33, x25.1.Scale, (⟨y34, y35, y36, y37⟩ : GStream), (⟨y38, y39, y40, y41⟩ : GStream)⟩ : GAccount).Turbine)), (I ((⟨y29, y30, y31, y32, y33, x25.1.Scale, (⟨y34, y35, y36, y37⟩ : GStream), (⟨y38, y39, y40, y41⟩ : GStream)⟩ : GAccount).Vent)), (I ((⟨y29, y30, y31, y32, y33, x25.1.Scale, (⟨y34, y35, y36, y37⟩ : GStream), (⟨y38, y39, y40, y41⟩ : GStream)⟩ : GAccount).Air)), (I ((⟨y29, y30, y31, y32, y33, x25.1.Scale, (⟨y34, y35, y36, y37⟩ : GStream), (⟨y38, y39, y40, y41⟩ : GStream)⟩ : GAccount).Work)), (I ((⟨y29, y30, y31, y32, y33, x25.1.Scale, (⟨y34, y35, y36, y37⟩ : GStream), (⟨y38, y39, y40, y41⟩ : GStream)⟩ : GAccount).Sink)), (I ((⟨y29, y30, y31, y32, y33, x25.1.Scale, (⟨y34, y35, y36, y37⟩ : GStream), (⟨y38, y39, y40, y41⟩ : GStream)⟩ : GAccount).Scale)), (I ((⟨y29, y30, y31, y32, y33, x25.1.Scale, (⟨y34, y35, y36, y37⟩ : GStream), (⟨y38, y39, y40, y41⟩ : GStream)⟩ : GAccount).Hot.Mass)), (I ((⟨y29, y30, y31, y32, y33, x25.1.Scale, (⟨y34, y35, y36, y37⟩ : GStream), (⟨y38, y39, y40, y41⟩ : GStream)⟩ : GAccount).Hot.Heat)), (I ((⟨y29, y30, y31, y32, y33, x25.1.Scale, (⟨y34, y35, y36, y37⟩ : GStream), (⟨y38, y39, y40, y41⟩ : GStream)⟩ : GAccount).Hot.Silica)), (I ((⟨y29, y30, y31, y32, y33, x25.1.Scale, (⟨y34, y35, y36, y37⟩ : GStream), (⟨y38, y39, y40, y41⟩ : GStream)⟩ : GAccount).Hot.Gas)), (I ((⟨y29, y30, y31, y32, y33, x25.1.Scale, (⟨y34, y35, y36, y37⟩ : GStream), (⟨y38, y39, y40, y41⟩ : GStream)⟩ : GAccount).Brine.Mass)), (I ((⟨y29, y30, y31, y32, y33, x25.1.Scale, (⟨y34, y35, y36, y37⟩ : GStream), (⟨y38, y39, y40, y41⟩ : GStream)⟩ : GAccount).Brine.Heat)), (I ((⟨y29, y30, y31, y32, y33, x25.1.Scale, (⟨y34, y35, y36, y37⟩ : GStream), (⟨y38, y39, y40, y41⟩ : GStream)⟩ : GAccount).Brine.Silica)), (I ((⟨y29, y30, y31, y32, y33, x25.1.Scale, (⟨y34, y35, y36, y37⟩ : GStream), (⟨y38, y39, y40, y41⟩ : GStream)⟩ : GAccount).Brine.Gas))]), I 0], ⟨Qas (n := 0) (m := 14) (j := 0) (i := 0) (xs := [[(I ((⟨y29, y30, y31, y32, y33, x25.1.Scale, (⟨y34, y35, y36, y37⟩ : GStream), (⟨y38, y39, y40, y41⟩ : GStream)⟩ : GAccount).Turbine)), (I ((⟨y29, y30, y31, y32, y33, x25.1.Scale, (⟨y34, y35, y36, y37⟩ : GStream), (⟨y38, y39, y40, y41⟩ : GStream)⟩ : GAccount).Vent)), (I ((⟨y29, y30, y31, y32, y33, x25.1.Scale, (⟨y34, y35, y36, y37⟩ : GStream), (⟨y38, y39, y40, y41⟩ : GStream)⟩ : GAccount).Air)), (I ((⟨y29, y30, y31, y32, y33, x25.1.Scale, (⟨y34, y35, y36, y37⟩ : GStream), (⟨y38, y39, y40, y41⟩ : GStream)⟩ : GAccount).Work)), (I ((⟨y29, y30, y31, y32, y33, x25.1.Scale, (⟨y34, y35, y36, y37⟩ : GStream), (⟨y38, y39, y40, y41⟩ : GStream)⟩ : GAccount).Sink)), (I ((⟨y29, y30, y31, y32, y33, x25.1.Scale, (⟨y34, y35, y36, y37⟩ : GStream), (⟨y38, y39, y40, y41⟩ : GStream)⟩ : GAccount).Scale)), (I ((⟨y29, y30, y31, y32, y33, x25.1.Scale, (⟨y34, y35, y36, y37⟩ : GStream), (⟨y38, y39, y40, y41⟩ : GStream)⟩ : GAccount).Hot.Mass)), (I ((⟨y29, y30, y31, y32, y33, x25.1.Scale, (⟨y34, y35, y36, y37⟩ : GStream), (⟨y38, y39, y40, y41⟩ : GStream)⟩ : GAccount).Hot.Heat)), (I ((⟨y29, y30, y31, y32, y33, x25.1.Scale, (⟨y34, y35, y36, y37⟩ : GStream), (⟨y38, y39, y40, y41⟩ : GStream)⟩ : GAccount).Hot.Silica)), (I ((⟨y29, y30, y31, y32, y33, x25.1.Scale, (⟨y34, y35, y36, y37⟩ : GStream), (⟨y38, y39, y40, y41⟩ : GStream)⟩ : GAccount).Hot.Gas)), (I ((⟨y29, y30, y31, y32, y33, x25.1.Scale, (⟨y34, y35, y36, y37⟩ : GStream), (⟨y38, y39, y40, y41⟩ : GStream)⟩ : GAccount).Brine.Mass)), (I ((⟨y29, y30, y31, y32, y33, x25.1.Scale, (⟨y34, y35, y36, y37⟩ : GStream), (⟨y38, y39, y40, y41⟩ : GStream)⟩ : GAccount).Brine.Heat)), (I ((⟨y29, y30, y31, y32, y33, x25.1.Scale, (⟨y34, y35, y36, y37⟩ : GStream), (⟨y38, y39, y40, y41⟩ : GStream)⟩ : GAccount).Brine.Silica)), (I ((⟨y29, y30, y31, y32, y33, x25.1.Scale, (⟨y34, y35, y36, y37⟩ : GStream), (⟨y38, y39, y40, y41⟩ : GStream)⟩ : GAccount).Brine.Gas))]]) (by kernel_rfl) (by kernel_rfl) ti37 (by decide) rfl (nle rfl) rfl, Qas (n := 1) (m := 1) (j := 0) (i := 0) (xs := [[I 0]]) (by kernel_rfl) (by kernel_rfl) ti38 (by decide) rfl (nle rfl) rfl, trivial⟩, rfl⟩, (NLt.tup _ (nlc (NLt.agg _ (nlc nll (nlc nll (nlc nll (nlc nll (nlc nll (nlc nll (nlc nll (nlc nll (nlc nll (nlc nll (nlc nll (nlc nll (nlc nll (nlc nll nl0))))))))))))))) (nlc nll nl0))), Nat.le_refl _, fun n hn => absurd hn (Nat.not_lt_zero n)⟩⟩
     ·skip
      refine wx tbk [(1, rp [(.tmp 50, .ref 6 31 0 0)] Qiq), (4, rp [(.tmp 53, .ref 6 31 0 0)] Qip), (6, rp [(.tmp 55, .ref 6 31 0 0)] Qio), (7, rp [(.tmp 51, Qiq), (.tmp 52, Qir), (.tmp 54, Qip), (.tmp 56, Qio)] (.dat 1 [[Qiq], [Qir], [Qip], [Qio]])), (8, rp [(.tmp 57, .dat 1 [[Qiq], [Qir], [Qip], [Qio]])] (I 4))] ⟨Qdc (fs := [.ref 6 31 0 0]) (cs := []) rfl rfl rfl rfl, Qdc (fs := [.ref 6 31 0 0]) (cs := []) rfl rfl rfl rfl, Qdc (fs := [.ref 6 31 0 0]) (cs := []) rfl rfl rfl rfl, Qb8 (vs := [Qiq, Qir, Qip, Qio]) rfl Tryz.underlying96 ti95 tz95 rfl (by decide) rfl (by decide) (by rfl) (by rfl) (by rfl) rfl, aln rfl Tryz.underlying96 rfl, trivial⟩ ?_
      refine Qag ?_
      refine Qux 17 ?_
      refine Qm8 ?_
      refine wx tbk [] trivial ?_
      refine wsq ?_
      refine Qcw (by kernel_rfl) ?_
      refine Qak ?_
      refine thn ?_
      refine wsq ?_
      refine Qag ?_
      refine wx tbk [(0, rp [(.tmp 57, .dat 1 [[Qiq], [Qir], [Qip], [Qio]]), (.tmp 59, I 0)] (.dptr [Qiq] 0))] ⟨aid rfl Tryz.underlying96 ti95 rfl rfl (by decide) rfl rfl, trivial⟩ ?_
      obtain ⟨x48, hf47, h⟩ := bno h
      obtain ⟨x50, hf49, h⟩ := bno h
      rcases x50 with x51 | x70
      ·replace h := Q4m h
       refine wx1 tbk [(1, ⟨[(.tmp 63, Qiq)], [(6, (Qt2 p0 x25))], I x48.1, [(6, (Qmm p0 x48 x25))], false⟩), (2, rp [fu 31, (.tmp 64, I x48.1)] (.tup []))] ⟨Qai (first := [.ref 6 31 0 0]) (cap := []) (vs := []) (σr := [(Qt2 p0 x25)]) (σr' := [(Qmm p0 x48 x25)]) (res' := (I x48.1)) [6] rfl Q5v (Qib N p0.Table p0.Level p0.Unit.Inlet p0.Unit.Parts p0.Most p0.Target p0.Cycle.Out p0.Cycle.Yield p0.Cycle.Most 0 0 0 0 0 x25.1.Scale 0 0 0 0 0 0 0 0 x25.1.Steam.Mass x25.1.Steam.Heat x25.1.Steam.Silica x25.1.Steam.Gas x25.1.Water.Mass x25.1.Water.Heat x25.1.Water.Silica x25.1.Water.Gas _ hf47) rfl (Qbc (rnc (Qa3 rfl) rn0)) (slc (Qae (rnc (.plain _ (nld Qa8 _)) (rnc (.plain _ nll) (rnc (.plain _ nll) (rnc (.plain _ (nld Qap _)) (rnc (.plain _ nll) (rnc (.plain _ nll) (rnc (.plain _ nll) (rnc (.plain _ nll) (rnc (.plain _ nll) (rnc (.plain _ nll) (rnc (.plain _ nll) (rnc (.plain _ nll) (rnc (.plain _ nll) (rnc (.plain _ nll) (rnc (.plain _ nll) (rnc (.plain _ nll) (rnc (.plain _ nll) (rnc (.plain _ nll) (rnc (.plain _ nll) (rnc (.plain _ nll) (rnc (.plain _ nll) (rnc (.plain _ nll) (rnc (.plain _ nll) (rnc (.plain _ nll) (rnc (.plain _ nll) (rnc (.plain _ nll) (rnc (.plain _ nll) (rnc (.plain _ nll) (rnc (.plain _ nll) (rnc (.plain _ nll) (rnc (.plain _ nll) rn0)))))))))))))))))))))))))))))))) Qah) (slc (Qae (rnc (.plain _ (nld Qa8 _)) (rnc (.plain _ nll) (rnc (.plain _ nll) (rnc (.plain _ (nld Qap _)) (rnc (.plain _ nll) (rnc (.plain _ nll) (rnc (.plain _ nll) (rnc (.plain _ nll) (rnc (.plain _ nll) (rnc (.plain _ nll) (rnc (.plain _ nll) (rnc (.plain _ nll) (rnc (.plain _ nll) (rnc (.plain _ nll) (rnc (.plain _ nll) (rnc (.plain _ nll) (rnc (.plain _ nll) (rnc (.plain _ nll) (rnc (.plain _ nll) (rnc (.plain _ nll) (rnc (.plain _ nll) (rnc (.plain _ nll) (rnc (.plain _ nll) (rnc (.plain _ nll) (rnc (.plain _ nll) (rnc (.plain _ nll) (rnc (.plain _ nll) (rnc (.plain _ nll) (rnc (.plain _ nll) (rnc (.plain _ nll) (rnc (.plain _ nll) rn0)))))))))))))))))))))))))))))))) Qah) (.plain _ nll) rfl rfl rfl, Qai (first := []) (cap := []) (vs := [I x48.1]) (σr := []) (σr' := []) (res' := (.tup [])) [] rfl Qk1 (Qgz N x48.1 _ hf49) rfl (Qbc (rnc (.plain _ nll) rn0)) Qah Qah (.plain _ (NLt.tup _ nl0)) rfl rfl rfl, trivial⟩ ?_
       refine bln ?_
       refine thn ?_
       refine wx1 tbk [] trivial ?_
       refine thn ?_
       refine Qm8 ?_
       refine wx tbk [] trivial ?_
       refine wsq ?_
       refine Qcw (by kernel_rfl) ?_
       refine Qak ?_
       refine thn ?_
       refine wsq ?_
       refine Qag ?_
       refine wx tbk [(0, rp [(.tmp 57, .dat 1 [[Qiq], [Qir], [Qip], [Qio]]), (.tmp 59, I 1)] (.dptr [Qir] 0))] ⟨aid rfl Tryz.underlying96 ti95 rfl rfl (by decide) rfl rfl, trivial⟩ ?_
       obtain ⟨x53, hf52, h⟩ := bno h
       obtain ⟨x55, hf54, h⟩ := bno h
       rcases x55 with x56 | x69
       ·replace h := Q4m h
        refine wx1 tbk [(1, ⟨[(.tmp 63, Qir)], [(7, Qky), (2, (Qn2 p2)), (0, (Qn3 p0)), (6, (Qmm p0 x48 x25))], I x53.1, [(7, Qky), (2, (Qn2 p2)), (0, (Qn3 p0)), (6, (Qml p0 x48 x53 x25))], false⟩), (2, rp [fu 31, (.tmp 64, I x53.1)] (.tup []))] ⟨Qai (first := []) (cap := [.ref 7 1 0 0, .ref 2 4 0 0, .ref 0 9 0 0]) (vs := []) (σr := [Qky, (Qn2 p2), (Qn3 p0), (Qmm p0 x48 x25)]) (σr' := [Qky, (Qn2 p2), (Qn3 p0), (Qml p0 x48 x53 x25)]) (res' := (I x53.1)) [7, 2, 0, 6] rfl Q5w (Qjv N p2.Mass p2.Heat p2.Silica p2.Gas p0.Table p0.Level p0.Unit.Inlet p0.Unit.Parts p0.Most p0.Target p0.Cycle.Out p0.Cycle.Yield p0.Cycle.Most p0.Table p0.Level p0.Unit.Inlet p0.Unit.Parts p0.Most p0.Target p0.Cycle.Out p0.Cycle.Yield p0.Cycle.Most x48.2.1 0 0 0 0 x25.1.Scale 0 0 0 0 0 0 0 0 x48.2.2.1 x48.2.2.2.1 x48.2.2.2.2.1 x48.2.2.2.2.2 x25.1.Water.Mass x25.1.Water.Heat x25.1.Water.Silica x25.1.Water.Gas _ hf52) rfl (Qbc (rnc (Qa3 rfl) (rnc (Qa3 rfl) (rnc (Qa3 rfl) rn0)))) (slc (Qae (rnc (Qa3 rfl) rn0)) (slc (Qae (rnc (.plain _ nll) (rnc (.plain _ nll) (rnc (.plain _ nll) (rnc (.plain _ nll) rn0))))) (slc (Qae (rnc (.plain _ (nld Qa8 _)) (rnc (.plain _ nll) (rnc (.plain _ nll) (rnc (.plain _ (nld Qap _)) (rnc (.plain _ nll) (rnc (.plain _ nll) (rnc (.plain _ nll) (rnc (.plain _ nll) (rnc (.plain _ nll) rn0)))))))))) (slc (Qae (rnc (.plain _ (nld Qa8 _)) (rnc (.plain _ nll) (rnc (.plain _ nll) (rnc (.plain _ (nld Qap _)) (rnc (.plain _ nll) (rnc (.plain _ nll) (rnc (.plain _ nll) (rnc (.plain _ nll) (rnc (.plain _ nll) (rnc (.plain _ nll) (rnc (.plain _ nll) (rnc (.plain _ nll) (rnc (.plain _ nll) (rnc (.plain _ nll) (rnc (.plain _ nll) (rnc (.plain _ nll) (rnc (.plain _ nll) (rnc (.plain _ nll) (rnc (.plain _ nll) (rnc (.plain _ nll) (rnc (.plain _ nll) (rnc (.plain _ nll) (rnc (.plain _ nll) (rnc (.plain _ nll) (rnc (.plain _ nll) (rnc (.plain _ nll) (rnc (.plain _ nll) (rnc (.plain _ nll) (rnc (.plain _ nll) (rnc (.plain _ nll) (rnc (.plain _ nll) rn0)))))))))))))))))))))))))))))))) Qah)))) (slc (Qae (rnc (Qb3 rfl) rn0)) (slc (Qae (rnc (.plain _ nll) (rnc (.plain _ nll) (rnc (.plain _ nll) (rnc (.plain _ nll) rn0))))) (slc (Qae (rnc (.plain _ (nld Qa8 _)) (rnc (.plain _ nll) (rnc (.plain _ nll) (rnc (.plain _ (nld Qap _)) (rnc (.plain _ nll) (rnc (.plain _ nll) (rnc (.plain _ nll) (rnc (.plain _ nll) (rnc (.plain _ nll) rn0)))))))))) (slc (Qae (rnc (.plain _ (nld Qa8 _)) (rnc (.plain _ nll) (rnc (.plain _ nll) (rnc (.plain _ (nld Qap _)) (rnc (.plain _ nll) (rnc (.plain _ nll) (rnc (.plain _ nll) (rnc (.plain _ nll) (rnc (.plain _ nll) (rnc (.plain _ nll) (rnc (.plain _ nll) (rnc (.plain _ nll) (rnc (.plain _ nll) (rnc (.plain _ nll) (rnc (.plain _ nll) (rnc (.plain _ nll) (rnc (.plain _ nll) (rnc (.plain _ nll) (rnc (.plain _ nll) (rnc (.plain _ nll) (rnc (.plain _ nll) (rnc (.plain _ nll) (rnc (.plain _ nll) (rnc (.plain _ nll) (rnc (.plain _ nll) (rnc (.plain _ nll) (rnc (.plain _ nll) (rnc (.plain _ nll) (rnc (.plain _ nll) (rnc (.plain _ nll) (rnc (.plain _ nll) rn0)))))))))))))))))))))))))))))))) Qah)))) (.plain _ nll) rfl rfl rfl, Qai (first := []) (cap := []) (vs := [I x53.1]) (σr := []) (σr' := []) (res' := (.tup [])) [] rfl Qk1 (Qgz N x53.1 _ hf54) rfl (Qbc (rnc (.plain _ nll) rn0)) Qah Qah (.plain _ (NLt.tup _ nl0)) rfl rfl rfl, trivial⟩ ?_
        refine bln ?_
        refine thn ?_
        refine wx1 tbk [] trivial ?_
        refine thn ?_
        refine Qm8 ?_
        refine wx tbk [] trivial ?_
        refine wsq ?_
        refine Qcw (by kernel_rfl) ?_
        refine Qak ?_
        refine thn ?_
        refine wsq ?_
        refine Qag ?_
        refine wx tbk [(0, rp [(.tmp 57, .dat 1 [[Qiq], [Qir], [Qip], [Qio]]), (.tmp 59, I 2)] (.dptr [Qip] 0))] ⟨aid rfl Tryz.underlying96 ti95 rfl rfl (by decide) rfl rfl, trivial⟩ ?_
        obtain ⟨x58, hf57, h⟩ := bno h
        obtain ⟨x60, hf59, h⟩ := bno h
        rcases x60 with x61 | x68
        ·replace h := Q4m h
         refine wx1 tbk [(1, ⟨[(.tmp 63, Qip)], [(6, (Qml p0 x48 x53 x25))], I x58.1, [(6, (Qmk p0 x48 x53 x58 x25))], false⟩), (2, rp [fu 31, (.tmp 64, I x58.1)] (.tup []))] ⟨Qai (first := [.ref 6 31 0 0]) (cap := []) (vs := []) (σr := [(Qml p0 x48 x53 x25)]) (σr' := [(Qmk p0 x48 x53 x58 x25)]) (res' := (I x58.1)) [6] rfl Q5u (Qjc N p0.Table p0.Level p0.Unit.Inlet p0.Unit.Parts p0.Most p0.Target p0.Cycle.Out p0.Cycle.Yield p0.Cycle.Most x48.2.1 x53.2.1 0 0 0 x25.1.Scale x53.2.2.1 x53.2.2.2.1 x53.2.2.2.2.1 x53.2.2.2.2.2 0 0 0 0 x48.2.2.1 x48.2.2.2.1 x48.2.2.2.2.1 x48.2.2.2.2.2 x25.1.Water.Mass x25.1.Water.Heat x25.1.Water.Silica x25.1.Water.Gas _ hf57) rfl (Qbc (rnc (Qa3 rfl) rn0)) (slc (Qae (rnc (.plain _ (nld Qa8 _)) (rnc (.plain _ nll) (rnc (.plain _ nll) (rnc (.plain _ (nld Qap _)) (rnc (.plain _ nll) (rnc (.plain _ nll) (rnc (.plain _ nll) (rnc (.plain _ nll) (rnc (.plain _ nll) (rnc (.plain _ nll) (rnc (.plain _ nll) (rnc (.plain _ nll) (rnc (.plain _ nll) (rnc (.plain _ nll) (rnc (.plain _ nll) (rnc (.plain _ nll) (rnc (.plain _ nll) (rnc (.plain _ nll) (rnc (.plain _ nll) (rnc (.plain _ nll) (rnc (.plain _ nll) (rnc (.plain _ nll) (rnc (.plain _ nll) (rnc (.plain _ nll) (rnc (.plain _ nll) (rnc (.plain _ nll) (rnc (.plain _ nll) (rnc (.plain _ nll) (rnc (.plain _ nll) (rnc (.plain _ nll) (rnc (.plain _ nll) rn0)))))))))))))))))))))))))))))))) Qah) (slc (Qae (rnc (.plain _ (nld Qa8 _)) (rnc (.plain _ nll) (rnc (.plain _ nll) (rnc (.plain _ (nld Qap _)) (rnc (.plain _ nll) (rnc (.plain _ nll) (rnc (.plain _ nll) (rnc (.plain _ nll) (rnc (.plain _ nll) (rnc (.plain _ nll) (rnc (.plain _ nll) (rnc (.plain _ nll) (rnc (.plain _ nll) (rnc (.plain _ nll) (rnc (.plain _ nll) (rnc (.plain _ nll) (rnc (.plain _ nll) (rnc (.plain _ nll) (rnc (.plain _ nll) (rnc (.plain _ nll) (rnc (.plain _ nll) (rnc (.plain _ nll) (rnc (.plain _ nll) (rnc (.plain _ nll) (rnc (.plain _ nll) (rnc (.plain _ nll) (rnc (.plain _ nll) (rnc (.plain _ nll) (rnc (.plain _ nll) (rnc (.plain _ nll) (rnc (.plain _ nll) rn0)))))))))))))))))))))))))))))))) Qah) (.plain _ nll) rfl rfl rfl, Qai (first := []) (cap := []) (vs := [I x58.1]) (σr := []) (σr' := []) (res' := (.tup [])) [] rfl Qk1 (Qgz N x58.1 _ hf59) rfl (Qbc (rnc (.plain _ nll) rn0)) Qah Qah (.plain _ (NLt.tup _ nl0)) rfl rfl rfl, trivial⟩ ?_
         refine bln ?_
         refine thn ?_
         refine wx1 tbk [] trivial ?_
         refine thn ?_
         refine Qm8 ?_
         refine wx tbk [] trivial ?_
         refine wsq ?_
         refine Qcw (by kernel_rfl) ?_
         refine Qak ?_
         refine thn ?_
         refine wsq ?_
         refine Qag ?_
         refine wx tbk [(0, rp [(.tmp 57, .dat 1 [[Qiq], [Qir], [Qip], [Qio]]), (.tmp 59, I 3)] (.dptr [Qio] 0))] ⟨aid rfl Tryz.underlying96 ti95 rfl rfl (by decide) rfl rfl, trivial⟩ ?_
         obtain ⟨x63, hf62, h⟩ := bno h
         obtain ⟨x65, hf64, h⟩ := bno h
         rcases x65 with x66 | x67
         ·replace h := Q4m h
          refine wx1 tbk [(1, ⟨[(.tmp 63, Qio)], [(6, (Qmk p0 x48 x53 x58 x25))], I x63.1, [(6, (Qq7 p0 x48 x53 x58 x63 x25))], false⟩), (2, rp [fu 31, (.tmp 64, I x63.1)] (.tup []))] ⟨Qai (first := [.ref 6 31 0 0]) (cap := []) (vs := []) (σr := [(Qmk p0 x48 x53 x58 x25)]) (σr' := [(Qq7 p0 x48 x53 x58 x63 x25)]) (res' := (I x63.1)) [6] rfl Q5t (Qjd N p0.Table p0.Level p0.Unit.Inlet p0.Unit.Parts p0.Most p0.Target p0.Cycle.Out p0.Cycle.Yield p0.Cycle.Most x48.2.1 x53.2.1 x58.2.1 0 0 x25.1.Scale x58.2.2.1 x58.2.2.2.1 x58.2.2.2.2.1 x58.2.2.2.2.2 0 0 0 0 x48.2.2.1 x48.2.2.2.1 x48.2.2.2.2.1 x48.2.2.2.2.2 x25.1.Water.Mass x25.1.Water.Heat x25.1.Water.Silica x25.1.Water.Gas _ hf62) rfl (Qbc (rnc (Qa3 rfl) rn0)) (slc (Qae (rnc (.plain _ (nld Qa8 _)) (rnc (.plain _ nll) (rnc (.plain _ nll) (rnc (.plain _ (nld Qap _)) (rnc (.plain _ nll) (rnc (.plain _ nll) (rnc (.plain _ nll) (rnc (.plain _ nll) (rnc (.plain _ nll) (rnc (.plain _ nll) (rnc (.plain _ nll) (rnc (.plain _ nll) (rnc (.plain _ nll) (rnc (.plain _ nll) (rnc (.plain _ nll) (rnc (.plain _ nll) (rnc (.plain _ nll) (rnc (.plain _ nll) (rnc (.plain _ nll) (rnc (.plain _ nll) (rnc (.plain _ nll) (rnc (.plain _ nll) (rnc (.plain _ nll) (rnc (.plain _ nll) (rnc (.plain _ nll) (rnc (.plain _ nll) (rnc (.plain _ nll) (rnc (.plain _ nll) (rnc (.plain _ nll) (rnc (.plain _ nll) (rnc (.plain _ nll) rn0)))))))))))))))))))))))))))))))) Qah) (slc (Qae (rnc (.plain _ (nld Qa8 _)) (rnc (.plain _ nll) (rnc (.plain _ nll) (rnc (.plain _ (nld Qap _)) (rnc (.plain _ nll) (rnc (.plain _ nll) (rnc (.plain _ nll) (rnc (.plain _ nll) (rnc (.plain _ nll) (rnc (.plain _ nll) (rnc (.plain _ nll) (rnc (.plain _ nll) (rnc (.plain _ nll) (rnc (.plain _ nll) (rnc (.plain _ nll) (rnc (.plain _ nll) (rnc (.plain _ nll) (rnc (.plain _ nll) (rnc (.plain _ nll) (rnc (.plain _ nll) (rnc (.plain _ nll) (rnc (.plain _ nll) (rnc (.plain _ nll) (rnc (.plain _ nll) (rnc (.plain _ nll) (rnc (.plain _ nll) (rnc (.plain _ nll) (rnc (.plain _ nll) (rnc (.plain _ nll) (rnc (.plain _ nll) (rnc (.plain _ nll) rn0)))))))))))))))))))))))))))))))) Qah) (.plain _ nll) rfl rfl rfl, Qai (first := []) (cap := []) (vs := [I x63.1]) (σr := []) (σr' := []) (res' := (.tup [])) [] rfl Qk1 (Qgz N x63.1 _ hf64) rfl (Qbc (rnc (.plain _ nll) rn0)) Qah Qah (.plain _ (NLt.tup _ nl0)) rfl rfl rfl, trivial⟩ ?_
          refine bln ?_
          refine thn ?_
          refine wx1 tbk [] trivial ?_
          refine thn ?_
          refine Qm8 ?_
          refine wx tbk [] trivial ?_
          refine wsq ?_
          refine Qep (by kernel_rfl) ?_
          refine Qbk ?_
          refine Qax ?_
          refine Qax ?_
          refine Qbj rfl ?_
          refine thn ?_
          exact ⟨(x48.2.1, x53.2.1, x58.2.1, x63.2.1, x63.2.2.1, x58.2.2.1, x58.2.2.2.1, x58.2.2.2.2.1, x58.2.2.2.2.2, x63.2.2.2.1, x63.2.2.2.2.1, x63.2.2.2.2.2.1, x63.2.2.2.2.2.2, x48.2.2.1, x48.2.2.2.1, x48.2.2.2.2.1, x48.2.2.2.2.2), h, (mto (n := 71) [(6, .ref 3 14 0 0), (7, .ref 4 1 0 0), (9, .ref 7 1 0 0)] [0, 1, 2, 3, 4, 7, 6] [(Qn3 p0), (Q94 p1), (Qn2 p2), Qot, (.own 1 [[I x25.2]]), Qky, (Qq7 p0 x48 x53 x58 x63 x25)] hφ1 (pc (.rn (rqr rfl)) (pc (.rn (rqr rfl)) (pc (.rn (rqr rfl)) pn))) (qc (spb (lc (.rn (.plain _ (nld Qa8 _))) (lc rwl (lc rwl (lc (.rn (.plain _ (nld Qap _))) (lc rwl (lc rwl (lc rwl (lc rwl (lc rwl ln)))))))))) (qc (spb (lc rwl (lc rwl (lc rwl (lc rwl ln))))) (qc (spb (lc rwl (lc rwl (lc rwl (lc rwl ln))))) (qc (spb (lc rwl (lc rwl (lc rwl (lc rwl (lc rwl (lc rwl (lc rwl (lc rwl (lc rwl (lc rwl (lc rwl (lc rwl (lc rwl (lc rwl ln))))))))))))))) (qc (spb (lc rwl ln)) (qc (spb (lc (.rn (rqr rfl)) ln)) (qc (spb (lc (.rn (.plain _ (nld Qa8 _))) (lc rwl (lc rwl (lc (.rn (.plain _ (nld Qap _))) (lc rwl (lc rwl (lc rwl (lc rwl (lc rwl (lc rwl (lc rwl (lc rwl (lc rwl (lc rwl (lc rwl (lc rwl (lc rwl (lc rwl (lc rwl (lc rwl (lc rwl (lc rwl (lc rwl (lc rwl (lc rwl (lc rwl (lc rwl (lc rwl (lc rwl (lc rwl (lc rwl ln)))))))))))))))))))))))))))))))) qn))))))))⟩
         ·replace h := Q4l h
          refine Qnk 2 [mv 12 Qio, ⟨[(.tmp 63, Qio)], [(6, (Qmk p0 x48 x53 x58 x25))], I x63.1, [(6, (Qq7 p0 x48 x53 x58 x63 x25))], false⟩, ⟨[fu 31, (.tmp 64, I x63.1)], [], .any, [], false⟩] (by exact ⟨by kernel_rfl, by kernel_rfl⟩) rfl (by kernel_rfl) rfl (Qkd (first := []) (cap := []) (vs := [I x63.1]) (σr := []) [] rfl Qk1 (Qgy N x63.1 _ hf64) rfl (Qbc (rnc (.plain _ nll) rn0)) Qah rfl rfl rfl) (⟨fun _ _ => amv rfl, fun _ _ => Qai (first := [.ref 6 31 0 0]) (cap := []) (vs := []) (σr := [(Qmk p0 x48 x53 x58 x25)]) (σr' := [(Qq7 p0 x48 x53 x58 x63 x25)]) (res' := (I x63.1)) [6] rfl Q5t (Qjd N p0.Table p0.Level p0.Unit.Inlet p0.Unit.Parts p0.Most p0.Target p0.Cycle.Out p0.Cycle.Yield p0.Cycle.Most x48.2.1 x53.2.1 x58.2.1 0 0 x25.1.Scale x58.2.2.1 x58.2.2.2.1 x58.2.2.2.2.1 x58.2.2.2.2.2 0 0 0 0 x48.2.2.1 x48.2.2.2.1 x48.2.2.2.2.1 x48.2.2.2.2.2 x25.1.Water.Mass x25.1.Water.Heat x25.1.Water.Silica x25.1.Water.Gas _ hf62) rfl (Qbc (rnc (Qa3 rfl) rn0)) (slc (Qae (rnc (.plain _ (nld Qa8 _)) (rnc (.plain _ nll) (rnc (.plain _ nll) (rnc (.plain _ (nld Qap _)) (rnc (.plain _ nll) (rnc (.plain _ nll) (rnc (.plain _ nll) (rnc (.plain _ nll) (rnc (.plain _ nll) (rnc (.plain _ nll) (rnc (.plain _ nll) (rnc (.plain _ nll) (rnc (.plain _ nll) (rnc (.plain _ nll) (rnc (.plain _ nll) (rnc (.plain _ nll) (rnc (.plain _ nll) (rnc (.plain _ nll) (rnc (.plain _ nll) (rnc (.plain _ nll) (rnc (.plain _ nll) (rnc (.plain _ nll) (rnc (.plain _ nll) (rnc (.plain _ nll) (rnc (.plain _ nll) (rnc (.plain _ nll) (rnc (.plain _ nll) (rnc (.plain _ nll) (rnc (.plain _ nll) (rnc (.plain _ nll) (rnc (.plain _ nll) rn0)))))))))))))))))))))))))))))))) Qah) (slc (Qae (rnc (.plain _ (nld Qa8 _)) (rnc (.plain _ nll) (rnc (.plain _ nll) (rnc (.plain _ (nld Qap _)) (rnc (.plain _ nll) (rnc (.plain _ nll) (rnc (.plain _ nll) (rnc (.plain _ nll) (rnc (.plain _ nll) (rnc (.plain _ nll) (rnc (.plain _ nll) (rnc (.plain _ nll) (rnc (.plain _ nll) (rnc (.plain _ nll) (rnc (.plain _ nll) (rnc (.plain _ nll) (rnc (.plain _ nll) (rnc (.plain _ nll) (rnc (.plain _ nll) (rnc (.plain _ nll) (rnc (.plain _ nll) (rnc (.plain _ nll) (rnc (.plain _ nll) (rnc (.plain _ nll) (rnc (.plain _ nll) (rnc (.plain _ nll) (rnc (.plain _ nll) (rnc (.plain _ nll) (rnc (.plain _ nll) (rnc (.plain _ nll) (rnc (.plain _ nll) rn0)))))))))))))))))))))))))))))))) Qah) (.plain _ nll) rfl rfl rfl, fun _ h => absurd rfl h, trivial⟩) ?_
          obtain rfl := osi h
          exact ⟨_, [[I 0, I 0, I 0, I 0, I 0, I 0, I 0, I 0, I 0, I 0, I 0, I 0, I 0, I 0], [I x67]], rfl, (Qe8 x67), (Qix (nlc nll (nlc nll (nlc nll (nlc nll (nlc nll (nlc nll (nlc nll (nlc nll (nlc nll (nlc nll (nlc nll (nlc nll (nlc nll (nlc nll nl0)))))))))))))) (Qix (nlc nll nl0) Qrk)), by kernel_rfl, _, (mto (n := 71) (l' := [(6, .ref 0 14 0 0), (7, .ref 1 1 0 0)]) (own' := [Qod, (.own 1 [[I x67]])]) [(6, .ref 3 14 0 0), (7, .ref 4 1 0 0)] [3, 4] [Qot, (.own 1 [[I x67]])] hφ0 (pc (.rn (rqr rfl)) (pc (.rn (rqr rfl)) pn)) (qc (spb (lc rwl (lc rwl (lc rwl (lc rwl (lc rwl (lc rwl (lc rwl (lc rwl (lc rwl (lc rwl (lc rwl (lc rwl (lc rwl (lc rwl ln))))))))))))))) (qc (spb (lc rwl ln)) qn))), ⟨⟨[Qoc, I x67], ⟨Qas (n := 0) (m := 14) (j := 0) (i := 0) (xs := [[(I ((⟨0, 0, 0, 0, 0, 0, (⟨0, 0, 0, 0⟩ : GStream), (⟨0, 0, 0, 0⟩ : GStream)⟩ : GAccount).Turbine)), (I ((⟨0, 0, 0, 0, 0, 0, (⟨0, 0, 0, 0⟩ : GStream), (⟨0, 0, 0, 0⟩ : GStream)⟩ : GAccount).Vent)), (I ((⟨0, 0, 0, 0, 0, 0, (⟨0, 0, 0, 0⟩ : GStream), (⟨0, 0, 0, 0⟩ : GStream)⟩ : GAccount).Air)), (I ((⟨0, 0, 0, 0, 0, 0, (⟨0, 0, 0, 0⟩ : GStream), (⟨0, 0, 0, 0⟩ : GStream)⟩ : GAccount).Work)), (I ((⟨0, 0, 0, 0, 0, 0, (⟨0, 0, 0, 0⟩ : GStream), (⟨0, 0, 0, 0⟩ : GStream)⟩ : GAccount).Sink)), (I ((⟨0, 0, 0, 0, 0, 0, (⟨0, 0, 0, 0⟩ : GStream), (⟨0, 0, 0, 0⟩ : GStream)⟩ : GAccount).Scale)), (I ((⟨0, 0, 0, 0, 0, 0, (⟨0, 0, 0, 0⟩ : GStream), (⟨0, 0, 0, 0⟩ : GStream)⟩ : GAccount).Hot.Mass)), (I ((⟨0, 0, 0, 0, 0, 0, (⟨0, 0, 0, 0⟩ : GStream), (⟨0, 0, 0, 0⟩ : GStream)⟩ : GAccount).Hot.Heat)), (I ((⟨0, 0, 0, 0, 0, 0, (⟨0, 0, 0, 0⟩ : GStream), (⟨0, 0, 0, 0⟩ : GStream)⟩ : GAccount).Hot.Silica)), (I ((⟨0, 0, 0, 0, 0, 0, (⟨0, 0, 0, 0⟩ : GStream), (⟨0, 0, 0, 0⟩ : GStream)⟩ : GAccount).Hot.Gas)), (I ((⟨0, 0, 0, 0, 0, 0, (⟨0, 0, 0, 0⟩ : GStream), (⟨0, 0, 0, 0⟩ : GStream)⟩ : GAccount).Brine.Mass)), (I ((⟨0, 0, 0, 0, 0, 0, (⟨0, 0, 0, 0⟩ : GStream), (⟨0, 0, 0, 0⟩ : GStream)⟩ : GAccount).Brine.Heat)), (I ((⟨0, 0, 0, 0, 0, 0, (⟨0, 0, 0, 0⟩ : GStream), (⟨0, 0, 0, 0⟩ : GStream)⟩ : GAccount).Brine.Silica)), (I ((⟨0, 0, 0, 0, 0, 0, (⟨0, 0, 0, 0⟩ : GStream), (⟨0, 0, 0, 0⟩ : GStream)⟩ : GAccount).Brine.Gas))]]) (by kernel_rfl) (by kernel_rfl) ti37 (by decide) rfl (nle rfl) rfl, Qas (n := 1) (m := 1) (j := 0) (i := 0) (xs := [[I x67]]) (by kernel_rfl) (by kernel_rfl) ti38 (by decide) rfl (nle rfl) rfl, trivial⟩, rfl⟩, (NLt.tup _ (nlc (NLt.agg _ (nlc nll (nlc nll (nlc nll (nlc nll (nlc nll (nlc nll (nlc nll (nlc nll (nlc nll (nlc nll (nlc nll (nlc nll (nlc nll (nlc nll nl0))))))))))))))) (nlc nll nl0))), Nat.le_refl _, fun n hn => absurd hn (Nat.not_lt_zero n)⟩⟩
        ·replace h := Q4l h
         refine Qnk 2 [mv 12 Qip, ⟨[(.tmp 63, Qip)], [(6, (Qml p0 x48 x53 x25))], I x58.1, [(6, (Qmk p0 x48 x53 x58 x25))], false⟩, ⟨[fu 31, (.tmp 64, I x58.1)], [], .any, [], false⟩] (by exact ⟨by kernel_rfl, by kernel_rfl⟩) rfl (by kernel_rfl) rfl (Qkd (first := []) (cap := []) (vs := [I x58.1]) (σr := []) [] rfl Qk1 (Qgy N x58.1 _ hf59) rfl (Qbc (rnc (.plain _ nll) rn0)) Qah rfl rfl rfl) (⟨fun _ _ => amv rfl, fun _ _ => Qai (first := [.ref 6 31 0 0]) (cap := []) (vs := []) (σr := [(Qml p0 x48 x53 x25)]) (σr' := [(Qmk p0 x48 x53 x58 x25)]) (res' := (I x58.1)) [6] rfl Q5u (Qjc N p0.Table p0.Level p0.Unit.Inlet p0.Unit.Parts p0.Most p0.Target p0.Cycle.Out p0.Cycle.Yield p0.Cycle.Most x48.2.1 x53.2.1 0 0 0 x25.1.Scale x53.2.2.1 x53.2.2.2.1 x53.2.2.2.2.1 x53.2.2.2.2.2 0 0 0 0 x48.2.2.1 x48.2.2.2.1 x48.2.2.2.2.1 x48.2.2.2.2.2 x25.1.Water.Mass x25.1.Water.Heat x25.1.Water.Silica x25.1.Water.Gas _ hf57) rfl (Qbc (rnc (Qa3 rfl) rn0)) (slc (Qae (rnc (.plain _ (nld Qa8 _)) (rnc (.plain _ nll) (rnc (.plain _ nll) (rnc (.plain _ (nld Qap _)) (rnc (.plain _ nll) (rnc (.plain _ nll) (rnc (.plain _ nll) (rnc (.plain _ nll) (rnc (.plain _ nll) (rnc (.plain _ nll) (rnc (.plain _ nll) (rnc (.plain _ nll) (rnc (.plain _ nll) (rnc (.plain _ nll) (rnc (.plain _ nll) (rnc (.plain _ nll) (rnc (.plain _ nll) (rnc (.plain _ nll) (rnc (.plain _ nll) (rnc (.plain _ nll) (rnc (.plain _ nll) (rnc (.plain _ nll) (rnc (.plain _ nll) (rnc (.plain _ nll) (rnc (.plain _ nll) (rnc (.plain _ nll) (rnc (.plain _ nll) (rnc (.plain _ nll) (rnc (.plain _ nll) (rnc (.plain _ nll) (rnc (.plain _ nll) rn0)))))))))))))))))))))))))))))))) Qah) (slc (Qae (rnc (.plain _ (nld Qa8 _)) (rnc (.plain _ nll) (rnc (.plain _ nll) (rnc (.plain _ (nld Qap _)) (rnc (.plain _ nll) (rnc (.plain _ nll) (rnc (.plain _ nll) (rnc (.plain _ nll) (rnc (.plain _ nll) (rnc (.plain _ nll) (rnc (.plain _ nll) (rnc (.plain _ nll) (rnc (.plain _ nll) (rnc (.plain _ nll) (rnc (.plain _ nll) (rnc (.plain _ nll) (rnc (.plain _ nll) (rnc (.plain _ nll) (rnc (.plain _ nll) (rnc (.plain _ nll) (rnc (.plain _ nll) (rnc (.plain _ nll) (rnc (.plain _ nll) (rnc (.plain _ nll) (rnc (.plain _ nll) (rnc (.plain _ nll) (rnc (.plain _ nll) (rnc (.plain _ nll) (rnc (.plain _ nll) (rnc (.plain _ nll) (rnc (.plain _ nll) rn0)))))))))))))))))))))))))))))))) Qah) (.plain _ nll) rfl rfl rfl, fun _ h => absurd rfl h, trivial⟩) ?_
         obtain rfl := osi h
         exact ⟨_, [[I 0, I 0, I 0, I 0, I 0, I 0, I 0, I 0, I 0, I 0, I 0, I 0, I 0, I 0], [I x68]], rfl, (Qe8 x68), (Qix (nlc nll (nlc nll (nlc nll (nlc nll (nlc nll (nlc nll (nlc nll (nlc nll (nlc nll (nlc nll (nlc nll (nlc nll (nlc nll (nlc nll nl0)))))))))))))) (Qix (nlc nll nl0) Qrk)), by kernel_rfl, _, (mto (n := 71) (l' := [(6, .ref 0 14 0 0), (7, .ref 1 1 0 0)]) (own' := [Qod, (.own 1 [[I x68]])]) [(6, .ref 3 14 0 0), (7, .ref 4 1 0 0)] [3, 4] [Qot, (.own 1 [[I x68]])] hφ0 (pc (.rn (rqr rfl)) (pc (.rn (rqr rfl)) pn)) (qc (spb (lc rwl (lc rwl (lc rwl (lc rwl (lc rwl (lc rwl (lc rwl (lc rwl (lc rwl (lc rwl (lc rwl (lc rwl (lc rwl (lc rwl ln))))))))))))))) (qc (spb (lc rwl ln)) qn))), ⟨⟨[Qoc, I x68], ⟨Qas (n := 0) (m := 14) (j := 0) (i := 0) (xs := [[(I ((⟨0, 0, 0, 0, 0, 0, (⟨0, 0, 0, 0⟩ : GStream), (⟨0, 0, 0, 0⟩ : GStream)⟩ : GAccount).Turbine)), (I ((⟨0, 0, 0, 0, 0, 0, (⟨0, 0, 0, 0⟩ : GStream), (⟨0, 0, 0, 0⟩ : GStream)⟩ : GAccount).Vent)), (I ((⟨0, 0, 0, 0, 0, 0, (⟨0, 0, 0, 0⟩ : GStream), (⟨0, 0, 0, 0⟩ : GStream)⟩ : GAccount).Air)), (I ((⟨0, 0, 0, 0, 0, 0, (⟨0, 0, 0, 0⟩ : GStream), (⟨0, 0, 0, 0⟩ : GStream)⟩ : GAccount).Work)), (I ((⟨0, 0, 0, 0, 0, 0, (⟨0, 0, 0, 0⟩ : GStream), (⟨0, 0, 0, 0⟩ : GStream)⟩ : GAccount).Sink)), (I ((⟨0, 0, 0, 0, 0, 0, (⟨0, 0, 0, 0⟩ : GStream), (⟨0, 0, 0, 0⟩ : GStream)⟩ : GAccount).Scale)), (I ((⟨0, 0, 0, 0, 0, 0, (⟨0, 0, 0, 0⟩ : GStream), (⟨0, 0, 0, 0⟩ : GStream)⟩ : GAccount).Hot.Mass)), (I ((⟨0, 0, 0, 0, 0, 0, (⟨0, 0, 0, 0⟩ : GStream), (⟨0, 0, 0, 0⟩ : GStream)⟩ : GAccount).Hot.Heat)), (I ((⟨0, 0, 0, 0, 0, 0, (⟨0, 0, 0, 0⟩ : GStream), (⟨0, 0, 0, 0⟩ : GStream)⟩ : GAccount).Hot.Silica)), (I ((⟨0, 0, 0, 0, 0, 0, (⟨0, 0, 0, 0⟩ : GStream), (⟨0, 0, 0, 0⟩ : GStream)⟩ : GAccount).Hot.Gas)), (I ((⟨0, 0, 0, 0, 0, 0, (⟨0, 0, 0, 0⟩ : GStream), (⟨0, 0, 0, 0⟩ : GStream)⟩ : GAccount).Brine.Mass)), (I ((⟨0, 0, 0, 0, 0, 0, (⟨0, 0, 0, 0⟩ : GStream), (⟨0, 0, 0, 0⟩ : GStream)⟩ : GAccount).Brine.Heat)), (I ((⟨0, 0, 0, 0, 0, 0, (⟨0, 0, 0, 0⟩ : GStream), (⟨0, 0, 0, 0⟩ : GStream)⟩ : GAccount).Brine.Silica)), (I ((⟨0, 0, 0, 0, 0, 0, (⟨0, 0, 0, 0⟩ : GStream), (⟨0, 0, 0, 0⟩ : GStream)⟩ : GAccount).Brine.Gas))]]) (by kernel_rfl) (by kernel_rfl) ti37 (by decide) rfl (nle rfl) rfl, Qas (n := 1) (m := 1) (j := 0) (i := 0) (xs := [[I x68]]) (by kernel_rfl) (by kernel_rfl) ti38 (by decide) rfl (nle rfl) rfl, trivial⟩, rfl⟩, (NLt.tup _ (nlc (NLt.agg _ (nlc nll (nlc nll (nlc nll (nlc nll (nlc nll (nlc nll (nlc nll (nlc nll (nlc nll (nlc nll (nlc nll (nlc nll (nlc nll (nlc nll nl0))))))))))))))) (nlc nll nl0))), Nat.le_refl _, fun n hn => absurd hn (Nat.not_lt_zero n)⟩⟩
       ·replace h := Q4l h
        refine Qnk 2 [mv 12 Qir, ⟨[(.tmp 63, Qir)], [(7, Qky), (2, (Qn2 p2)), (0, (Qn3 p0)), (6, (Qmm p0 x48 x25))], I x53.1, [(7, Qky), (2, (Qn2 p2)), (0, (Qn3 p0)), (6, (Qml p0 x48 x53 x25))], false⟩, ⟨[fu 31, (.tmp 64, I x53.1)], [], .any, [], false⟩] (by exact ⟨by kernel_rfl, by kernel_rfl⟩) rfl (by kernel_rfl) rfl (Qkd (first := []) (cap := []) (vs := [I x53.1]) (σr := []) [] rfl Qk1 (Qgy N x53.1 _ hf54) rfl (Qbc (rnc (.plain _ nll) rn0)) Qah rfl rfl rfl) (⟨fun _ _ => amv rfl, fun _ _ => Qai (first := []) (cap := [.ref 7 1 0 0, .ref 2 4 0 0, .ref 0 9 0 0]) (vs := []) (σr := [Qky, (Qn2 p2), (Qn3 p0), (Qmm p0 x48 x25)]) (σr' := [Qky, (Qn2 p2), (Qn3 p0), (Qml p0 x48 x53 x25)]) (res' := (I x53.1)) [7, 2, 0, 6] rfl Q5w (Qjv N p2.Mass p2.Heat p2.Silica p2.Gas p0.Table p0.Level p0.Unit.Inlet p0.Unit.Parts p0.Most p0.Target p0.Cycle.Out p0.Cycle.Yield p0.Cycle.Most p0.Table p0.Level p0.Unit.Inlet p0.Unit.Parts p0.Most p0.Target p0.Cycle.Out p0.Cycle.Yield p0.Cycle.Most x48.2.1 0 0 0 0 x25.1.Scale 0 0 0 0 0 0 0 0 x48.2.2.1 x48.2.2.2.1 x48.2.2.2.2.1 x48.2.2.2.2.2 x25.1.Water.Mass x25.1.Water.Heat x25.1.Water.Silica x25.1.Water.Gas _ hf52) rfl (Qbc (rnc (Qa3 rfl) (rnc (Qa3 rfl) (rnc (Qa3 rfl) rn0)))) (slc (Qae (rnc (Qa3 rfl) rn0)) (slc (Qae (rnc (.plain _ nll) (rnc (.plain _ nll) (rnc (.plain _ nll) (rnc (.plain _ nll) rn0))))) (slc (Qae (rnc (.plain _ (nld Qa8 _)) (rnc (.plain _ nll) (rnc (.plain _ nll) (rnc (.plain _ (nld Qap _)) (rnc (.plain _ nll) (rnc (.plain _ nll) (rnc (.plain _ nll) (rnc (.plain _ nll) (rnc (.plain _ nll) rn0)))))))))) (slc (Qae (rnc (.plain _ (nld Qa8 _)) (rnc (.plain _ nll) (rnc (.plain _ nll) (rnc (.plain _ (nld Qap _)) (rnc (.plain _ nll) (rnc (.plain _ nll) (rnc (.plain _ nll) (rnc (.plain _ nll) (rnc (.plain _ nll) (rnc (.plain _ nll) (rnc (.plain _ nll) (rnc (.plain _ nll) (rnc (.plain _ nll) (rnc (.plain _ nll) (rnc (.plain _ nll) (rnc (.plain _ nll) (rnc (.plain _ nll) (rnc (.plain _ nll) (rnc (.plain _ nll) (rnc (.plain _ nll) (rnc (.plain _ nll) (rnc (.plain _ nll) (rnc (.plain _ nll) (rnc (.plain _ nll) (rnc (.plain _ nll) (rnc (.plain _ nll) (rnc (.plain _ nll) (rnc (.plain _ nll) (rnc (.plain _ nll) (rnc (.plain _ nll) (rnc (.plain _ nll) rn0)))))))))))))))))))))))))))))))) Qah)))) (slc (Qae (rnc (Qb3 rfl) rn0)) (slc (Qae (rnc (.plain _ nll) (rnc (.plain _ nll) (rnc (.plain _ nll) (rnc (.plain _ nll) rn0))))) (slc (Qae (rnc (.plain _ (nld Qa8 _)) (rnc (.plain _ nll) (rnc (.plain _ nll) (rnc (.plain _ (nld Qap _)) (rnc (.plain _ nll) (rnc (.plain _ nll) (rnc (.plain _ nll) (rnc (.plain _ nll) (rnc (.plain _ nll) rn0)))))))))) (slc (Qae (rnc (.plain _ (nld Qa8 _)) (rnc (.plain _ nll) (rnc (.plain _ nll) (rnc (.plain _ (nld Qap _)) (rnc (.plain _ nll) (rnc (.plain _ nll) (rnc (.plain _ nll) (rnc (.plain _ nll) (rnc (.plain _ nll) (rnc (.plain _ nll) (rnc (.plain _ nll) (rnc (.plain _ nll) (rnc (.plain _ nll) (rnc (.plain _ nll) (rnc (.plain _ nll) (rnc (.plain _ nll) (rnc (.plain _ nll) (rnc (.plain _ nll) (rnc (.plain _ nll) (rnc (.plain _ nll) (rnc (.plain _ nll) (rnc (.plain _ nll) (rnc (.plain _ nll) (rnc (.plain _ nll) (rnc (.plain _ nll) (rnc (.plain _ nll) (rnc (.plain _ nll) (rnc (.plain _ nll) (rnc (.plain _ nll) (rnc (.plain _ nll) (rnc (.plain _ nll) rn0)))))))))))))))))))))))))))))))) Qah)))) (.plain _ nll) rfl rfl rfl, fun _ h => absurd rfl h, trivial⟩) ?_
        obtain rfl := osi h
        exact ⟨_, [[I 0, I 0, I 0, I 0, I 0, I 0, I 0, I 0, I 0, I 0, I 0, I 0, I 0, I 0], [I x69]], rfl, (Qe8 x69), (Qix (nlc nll (nlc nll (nlc nll (nlc nll (nlc nll (nlc nll (nlc nll (nlc nll (nlc nll (nlc nll (nlc nll (nlc nll (nlc nll (nlc nll nl0)))))))))))))) (Qix (nlc nll nl0) Qrk)), by kernel_rfl, _, (mto (n := 71) (l' := [(6, .ref 0 14 0 0), (7, .ref 1 1 0 0)]) (own' := [Qod, (.own 1 [[I x69]])]) [(6, .ref 3 14 0 0), (7, .ref 4 1 0 0)] [3, 4] [Qot, (.own 1 [[I x69]])] hφ0 (pc (.rn (rqr rfl)) (pc (.rn (rqr rfl)) pn)) (qc (spb (lc rwl (lc rwl (lc rwl (lc rwl (lc rwl (lc rwl (lc rwl (lc rwl (lc rwl (lc rwl (lc rwl (lc rwl (lc rwl (lc rwl ln))))))))))))))) (qc (spb (lc rwl ln)) qn))), ⟨⟨[Qoc, I x69], ⟨Qas (n := 0) (m := 14) (j := 0) (i := 0) (xs := [[(I ((⟨0, 0, 0, 0, 0, 0, (⟨0, 0, 0, 0⟩ : GStream), (⟨0, 0, 0, 0⟩ : GStream)⟩ : GAccount).Turbine)), (I ((⟨0, 0, 0, 0, 0, 0, (⟨0, 0, 0, 0⟩ : GStream), (⟨0, 0, 0, 0⟩ : GStream)⟩ : GAccount).Vent)), (I ((⟨0, 0, 0, 0, 0, 0, (⟨0, 0, 0, 0⟩ : GStream), (⟨0, 0, 0, 0⟩ : GStream)⟩ : GAccount).Air)), (I ((⟨0, 0, 0, 0, 0, 0, (⟨0, 0, 0, 0⟩ : GStream), (⟨0, 0, 0, 0⟩ : GStream)⟩ : GAccount).Work)), (I ((⟨0, 0, 0, 0, 0, 0, (⟨0, 0, 0, 0⟩ : GStream), (⟨0, 0, 0, 0⟩ : GStream)⟩ : GAccount).Sink)), (I ((⟨0, 0, 0, 0, 0, 0, (⟨0, 0, 0, 0⟩ : GStream), (⟨0, 0, 0, 0⟩ : GStream)⟩ : GAccount).Scale)), (I ((⟨0, 0, 0, 0, 0, 0, (⟨0, 0, 0, 0⟩ : GStream), (⟨0, 0, 0, 0⟩ : GStream)⟩ : GAccount).Hot.Mass)), (I ((⟨0, 0, 0, 0, 0, 0, (⟨0, 0, 0, 0⟩ : GStream), (⟨0, 0, 0, 0⟩ : GStream)⟩ : GAccount).Hot.Heat)), (I ((⟨0, 0, 0, 0, 0, 0, (⟨0, 0, 0, 0⟩ : GStream), (⟨0, 0, 0, 0⟩ : GStream)⟩ : GAccount).Hot.Silica)), (I ((⟨0, 0, 0, 0, 0, 0, (⟨0, 0, 0, 0⟩ : GStream), (⟨0, 0, 0, 0⟩ : GStream)⟩ : GAccount).Hot.Gas)), (I ((⟨0, 0, 0, 0, 0, 0, (⟨0, 0, 0, 0⟩ : GStream), (⟨0, 0, 0, 0⟩ : GStream)⟩ : GAccount).Brine.Mass)), (I ((⟨0, 0, 0, 0, 0, 0, (⟨0, 0, 0, 0⟩ : GStream), (⟨0, 0, 0, 0⟩ : GStream)⟩ : GAccount).Brine.Heat)), (I ((⟨0, 0, 0, 0, 0, 0, (⟨0, 0, 0, 0⟩ : GStream), (⟨0, 0, 0, 0⟩ : GStream)⟩ : GAccount).Brine.Silica)), (I ((⟨0, 0, 0, 0, 0, 0, (⟨0, 0, 0, 0⟩ : GStream), (⟨0, 0, 0, 0⟩ : GStream)⟩ : GAccount).Brine.Gas))]]) (by kernel_rfl) (by kernel_rfl) ti37 (by decide) rfl (nle rfl) rfl, Qas (n := 1) (m := 1) (j := 0) (i := 0) (xs := [[I x69]]) (by kernel_rfl) (by kernel_rfl) ti38 (by decide) rfl (nle rfl) rfl, trivial⟩, rfl⟩, (NLt.tup _ (nlc (NLt.agg _ (nlc nll (nlc nll (nlc nll (nlc nll (nlc nll (nlc nll (nlc nll (nlc nll (nlc nll (nlc nll (nlc nll (nlc nll (nlc nll (nlc nll nl0))))))))))))))) (nlc nll nl0))), Nat.le_refl _, fun n hn => absurd hn (Nat.not_lt_zero n)⟩⟩
      ·replace h := Q4l h
       refine Qnk 2 [mv 12 Qiq, ⟨[(.tmp 63, Qiq)], [(6, (Qt2 p0 x25))], I x48.1, [(6, (Qmm p0 x48 x25))], false⟩, ⟨[fu 31, (.tmp 64, I x48.1)], [], .any, [], false⟩] (by exact ⟨by kernel_rfl, by kernel_rfl⟩) rfl (by kernel_rfl) rfl (Qkd (first := []) (cap := []) (vs := [I x48.1]) (σr := []) [] rfl Qk1 (Qgy N x48.1 _ hf49) rfl (Qbc (rnc (.plain _ nll) rn0)) Qah rfl rfl rfl) (⟨fun _ _ => amv rfl, fun _ _ => Qai (first := [.ref 6 31 0 0]) (cap := []) (vs := []) (σr := [(Qt2 p0 x25)]) (σr' := [(Qmm p0 x48 x25)]) (res' := (I x48.1)) [6] rfl Q5v (Qib N p0.Table p0.Level p0.Unit.Inlet p0.Unit.Parts p0.Most p0.Target p0.Cycle.Out p0.Cycle.Yield p0.Cycle.Most 0 0 0 0 0 x25.1.Scale 0 0 0 0 0 0 0 0 x25.1.Steam.Mass x25.1.Steam.Heat x25.1.Steam.Silica x25.1.Steam.Gas x25.1.Water.Mass x25.1.Water.Heat x25.1.Water.Silica x25.1.Water.Gas _ hf47) rfl (Qbc (rnc (Qa3 rfl) rn0)) (slc (Qae (rnc (.plain _ (nld Qa8 _)) (rnc (.plain _ nll) (rnc (.plain _ nll) (rnc (.plain _ (nld Qap _)) (rnc (.plain _ nll) (rnc (.plain _ nll) (rnc (.plain _ nll) (rnc (.plain _ nll) (rnc (.plain _ nll) (rnc (.plain _ nll) (rnc (.plain _ nll) (rnc (.plain _ nll) (rnc (.plain _ nll) (rnc (.plain _ nll) (rnc (.plain _ nll) (rnc (.plain _ nll) (rnc (.plain _ nll) (rnc (.plain _ nll) (rnc (.plain _ nll) (rnc (.plain _ nll) (rnc (.plain _ nll) (rnc (.plain _ nll) (rnc (.plain _ nll) (rnc (.plain _ nll) (rnc (.plain _ nll) (rnc (.plain _ nll) (rnc (.plain _ nll) (rnc (.plain _ nll) (rnc (.plain _ nll) (rnc (.plain _ nll) (rnc (.plain _ nll) rn0)))))))))))))))))))))))))))))))) Qah) (slc (Qae (rnc (.plain _ (nld Qa8 _)) (rnc (.plain _ nll) (rnc (.plain _ nll) (rnc (.plain _ (nld Qap _)) (rnc (.plain _ nll) (rnc (.plain _ nll) (rnc (.plain _ nll) (rnc (.plain _ nll) (rnc (.plain _ nll) (rnc (.plain _ nll) (rnc (.plain _ nll) (rnc (.plain _ nll) (rnc (.plain _ nll) (rnc (.plain _ nll) (rnc (.plain _ nll) (rnc (.plain _ nll) (rnc (.plain _ nll) (rnc (.plain _ nll) (rnc (.plain _ nll) (rnc (.plain _ nll) (rnc (.plain _ nll) (rnc (.plain _ nll) (rnc (.plain _ nll) (rnc (.plain _ nll) (rnc (.plain _ nll) (rnc (.plain _ nll) (rnc (.plain _ nll) (rnc (.plain _ nll) (rnc (.plain _ nll) (rnc (.plain _ nll) (rnc (.plain _ nll) rn0)))))))))))))))))))))))))))))))) Qah) (.plain _ nll) rfl rfl rfl, fun _ h => absurd rfl h, trivial⟩) ?_
       obtain rfl := osi h
       exact ⟨_, [[I 0, I 0, I 0, I 0, I 0, I 0, I 0, I 0, I 0, I 0, I 0, I 0, I 0, I 0], [I x70]], rfl, (Qe8 x70), (Qix (nlc nll (nlc nll (nlc nll (nlc nll (nlc nll (nlc nll (nlc nll (nlc nll (nlc nll (nlc nll (nlc nll (nlc nll (nlc nll (nlc nll nl0)))))))))))))) (Qix (nlc nll nl0) Qrk)), by kernel_rfl, _, (mto (n := 71) (l' := [(6, .ref 0 14 0 0), (7, .ref 1 1 0 0)]) (own' := [Qod, (.own 1 [[I x70]])]) [(6, .ref 3 14 0 0), (7, .ref 4 1 0 0)] [3, 4] [Qot, (.own 1 [[I x70]])] hφ0 (pc (.rn (rqr rfl)) (pc (.rn (rqr rfl)) pn)) (qc (spb (lc rwl (lc rwl (lc rwl (lc rwl (lc rwl (lc rwl (lc rwl (lc rwl (lc rwl (lc rwl (lc rwl (lc rwl (lc rwl (lc rwl ln))))))))))))))) (qc (spb (lc rwl ln)) qn))), ⟨⟨[Qoc, I x70], ⟨Qas (n := 0) (m := 14) (j := 0) (i := 0) (xs := [[(I ((⟨0, 0, 0, 0, 0, 0, (⟨0, 0, 0, 0⟩ : GStream), (⟨0, 0, 0, 0⟩ : GStream)⟩ : GAccount).Turbine)), (I ((⟨0, 0, 0, 0, 0, 0, (⟨0, 0, 0, 0⟩ : GStream), (⟨0, 0, 0, 0⟩ : GStream)⟩ : GAccount).Vent)), (I ((⟨0, 0, 0, 0, 0, 0, (⟨0, 0, 0, 0⟩ : GStream), (⟨0, 0, 0, 0⟩ : GStream)⟩ : GAccount).Air)), (I ((⟨0, 0, 0, 0, 0, 0, (⟨0, 0, 0, 0⟩ : GStream), (⟨0, 0, 0, 0⟩ : GStream)⟩ : GAccount).Work)), (I ((⟨0, 0, 0, 0, 0, 0, (⟨0, 0, 0, 0⟩ : GStream), (⟨0, 0, 0, 0⟩ : GStream)⟩ : GAccount).Sink)), (I ((⟨0, 0, 0, 0, 0, 0, (⟨0, 0, 0, 0⟩ : GStream), (⟨0, 0, 0, 0⟩ : GStream)⟩ : GAccount).Scale)), (I ((⟨0, 0, 0, 0, 0, 0, (⟨0, 0, 0, 0⟩ : GStream), (⟨0, 0, 0, 0⟩ : GStream)⟩ : GAccount).Hot.Mass)), (I ((⟨0, 0, 0, 0, 0, 0, (⟨0, 0, 0, 0⟩ : GStream), (⟨0, 0, 0, 0⟩ : GStream)⟩ : GAccount).Hot.Heat)), (I ((⟨0, 0, 0, 0, 0, 0, (⟨0, 0, 0, 0⟩ : GStream), (⟨0, 0, 0, 0⟩ : GStream)⟩ : GAccount).Hot.Silica)), (I ((⟨0, 0, 0, 0, 0, 0, (⟨0, 0, 0, 0⟩ : GStream), (⟨0, 0, 0, 0⟩ : GStream)⟩ : GAccount).Hot.Gas)), (I ((⟨0, 0, 0, 0, 0, 0, (⟨0, 0, 0, 0⟩ : GStream), (⟨0, 0, 0, 0⟩ : GStream)⟩ : GAccount).Brine.Mass)), (I ((⟨0, 0, 0, 0, 0, 0, (⟨0, 0, 0, 0⟩ : GStream), (⟨0, 0, 0, 0⟩ : GStream)⟩ : GAccount).Brine.Heat)), (I ((⟨0, 0, 0, 0, 0, 0, (⟨0, 0, 0, 0⟩ : GStream), (⟨0, 0, 0, 0⟩ : GStream)⟩ : GAccount).Brine.Silica)), (I ((⟨0, 0, 0, 0, 0, 0, (⟨0, 0, 0, 0⟩ : GStream), (⟨0, 0, 0, 0⟩ : GStream)⟩ : GAccount).Brine.Gas))]]) (by kernel_rfl) (by kernel_rfl) ti37 (by decide) rfl (nle rfl) rfl, Qas (n := 1) (m := 1) (j := 0) (i := 0) (xs := [[I x70]]) (by kernel_rfl) (by kernel_rfl) ti38 (by decide) rfl (nle rfl) rfl, trivial⟩, rfl⟩, (NLt.tup _ (nlc (NLt.agg _ (nlc nll (nlc nll (nlc nll (nlc nll (nlc nll (nlc nll (nlc nll (nlc nll (nlc nll (nlc nll (nlc nll (nlc nll (nlc nll (nlc nll nl0))))))))))))))) (nlc nll nl0))), Nat.le_refl _, fun n hn => absurd hn (Nat.not_lt_zero n)⟩⟩
    ·replace h := Q4l h
     refine wsq ?_
     refine Qnk 1 [rb [(.tmp 7, .ref 4 1 0 0)] [(4, .own 1 [[I x25.2]])] (I x25.2), ⟨[fu 31, (.tmp 34, I x25.2)], [], .any, [], false⟩] (by exact ⟨by kernel_rfl, by kernel_rfl⟩) rfl (by kernel_rfl) rfl (Qkd (first := []) (cap := []) (vs := [I x25.2]) (σr := []) [] rfl Qk1 (Qgy N x25.2 _ hf26) rfl (Qbc (rnc (.plain _ nll) rn0)) Qah rfl rfl rfl) (⟨fun _ _ => ald rfl ti38 (by decide) rfl (nle rfl) rfl, fun _ h => absurd rfl h, trivial⟩) ?_
     obtain rfl := osi h
     exact ⟨_, [[I 0, I 0, I 0, I 0, I 0, I 0, I 0, I 0, I 0, I 0, I 0, I 0, I 0, I 0], [I x71]], rfl, (Qe8 x71), (Qix (nlc nll (nlc nll (nlc nll (nlc nll (nlc nll (nlc nll (nlc nll (nlc nll (nlc nll (nlc nll (nlc nll (nlc nll (nlc nll (nlc nll nl0)))))))))))))) (Qix (nlc nll nl0) Qrk)), by kernel_rfl, _, (mto (n := 71) (l' := [(6, .ref 0 14 0 0), (7, .ref 1 1 0 0)]) (own' := [Qod, (.own 1 [[I x71]])]) [(6, .ref 3 14 0 0), (7, .ref 4 1 0 0)] [3, 4] [Qot, (.own 1 [[I x71]])] hφ0 (pc (.rn (rqr rfl)) (pc (.rn (rqr rfl)) pn)) (qc (spb (lc rwl (lc rwl (lc rwl (lc rwl (lc rwl (lc rwl (lc rwl (lc rwl (lc rwl (lc rwl (lc rwl (lc rwl (lc rwl (lc rwl ln))))))))))))))) (qc (spb (lc rwl ln)) qn))), ⟨⟨[Qoc, I x71], ⟨Qas (n := 0) (m := 14) (j := 0) (i := 0) (xs := [[(I ((⟨0, 0, 0, 0, 0, 0, (⟨0, 0, 0, 0⟩ : GStream), (⟨0, 0, 0, 0⟩ : GStream)⟩ : GAccount).Turbine)), (I ((⟨0, 0, 0, 0, 0, 0, (⟨0, 0, 0, 0⟩ : GStream), (⟨0, 0, 0, 0⟩ : GStream)⟩ : GAccount).Vent)), (I ((⟨0, 0, 0, 0, 0, 0, (⟨0, 0, 0, 0⟩ : GStream), (⟨0, 0, 0, 0⟩ : GStream)⟩ : GAccount).Air)), (I ((⟨0, 0, 0, 0, 0, 0, (⟨0, 0, 0, 0⟩ : GStream), (⟨0, 0, 0, 0⟩ : GStream)⟩ : GAccount).Work)), (I ((⟨0, 0, 0, 0, 0, 0, (⟨0, 0, 0, 0⟩ : GStream), (⟨0, 0, 0, 0⟩ : GStream)⟩ : GAccount).Sink)), (I ((⟨0, 0, 0, 0, 0, 0, (⟨0, 0, 0, 0⟩ : GStream), (⟨0, 0, 0, 0⟩ : GStream)⟩ : GAccount).Scale)), (I ((⟨0, 0, 0, 0, 0, 0, (⟨0, 0, 0, 0⟩ : GStream), (⟨0, 0, 0, 0⟩ : GStream)⟩ : GAccount).Hot.Mass)), (I ((⟨0, 0, 0, 0, 0, 0, (⟨0, 0, 0, 0⟩ : GStream), (⟨0, 0, 0, 0⟩ : GStream)⟩ : GAccount).Hot.Heat)), (I ((⟨0, 0, 0, 0, 0, 0, (⟨0, 0, 0, 0⟩ : GStream), (⟨0, 0, 0, 0⟩ : GStream)⟩ : GAccount).Hot.Silica)), (I ((⟨0, 0, 0, 0, 0, 0, (⟨0, 0, 0, 0⟩ : GStream), (⟨0, 0, 0, 0⟩ : GStream)⟩ : GAccount).Hot.Gas)), (I ((⟨0, 0, 0, 0, 0, 0, (⟨0, 0, 0, 0⟩ : GStream), (⟨0, 0, 0, 0⟩ : GStream)⟩ : GAccount).Brine.Mass)), (I ((⟨0, 0, 0, 0, 0, 0, (⟨0, 0, 0, 0⟩ : GStream), (⟨0, 0, 0, 0⟩ : GStream)⟩ : GAccount).Brine.Heat)), (I ((⟨0, 0, 0, 0, 0, 0, (⟨0, 0, 0, 0⟩ : GStream), (⟨0, 0, 0, 0⟩ : GStream)⟩ : GAccount).Brine.Silica)), (I ((⟨0, 0, 0, 0, 0, 0, (⟨0, 0, 0, 0⟩ : GStream), (⟨0, 0, 0, 0⟩ : GStream)⟩ : GAccount).Brine.Gas))]]) (by kernel_rfl) (by kernel_rfl) ti37 (by decide) rfl (nle rfl) rfl, Qas (n := 1) (m := 1) (j := 0) (i := 0) (xs := [[I x71]]) (by kernel_rfl) (by kernel_rfl) ti38 (by decide) rfl (nle rfl) rfl, trivial⟩, rfl⟩, (NLt.tup _ (nlc (NLt.agg _ (nlc nll (nlc nll (nlc nll (nlc nll (nlc nll (nlc nll (nlc nll (nlc nll (nlc nll (nlc nll (nlc nll (nlc nll (nlc nll (nlc nll nl0))))))))))))))) (nlc nll nl0))), Nat.le_refl _, fun n hn => absurd hn (Nat.not_lt_zero n)⟩⟩
end Go.Proofs.YtlhakkkjgdbdpaaGreat
