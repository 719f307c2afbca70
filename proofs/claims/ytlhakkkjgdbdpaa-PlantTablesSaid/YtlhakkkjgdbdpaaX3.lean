/-
  Functions of the program: what they compute, as plain functions, and that they do. No conditions.
-/
import Derived.Test.YtlhakkkjgdbdpaaX2
namespace Go.Proofs.Ytlhakkkjgdbdpaa
open Go.RowKit
def Qgm (N : Nat) (p0 : Int) : Option Bool :=
  (Qbh N p0 0 1000000).bind fun x2 =>
  some x2
set_option maxRecDepth 100000 in
set_option maxHeartbeats 4000000 in
theorem Qkc (N : Nat) (p0 : Int) (r : Bool) (h : Qgm N p0 = some r) : Spec Try.prog 102 [(I p0)] [] (B r) [] := by
  refine Qae Try.func102 rfl 0 (nle rfl) (fun X φ0 w0 hφ0 => ?_)
  unfold Qgm at h
  refine wx tbk [] trivial ?_
  obtain ⟨x2, hf1, h⟩ := bno h
  refine wx tbk [(1, rp [fu 65, (.tmp 3, I p0), ci 0, ci 1000000] (B x2))] ⟨apc (first := []) (cap := []) (vs := [I p0, I 0, I 1000000]) rfl Qbu (Qah N p0 0 1000000 _ hf1) rfl rfl (nlc nll (nlc nll (nlc nll nl0))) nll rfl, trivial⟩ ?_
  refine Qad ?_
  obtain rfl := osi h
  exact fend ⟨[B x2], ⟨rot (by kernel_rfl), trivial⟩, rfl⟩ nll
def Qhw (N : Nat) (p0 : Int) : Option Bool :=
  (Qgm N p0).bind fun x3 =>
  some (!x3)
def z42_0 : Slot := .own 1 [[(.fn (.func 102) [] [])]]
set_option maxRecDepth 100000 in
set_option maxHeartbeats 4000000 in
theorem Qlr (N : Nat) (p0 : Int) (r : Bool) (h : Qhw N p0 = some r) : Spec Try.prog 110 [(I (p0)), (.ref 0 1 (0) 0)] [z42_0] (B (r)) [z42_0] := by
  refine Qae Try.func110 rfl 1 (nle rfl) (fun X φ0 w0 hφ0 => ?_)
  unfold Qhw at h
  refine Qbp ?_
  refine wx tbk [] trivial ?_
  obtain ⟨x3, hf2, h⟩ := bno h
  refine wx tbk [(2, rp [(.tmp 4, (.fn (.func 102) [] [])), (.tmp 5, I p0)] (B x3))] ⟨apc (first := []) (cap := []) (vs := [I p0]) rfl enter102 (Qkc N p0 _ hf2) rfl rfl (nlc nll nl0) nll rfl, trivial⟩ ?_
  refine wmr (mto (n := 8) (l' := [(3, (B ((!x3))))]) (own' := [z42_0]) [(3, (B ((!x3))))] [0] [z42_0] hφ0 (pc rwl pn) (qc (spb (lc (.rn (Qar rn0 rn0)) ln)) qn)) ?_
  refine Qad ?_
  obtain rfl := osi h
  exact ⟨_, Mor.rfl, Qb9 (vs := [(B ((!x3)))]) ⟨rot (by kernel_rfl), trivial⟩ rfl (NLt.of0 nll) (by kernel_rfl) (Qak (Qaw (nlc (NLt.of0 (NLt.fn _ _ _ nl0 nl0)) nl0)) Qbi)⟩
def Qcg (N : Nat) (p0 : (List Int)) (k2 : Unit → Option Int) : Nat → Int → Option Int
  | 0, _ => none
  | n5 + 1, y3 =>
    bif (decide (y3 < (p0.length : Int))) then
     (getI p0 y3).bind fun x7 =>
     (Qhw N x7).bind fun x12 =>
     bif x12 then
      some y3
     else
      Qcg N p0 k2 n5 (w64 (y3 + 1))
    else
     k2 ()
def Qex (N : Nat) (p0 : (List Int)) : Option Int :=
  Qb0 (fun _ =>
    some (-1)) fun k2 : Unit → Option Int =>
  Qcg N p0 k2 N 0
def Qux (p0 : (List Int)) : AV := .dat 1 ((p0 : List Int).map Qab)
def Qx1 : AV := .fn (.func 110) [] [(.ref 0 1 (0) 0)]
def Qmj : Slot := .own 1 [[(.fn (.func 102) [] [])]]
set_option maxRecDepth 100000 in
set_option maxHeartbeats 4000000 in
theorem Qik (N : Nat) (p0 : (List Int)) (r : Int) (h : Qex N p0 = some r) : Spec Try.prog 71 [(Qux p0), Qx1] [Qmj] (I (r)) [Qmj] := by
  refine Qae Try.func71 rfl 1 (nle rfl) (fun X φ0 w0 hφ0 => ?_)
  unfold Qex at h
  refine Qbp ?_
  refine wx tbk [] trivial ?_
  obtain ⟨k2, hk_k2, h⟩ := jko h
  refine wjn (τ := Unit) (fun t => k2 t = some r) (fun _ => ⟨mk 19 [], [Qmj]⟩) (fun t h => ?_) ?_
  ·subst hk_k2
   refine wx tbk [] trivial ?_
   refine wmr (mto (n := 19) (l' := [(4, (I ((-1))))]) (own' := [Qmj]) [(4, (I ((-1))))] [0] [Qmj] hφ0 (pc rwl pn) (qc (spb (lc (.rn (Qar rn0 rn0)) ln)) qn)) ?_
   refine Qad ?_
   obtain rfl := osi h
   exact ⟨_, Mor.rfl, Qb9 (vs := [(I ((-1)))]) ⟨rot (by kernel_rfl), trivial⟩ rfl (NLt.of0 nll) (by kernel_rfl) (Qak (Qaw (nlc (NLt.of0 (NLt.fn _ _ _ nl0 nl0)) nl0)) Qbi)⟩
  ·skip
   refine wx tbk [(1, rp [(.tmp 6, (Qux p0))] (I ((p0.length : Int))))] ⟨alm (c := Qab) (l := p0) (aln rfl Try.underlying37 rfl), trivial⟩ ?_
   refine Qaf ?_
   refine wmr (mto (n := 19) (l' := [(0, (Qux p0)), (1, Qx1), (7, (I ((p0.length : Int)))), (8, I 0)]) (own' := [Qmj]) [(0, (Qux p0)), (1, Qx1), (7, (I ((p0.length : Int)))), (8, I 0)] [0] [Qmj] hφ0 (pc (.rn (.plain _ (nld Qaa _))) (pc (.rn (Qar rn0 (rnc (rqr rfl) rn0))) (pc rwl (pc rwl pn)))) (qc (spb (lc (.rn (Qar rn0 rn0)) ln)) qn)) ?_
   refine Qbk (τ := Int) (fun n t => Qcg N p0 k2 n t = some r) (fun y3 => ⟨mk 19 [(0, (Qux p0)), (1, Qx1), (7, (I ((p0.length : Int)))), (8, I y3)], [Qmj]⟩) (fun t h => by rw [Qcg] at h; cases h) (fun n5 ih y3 h => ?_) N (0) h
   rw [Qcg] at h
   skip
   refine wx tbk [] trivial ?_
   refine wsq ?_
   rcases bft ((decide (y3 < (p0.length : Int)))) with hc6 | hc6
   ·replace h := Qas hc6 h
    refine wft hc6 (by kernel_rfl) ?_
    refine Qai ?_
    refine thn ?_
    refine wsq ?_
    refine Qaf ?_
    refine wx tbk [] trivial ?_
    obtain ⟨x7, hg8, h⟩ := bno h
    obtain ⟨hi9, hj10⟩ := gsm hg8
    obtain ⟨x12, hf11, h⟩ := bno h
    refine wx tbk [(3, rp [(.tmp 12, (Qux p0)), (.tmp 13, I y3)] (.dptr (Qab (x7)) 0)), (5, ⟨[(.tmp 11, Qx1), (.tmp 15, I x7)], [(0, Qmj)], B x12, [(0, Qmj)], false⟩)] ⟨aid rfl Try.underlying37 ti3 rfl rfl hi9 (mgt Qab hj10) rfl, Qap (first := []) (cap := [.ref 0 1 0 0]) (vs := [I x7]) (σr := [Qmj]) (σr' := [Qmj]) (res' := (B x12)) [0] rfl Qsh (Qlr N x7 _ hf11) rfl (Qb6 (rnc (.plain _ nll) (rnc (Qa7 rfl) rn0))) (slc (Qal (rnc (.plain _ (NLt.fn _ _ _ nl0 nl0)) rn0)) Qao) (slc (Qal (rnc (.plain _ (NLt.fn _ _ _ nl0 nl0)) rn0)) Qao) (.plain _ nll) rfl rfl rfl, trivial⟩ ?_
    rcases bft (x12) with hc13 | hc13
    ·replace h := Qas hc13 h
     refine wft hc13 (by kernel_rfl) ?_
     refine wx tbk [] trivial ?_
     refine wmr (mto (n := 19) (l' := [(4, I y3)]) (own' := [Qmj]) [(4, I y3)] [0] [Qmj] hφ0 (pc rwl pn) (qc (spb (lc (.rn (Qar rn0 rn0)) ln)) qn)) ?_
     refine Qad ?_
     refine Qay ?_
     refine Qam ?_
     refine Qam ?_
     refine Qay ?_
     refine Qam ?_
     obtain rfl := osi h
     exact ⟨_, Mor.rfl, Qb9 (vs := [I y3]) ⟨rot (by kernel_rfl), trivial⟩ rfl (NLt.of0 nll) (by kernel_rfl) (Qak (Qaw (nlc (NLt.of0 (NLt.fn _ _ _ nl0 nl0)) nl0)) Qbi)⟩
    ·replace h := Qat hc13 h
     refine wfn hc13 (by kernel_rfl) ?_
     refine Qai ?_
     refine bln ?_
     refine thn ?_
     refine wx1 tbk [] trivial ?_
     refine thn ?_
     exact arm (mto (n := 19) [(0, (Qux p0)), (1, Qx1), (7, (I ((p0.length : Int)))), (8, (I (w64 (y3 + 1))))] [0] [Qmj] hφ0 (pc (.rn (.plain _ (nld Qaa _))) (pc (.rn (Qar rn0 (rnc (rqr rfl) rn0))) (pc rwl (pc rwl pn)))) (qc (spb (lc (.rn (Qar rn0 rn0)) ln)) qn)) (ih (w64 (y3 + 1)) h)
   ·replace h := Qat hc6 h
    refine wfn hc6 (by kernel_rfl) ?_
    refine Qa2 ?_
    refine Qaq ?_
    refine Qaq ?_
    refine Qa1 rfl ?_
    refine thn ?_
    exact ⟨(), h, (mto (n := 19) [] [0] [Qmj] hφ0 pn (qc (spb (lc (.rn (Qar rn0 rn0)) ln)) qn))⟩
def Qee (N : Nat) (p0 : (List Int)) : Option Bool :=
  (Qex N p0).bind fun x3 =>
  some (decide (x3 ≥ 0))
def z40_0 (p0 : (List Int)) : AV := .dat 1 ((p0 : List Int).map Qab)
def z40_1 : AV := .fn (.func 110) [] [(.ref 0 1 (0) 0)]
def Qs6 : Slot := .own 1 [[(.fn (.func 102) [] [])]]
set_option maxRecDepth 100000 in
set_option maxHeartbeats 4000000 in
theorem Qhs (N : Nat) (p0 : (List Int)) (r : Bool) (h : Qee N p0 = some r) : Spec Try.prog 109 [(z40_0 p0), z40_1] [Qs6] (B (r)) [Qs6] := by
  refine Qae Try.func109 rfl 1 (nle rfl) (fun X φ0 w0 hφ0 => ?_)
  unfold Qee at h
  refine Qbp ?_
  refine wx tbk [] trivial ?_
  obtain ⟨x3, hf2, h⟩ := bno h
  refine wx tbk [(2, ⟨[fu 71, (.tmp 5, (z40_0 p0)), (.tmp 6, z40_1)], [(0, Qs6)], I x3, [(0, Qs6)], false⟩)] ⟨Qap (first := []) (cap := []) (vs := [(z40_0 p0), z40_1]) (σr := [Qs6]) (σr' := [Qs6]) (res' := (I x3)) [0] rfl Qsc (Qik N p0 _ hf2) rfl (Qb6 (rnc (.plain _ (nld Qaa _)) (rnc (Qar rn0 (rnc (Qa7 rfl) rn0)) rn0))) (slc (Qal (rnc (.plain _ (NLt.fn _ _ _ nl0 nl0)) rn0)) Qao) (slc (Qal (rnc (.plain _ (NLt.fn _ _ _ nl0 nl0)) rn0)) Qao) (.plain _ nll) rfl rfl rfl, trivial⟩ ?_
  refine wmr (mto (n := 9) (l' := [(4, (B ((decide (x3 ≥ 0)))))]) (own' := [Qs6]) [(4, (B ((decide (x3 ≥ 0)))))] [0] [Qs6] hφ0 (pc rwl pn) (qc (spb (lc (.rn (Qar rn0 rn0)) ln)) qn)) ?_
  refine Qad ?_
  obtain rfl := osi h
  exact ⟨_, Mor.rfl, Qb9 (vs := [(B ((decide (x3 ≥ 0))))]) ⟨rot (by kernel_rfl), trivial⟩ rfl (NLt.of0 nll) (by kernel_rfl) (Qak (Qaw (nlc (NLt.of0 (NLt.fn _ _ _ nl0 nl0)) nl0)) Qbi)⟩
def Qiw (N : Nat) (p0 : (List Int)) : Option Bool :=
  (Qee N p0).bind fun x2 =>
  some (!x2)
def z39_1 (p0 : (List Int)) : AV := .dat 1 ((p0 : List Int).map Qab)
def z39_2 : AV := .fn (.func 110) [] [(.ref 0 1 (0) 0)]
def z39_0 : Slot := .own 1 [[(.fn (.func 102) [] [])]]
set_option maxRecDepth 100000 in
set_option maxHeartbeats 4000000 in
theorem Qhd (N : Nat) (p0 : (List Int)) (r : Bool) (h : Qiw N p0 = some r) : Spec Try.prog 89 [(z39_1 p0), (.fn (.func 102) [] [])] [] (B (r)) [] := by
  refine Qae Try.func89 rfl 0 (nle rfl) (fun X φ0 w0 hφ0 => ?_)
  unfold Qiw at h
  refine wx tbk [] trivial ?_
  obtain ⟨x2, hf1, h⟩ := bno h
  refine wx tbk [(1, rp [(.tmp 3, .ref 0 1 0 0)] z39_2), (2, ⟨[fu 109, (.tmp 5, (z39_1 p0)), (.tmp 6, z39_2)], [(0, z39_0)], B x2, [(0, z39_0)], false⟩)] ⟨Qej (fs := []) (cs := [.ref 0 1 0 0]) rfl rfl rfl rfl, Qap (first := []) (cap := []) (vs := [(z39_1 p0), z39_2]) (σr := [z39_0]) (σr' := [z39_0]) (res' := (B x2)) [0] rfl Qsi (Qhs N p0 _ hf1) rfl (Qb6 (rnc (.plain _ (nld Qaa _)) (rnc (Qar rn0 (rnc (Qa7 rfl) rn0)) rn0))) (slc (Qal (rnc (.plain _ (NLt.fn _ _ _ nl0 nl0)) rn0)) Qao) (slc (Qal (rnc (.plain _ (NLt.fn _ _ _ nl0 nl0)) rn0)) Qao) (.plain _ nll) rfl rfl rfl, trivial⟩ ?_
  refine Qad ?_
  obtain rfl := osi h
  exact fend ⟨[(B ((!x2)))], ⟨rot (by kernel_rfl), trivial⟩, rfl⟩ nll
def Qf2 (N : Nat) (p0 : GUnit) (p1 : (List Int)) (_p2 : (List GUnit)) : Option Bool :=
  (Qgu N p0).bind fun x3 =>
  bif x3 then
   some (decide (p0.Inlet < (p1.length : Int)))
  else
   some false
def z48_2 (p0 : GUnit) : AV := .agg [(I (p0.Inlet)), (.dat 2 ((p0.Parts : List GPart).map Qcx))]
def Qxz (p1 : (List Int)) (p2 : (List GUnit)) : Slot := .own 2 [[(.dat 1 ((p1 : List Int).map Qab)), (.dat 2 ((p2 : List GUnit).map Qcr))]]
set_option maxRecDepth 100000 in
set_option maxHeartbeats 4000000 in
theorem Qjs (N : Nat) (p0 : GUnit) (p1 : (List Int)) (p2 : (List GUnit)) (r : Bool) (h : Qf2 N p0 p1 p2 = some r) : Spec Try.prog 104 [(z48_2 p0), (.ref 0 2 (0) 0)] [(Qxz p1 p2)] (B (r)) [(Qxz p1 p2)] := by
  refine Qae Try.func104 rfl 1 (nle rfl) (fun X φ0 w0 hφ0 => ?_)
  unfold Qf2 at h
  refine Qbp ?_
  refine wx tbk [] trivial ?_
  obtain ⟨x3, hf2, h⟩ := bno h
  rcases bft (x3) with hb4 | hb4
  ·replace h := Qas hb4 h
   refine wx tbk [(1, rp [fu 64, (.tmp 4, (z48_2 p0))] (B x3)), (2, rp [(.tmp 5, B x3)] (B true)), (7, rp [(.tmp 6, B true), (.tmp 10, (.dat 1 ((p1 : List Int).map Qab)))] (I ((p1.length : Int))))] ⟨apc (first := []) (cap := []) (vs := [(z48_2 p0)]) rfl Qvo (Qg1 N p0 _ hf2) rfl rfl (nlc (NLt.agg _ (nlc nll (nlc (nld Qcm _) nl0))) nl0) nll rfl, asb hb4 (amv rfl), ag_ (alm (c := Qab) (l := p1) (aln rfl Try.underlying37 rfl)), trivial⟩ ?_
   refine wmr (mto (n := 14) (l' := [(3, (B ((decide (p0.Inlet < (p1.length : Int))))))]) (own' := [(Qxz p1 p2)]) [(3, (B ((decide (p0.Inlet < (p1.length : Int))))))] [0] [(Qxz p1 p2)] hφ0 (pc rwl pn) (qc (spb (lc (.rn (.plain _ (nld Qaa _))) (lc (.rn (.plain _ (nld Qau _))) ln))) qn)) ?_
   refine Qad ?_
   obtain rfl := osi h
   exact ⟨_, Mor.rfl, Qb9 (vs := [(B ((decide (p0.Inlet < (p1.length : Int)))))]) ⟨rot (by kernel_rfl), trivial⟩ rfl (NLt.of0 nll) (by kernel_rfl) (Qak (Qaw (nlc (NLt.of0 (nld Qaa _)) (nlc (NLt.of0 (nld Qau _)) nl0))) Qbi)⟩
  ·replace h := Qat hb4 h
   refine wx tbk [(1, rp [fu 64, (.tmp 4, (z48_2 p0))] (B x3)), (2, rp [(.tmp 5, B x3)] (B false))] ⟨apc (first := []) (cap := []) (vs := [(z48_2 p0)]) rfl Qvo (Qg1 N p0 _ hf2) rfl rfl (nlc (NLt.agg _ (nlc nll (nlc (nld Qcm _) nl0))) nl0) nll rfl, asb hb4 (amv rfl), trivial⟩ ?_
   refine wmr (mto (n := 14) (l' := [(3, B false)]) (own' := [(Qxz p1 p2)]) [(3, B false)] [0] [(Qxz p1 p2)] hφ0 (pc rwl pn) (qc (spb (lc (.rn (.plain _ (nld Qaa _))) (lc (.rn (.plain _ (nld Qau _))) ln))) qn)) ?_
   refine Qad ?_
   obtain rfl := osi h
   exact ⟨_, Mor.rfl, Qb9 (vs := [B false]) ⟨rot (by kernel_rfl), trivial⟩ rfl (NLt.of0 nll) (by kernel_rfl) (Qak (Qaw (nlc (NLt.of0 (nld Qaa _)) (nlc (NLt.of0 (nld Qau _)) nl0))) Qbi)⟩
def Qfk (N : Nat) (p0 : GUnit) (p1 : (List Int)) (p2 : (List GUnit)) : Option Bool :=
  (Qf2 N p0 p1 p2).bind fun x3 =>
  some (!x3)
def z47_2 (p0 : GUnit) : AV := .agg [(I (p0.Inlet)), (.dat 2 ((p0.Parts : List GPart).map Qcx))]
def z47_3 : AV := .fn (.func 104) [] [(.ref 1 2 (0) 0)]
def Qs2 (p1 : (List Int)) (p2 : (List GUnit)) : Slot := .own 2 [[(.dat 1 ((p1 : List Int).map Qab)), (.dat 2 ((p2 : List GUnit).map Qcr))]]
set_option maxRecDepth 100000 in
set_option maxHeartbeats 4000000 in
theorem Qi5 (N : Nat) (p0 : GUnit) (p1 : (List Int)) (p2 : (List GUnit)) (r : Bool) (h : Qfk N p0 p1 p2 = some r) : Spec Try.prog 122 [(z47_2 p0), (.ref 0 1 (0) 0)] [(.own 1 [[z47_3]]), (Qs2 p1 p2)] (B (r)) [(.own 1 [[z47_3]]), (Qs2 p1 p2)] := by
  refine Qae Try.func122 rfl 2 (nle rfl) (fun X φ0 w0 hφ0 => ?_)
  unfold Qfk at h
  refine Qbp ?_
  refine wx tbk [] trivial ?_
  obtain ⟨x3, hf2, h⟩ := bno h
  refine wx tbk [(2, ⟨[(.tmp 4, z47_3), (.tmp 5, (z47_2 p0))], [(1, (Qs2 p1 p2))], B x3, [(1, (Qs2 p1 p2))], false⟩)] ⟨Qap (first := []) (cap := [.ref 1 2 0 0]) (vs := [(z47_2 p0)]) (σr := [(Qs2 p1 p2)]) (σr' := [(Qs2 p1 p2)]) (res' := (B x3)) [1] rfl enter104 (Qjs N p0 p1 p2 _ hf2) rfl (Qb6 (rnc (.plain _ (NLt.agg _ (nlc nll (nlc (nld Qcm _) nl0)))) (rnc (Qa7 rfl) rn0))) (slc (Qal (rnc (.plain _ (nld Qaa _)) (rnc (.plain _ (nld Qau _)) rn0))) Qao) (slc (Qal (rnc (.plain _ (nld Qaa _)) (rnc (.plain _ (nld Qau _)) rn0))) Qao) (.plain _ nll) rfl rfl rfl, trivial⟩ ?_
  refine wmr (mto (n := 8) (l' := [(3, (B ((!x3))))]) (own' := [(.own 1 [[z47_3]]), (Qs2 p1 p2)]) [(3, (B ((!x3))))] [0, 1] [(.own 1 [[z47_3]]), (Qs2 p1 p2)] hφ0 (pc rwl pn) (qc (spb (lc (.rn (Qar rn0 (rnc (rqr rfl) rn0))) ln)) (qc (spb (lc (.rn (.plain _ (nld Qaa _))) (lc (.rn (.plain _ (nld Qau _))) ln))) qn))) ?_
  refine Qad ?_
  obtain rfl := osi h
  exact ⟨_, Mor.rfl, Qb9 (vs := [(B ((!x3)))]) ⟨rot (by kernel_rfl), trivial⟩ rfl (NLt.of0 nll) (by kernel_rfl) (Qak (Qaw (nlc (NLt.fn _ _ _ nl0 (nlc (NLt.ref _ _ _ _ (by decide)) nl0)) nl0)) (Qak (Qaw (nlc (NLt.of0 (nld Qaa _)) (nlc (NLt.of0 (nld Qau _)) nl0))) Qbi))⟩
def Qbf (N : Nat) (p0 : (List GUnit)) (p1 : (List Int)) (k2 : Unit → Option Int) (p2 : (List GUnit)) : Nat → Int → Option Int
  | 0, _ => none
  | n5 + 1, y3 =>
    bif (decide (y3 < (p0.length : Int))) then
     (getI p0 y3).bind fun x7 =>
     (Qfk N x7 p1 p2).bind fun x12 =>
     bif x12 then
      some y3
     else
      Qbf N p0 p1 k2 p2 n5 (w64 (y3 + 1))
    else
     k2 ()
def Qc1 (N : Nat) (p0 : (List GUnit)) (p1 : (List Int)) (p2 : (List GUnit)) : Option Int :=
  Qb0 (fun _ =>
    some (-1)) fun k2 : Unit → Option Int =>
  Qbf N p0 p1 k2 p2 N 0
def Quw (p0 : (List GUnit)) : AV := .dat 2 ((p0 : List GUnit).map Qcr)
def Qx0 : AV := .fn (.func 122) [] [(.ref 0 1 (0) 0)]
def Qmi : AV := .fn (.func 104) [] [(.ref 1 2 (0) 0)]
def Qmh (p1 : (List Int)) (p2 : (List GUnit)) : Slot := .own 2 [[(.dat 1 ((p1 : List Int).map Qab)), (.dat 2 ((p2 : List GUnit).map Qcr))]]
set_option maxRecDepth 100000 in
set_option maxHeartbeats 4000000 in
theorem Qfw (N : Nat) (p0 : (List GUnit)) (p1 : (List Int)) (p2 : (List GUnit)) (r : Int) (h : Qc1 N p0 p1 p2 = some r) : Spec Try.prog 132 [(Quw p0), Qx0] [(.own 1 [[Qmi]]), (Qmh p1 p2)] (I (r)) [(.own 1 [[Qmi]]), (Qmh p1 p2)] := by
  refine Qae Try.func132 rfl 2 (nle rfl) (fun X φ0 w0 hφ0 => ?_)
  unfold Qc1 at h
  refine Qbp ?_
  refine wx tbk [] trivial ?_
  obtain ⟨k2, hk_k2, h⟩ := jko h
  refine wjn (τ := Unit) (fun t => k2 t = some r) (fun _ => ⟨mk 19 [], [(.own 1 [[Qmi]]), (Qmh p1 p2)]⟩) (fun t h => ?_) ?_
  ·subst hk_k2
   refine wx tbk [] trivial ?_
   refine wmr (mto (n := 19) (l' := [(4, (I ((-1))))]) (own' := [(.own 1 [[Qmi]]), (Qmh p1 p2)]) [(4, (I ((-1))))] [0, 1] [(.own 1 [[Qmi]]), (Qmh p1 p2)] hφ0 (pc rwl pn) (qc (spb (lc (.rn (Qar rn0 (rnc (rqr rfl) rn0))) ln)) (qc (spb (lc (.rn (.plain _ (nld Qaa _))) (lc (.rn (.plain _ (nld Qau _))) ln))) qn))) ?_
   refine Qad ?_
   obtain rfl := osi h
   exact ⟨_, Mor.rfl, Qb9 (vs := [(I ((-1)))]) ⟨rot (by kernel_rfl), trivial⟩ rfl (NLt.of0 nll) (by kernel_rfl) (Qak (Qaw (nlc (NLt.fn _ _ _ nl0 (nlc (NLt.ref _ _ _ _ (by decide)) nl0)) nl0)) (Qak (Qaw (nlc (NLt.of0 (nld Qaa _)) (nlc (NLt.of0 (nld Qau _)) nl0))) Qbi))⟩
  ·skip
   refine wx tbk [(1, rp [(.tmp 6, (Quw p0))] (I ((p0.length : Int))))] ⟨alm (c := Qcr) (l := p0) (aln rfl Try.underlying89 rfl), trivial⟩ ?_
   refine Qaf ?_
   refine wmr (mto (n := 19) (l' := [(0, (Quw p0)), (1, Qx0), (7, (I ((p0.length : Int)))), (8, I 0)]) (own' := [(.own 1 [[Qmi]]), (Qmh p1 p2)]) [(0, (Quw p0)), (1, Qx0), (7, (I ((p0.length : Int)))), (8, I 0)] [0, 1] [(.own 1 [[Qmi]]), (Qmh p1 p2)] hφ0 (pc (.rn (.plain _ (nld Qau _))) (pc (.rn (Qar rn0 (rnc (rqr rfl) rn0))) (pc rwl (pc rwl pn)))) (qc (spb (lc (.rn (Qar rn0 (rnc (rqr rfl) rn0))) ln)) (qc (spb (lc (.rn (.plain _ (nld Qaa _))) (lc (.rn (.plain _ (nld Qau _))) ln))) qn))) ?_
   refine Qbk (τ := Int) (fun n t => Qbf N p0 p1 k2 p2 n t = some r) (fun y3 => ⟨mk 19 [(0, (Quw p0)), (1, Qx0), (7, (I ((p0.length : Int)))), (8, I y3)], [(.own 1 [[Qmi]]), (Qmh p1 p2)]⟩) (fun t h => by rw [Qbf] at h; cases h) (fun n5 ih y3 h => ?_) N (0) h
   rw [Qbf] at h
   skip
   refine wx tbk [] trivial ?_
   refine wsq ?_
   rcases bft ((decide (y3 < (p0.length : Int)))) with hc6 | hc6
   ·replace h := Qas hc6 h
    refine wft hc6 (by kernel_rfl) ?_
    refine Qai ?_
    refine thn ?_
    refine wsq ?_
    refine Qaf ?_
    refine wx tbk [] trivial ?_
    obtain ⟨x7, hg8, h⟩ := bno h
    obtain ⟨hi9, hj10⟩ := gsm hg8
    obtain ⟨x12, hf11, h⟩ := bno h
    refine wx tbk [(3, rp [(.tmp 12, (Quw p0)), (.tmp 13, I y3)] (.dptr (Qcr (x7)) 0)), (5, ⟨[(.tmp 11, Qx0), (.tmp 15, (.agg [I x7.Inlet, (.dat 2 ((x7.Parts : List GPart).map Qcx))]))], [(0, .own 1 [[Qmi]]), (1, (Qmh p1 p2))], B x12, [(0, .own 1 [[Qmi]]), (1, (Qmh p1 p2))], false⟩)] ⟨aid rfl Try.underlying89 ti34 rfl rfl hi9 (mgt Qcr hj10) rfl, Qap (first := []) (cap := [.ref 0 1 0 0]) (vs := [(.agg [I x7.Inlet, (.dat 2 ((x7.Parts : List GPart).map Qcx))])]) (σr := [(.own 1 [[Qmi]]), (Qmh p1 p2)]) (σr' := [(.own 1 [[Qmi]]), (Qmh p1 p2)]) (res' := (B x12)) [0, 1] rfl enter122 (Qi5 N x7 p1 p2 _ hf11) rfl (Qb6 (rnc (.plain _ (NLt.agg _ (nlc nll (nlc (nld Qcm _) nl0)))) (rnc (Qa7 rfl) rn0))) (slc (Qal (rnc (Qar rn0 (rnc (Qa7 rfl) rn0)) rn0)) (slc (Qal (rnc (.plain _ (nld Qaa _)) (rnc (.plain _ (nld Qau _)) rn0))) Qao)) (slc (Qal (rnc (Qar rn0 (rnc (Qia rfl) rn0)) rn0)) (slc (Qal (rnc (.plain _ (nld Qaa _)) (rnc (.plain _ (nld Qau _)) rn0))) Qao)) (.plain _ nll) rfl rfl rfl, trivial⟩ ?_
    rcases bft (x12) with hc13 | hc13
    ·replace h := Qas hc13 h
     refine wft hc13 (by kernel_rfl) ?_
     refine wx tbk [] trivial ?_
     refine wmr (mto (n := 19) (l' := [(4, I y3)]) (own' := [(.own 1 [[Qmi]]), (Qmh p1 p2)]) [(4, I y3)] [0, 1] [(.own 1 [[Qmi]]), (Qmh p1 p2)] hφ0 (pc rwl pn) (qc (spb (lc (.rn (Qar rn0 (rnc (rqr rfl) rn0))) ln)) (qc (spb (lc (.rn (.plain _ (nld Qaa _))) (lc (.rn (.plain _ (nld Qau _))) ln))) qn))) ?_
     refine Qad ?_
     refine Qay ?_
     refine Qam ?_
     refine Qam ?_
     refine Qay ?_
     refine Qam ?_
     obtain rfl := osi h
     exact ⟨_, Mor.rfl, Qb9 (vs := [I y3]) ⟨rot (by kernel_rfl), trivial⟩ rfl (NLt.of0 nll) (by kernel_rfl) (Qak (Qaw (nlc (NLt.fn _ _ _ nl0 (nlc (NLt.ref _ _ _ _ (by decide)) nl0)) nl0)) (Qak (Qaw (nlc (NLt.of0 (nld Qaa _)) (nlc (NLt.of0 (nld Qau _)) nl0))) Qbi))⟩
    ·replace h := Qat hc13 h
     refine wfn hc13 (by kernel_rfl) ?_
     refine Qai ?_
     refine bln ?_
     refine thn ?_
     refine wx1 tbk [] trivial ?_
     refine thn ?_
     exact arm (mto (n := 19) [(0, (Quw p0)), (1, Qx0), (7, (I ((p0.length : Int)))), (8, (I (w64 (y3 + 1))))] [0, 1] [(.own 1 [[Qmi]]), (Qmh p1 p2)] hφ0 (pc (.rn (.plain _ (nld Qau _))) (pc (.rn (Qar rn0 (rnc (rqr rfl) rn0))) (pc rwl (pc rwl pn)))) (qc (spb (lc (.rn (Qar rn0 (rnc (rqr rfl) rn0))) ln)) (qc (spb (lc (.rn (.plain _ (nld Qaa _))) (lc (.rn (.plain _ (nld Qau _))) ln))) qn))) (ih (w64 (y3 + 1)) h)
   ·replace h := Qat hc6 h
    refine wfn hc6 (by kernel_rfl) ?_
    refine Qa2 ?_
    refine Qaq ?_
    refine Qaq ?_
    refine Qa1 rfl ?_
    refine thn ?_
    exact ⟨(), h, (mto (n := 19) [] [0, 1] [(.own 1 [[Qmi]]), (Qmh p1 p2)] hφ0 pn (qc (spb (lc (.rn (Qar rn0 (rnc (rqr rfl) rn0))) ln)) (qc (spb (lc (.rn (.plain _ (nld Qaa _))) (lc (.rn (.plain _ (nld Qau _))) ln))) qn)))⟩
def Qcp (N : Nat) (p0 : (List GUnit)) (p1 : (List Int)) (p2 : (List GUnit)) : Option Bool :=
  (Qc1 N p0 p1 p2).bind fun x3 =>
  some (decide (x3 ≥ 0))
def z45_0 (p0 : (List GUnit)) : AV := .dat 2 ((p0 : List GUnit).map Qcr)
def z45_1 : AV := .fn (.func 122) [] [(.ref 0 1 (0) 0)]
def Qs4 : AV := .fn (.func 104) [] [(.ref 1 2 (0) 0)]
def Qs3 (p1 : (List Int)) (p2 : (List GUnit)) : Slot := .own 2 [[(.dat 1 ((p1 : List Int).map Qab)), (.dat 2 ((p2 : List GUnit).map Qcr))]]
set_option maxRecDepth 100000 in
set_option maxHeartbeats 4000000 in
theorem Qfg (N : Nat) (p0 : (List GUnit)) (p1 : (List Int)) (p2 : (List GUnit)) (r : Bool) (h : Qcp N p0 p1 p2 = some r) : Spec Try.prog 121 [(z45_0 p0), z45_1] [(.own 1 [[Qs4]]), (Qs3 p1 p2)] (B (r)) [(.own 1 [[Qs4]]), (Qs3 p1 p2)] := by
  refine Qae Try.func121 rfl 2 (nle rfl) (fun X φ0 w0 hφ0 => ?_)
  unfold Qcp at h
  refine Qbp ?_
  refine wx tbk [] trivial ?_
  obtain ⟨x3, hf2, h⟩ := bno h
  refine wx tbk [(2, ⟨[fu 132, (.tmp 5, (z45_0 p0)), (.tmp 6, z45_1)], [(0, .own 1 [[Qs4]]), (1, (Qs3 p1 p2))], I x3, [(0, .own 1 [[Qs4]]), (1, (Qs3 p1 p2))], false⟩)] ⟨Qap (first := []) (cap := []) (vs := [(z45_0 p0), z45_1]) (σr := [(.own 1 [[Qs4]]), (Qs3 p1 p2)]) (σr' := [(.own 1 [[Qs4]]), (Qs3 p1 p2)]) (res' := (I x3)) [0, 1] rfl enter132 (Qfw N p0 p1 p2 _ hf2) rfl (Qb6 (rnc (.plain _ (nld Qau _)) (rnc (Qar rn0 (rnc (Qa7 rfl) rn0)) rn0))) (slc (Qal (rnc (Qar rn0 (rnc (Qa7 rfl) rn0)) rn0)) (slc (Qal (rnc (.plain _ (nld Qaa _)) (rnc (.plain _ (nld Qau _)) rn0))) Qao)) (slc (Qal (rnc (Qar rn0 (rnc (Qia rfl) rn0)) rn0)) (slc (Qal (rnc (.plain _ (nld Qaa _)) (rnc (.plain _ (nld Qau _)) rn0))) Qao)) (.plain _ nll) rfl rfl rfl, trivial⟩ ?_
  refine wmr (mto (n := 9) (l' := [(4, (B ((decide (x3 ≥ 0)))))]) (own' := [(.own 1 [[Qs4]]), (Qs3 p1 p2)]) [(4, (B ((decide (x3 ≥ 0)))))] [0, 1] [(.own 1 [[Qs4]]), (Qs3 p1 p2)] hφ0 (pc rwl pn) (qc (spb (lc (.rn (Qar rn0 (rnc (rqr rfl) rn0))) ln)) (qc (spb (lc (.rn (.plain _ (nld Qaa _))) (lc (.rn (.plain _ (nld Qau _))) ln))) qn))) ?_
  refine Qad ?_
  obtain rfl := osi h
  exact ⟨_, Mor.rfl, Qb9 (vs := [(B ((decide (x3 ≥ 0))))]) ⟨rot (by kernel_rfl), trivial⟩ rfl (NLt.of0 nll) (by kernel_rfl) (Qak (Qaw (nlc (NLt.fn _ _ _ nl0 (nlc (NLt.ref _ _ _ _ (by decide)) nl0)) nl0)) (Qak (Qaw (nlc (NLt.of0 (nld Qaa _)) (nlc (NLt.of0 (nld Qau _)) nl0))) Qbi))⟩
def Qf3 (N : Nat) (p0 : (List GUnit)) (p1 : (List Int)) (p2 : (List GUnit)) : Option Bool :=
  (Qcp N p0 p1 p2).bind fun x3 =>
  some (!x3)
def z44_1 (p0 : (List GUnit)) : AV := .dat 2 ((p0 : List GUnit).map Qcr)
def z44_0 : AV := .fn (.func 104) [] [(.ref 0 2 (0) 0)]
def Qs5 (p1 : (List Int)) (p2 : (List GUnit)) : Slot := .own 2 [[(.dat 1 ((p1 : List Int).map Qab)), (.dat 2 ((p2 : List GUnit).map Qcr))]]
def z44_2 : AV := .fn (.func 122) [] [(.ref 1 1 (0) 0)]
set_option maxRecDepth 100000 in
set_option maxHeartbeats 4000000 in
theorem Qjt (N : Nat) (p0 : (List GUnit)) (p1 : (List Int)) (p2 : (List GUnit)) (r : Bool) (h : Qf3 N p0 p1 p2 = some r) : Spec Try.prog 103 [(z44_1 p0), z44_0] [(Qs5 p1 p2)] (B (r)) [(Qs5 p1 p2)] := by
  refine Qae Try.func103 rfl 1 (nle rfl) (fun X φ0 w0 hφ0 => ?_)
  unfold Qf3 at h
  refine Qbp ?_
  refine wx tbk [] trivial ?_
  obtain ⟨x3, hf2, h⟩ := bno h
  refine wx tbk [(1, rp [(.tmp 3, .ref 1 1 0 0)] z44_2), (2, ⟨[fu 121, (.tmp 5, (z44_1 p0)), (.tmp 6, z44_2)], [(1, .own 1 [[z44_0]]), (0, (Qs5 p1 p2))], B x3, [(1, .own 1 [[z44_0]]), (0, (Qs5 p1 p2))], false⟩)] ⟨Qej (fs := []) (cs := [.ref 1 1 0 0]) rfl rfl rfl rfl, Qap (first := []) (cap := []) (vs := [(z44_1 p0), z44_2]) (σr := [(.own 1 [[z44_0]]), (Qs5 p1 p2)]) (σr' := [(.own 1 [[z44_0]]), (Qs5 p1 p2)]) (res' := (B x3)) [1, 0] rfl enter121 (Qfg N p0 p1 p2 _ hf2) rfl (Qb6 (rnc (.plain _ (nld Qau _)) (rnc (Qar rn0 (rnc (Qa7 rfl) rn0)) rn0))) (slc (Qal (rnc (Qar rn0 (rnc (Qa7 rfl) rn0)) rn0)) (slc (Qal (rnc (.plain _ (nld Qaa _)) (rnc (.plain _ (nld Qau _)) rn0))) Qao)) (slc (Qal (rnc (Qar rn0 (rnc (Qia rfl) rn0)) rn0)) (slc (Qal (rnc (.plain _ (nld Qaa _)) (rnc (.plain _ (nld Qau _)) rn0))) Qao)) (.plain _ nll) rfl rfl rfl, trivial⟩ ?_
  refine wmr (mto (n := 9) (l' := [(4, (B ((!x3))))]) (own' := [(Qs5 p1 p2)]) [(4, (B ((!x3))))] [0] [(Qs5 p1 p2)] hφ0 (pc rwl pn) (qc (spb (lc (.rn (.plain _ (nld Qaa _))) (lc (.rn (.plain _ (nld Qau _))) ln))) qn)) ?_
  refine Qad ?_
  obtain rfl := osi h
  exact ⟨_, Mor.rfl, Qb9 (vs := [(B ((!x3)))]) ⟨rot (by kernel_rfl), trivial⟩ rfl (NLt.of0 nll) (by kernel_rfl) (Qak (Qaw (nlc (NLt.of0 (nld Qaa _)) (nlc (NLt.of0 (nld Qau _)) nl0))) Qbi)⟩
def Qhc (N : Nat) (p0 : GShared) : Option Bool :=
  (Qbh N (p0.heads.length : Int) 1 6).bind fun x2 =>
  bif x2 then
   (Qiw N p0.heads).bind fun x5 =>
   bif x5 then
    (Qbh N (p0.units.length : Int) 1 10).bind fun x8 =>
    bif x8 then
     (Qf3 N p0.units p0.heads p0.units).bind fun x11 =>
     some x11
    else
     some false
   else
    some false
  else
   some false
def Qo5 (p0 : GShared) : AV := .dat 1 ((p0.heads : List Int).map Qab)
def z38_1 (p0 : GShared) : AV := .dat 2 ((p0.units : List GUnit).map Qcr)
def z38_4 : AV := .fn (.func 104) [] [(.ref 0 2 (0) 0)]
def z38_2 (p0 : GShared) : Slot := .own 2 [[(Qo5 p0), (z38_1 p0)]]
set_option maxRecDepth 100000 in
set_option maxHeartbeats 4000000 in
theorem Qk6 (N : Nat) (p0 : GShared) (r : Bool) (h : Qhc N p0 = some r) : Spec Try.prog 80 [(.agg (Qp5 p0))] [] (B r) [] := by
  refine Qae Try.func80 rfl 0 (nle rfl) (fun X φ0 w0 hφ0 => ?_)
  unfold Qhc at h
  refine wx tbk [] trivial ?_
  obtain ⟨x2, hf1, h⟩ := bno h
  rcases bft (x2) with hb3 | hb3
  ·replace h := Qas hb3 h
   obtain ⟨x5, hf4, h⟩ := bno h
   rcases bft (x5) with hb6 | hb6
   ·replace h := Qas hb6 h
    obtain ⟨x8, hf7, h⟩ := bno h
    rcases bft (x8) with hb9 | hb9
    ·replace h := Qas hb9 h
     obtain ⟨x11, hf10, h⟩ := bno h
     refine wx tbk [(2, rp [(.tmp 4, (Qo5 p0))] (I ((p0.heads.length : Int)))), (3, rp [fu 65, (.tmp 5, (I ((p0.heads.length : Int)))), ci 1, ci 6] (B x2)), (4, rp [(.tmp 6, B x2)] (B true)), (7, rp [(.tmp 7, B true), fu 89, (.tmp 9, (Qo5 p0)), fu 102] (B x5)), (9, rp [(.tmp 11, B x5)] (B true)), (12, rp [(.tmp 12, B true), (.tmp 14, (z38_1 p0))] (I ((p0.units.length : Int)))), (13, rp [(.tmp 12, B true), fu 65, (.tmp 15, (I ((p0.units.length : Int)))), ci 1, ci 10] (B x8)), (15, rp [(.tmp 17, B x8)] (B true)), (18, rp [(.tmp 18, B true), (.tmp 1, .ref 0 2 0 0)] z38_4), (19, ⟨[(.tmp 18, B true), fu 103, (.tmp 20, (z38_1 p0)), (.tmp 21, z38_4)], [(0, (z38_2 p0))], B x11, [(0, (z38_2 p0))], false⟩)] ⟨alm (c := Qab) (l := p0.heads) (aln rfl Try.underlying37 rfl), apc (first := []) (cap := []) (vs := [(I ((p0.heads.length : Int))), I 1, I 6]) rfl Qbu (Qah N (p0.heads.length : Int) 1 6 _ hf1) rfl rfl (nlc nll (nlc nll (nlc nll nl0))) nll rfl, asb hb3 (amv rfl), ag_ (Qap (first := []) (cap := []) (vs := [(Qo5 p0), (.fn (.func 102) [] [])]) (σr := []) (σr' := []) (res' := (B x5)) [] rfl Qj6 (Qhd N p0.heads _ hf4) rfl (Qb6 (rnc (.plain _ (nld Qaa _)) (rnc (.plain _ (NLt.fn _ _ _ nl0 nl0)) rn0))) Qao Qao (.plain _ nll) rfl rfl rfl), asb hb6 (amv rfl), ag_ (alm (c := Qcr) (l := p0.units) (aln rfl Try.underlying89 rfl)), ag_ (apc (first := []) (cap := []) (vs := [(I ((p0.units.length : Int))), I 1, I 10]) rfl Qbu (Qah N (p0.units.length : Int) 1 10 _ hf7) rfl rfl (nlc nll (nlc nll (nlc nll nl0))) nll rfl), asb hb9 (amv rfl), ag_ (Qej (fs := []) (cs := [.ref 0 2 0 0]) rfl rfl rfl rfl), ag_ (Qap (first := []) (cap := []) (vs := [(z38_1 p0), z38_4]) (σr := [(z38_2 p0)]) (σr' := [(z38_2 p0)]) (res' := (B x11)) [0] rfl enter103 (Qjt N p0.units p0.heads p0.units _ hf10) rfl (Qb6 (rnc (.plain _ (nld Qau _)) (rnc (Qar rn0 (rnc (Qa7 rfl) rn0)) rn0))) (slc (Qal (rnc (.plain _ (nld Qaa _)) (rnc (.plain _ (nld Qau _)) rn0))) Qao) (slc (Qal (rnc (.plain _ (nld Qaa _)) (rnc (.plain _ (nld Qau _)) rn0))) Qao) (.plain _ nll) rfl rfl rfl), trivial⟩ ?_
     refine Qad ?_
     obtain rfl := osi h
     exact fend ⟨[B x11], ⟨rot (by kernel_rfl), trivial⟩, rfl⟩ nll
    ·replace h := Qat hb9 h
     refine wx tbk [(2, rp [(.tmp 4, (Qo5 p0))] (I ((p0.heads.length : Int)))), (3, rp [fu 65, (.tmp 5, (I ((p0.heads.length : Int)))), ci 1, ci 6] (B x2)), (4, rp [(.tmp 6, B x2)] (B true)), (7, rp [(.tmp 7, B true), fu 89, (.tmp 9, (Qo5 p0)), fu 102] (B x5)), (9, rp [(.tmp 11, B x5)] (B true)), (12, rp [(.tmp 12, B true), (.tmp 14, (z38_1 p0))] (I ((p0.units.length : Int)))), (13, rp [(.tmp 12, B true), fu 65, (.tmp 15, (I ((p0.units.length : Int)))), ci 1, ci 10] (B x8)), (15, rp [(.tmp 17, B x8)] (B false))] ⟨alm (c := Qab) (l := p0.heads) (aln rfl Try.underlying37 rfl), apc (first := []) (cap := []) (vs := [(I ((p0.heads.length : Int))), I 1, I 6]) rfl Qbu (Qah N (p0.heads.length : Int) 1 6 _ hf1) rfl rfl (nlc nll (nlc nll (nlc nll nl0))) nll rfl, asb hb3 (amv rfl), ag_ (Qap (first := []) (cap := []) (vs := [(Qo5 p0), (.fn (.func 102) [] [])]) (σr := []) (σr' := []) (res' := (B x5)) [] rfl Qj6 (Qhd N p0.heads _ hf4) rfl (Qb6 (rnc (.plain _ (nld Qaa _)) (rnc (.plain _ (NLt.fn _ _ _ nl0 nl0)) rn0))) Qao Qao (.plain _ nll) rfl rfl rfl), asb hb6 (amv rfl), ag_ (alm (c := Qcr) (l := p0.units) (aln rfl Try.underlying89 rfl)), ag_ (apc (first := []) (cap := []) (vs := [(I ((p0.units.length : Int))), I 1, I 10]) rfl Qbu (Qah N (p0.units.length : Int) 1 10 _ hf7) rfl rfl (nlc nll (nlc nll (nlc nll nl0))) nll rfl), asb hb9 (amv rfl), trivial⟩ ?_
     refine Qad ?_
     obtain rfl := osi h
     exact fend ⟨[B false], ⟨rot (by kernel_rfl), trivial⟩, rfl⟩ nll
   ·replace h := Qat hb6 h
    refine wx tbk [(2, rp [(.tmp 4, (Qo5 p0))] (I ((p0.heads.length : Int)))), (3, rp [fu 65, (.tmp 5, (I ((p0.heads.length : Int)))), ci 1, ci 6] (B x2)), (4, rp [(.tmp 6, B x2)] (B true)), (7, rp [(.tmp 7, B true), fu 89, (.tmp 9, (Qo5 p0)), fu 102] (B x5)), (9, rp [(.tmp 11, B x5)] (B false))] ⟨alm (c := Qab) (l := p0.heads) (aln rfl Try.underlying37 rfl), apc (first := []) (cap := []) (vs := [(I ((p0.heads.length : Int))), I 1, I 6]) rfl Qbu (Qah N (p0.heads.length : Int) 1 6 _ hf1) rfl rfl (nlc nll (nlc nll (nlc nll nl0))) nll rfl, asb hb3 (amv rfl), ag_ (Qap (first := []) (cap := []) (vs := [(Qo5 p0), (.fn (.func 102) [] [])]) (σr := []) (σr' := []) (res' := (B x5)) [] rfl Qj6 (Qhd N p0.heads _ hf4) rfl (Qb6 (rnc (.plain _ (nld Qaa _)) (rnc (.plain _ (NLt.fn _ _ _ nl0 nl0)) rn0))) Qao Qao (.plain _ nll) rfl rfl rfl), asb hb6 (amv rfl), trivial⟩ ?_
    refine Qad ?_
    obtain rfl := osi h
    exact fend ⟨[B false], ⟨rot (by kernel_rfl), trivial⟩, rfl⟩ nll
  ·replace h := Qat hb3 h
   refine wx tbk [(2, rp [(.tmp 4, (Qo5 p0))] (I ((p0.heads.length : Int)))), (3, rp [fu 65, (.tmp 5, (I ((p0.heads.length : Int)))), ci 1, ci 6] (B x2)), (4, rp [(.tmp 6, B x2)] (B false))] ⟨alm (c := Qab) (l := p0.heads) (aln rfl Try.underlying37 rfl), apc (first := []) (cap := []) (vs := [(I ((p0.heads.length : Int))), I 1, I 6]) rfl Qbu (Qah N (p0.heads.length : Int) 1 6 _ hf1) rfl rfl (nlc nll (nlc nll (nlc nll nl0))) nll rfl, asb hb3 (amv rfl), trivial⟩ ?_
   refine Qad ?_
   obtain rfl := osi h
   exact fend ⟨[B false], ⟨rot (by kernel_rfl), trivial⟩, rfl⟩ nll
def Qdv (N : Nat) (p0 : GShared) (p1 : (List Int)) (k2 : Int → Option Int) : Nat → Int → Int → Option Int
  | 0, _, _ => none
  | n7 + 1, y3, y4 =>
    bif (decide (y4 < (p1.length : Int))) then
     (getI p1 y4).bind fun x9 =>
     (getI p0.units y4).bind fun x13 =>
     (Qgv N x13 x9).bind fun x18 =>
     Qdv N p0 p1 k2 n7 (w64 (y3 + x18)) (w64 (y4 + 1))
    else
     k2 (y3)
def Qht (N : Nat) (p0 : GShared) (p1 : (List Int)) : Option Int :=
  Qb0 (fun y1 =>
    some y1) fun k2 : Int → Option Int =>
  Qdv N p0 p1 k2 N 0 0
def Qxy (p1 : (List Int)) : AV := .dat 1 ((p1 : List Int).map Qab)
def z49_1 (p0 : GShared) : AV := .dat 2 ((p0.units : List GUnit).map Qcr)
def z49_2 (p0 : GShared) : Slot := .own 2 [[(.dat 1 ((p0.heads : List Int).map Qab)), (z49_1 p0)]]
set_option maxRecDepth 100000 in
set_option maxHeartbeats 4000000 in
theorem Qlm (N : Nat) (p0 : GShared) (p1 : (List Int)) (r : Int) (h : Qht N p0 p1 = some r) : Spec Try.prog 82 [(.agg (Qp5 p0)), (.dat 1 (p1.map Qab))] [] (I r) [] := by
  refine Qae Try.func82 rfl 0 (nle rfl) (fun X φ0 w0 hφ0 => ?_)
  unfold Qht at h
  refine wx tbk [] trivial ?_
  obtain ⟨k2, hk_k2, h⟩ := jko h
  refine wjn (τ := Int) (fun t => k2 t = some r) (fun y1 => ⟨mk 25 [(4, I y1)], []⟩) (fun y1 h => ?_) ?_
  ·subst hk_k2
   refine wx tbk [] trivial ?_
   refine Qad ?_
   obtain rfl := osi h
   exact fend ⟨[I y1], ⟨rot (by kernel_rfl), trivial⟩, rfl⟩ nll
  ·skip
   refine wx tbk [(1, rp [(.tmp 7, (Qxy p1))] (I ((p1.length : Int))))] ⟨alm (c := Qab) (l := p1) (aln rfl Try.underlying37 rfl), trivial⟩ ?_
   refine Qaf ?_
   refine wmr (mto (n := 25) (l' := [(2, .ref 0 2 0 0), (4, I 0), (7, (Qxy p1)), (8, (I ((p1.length : Int)))), (9, I 0)]) (own' := [(z49_2 p0)]) [(2, .ref 0 2 0 0), (4, I 0), (7, (Qxy p1)), (8, (I ((p1.length : Int)))), (9, I 0)] [0] [(z49_2 p0)] hφ0 (pc (.rn (rqr rfl)) (pc rwl (pc (.rn (.plain _ (nld Qaa _))) (pc rwl (pc rwl pn))))) (qc (spb (lc (.rn (.plain _ (nld Qaa _))) (lc (.rn (.plain _ (nld Qau _))) ln))) qn)) ?_
   refine Qbk (τ := Int × Int) (fun n t => Qdv N p0 p1 k2 n t.1 t.2 = some r) (fun ⟨y3, y4⟩ => ⟨mk 25 [(2, .ref 0 2 0 0), (4, I y3), (7, (Qxy p1)), (8, (I ((p1.length : Int)))), (9, I y4)], [(z49_2 p0)]⟩) (fun t h => by rw [Qdv] at h; cases h) (fun n7 ih t h => ?_) N (0, 0) h
   obtain ⟨y3, y4⟩ := t
   rw [Qdv] at h
   skip
   refine wx tbk [] trivial ?_
   refine wsq ?_
   rcases bft ((decide (y4 < (p1.length : Int)))) with hc8 | hc8
   ·replace h := Qas hc8 h
    refine wft hc8 (by kernel_rfl) ?_
    refine Qai ?_
    refine thn ?_
    refine wsq ?_
    refine Qaf ?_
    obtain ⟨x9, hg10, h⟩ := bno h
    obtain ⟨hi11, hj12⟩ := gsm hg10
    refine wx tbk [(1, rp [(.tmp 7, (Qxy p1)), (.tmp 9, I y4)] (.dptr (Qab (x9)) 0))] ⟨aid rfl Try.underlying37 ti3 rfl rfl hi11 (mgt Qab hj12) rfl, trivial⟩ ?_
    obtain ⟨x13, hg14, h⟩ := bno h
    obtain ⟨hi15, hj16⟩ := gsm hg14
    obtain ⟨x18, hf17, h⟩ := bno h
    refine wx1 tbk [(4, rp [(.tmp 16, (z49_1 p0)), (.tmp 17, I y4)] (.dptr (Qcr (x13)) 0)), (7, rp [fu 67, (.tmp 19, (.agg [I x13.Inlet, (.dat 2 ((x13.Parts : List GPart).map Qcx))])), (.tmp 20, I x9)] (I x18))] ⟨aid rfl Try.underlying89 ti34 rfl rfl hi15 (mgt Qcr hj16) rfl, apc (first := []) (cap := []) (vs := [(.agg [I x13.Inlet, (.dat 2 ((x13.Parts : List GPart).map Qcx))]), I x9]) rfl enter67 (Qi1 N x13 x9 _ hf17) rfl rfl (nlc (NLt.agg _ (nlc nll (nlc (nld Qcm _) nl0))) (nlc nll nl0)) nll rfl, trivial⟩ ?_
    refine bln ?_
    refine thn ?_
    refine wx1 tbk [] trivial ?_
    refine thn ?_
    exact arm (mto (n := 25) [(2, .ref 0 2 0 0), (4, (I (w64 (y3 + x18)))), (7, (Qxy p1)), (8, (I ((p1.length : Int)))), (9, (I (w64 (y4 + 1))))] [0] [(z49_2 p0)] hφ0 (pc (.rn (rqr rfl)) (pc rwl (pc (.rn (.plain _ (nld Qaa _))) (pc rwl (pc rwl pn))))) (qc (spb (lc (.rn (.plain _ (nld Qaa _))) (lc (.rn (.plain _ (nld Qau _))) ln))) qn)) (ih (w64 (y3 + x18), w64 (y4 + 1)) h)
   ·replace h := Qat hc8 h
    refine wfn hc8 (by kernel_rfl) ?_
    refine Qa2 ?_
    refine Qaq ?_
    refine Qaq ?_
    refine Qa1 rfl ?_
    refine thn ?_
    exact ⟨(y3), h, (mto (n := 25) [(4, I y3)] [] [] hφ0 (pc rwl pn) qn)⟩
def Qfe (N : Nat) (p0 : (List Int)) (y7 : (List Int)) (k10 : (List Int) → Option ((List Int) × Int × (List Int) × Int)) : Nat → (List Int) → Int → Int → Option ((List Int) × Int × (List Int) × Int)
  | 0, _, _, _ => none
  | n19 + 1, y13, y14, y15 =>
    bif (decide (y15 < (((p0.length : Int).toNat : Nat) : Int))) then
     chk (decide (0 ≤ y15) && decide (y15.toNat < (p0.length : Int).toNat)) <|
     (y7[y15.toNat]?).bind fun x22 =>
     chk (decide ((y13.length + ([w64 (x22 - y14)]).length) * 8 ≤ 140737488355328)) <|
     Qfe N p0 y7 k10 n19 (y13 ++ ([w64 (x22 - y14)])) x22 (w64 (y15 + 1))
    else
     k10 (y13)
def Qfc (N : Nat) (p0 : (List Int)) (k32 : (List Int) → Option ((List Int) × Int × (List Int) × Int)) (x37 : Int) : Nat → Int → (List Int) → Option ((List Int) × Int × (List Int) × Int)
  | 0, _, _ => none
  | n48 + 1, y44, y45 =>
    bif (decide (y44 < (((p0.length : Int).toNat : Nat) : Int))) then
     chk (decide (0 ≤ y44) && decide (y44.toNat < (p0.length : Int).toNat)) <|
     (y45[y44.toNat]?).bind fun x51 =>
     chk (decide (0 ≤ y44) && decide (y44.toNat < (p0.length : Int).toNat)) <|
     (y45[y44.toNat]?).bind fun _ =>
     Qfc N p0 k32 x37 n48 (w64 (y44 + 1)) (y45.set y44.toNat (if x37 > x51 then x37 else x51))
    else
     k32 (y45)
def Qfb (N : Nat) (x5 : ((List Int) × (List Int) × (List Int))) (k43 : Int → Option ((List Int) × Int × (List Int) × Int)) : Nat → Int → Option ((List Int) × Int × (List Int) × Int)
  | 0, _ => none
  | n58 + 1, y56 =>
    (getI x5.2.1 y56).bind fun x59 =>
    bif (decide (x59 > 0)) then
     Qfb N x5 k43 n58 (w64 (y56 - 1))
    else
     k43 (y56)
def Qfd (N : Nat) (p0 : (List Int)) (p1 : (List GUnit)) (x5 : ((List Int) × (List Int) × (List Int))) (k8 : (List Int) → Option ((List Int) × Int × (List Int) × Int)) : Nat → Int → (List Int) → Option ((List Int) × Int × (List Int) × Int)
  | 0, _, _ => none
  | n29 + 1, y25, y26 =>
    bif (decide (y25 < (p1.length : Int))) then
     Qb0 (fun y31 =>
       Qfd N p0 p1 x5 k8 n29 (w64 (y25 + 1)) y31) fun k32 : (List Int) → Option ((List Int) × Int × (List Int) × Int) =>
     (getI p1 y25).bind fun x33 =>
     (getI x5.2.2 y25).bind fun x37 =>
     bif (decide (x37 ≤ 0)) then
      k32 (y26)
     else
      Qb0 (fun y42 =>
        Qfc N p0 k32 x37 N y42 y26) fun k43 : Int → Option ((List Int) × Int × (List Int) × Int) =>
      Qfb N x5 k43 N x33.Inlet
    else
     k8 (y26)
def Qlu (N : Nat) (p0 : (List Int)) (p1 : (List GUnit)) : Option ((List Int) × Int × (List Int) × Int) :=
  (Qhc N (⟨p0, p1⟩ : GShared)).bind fun x2 =>
  bif (!x2) then
   some ([], 0, [], 1)
  else
   (Qhv N (⟨p0, p1⟩ : GShared)).bind fun x5 =>
   chk (decide (0 ≤ (p0.length : Int)) && decide (8 * (p0.length : Int) ≤ 281474976710656) && decide ((p0.length : Int) ≤ 9223372036854775807)) <|
   Qb0 (fun y7 =>
     Qb0 (fun y9 =>
       (Qht N (⟨p0, p1⟩ : GShared) x5.1).bind fun x12 =>
       some (x5.1, x12, y9, 0)) fun k10 : (List Int) → Option ((List Int) × Int × (List Int) × Int) =>
     Qfe N p0 y7 k10 N ([]) 0 0) fun k8 : (List Int) → Option ((List Int) × Int × (List Int) × Int) =>
   Qfd N p0 p1 x5 k8 N 0 (List.replicate (p0.length : Int).toNat 0)
def z37_0 (p0 : (List Int)) : AV := .dat 1 ((p0 : List Int).map Qab)
def Qjc (p1 : (List GUnit)) : AV := .dat 2 ((p1 : List GUnit).map Qcr)
def Quy (p0 : (List Int)) (p1 : (List GUnit)) : AV := .agg [(z37_0 p0), (Qjc p1)]
def z37_117 : AV := .dat 1 (([] : List Int).map Qab)
def Qhm (x5 : ((List Int) × (List Int) × (List Int))) : AV := .dat 1 ((x5.1 : List Int).map Qab)
def Qkk (x5 : ((List Int) × (List Int) × (List Int))) : AV := .dat 1 ((x5.2.1 : List Int).map Qab)
def Qj8 (x5 : ((List Int) × (List Int) × (List Int))) : AV := .dat 1 ((x5.2.2 : List Int).map Qab)
def z37_7 (p0 : (List Int)) : Slot := .own 1 ((List.replicate (p0.length : Int).toNat 0 : List Int).map Qab)
def Qiq (p0 : (List Int)) (p1 : (List GUnit)) : Slot := .own 2 [[(z37_0 p0), (Qjc p1)]]
def Qo6 (y7 : (List Int)) : Slot := .own 1 ((y7 : List Int).map Qab)
def z37_67 (y13 : (List Int)) : AV := .acc 0 3 1 ((y13 : List Int).map Qab)
def Qld (y26 : (List Int)) : Slot := .own 1 ((y26 : List Int).map Qab)
def Qnu (y45 : (List Int)) : Slot := .own 1 ((y45 : List Int).map Qab)
set_option maxRecDepth 100000 in
set_option maxHeartbeats 4000000 in
theorem Qpr (N : Nat) (p0 : (List Int)) (p1 : (List GUnit)) (r : ((List Int) × Int × (List Int) × Int)) (h : Qlu N p0 p1 = some r) : Spec Try.prog 44 [(.dat 1 (p0.map Qab)), (.dat 2 (p1.map Qcr))] [] (.tup [(.dat 1 (r.1.map Qab)), (I r.2.1), (.dat 1 (r.2.2.1.map Qab)), (I r.2.2.2)]) [] := by
  refine Qae Try.func44 rfl 0 (nle rfl) (fun X φ0 w0 hφ0 => ?_)
  unfold Qlu at h
  refine wx tbk [] trivial ?_
  refine wx tbk [(2, rp [(.tmp 18, (z37_0 p0)), (.tmp 19, (Qjc p1))] (Quy p0 p1))] ⟨Qbt (vs := [(z37_0 p0), (Qjc p1)]) rfl ts133 tz133 rfl (by rfl) rfl, trivial⟩ ?_
  refine wsq ?_
  obtain ⟨x2, hf1, h⟩ := bno h
  refine wx tbk [(1, rp [fu 80, (.tmp 21, (Quy p0 p1))] (B x2))] ⟨apc (first := []) (cap := []) (vs := [(Quy p0 p1)]) rfl enter80 (Qk6 N (⟨p0, p1⟩ : GShared) _ hf1) rfl rfl (nlc (NLt.agg _ (nlc (nld Qaa _) (nlc (nld Qau _) nl0))) nl0) nll rfl, trivial⟩ ?_
  rcases bft ((!x2)) with hc3 | hc3
  ·replace h := Qas hc3 h
   refine wft hc3 (by kernel_rfl) ?_
   refine wx tbk [] trivial ?_
   refine Qad ?_
   refine Qam ?_
   obtain rfl := osi h
   exact fend ⟨[z37_117, I 0, z37_117, I 1], ⟨Qga (v := nilS) (rot (by kernel_rfl)) Less.nil, rot (by kernel_rfl), Qga (v := nilS) (rot (by kernel_rfl)) Less.nil, rot (by kernel_rfl), trivial⟩, rfl⟩ (NLt.tup _ (nlc (nld Qaa _) (nlc nll (nlc (nld Qaa _) (nlc nll nl0)))))
  ·replace h := Qat hc3 h
   refine wfn hc3 (by kernel_rfl) ?_
   refine Qai ?_
   refine thn ?_
   obtain ⟨x5, hf4, h⟩ := bno h
   refine wx tbk [(1, rp [fu 81, (.tmp 25, (Quy p0 p1))] (.tup [(Qhm x5), (Qkk x5), (Qj8 x5)]))] ⟨apc (first := []) (cap := []) (vs := [(Quy p0 p1)]) rfl enter81 (Qln N (⟨p0, p1⟩ : GShared) _ hf4) rfl rfl (nlc (NLt.agg _ (nlc (nld Qaa _) (nlc (nld Qau _) nl0))) nl0) (NLt.tup _ (nlc (nld Qaa _) (nlc (nld Qaa _) (nlc (nld Qaa _) nl0)))) rfl, trivial⟩ ?_
   obtain ⟨hm6, h⟩ := cko h
   refine wx tbk [(1, rp [(.tmp 30, (z37_0 p0))] (I ((p0.length : Int)))), (2, ⟨[(.tmp 31, (I ((p0.length : Int)))), (.tmp 31, (I ((p0.length : Int))))], [(1, .unused)], (.own 1 1 (0) ((p0.length : Int).toNat)), [(1, (z37_7 p0))], false⟩)] ⟨alm (c := Qab) (l := p0) (aln rfl Try.underlying37 rfl), Qgx rfl Try.underlying37 te3 tz3 rfl (Qql hm6) rfl (Qqk hm6) (Qnq hm6) (Qn7 Qab rfl), trivial⟩ ?_
   obtain ⟨k8, hk_k8, h⟩ := jko h
   refine wjn (τ := (List Int)) (fun t => k8 t = some r) (fun y7 => ⟨mk 92 [(4, (Qhm x5)), (6, nilS), (8, .ref 0 2 0 0), (11, (.own 1 1 (0) ((p0.length : Int).toNat)))], [(Qiq p0 p1), (Qo6 y7)]⟩) (fun y7 h => ?_) ?_
   ·subst hk_k8
    refine wx tbk [] trivial ?_
    obtain ⟨k10, hk_k10, h⟩ := jko h
    refine wjn (τ := (List Int)) (fun t => k10 t = some r) (fun y9 => ⟨mk 92 [(4, (Qhm x5)), (6, (.acc 0 3 1 ((y9 : List Int).map Qab))), (8, .ref 1 2 0 0)], [.tok, (Qiq p0 p1)]⟩) (fun y9 h => ?_) ?_
    ·subst hk_k10
     obtain ⟨x12, hf11, h⟩ := bno h
     refine wx tbk [(3, rp [fu 82, (.tmp 88, (Quy p0 p1)), (.tmp 89, (Qhm x5))] (I x12))] ⟨apc (first := []) (cap := []) (vs := [(Quy p0 p1), (Qhm x5)]) rfl enter82 (Qlm N (⟨p0, p1⟩ : GShared) x5.1 _ hf11) rfl rfl (nlc (NLt.agg _ (nlc (nld Qaa _) (nlc (nld Qau _) nl0))) (nlc (nld Qaa _) nl0)) nll rfl, trivial⟩ ?_
     refine Qad ?_
     obtain rfl := osi h
     exact fend ⟨[(Qhm x5), I x12, (.dat 1 ((y9 : List Int).map Qab)), I 0], ⟨rot (by kernel_rfl), rot (by kernel_rfl), Qga (v := (.acc 0 3 1 ((y9 : List Int).map Qab))) (rot (by kernel_rfl)) Less.acc, rot (by kernel_rfl), trivial⟩, rfl⟩ (NLt.tup _ (nlc (nld Qaa _) (nlc nll (nlc (nld Qaa _) (nlc nll nl0)))))
    ·skip
     refine wx tbk [(1, rp [(.tmp 73, (.own 1 1 (0) ((p0.length : Int).toNat)))] (I ((((p0.length : Int).toNat : Nat) : Int))))] ⟨aln rfl Try.underlying37 rfl, trivial⟩ ?_
     refine Qaf ?_
     refine wmr (Mor.trans (Qr1 2 3 1 6 (by kernel_rfl) (by kernel_rfl)) (mto (n := 92) (l' := [(4, (Qhm x5)), (6, (.acc 0 3 1 ((([]) : List Int).map Qab))), (8, .ref 1 2 0 0), (15, I 0), (73, (.own 2 1 (0) ((p0.length : Int).toNat))), (74, (I ((((p0.length : Int).toNat : Nat) : Int)))), (75, I 0)]) (own' := [.tok, (Qiq p0 p1), (Qo6 y7)]) [(4, (Qhm x5)), (6, (.acc 2 3 1 (([] : List Int).map Qab))), (8, .ref 0 2 0 0), (15, I 0), (73, (.own 1 1 (0) ((p0.length : Int).toNat))), (74, (I ((((p0.length : Int).toNat : Nat) : Int)))), (75, I 0)] [2, 0, 1] [.tok, (Qiq p0 p1), (Qo6 y7)] hφ0 (pc (.rn (.plain _ (nld Qaa _))) (pc (.rn (Qg9 rfl (Qfm Qaa _))) (pc (.rn (rqr rfl)) (pc rwl (pc (.rn (Qag rfl)) (pc rwl (pc rwl pn))))))) (qc .tok (qc (spb (lc (.rn (.plain _ (nld Qaa _))) (lc (.rn (.plain _ (nld Qau _))) ln))) (qc (spr Qaa) qn))))) ?_
     refine Qbk (τ := (List Int) × Int × Int) (fun n t => Qfe N p0 y7 k10 n t.1 t.2.1 t.2.2 = some r) (fun ⟨y13, y14, y15⟩ => ⟨mk 92 [(4, (Qhm x5)), (6, (z37_67 y13)), (8, .ref 1 2 0 0), (15, I y14), (73, (.own 2 1 (0) ((p0.length : Int).toNat))), (74, (I ((((p0.length : Int).toNat : Nat) : Int)))), (75, I y15)], [.tok, (Qiq p0 p1), (Qo6 y7)]⟩) (fun t h => by rw [Qfe] at h; cases h) (fun n19 ih t h => ?_) N ([], 0, 0) h
     obtain ⟨y13, y14, y15⟩ := t
     rw [Qfe] at h
     skip
     refine wx tbk [] trivial ?_
     refine wsq ?_
     rcases bft ((decide (y15 < (((p0.length : Int).toNat : Nat) : Int)))) with hc20 | hc20
     ·replace h := Qas hc20 h
      refine wft hc20 (by kernel_rfl) ?_
      refine Qai ?_
      refine thn ?_
      refine wsq ?_
      refine Qaf ?_
      obtain ⟨hi21, h⟩ := cko h
      obtain ⟨hi21a, hi21b⟩ := Qa0 hi21
      obtain ⟨x22, hg23, h⟩ := bno h
      refine wx tbk [(0, rb [(.tmp 73, (.own 2 1 (0) ((p0.length : Int).toNat))), (.tmp 75, I y15)] [(2, (Qo6 y7))] (.ref 2 1 (y15.toNat) 0)), (1, rb [(.tmp 77, (.ref 2 1 (y15.toNat) 0))] [(2, (Qo6 y7))] (I x22))] ⟨aio rfl Try.underlying37 ti3 (odt hi21a) (odt hi21b) (Nat.zero_add _), ald rfl ti3 (by decide) (mgt Qab hg23) (nle rfl) rfl, trivial⟩ ?_
      obtain ⟨ha24, h⟩ := cko h
      refine wx tbk [(4, rp [(.tmp 82, (I (w64 (x22 - y14))))] (.dat 1 (([w64 (x22 - y14)] : List Int).map Qab))), (5, ⟨[(.tmp 79, (z37_67 y13)), (.tmp 83, (.dat 1 (([w64 (x22 - y14)] : List Int).map Qab)))], [(0, .tok), (3, .unused)], (.acc 3 3 1 ((y13 ++ ([w64 (x22 - y14)]) : List Int).map Qab)), [(0, .dead), (3, .tok)], false⟩)] ⟨Qct (vs := [(I (w64 (x22 - y14)))]) rfl Try.underlying37 ti3 tz3 rfl (by decide) rfl (by decide) (by rfl) (by rfl) (by rfl) rfl, Qg4 rfl Try.underlying37 te3 (Base.acc _ _) rfl rfl (by rfl) (Qoj Qab ha24) (Qoi Qab ha24 (by decide)) (Qoh Qab) rfl rfl, trivial⟩ ?_
      refine wx1 tbk [] trivial ?_
      refine bln ?_
      refine thn ?_
      refine wx1 tbk [] trivial ?_
      refine thn ?_
      exact arm (mto (n := 92) [(4, (Qhm x5)), (6, (.acc 3 3 1 ((y13 ++ ([w64 (x22 - y14)]) : List Int).map Qab))), (8, .ref 1 2 0 0), (15, I x22), (73, (.own 2 1 (0) ((p0.length : Int).toNat))), (74, (I ((((p0.length : Int).toNat : Nat) : Int)))), (75, (I (w64 (y15 + 1))))] [3, 1, 2] [.tok, (Qiq p0 p1), (Qo6 y7)] hφ0 (pc (.rn (.plain _ (nld Qaa _))) (pc (.rn (Qg9 rfl (Qfm Qaa _))) (pc (.rn (rqr rfl)) (pc rwl (pc (.rn (Qag rfl)) (pc rwl (pc rwl pn))))))) (qc .tok (qc (spb (lc (.rn (.plain _ (nld Qaa _))) (lc (.rn (.plain _ (nld Qau _))) ln))) (qc (spr Qaa) qn)))) (ih (y13 ++ ([w64 (x22 - y14)]), x22, w64 (y15 + 1)) h)
     ·replace h := Qat hc20 h
      refine wfn hc20 (by kernel_rfl) ?_
      refine Qa2 ?_
      refine Qaq ?_
      refine Qaq ?_
      refine Qa1 rfl ?_
      refine thn ?_
      exact ⟨(y13), h, (mto (n := 92) [(4, (Qhm x5)), (6, (z37_67 y13)), (8, .ref 1 2 0 0)] [0, 1] [.tok, (Qiq p0 p1)] hφ0 (pc (.rn (.plain _ (nld Qaa _))) (pc (.rn (Qg9 rfl (Qfm Qaa _))) (pc (.rn (rqr rfl)) pn))) (qc .tok (qc (spb (lc (.rn (.plain _ (nld Qaa _))) (lc (.rn (.plain _ (nld Qau _))) ln))) qn)))⟩
   ·skip
    refine wx tbk [(1, rp [(.tmp 33, (Qjc p1))] (I ((p1.length : Int))))] ⟨alm (c := Qcr) (l := p1) (aln rfl Try.underlying89 rfl), trivial⟩ ?_
    refine Qaf ?_
    refine wmr (mto (n := 92) (l' := [(4, (Qhm x5)), (6, nilS), (8, .ref 0 2 0 0), (9, (Qkk x5)), (10, (Qj8 x5)), (11, (.own 1 1 (0) ((p0.length : Int).toNat))), (33, (Qjc p1)), (34, (I ((p1.length : Int)))), (35, I 0)]) (own' := [(Qiq p0 p1), (.own 1 (((List.replicate (p0.length : Int).toNat 0) : List Int).map Qab))]) [(4, (Qhm x5)), (6, nilS), (8, .ref 0 2 0 0), (9, (Qkk x5)), (10, (Qj8 x5)), (11, (.own 1 1 (0) ((p0.length : Int).toNat))), (33, (Qjc p1)), (34, (I ((p1.length : Int)))), (35, I 0)] [0, 1] [(Qiq p0 p1), (z37_7 p0)] hφ0 (pc (.rn (.plain _ (nld Qaa _))) (pc rwl (pc (.rn (rqr rfl)) (pc (.rn (.plain _ (nld Qaa _))) (pc (.rn (.plain _ (nld Qaa _))) (pc (.rn (Qag rfl)) (pc (.rn (.plain _ (nld Qau _))) (pc rwl (pc rwl pn))))))))) (qc (spb (lc (.rn (.plain _ (nld Qaa _))) (lc (.rn (.plain _ (nld Qau _))) ln))) (qc (spr Qaa) qn))) ?_
    refine Qbk (τ := Int × (List Int)) (fun n t => Qfd N p0 p1 x5 k8 n t.1 t.2 = some r) (fun ⟨y25, y26⟩ => ⟨mk 92 [(4, (Qhm x5)), (6, nilS), (8, .ref 0 2 0 0), (9, (Qkk x5)), (10, (Qj8 x5)), (11, (.own 1 1 (0) ((p0.length : Int).toNat))), (33, (Qjc p1)), (34, (I ((p1.length : Int)))), (35, I y25)], [(Qiq p0 p1), (Qld y26)]⟩) (fun t h => by rw [Qfd] at h; cases h) (fun n29 ih t h => ?_) N (0, List.replicate (p0.length : Int).toNat 0) h
    obtain ⟨y25, y26⟩ := t
    rw [Qfd] at h
    skip
    refine wx tbk [] trivial ?_
    refine wsq ?_
    rcases bft ((decide (y25 < (p1.length : Int)))) with hc30 | hc30
    ·replace h := Qas hc30 h
     refine wft hc30 (by kernel_rfl) ?_
     refine Qai ?_
     refine thn ?_
     obtain ⟨k32, hk_k32, h⟩ := jko h
     refine wjn (τ := (List Int)) (fun t => k32 t = some r) (fun y31 => ⟨mk 92 [(4, (Qhm x5)), (6, nilS), (8, .ref 0 2 0 0), (9, (Qkk x5)), (10, (Qj8 x5)), (11, (.own 1 1 (0) ((p0.length : Int).toNat))), (33, (Qjc p1)), (34, (I ((p1.length : Int)))), (35, I y25)], [(Qiq p0 p1), (.own 1 ((y31 : List Int).map Qab))]⟩) (fun y31 h => ?_) ?_
     ·subst hk_k32
      refine wx1 tbk [] trivial ?_
      refine thn ?_
      exact arm (mto (n := 92) [(4, (Qhm x5)), (6, nilS), (8, .ref 0 2 0 0), (9, (Qkk x5)), (10, (Qj8 x5)), (11, (.own 1 1 (0) ((p0.length : Int).toNat))), (33, (Qjc p1)), (34, (I ((p1.length : Int)))), (35, (I (w64 (y25 + 1))))] [0, 1] [(Qiq p0 p1), (.own 1 ((y31 : List Int).map Qab))] hφ0 (pc (.rn (.plain _ (nld Qaa _))) (pc rwl (pc (.rn (rqr rfl)) (pc (.rn (.plain _ (nld Qaa _))) (pc (.rn (.plain _ (nld Qaa _))) (pc (.rn (Qag rfl)) (pc (.rn (.plain _ (nld Qau _))) (pc rwl (pc rwl pn))))))))) (qc (spb (lc (.rn (.plain _ (nld Qaa _))) (lc (.rn (.plain _ (nld Qau _))) ln))) (qc (spr Qaa) qn))) (ih (w64 (y25 + 1), y31) h)
     ·skip
      refine Qaf ?_
      obtain ⟨x33, hg34, h⟩ := bno h
      obtain ⟨hi35, hj36⟩ := gsm hg34
      refine wx tbk [(1, rp [(.tmp 33, (Qjc p1)), (.tmp 35, I y25)] (.dptr (Qcr (x33)) 0))] ⟨aid rfl Try.underlying89 ti34 rfl rfl hi35 (mgt Qcr hj36) rfl, trivial⟩ ?_
      refine wsq ?_
      obtain ⟨x37, hg38, h⟩ := bno h
      obtain ⟨hi39, hj40⟩ := gsm hg38
      refine wx tbk [(2, rp [(.tmp 40, (Qj8 x5)), (.tmp 41, I y25)] (.dptr (Qab (x37)) 0))] ⟨aid rfl Try.underlying37 ti3 rfl rfl hi39 (mgt Qab hj40) rfl, trivial⟩ ?_
      rcases bft ((decide (x37 ≤ 0))) with hc41 | hc41
      ·replace h := Qas hc41 h
       refine wft hc41 (by kernel_rfl) ?_
       refine Qa2 ?_
       refine Qaq ?_
       refine Qa1 rfl ?_
       refine thn ?_
       exact ⟨(y26), h, (mto (n := 92) [(4, (Qhm x5)), (6, nilS), (8, .ref 0 2 0 0), (9, (Qkk x5)), (10, (Qj8 x5)), (11, (.own 1 1 (0) ((p0.length : Int).toNat))), (33, (Qjc p1)), (34, (I ((p1.length : Int)))), (35, I y25)] [0, 1] [(Qiq p0 p1), (Qld y26)] hφ0 (pc (.rn (.plain _ (nld Qaa _))) (pc rwl (pc (.rn (rqr rfl)) (pc (.rn (.plain _ (nld Qaa _))) (pc (.rn (.plain _ (nld Qaa _))) (pc (.rn (Qag rfl)) (pc (.rn (.plain _ (nld Qau _))) (pc rwl (pc rwl pn))))))))) (qc (spb (lc (.rn (.plain _ (nld Qaa _))) (lc (.rn (.plain _ (nld Qau _))) ln))) (qc (spr Qaa) qn)))⟩
      ·replace h := Qat hc41 h
       refine wfn hc41 (by kernel_rfl) ?_
       refine Qai ?_
       refine thn ?_
       refine wx tbk [] trivial ?_
       obtain ⟨k43, hk_k43, h⟩ := jko h
       refine wjn (τ := Int) (fun t => k43 t = some r) (fun y42 => ⟨mk 92 [(4, (Qhm x5)), (6, nilS), (8, .ref 0 2 0 0), (9, (Qkk x5)), (10, (Qj8 x5)), (11, (.own 1 1 (0) ((p0.length : Int).toNat))), (12, I y25), (14, I y42), (33, (Qjc p1)), (34, (I ((p1.length : Int)))), (35, I y25)], [(Qiq p0 p1), (Qld y26)]⟩) (fun y42 h => ?_) ?_
       ·subst hk_k43
        refine Qaf ?_
        refine wmr (mto (n := 92) (l' := [(4, (Qhm x5)), (6, nilS), (8, .ref 0 2 0 0), (9, (Qkk x5)), (10, (Qj8 x5)), (11, (.own 1 1 (0) ((p0.length : Int).toNat))), (12, I y25), (14, I y42), (33, (Qjc p1)), (34, (I ((p1.length : Int)))), (35, I y25)]) (own' := [(Qiq p0 p1), (Qld y26)]) [(4, (Qhm x5)), (6, nilS), (8, .ref 0 2 0 0), (9, (Qkk x5)), (10, (Qj8 x5)), (11, (.own 1 1 (0) ((p0.length : Int).toNat))), (12, I y25), (14, I y42), (33, (Qjc p1)), (34, (I ((p1.length : Int)))), (35, I y25)] [0, 1] [(Qiq p0 p1), (Qld y26)] hφ0 (pc (.rn (.plain _ (nld Qaa _))) (pc rwl (pc (.rn (rqr rfl)) (pc (.rn (.plain _ (nld Qaa _))) (pc (.rn (.plain _ (nld Qaa _))) (pc (.rn (Qag rfl)) (pc rwl (pc rwl (pc (.rn (.plain _ (nld Qau _))) (pc rwl (pc rwl pn))))))))))) (qc (spb (lc (.rn (.plain _ (nld Qaa _))) (lc (.rn (.plain _ (nld Qau _))) ln))) (qc (spr Qaa) qn))) ?_
        refine Qbk (τ := Int × (List Int)) (fun n t => Qfc N p0 k32 x37 n t.1 t.2 = some r) (fun ⟨y44, y45⟩ => ⟨mk 92 [(4, (Qhm x5)), (6, nilS), (8, .ref 0 2 0 0), (9, (Qkk x5)), (10, (Qj8 x5)), (11, (.own 1 1 (0) ((p0.length : Int).toNat))), (12, I y25), (14, I y44), (33, (Qjc p1)), (34, (I ((p1.length : Int)))), (35, I y25)], [(Qiq p0 p1), (Qnu y45)]⟩) (fun t h => by rw [Qfc] at h; cases h) (fun n48 ih t h => ?_) N (y42, y26) h
        obtain ⟨y44, y45⟩ := t
        rw [Qfc] at h
        skip
        refine wsq ?_
        refine wx tbk [(2, rp [(.tmp 55, (.own 1 1 (0) ((p0.length : Int).toNat)))] (I ((((p0.length : Int).toNat : Nat) : Int))))] ⟨aln rfl Try.underlying37 rfl, trivial⟩ ?_
        rcases bft ((decide (y44 < (((p0.length : Int).toNat : Nat) : Int)))) with hc49 | hc49
        ·replace h := Qas hc49 h
         refine wft hc49 (by kernel_rfl) ?_
         refine Qai ?_
         refine thn ?_
         refine wsq ?_
         refine Qaf ?_
         obtain ⟨hi50, h⟩ := cko h
         obtain ⟨hi50a, hi50b⟩ := Qa0 hi50
         obtain ⟨x51, hg52, h⟩ := bno h
         obtain ⟨hi53, h⟩ := cko h
         obtain ⟨hi53a, hi53b⟩ := Qa0 hi53
         obtain ⟨x54, hg55, h⟩ := bno h
         refine wy1 tbk [(4, rb [(.tmp 62, (.own 1 1 (0) ((p0.length : Int).toNat))), (.tmp 63, I y44)] [(1, (Qnu y45))] (.ref 1 1 (y44.toNat) 0)), (5, rb [(.tmp 64, (.ref 1 1 (y44.toNat) 0))] [(1, (Qnu y45))] (I x51)), (8, rp [(.tmp 66, (Qj8 x5)), (.tmp 67, I y25)] (.dptr (Qab (x37)) 0)), (10, rp [(.tmp 65, I x51), (.tmp 69, I x37)] (I ((if x37 > x51 then x37 else x51)))), (11, rb [(.tmp 60, (.own 1 1 (0) ((p0.length : Int).toNat))), (.tmp 61, I y44)] [(1, (Qnu y45))] (.ref 1 1 (y44.toNat) 0)), (12, ⟨[(.tmp 71, (.ref 1 1 (y44.toNat) 0)), (.tmp 70, (I ((if x37 > x51 then x37 else x51))))], [(1, (Qnu y45))], .any, [(1, (.own 1 ((y45.set y44.toNat (if x37 > x51 then x37 else x51) : List Int).map Qab)))], false⟩)] ⟨aio rfl Try.underlying37 ti3 (odt hi50a) (odt hi50b) (Nat.zero_add _), ald rfl ti3 (by decide) (mgt Qab hg52) (nle rfl) rfl, aid rfl Try.underlying37 ti3 rfl rfl hi39 (mgt Qab hj40) rfl, Qnn rfl, aio rfl Try.underlying37 ti3 (odt hi53a) (odt hi53b) (Nat.zero_add _), ast rfl ti3 (by rfl) (mgt Qab hg55) (nle rfl) (Qgl Qab rfl), trivial⟩ ?_
         refine bln ?_
         refine thn ?_
         refine wx1 tbk [] trivial ?_
         refine thn ?_
         exact arm (mto (n := 92) [(4, (Qhm x5)), (6, nilS), (8, .ref 0 2 0 0), (9, (Qkk x5)), (10, (Qj8 x5)), (11, (.own 1 1 (0) ((p0.length : Int).toNat))), (12, I y25), (14, (I (w64 (y44 + 1)))), (33, (Qjc p1)), (34, (I ((p1.length : Int)))), (35, I y25)] [0, 1] [(Qiq p0 p1), (.own 1 ((y45.set y44.toNat (if x37 > x51 then x37 else x51) : List Int).map Qab))] hφ0 (pc (.rn (.plain _ (nld Qaa _))) (pc rwl (pc (.rn (rqr rfl)) (pc (.rn (.plain _ (nld Qaa _))) (pc (.rn (.plain _ (nld Qaa _))) (pc (.rn (Qag rfl)) (pc rwl (pc rwl (pc (.rn (.plain _ (nld Qau _))) (pc rwl (pc rwl pn))))))))))) (qc (spb (lc (.rn (.plain _ (nld Qaa _))) (lc (.rn (.plain _ (nld Qau _))) ln))) (qc (spr Qaa) qn))) (ih (w64 (y44 + 1), y45.set y44.toNat (if x37 > x51 then x37 else x51)) h)
        ·replace h := Qat hc49 h
         refine wfn hc49 (by kernel_rfl) ?_
         refine Qa2 ?_
         refine Qaq ?_
         refine Qaq ?_
         refine Qa1 rfl ?_
         refine bln ?_
         refine thn ?_
         exact ⟨(y45), h, (mto (n := 92) [(4, (Qhm x5)), (6, nilS), (8, .ref 0 2 0 0), (9, (Qkk x5)), (10, (Qj8 x5)), (11, (.own 1 1 (0) ((p0.length : Int).toNat))), (33, (Qjc p1)), (34, (I ((p1.length : Int)))), (35, I y25)] [0, 1] [(Qiq p0 p1), (Qnu y45)] hφ0 (pc (.rn (.plain _ (nld Qaa _))) (pc rwl (pc (.rn (rqr rfl)) (pc (.rn (.plain _ (nld Qaa _))) (pc (.rn (.plain _ (nld Qaa _))) (pc (.rn (Qag rfl)) (pc (.rn (.plain _ (nld Qau _))) (pc rwl (pc rwl pn))))))))) (qc (spb (lc (.rn (.plain _ (nld Qaa _))) (lc (.rn (.plain _ (nld Qau _))) ln))) (qc (spr Qaa) qn)))⟩
       ·skip
        refine Qaf ?_
        refine wmr (mto (n := 92) (l' := [(4, (Qhm x5)), (6, nilS), (8, .ref 0 2 0 0), (9, (Qkk x5)), (10, (Qj8 x5)), (11, (.own 1 1 (0) ((p0.length : Int).toNat))), (12, I y25), (14, I x33.Inlet), (33, (Qjc p1)), (34, (I ((p1.length : Int)))), (35, I y25)]) (own' := [(Qiq p0 p1), (Qld y26)]) [(4, (Qhm x5)), (6, nilS), (8, .ref 0 2 0 0), (9, (Qkk x5)), (10, (Qj8 x5)), (11, (.own 1 1 (0) ((p0.length : Int).toNat))), (12, I y25), (14, I x33.Inlet), (33, (Qjc p1)), (34, (I ((p1.length : Int)))), (35, I y25)] [0, 1] [(Qiq p0 p1), (Qld y26)] hφ0 (pc (.rn (.plain _ (nld Qaa _))) (pc rwl (pc (.rn (rqr rfl)) (pc (.rn (.plain _ (nld Qaa _))) (pc (.rn (.plain _ (nld Qaa _))) (pc (.rn (Qag rfl)) (pc rwl (pc rwl (pc (.rn (.plain _ (nld Qau _))) (pc rwl (pc rwl pn))))))))))) (qc (spb (lc (.rn (.plain _ (nld Qaa _))) (lc (.rn (.plain _ (nld Qau _))) ln))) (qc (spr Qaa) qn))) ?_
        refine Qbk (τ := Int) (fun n t => Qfb N x5 k43 n t = some r) (fun y56 => ⟨mk 92 [(4, (Qhm x5)), (6, nilS), (8, .ref 0 2 0 0), (9, (Qkk x5)), (10, (Qj8 x5)), (11, (.own 1 1 (0) ((p0.length : Int).toNat))), (12, I y25), (14, I y56), (33, (Qjc p1)), (34, (I ((p1.length : Int)))), (35, I y25)], [(Qiq p0 p1), (Qld y26)]⟩) (fun t h => by rw [Qfb] at h; cases h) (fun n58 ih y56 h => ?_) N (x33.Inlet) h
        rw [Qfb] at h
        skip
        refine wsq ?_
        obtain ⟨x59, hg60, h⟩ := bno h
        obtain ⟨hi61, hj62⟩ := gsm hg60
        refine wx tbk [(2, rp [(.tmp 47, (Qkk x5)), (.tmp 48, I y56)] (.dptr (Qab (x59)) 0))] ⟨aid rfl Try.underlying37 ti3 rfl rfl hi61 (mgt Qab hj62) rfl, trivial⟩ ?_
        rcases bft ((decide (x59 > 0))) with hc63 | hc63
        ·replace h := Qas hc63 h
         refine wft hc63 (by kernel_rfl) ?_
         refine Qai ?_
         refine thn ?_
         refine Qaf ?_
         refine wx1 tbk [] trivial ?_
         refine bln ?_
         refine thn ?_
         exact arm (mto (n := 92) [(4, (Qhm x5)), (6, nilS), (8, .ref 0 2 0 0), (9, (Qkk x5)), (10, (Qj8 x5)), (11, (.own 1 1 (0) ((p0.length : Int).toNat))), (12, I y25), (14, (I (w64 (y56 - 1)))), (33, (Qjc p1)), (34, (I ((p1.length : Int)))), (35, I y25)] [0, 1] [(Qiq p0 p1), (Qld y26)] hφ0 (pc (.rn (.plain _ (nld Qaa _))) (pc rwl (pc (.rn (rqr rfl)) (pc (.rn (.plain _ (nld Qaa _))) (pc (.rn (.plain _ (nld Qaa _))) (pc (.rn (Qag rfl)) (pc rwl (pc rwl (pc (.rn (.plain _ (nld Qau _))) (pc rwl (pc rwl pn))))))))))) (qc (spb (lc (.rn (.plain _ (nld Qaa _))) (lc (.rn (.plain _ (nld Qau _))) ln))) (qc (spr Qaa) qn))) (ih (w64 (y56 - 1)) h)
        ·replace h := Qat hc63 h
         refine wfn hc63 (by kernel_rfl) ?_
         refine Qa2 ?_
         refine Qaq ?_
         refine Qaq ?_
         refine Qa1 rfl ?_
         refine thn ?_
         exact ⟨(y56), h, (mto (n := 92) [(4, (Qhm x5)), (6, nilS), (8, .ref 0 2 0 0), (9, (Qkk x5)), (10, (Qj8 x5)), (11, (.own 1 1 (0) ((p0.length : Int).toNat))), (12, I y25), (14, I y56), (33, (Qjc p1)), (34, (I ((p1.length : Int)))), (35, I y25)] [0, 1] [(Qiq p0 p1), (Qld y26)] hφ0 (pc (.rn (.plain _ (nld Qaa _))) (pc rwl (pc (.rn (rqr rfl)) (pc (.rn (.plain _ (nld Qaa _))) (pc (.rn (.plain _ (nld Qaa _))) (pc (.rn (Qag rfl)) (pc rwl (pc rwl (pc (.rn (.plain _ (nld Qau _))) (pc rwl (pc rwl pn))))))))))) (qc (spb (lc (.rn (.plain _ (nld Qaa _))) (lc (.rn (.plain _ (nld Qau _))) ln))) (qc (spr Qaa) qn)))⟩
    ·replace h := Qat hc30 h
     refine wfn hc30 (by kernel_rfl) ?_
     refine Qa2 ?_
     refine Qaq ?_
     refine Qaq ?_
     refine Qa1 rfl ?_
     refine thn ?_
     exact ⟨(y26), h, (mto (n := 92) [(4, (Qhm x5)), (6, nilS), (8, .ref 0 2 0 0), (11, (.own 1 1 (0) ((p0.length : Int).toNat)))] [0, 1] [(Qiq p0 p1), (Qld y26)] hφ0 (pc (.rn (.plain _ (nld Qaa _))) (pc rwl (pc (.rn (rqr rfl)) (pc (.rn (Qag rfl)) pn)))) (qc (spb (lc (.rn (.plain _ (nld Qaa _))) (lc (.rn (.plain _ (nld Qau _))) ln))) (qc (spr Qaa) qn)))⟩
end Go.Proofs.Ytlhakkkjgdbdpaa
