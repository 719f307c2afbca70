/-
  Functions of the program: what they compute, as plain functions, and that they do. No conditions.
-/
import Derived.Test.YtlhakkkjgdbdpaaX2
namespace Go.Proofs.Ytlhakkkjgdbdpaa
open Go.RowKit
def Qft (N : Nat) (p0 : Int) : Option Bool :=
  (Qbe N p0 0 1000000).bind fun x2 =>
  some x2
set_option maxRecDepth 100000 in
set_option maxHeartbeats 4000000 in
theorem Qjj (N : Nat) (p0 : Int) (r : Bool) (h : Qft N p0 = some r) : Spec Try.prog 102 [(I p0)] [] (B r) [] := by
  refine Qae Try.func102 rfl 0 (nle rfl) (fun X φ0 w0 hφ0 => ?_)
  unfold Qft at h
  refine wx tbk [] trivial ?_
  obtain ⟨x2, hf1, h⟩ := bno h
  refine wx tbk [(1, rp [fu 65, (.tmp 3, I p0), ci 0, ci 1000000] (B x2))] ⟨apc (first := []) (cap := []) (vs := [I p0, I 0, I 1000000]) rfl Qbt (Qag N p0 0 1000000 _ hf1) rfl rfl (nlc nll (nlc nll (nlc nll nl0))) nll rfl, trivial⟩ ?_
  refine Qac ?_
  obtain rfl := osi h
  exact fend ⟨[B x2], ⟨rot (by kernel_rfl), trivial⟩, rfl⟩ nll
def Qg2 (N : Nat) (p0 : Int) : Option Bool :=
  (Qft N p0).bind fun x3 =>
  some (!x3)
def z42_0 : Slot := .own 1 [[(.fn (.func 102) [] [])]]
set_option maxRecDepth 100000 in
set_option maxHeartbeats 4000000 in
theorem Qkq (N : Nat) (p0 : Int) (r : Bool) (h : Qg2 N p0 = some r) : Spec Try.prog 110 [(I (p0)), (.ref 0 1 (0) 0)] [z42_0] (B (r)) [z42_0] := by
  refine Qae Try.func110 rfl 1 (nle rfl) (fun X φ0 w0 hφ0 => ?_)
  unfold Qg2 at h
  refine Qbr ?_
  refine wx tbk [] trivial ?_
  obtain ⟨x3, hf2, h⟩ := bno h
  refine wx tbk [(2, rp [(.tmp 4, (.fn (.func 102) [] [])), (.tmp 5, I p0)] (B x3))] ⟨apc (first := []) (cap := []) (vs := [I p0]) rfl enter102 (Qjj N p0 _ hf2) rfl rfl (nlc nll nl0) nll rfl, trivial⟩ ?_
  refine wmr (mto (n := 8) (l' := [(3, (B ((!x3))))]) (own' := [z42_0]) [(3, (B ((!x3))))] [0] [z42_0] hφ0 (pc rwl pn) (qc (spb (lc (.rn (Qap rn0 rn0)) ln)) qn)) ?_
  refine Qac ?_
  obtain rfl := osi h
  exact ⟨_, Mor.rfl, Qb9 (vs := [(B ((!x3)))]) ⟨rot (by kernel_rfl), trivial⟩ rfl (NLt.of0 nll) (by kernel_rfl) (Qah (Qax (nlc (NLt.of0 (NLt.fn _ _ _ nl0 nl0)) nl0)) Qbl)⟩
def Qb5 (N : Nat) (p0 : (List Int)) (k2 : Unit → Option Int) : Nat → Int → Option Int
  | 0, _ => none
  | n5 + 1, y3 =>
    bif (decide (y3 < (p0.length : Int))) then
     (getI p0 y3).bind fun x7 =>
     (Qg2 N x7).bind fun x12 =>
     bif x12 then
      some y3
     else
      Qb5 N p0 k2 n5 (w64 (y3 + 1))
    else
     k2 ()
def Qd9 (N : Nat) (p0 : (List Int)) : Option Int :=
  Qcn (fun _ =>
    some (-1)) fun k2 : Unit → Option Int =>
  Qb5 N p0 k2 N 0
def Qs7 (p0 : (List Int)) : AV := .dat 1 ((p0 : List Int).map Qab)
def Qv8 : AV := .fn (.func 110) [] [(.ref 0 1 (0) 0)]
def Qlh : Slot := .own 1 [[(.fn (.func 102) [] [])]]
set_option maxRecDepth 100000 in
set_option maxHeartbeats 4000000 in
theorem Qhu (N : Nat) (p0 : (List Int)) (r : Int) (h : Qd9 N p0 = some r) : Spec Try.prog 71 [(Qs7 p0), Qv8] [Qlh] (I (r)) [Qlh] := by
  refine Qae Try.func71 rfl 1 (nle rfl) (fun X φ0 w0 hφ0 => ?_)
  unfold Qd9 at h
  refine Qbr ?_
  refine wx tbk [] trivial ?_
  obtain ⟨k2, hk_k2, h⟩ := jko h
  refine wjn (τ := Unit) (fun t => k2 t = some r) (fun _ => ⟨mk 19 [], [Qlh]⟩) (fun t h => ?_) ?_
  ·subst hk_k2
   refine wx tbk [] trivial ?_
   refine wmr (mto (n := 19) (l' := [(4, (I ((-1))))]) (own' := [Qlh]) [(4, (I ((-1))))] [0] [Qlh] hφ0 (pc rwl pn) (qc (spb (lc (.rn (Qap rn0 rn0)) ln)) qn)) ?_
   refine Qac ?_
   obtain rfl := osi h
   exact ⟨_, Mor.rfl, Qb9 (vs := [(I ((-1)))]) ⟨rot (by kernel_rfl), trivial⟩ rfl (NLt.of0 nll) (by kernel_rfl) (Qah (Qax (nlc (NLt.of0 (NLt.fn _ _ _ nl0 nl0)) nl0)) Qbl)⟩
  ·skip
   refine wx tbk [(1, rp [(.tmp 6, (Qs7 p0))] (I ((p0.length : Int))))] ⟨alm (c := Qab) (l := p0) (aln rfl Try.underlying37 rfl), trivial⟩ ?_
   refine Qai ?_
   refine wmr (mto (n := 19) (l' := [(0, (Qs7 p0)), (1, Qv8), (7, (I ((p0.length : Int)))), (8, I 0)]) (own' := [Qlh]) [(0, (Qs7 p0)), (1, Qv8), (7, (I ((p0.length : Int)))), (8, I 0)] [0] [Qlh] hφ0 (pc (.rn (.plain _ (nld Qaa _))) (pc (.rn (Qap rn0 (rnc (rqr rfl) rn0))) (pc rwl (pc rwl pn)))) (qc (spb (lc (.rn (Qap rn0 rn0)) ln)) qn)) ?_
   refine Qby (τ := Int) (fun n t => Qb5 N p0 k2 n t = some r) (fun y3 => ⟨mk 19 [(0, (Qs7 p0)), (1, Qv8), (7, (I ((p0.length : Int)))), (8, I y3)], [Qlh]⟩) (fun t h => by rw [Qb5] at h; cases h) (fun n5 ih y3 h => ?_) N (0) h
   rw [Qb5] at h
   skip
   refine wx tbk [] trivial ?_
   refine wsq ?_
   rcases bft ((decide (y3 < (p0.length : Int)))) with hc6 | hc6
   ·replace h := Qau hc6 h
    refine wft hc6 (by kernel_rfl) ?_
    refine Qal ?_
    refine thn ?_
    refine wsq ?_
    refine Qai ?_
    refine wx tbk [] trivial ?_
    obtain ⟨x7, hg8, h⟩ := bno h
    obtain ⟨hi9, hj10⟩ := gsm hg8
    obtain ⟨x12, hf11, h⟩ := bno h
    refine wx tbk [(3, rp [(.tmp 12, (Qs7 p0)), (.tmp 13, I y3)] (.dptr (Qab (x7)) 0)), (5, ⟨[(.tmp 11, Qv8), (.tmp 15, I x7)], [(0, Qlh)], B x12, [(0, Qlh)], false⟩)] ⟨aid rfl Try.underlying37 ti3 rfl rfl hi9 (mgt Qab hj10) rfl, Qao (first := []) (cap := [.ref 0 1 0 0]) (vs := [I x7]) (σr := [Qlh]) (σr' := [Qlh]) (res' := (B x12)) [0] rfl Qvn (Qkq N x7 _ hf11) rfl (Qb7 (rnc (.plain _ nll) (rnc (Qa5 rfl) rn0))) (slc (Qak (rnc (.plain _ (NLt.fn _ _ _ nl0 nl0)) rn0)) Qan) (slc (Qak (rnc (.plain _ (NLt.fn _ _ _ nl0 nl0)) rn0)) Qan) (.plain _ nll) rfl rfl rfl, trivial⟩ ?_
    rcases bft (x12) with hc13 | hc13
    ·replace h := Qau hc13 h
     refine wft hc13 (by kernel_rfl) ?_
     refine wx tbk [] trivial ?_
     refine wmr (mto (n := 19) (l' := [(4, I y3)]) (own' := [Qlh]) [(4, I y3)] [0] [Qlh] hφ0 (pc rwl pn) (qc (spb (lc (.rn (Qap rn0 rn0)) ln)) qn)) ?_
     refine Qac ?_
     refine Qbv ?_
     refine Qar ?_
     refine Qar ?_
     refine Qbv ?_
     refine Qar ?_
     obtain rfl := osi h
     exact ⟨_, Mor.rfl, Qb9 (vs := [I y3]) ⟨rot (by kernel_rfl), trivial⟩ rfl (NLt.of0 nll) (by kernel_rfl) (Qah (Qax (nlc (NLt.of0 (NLt.fn _ _ _ nl0 nl0)) nl0)) Qbl)⟩
    ·replace h := Qav hc13 h
     refine wfn hc13 (by kernel_rfl) ?_
     refine Qal ?_
     refine bln ?_
     refine thn ?_
     refine wx1 tbk [] trivial ?_
     refine thn ?_
     exact arm (mto (n := 19) [(0, (Qs7 p0)), (1, Qv8), (7, (I ((p0.length : Int)))), (8, (I (w64 (y3 + 1))))] [0] [Qlh] hφ0 (pc (.rn (.plain _ (nld Qaa _))) (pc (.rn (Qap rn0 (rnc (rqr rfl) rn0))) (pc rwl (pc rwl pn)))) (qc (spb (lc (.rn (Qap rn0 rn0)) ln)) qn)) (ih (w64 (y3 + 1)) h)
   ·replace h := Qav hc6 h
    refine wfn hc6 (by kernel_rfl) ?_
    refine Qbd ?_
    refine Qas ?_
    refine Qas ?_
    refine Qbc rfl ?_
    refine thn ?_
    exact ⟨(), h, (mto (n := 19) [] [0] [Qlh] hφ0 pn (qc (spb (lc (.rn (Qap rn0 rn0)) ln)) qn))⟩
def Qdy (N : Nat) (p0 : (List Int)) : Option Bool :=
  (Qd9 N p0).bind fun x3 =>
  some (decide (x3 ≥ 0))
def z40_0 (p0 : (List Int)) : AV := .dat 1 ((p0 : List Int).map Qab)
def z40_1 : AV := .fn (.func 110) [] [(.ref 0 1 (0) 0)]
def Qrh : Slot := .own 1 [[(.fn (.func 102) [] [])]]
set_option maxRecDepth 100000 in
set_option maxHeartbeats 4000000 in
theorem Qgw (N : Nat) (p0 : (List Int)) (r : Bool) (h : Qdy N p0 = some r) : Spec Try.prog 109 [(z40_0 p0), z40_1] [Qrh] (B (r)) [Qrh] := by
  refine Qae Try.func109 rfl 1 (nle rfl) (fun X φ0 w0 hφ0 => ?_)
  unfold Qdy at h
  refine Qbr ?_
  refine wx tbk [] trivial ?_
  obtain ⟨x3, hf2, h⟩ := bno h
  refine wx tbk [(2, ⟨[fu 71, (.tmp 5, (z40_0 p0)), (.tmp 6, z40_1)], [(0, Qrh)], I x3, [(0, Qrh)], false⟩)] ⟨Qao (first := []) (cap := []) (vs := [(z40_0 p0), z40_1]) (σr := [Qrh]) (σr' := [Qrh]) (res' := (I x3)) [0] rfl Qtz (Qhu N p0 _ hf2) rfl (Qb7 (rnc (.plain _ (nld Qaa _)) (rnc (Qap rn0 (rnc (Qa5 rfl) rn0)) rn0))) (slc (Qak (rnc (.plain _ (NLt.fn _ _ _ nl0 nl0)) rn0)) Qan) (slc (Qak (rnc (.plain _ (NLt.fn _ _ _ nl0 nl0)) rn0)) Qan) (.plain _ nll) rfl rfl rfl, trivial⟩ ?_
  refine wmr (mto (n := 9) (l' := [(4, (B ((decide (x3 ≥ 0)))))]) (own' := [Qrh]) [(4, (B ((decide (x3 ≥ 0)))))] [0] [Qrh] hφ0 (pc rwl pn) (qc (spb (lc (.rn (Qap rn0 rn0)) ln)) qn)) ?_
  refine Qac ?_
  obtain rfl := osi h
  exact ⟨_, Mor.rfl, Qb9 (vs := [(B ((decide (x3 ≥ 0))))]) ⟨rot (by kernel_rfl), trivial⟩ rfl (NLt.of0 nll) (by kernel_rfl) (Qah (Qax (nlc (NLt.of0 (NLt.fn _ _ _ nl0 nl0)) nl0)) Qbl)⟩
def Qh8 (N : Nat) (p0 : (List Int)) : Option Bool :=
  (Qdy N p0).bind fun x2 =>
  some (!x2)
def z39_1 (p0 : (List Int)) : AV := .dat 1 ((p0 : List Int).map Qab)
def z39_2 : AV := .fn (.func 110) [] [(.ref 0 1 (0) 0)]
def z39_0 : Slot := .own 1 [[(.fn (.func 102) [] [])]]
set_option maxRecDepth 100000 in
set_option maxHeartbeats 4000000 in
theorem Qgk (N : Nat) (p0 : (List Int)) (r : Bool) (h : Qh8 N p0 = some r) : Spec Try.prog 89 [(z39_1 p0), (.fn (.func 102) [] [])] [] (B (r)) [] := by
  refine Qae Try.func89 rfl 0 (nle rfl) (fun X φ0 w0 hφ0 => ?_)
  unfold Qh8 at h
  refine wx tbk [] trivial ?_
  obtain ⟨x2, hf1, h⟩ := bno h
  refine wx tbk [(1, rp [(.tmp 3, .ref 0 1 0 0)] z39_2), (2, ⟨[fu 109, (.tmp 5, (z39_1 p0)), (.tmp 6, z39_2)], [(0, z39_0)], B x2, [(0, z39_0)], false⟩)] ⟨Qd7 (fs := []) (cs := [.ref 0 1 0 0]) rfl rfl rfl rfl, Qao (first := []) (cap := []) (vs := [(z39_1 p0), z39_2]) (σr := [z39_0]) (σr' := [z39_0]) (res' := (B x2)) [0] rfl Qvo (Qgw N p0 _ hf1) rfl (Qb7 (rnc (.plain _ (nld Qaa _)) (rnc (Qap rn0 (rnc (Qa5 rfl) rn0)) rn0))) (slc (Qak (rnc (.plain _ (NLt.fn _ _ _ nl0 nl0)) rn0)) Qan) (slc (Qak (rnc (.plain _ (NLt.fn _ _ _ nl0 nl0)) rn0)) Qan) (.plain _ nll) rfl rfl rfl, trivial⟩ ?_
  refine Qac ?_
  obtain rfl := osi h
  exact fend ⟨[(B ((!x2)))], ⟨rot (by kernel_rfl), trivial⟩, rfl⟩ nll
def Qfe (N : Nat) (p0 : GUnit) (p1 : (List Int)) (_p2 : (List GUnit)) : Option Bool :=
  (Qf3 N p0).bind fun x3 =>
  bif x3 then
   some (decide (p0.Inlet < (p1.length : Int)))
  else
   some false
def Qxm (p0 : GUnit) : AV := .agg [(I (p0.Inlet)), (.dat 2 ((p0.Parts : List GPart).map Qcp))]
def Qv6 (p1 : (List Int)) (p2 : (List GUnit)) : Slot := .own 2 [[(.dat 1 ((p1 : List Int).map Qab)), (.dat 2 ((p2 : List GUnit).map Qch))]]
set_option maxRecDepth 100000 in
set_option maxHeartbeats 4000000 in
theorem Qiy (N : Nat) (p0 : GUnit) (p1 : (List Int)) (p2 : (List GUnit)) (r : Bool) (h : Qfe N p0 p1 p2 = some r) : Spec Try.prog 104 [(Qxm p0), (.ref 0 2 (0) 0)] [(Qv6 p1 p2)] (B (r)) [(Qv6 p1 p2)] := by
  refine Qae Try.func104 rfl 1 (nle rfl) (fun X φ0 w0 hφ0 => ?_)
  unfold Qfe at h
  refine Qbr ?_
  refine wx tbk [] trivial ?_
  obtain ⟨x3, hf2, h⟩ := bno h
  rcases bft (x3) with hb4 | hb4
  ·replace h := Qau hb4 h
   refine wx tbk [(1, rp [fu 64, (.tmp 4, (Qxm p0))] (B x3)), (2, rp [(.tmp 5, B x3)] (B true)), (7, rp [(.tmp 6, B true), (.tmp 10, (.dat 1 ((p1 : List Int).map Qab)))] (I ((p1.length : Int))))] ⟨apc (first := []) (cap := []) (vs := [(Qxm p0)]) rfl Qt2 (Qgb N p0 _ hf2) rfl rfl (nlc (NLt.agg _ (nlc nll (nlc (nld Qcb _) nl0))) nl0) nll rfl, asb hb4 (amv rfl), ag_ (alm (c := Qab) (l := p1) (aln rfl Try.underlying37 rfl)), trivial⟩ ?_
   refine wmr (mto (n := 14) (l' := [(3, (B ((decide (p0.Inlet < (p1.length : Int))))))]) (own' := [(Qv6 p1 p2)]) [(3, (B ((decide (p0.Inlet < (p1.length : Int))))))] [0] [(Qv6 p1 p2)] hφ0 (pc rwl pn) (qc (spb (lc (.rn (.plain _ (nld Qaa _))) (lc (.rn (.plain _ (nld Qaq _))) ln))) qn)) ?_
   refine Qac ?_
   obtain rfl := osi h
   exact ⟨_, Mor.rfl, Qb9 (vs := [(B ((decide (p0.Inlet < (p1.length : Int)))))]) ⟨rot (by kernel_rfl), trivial⟩ rfl (NLt.of0 nll) (by kernel_rfl) (Qah (Qax (nlc (NLt.of0 (nld Qaa _)) (nlc (NLt.of0 (nld Qaq _)) nl0))) Qbl)⟩
  ·replace h := Qav hb4 h
   refine wx tbk [(1, rp [fu 64, (.tmp 4, (Qxm p0))] (B x3)), (2, rp [(.tmp 5, B x3)] (B false))] ⟨apc (first := []) (cap := []) (vs := [(Qxm p0)]) rfl Qt2 (Qgb N p0 _ hf2) rfl rfl (nlc (NLt.agg _ (nlc nll (nlc (nld Qcb _) nl0))) nl0) nll rfl, asb hb4 (amv rfl), trivial⟩ ?_
   refine wmr (mto (n := 14) (l' := [(3, B false)]) (own' := [(Qv6 p1 p2)]) [(3, B false)] [0] [(Qv6 p1 p2)] hφ0 (pc rwl pn) (qc (spb (lc (.rn (.plain _ (nld Qaa _))) (lc (.rn (.plain _ (nld Qaq _))) ln))) qn)) ?_
   refine Qac ?_
   obtain rfl := osi h
   exact ⟨_, Mor.rfl, Qb9 (vs := [B false]) ⟨rot (by kernel_rfl), trivial⟩ rfl (NLt.of0 nll) (by kernel_rfl) (Qah (Qax (nlc (NLt.of0 (nld Qaa _)) (nlc (NLt.of0 (nld Qaq _)) nl0))) Qbl)⟩
def Qex (N : Nat) (p0 : GUnit) (p1 : (List Int)) (p2 : (List GUnit)) : Option Bool :=
  (Qfe N p0 p1 p2).bind fun x3 =>
  some (!x3)
def z47_2 (p0 : GUnit) : AV := .agg [(I (p0.Inlet)), (.dat 2 ((p0.Parts : List GPart).map Qcp))]
def Qxn : AV := .fn (.func 104) [] [(.ref 1 2 (0) 0)]
def Qrd (p1 : (List Int)) (p2 : (List GUnit)) : Slot := .own 2 [[(.dat 1 ((p1 : List Int).map Qab)), (.dat 2 ((p2 : List GUnit).map Qch))]]
set_option maxRecDepth 100000 in
set_option maxHeartbeats 4000000 in
theorem Qif (N : Nat) (p0 : GUnit) (p1 : (List Int)) (p2 : (List GUnit)) (r : Bool) (h : Qex N p0 p1 p2 = some r) : Spec Try.prog 122 [(z47_2 p0), (.ref 0 1 (0) 0)] [(.own 1 [[Qxn]]), (Qrd p1 p2)] (B (r)) [(.own 1 [[Qxn]]), (Qrd p1 p2)] := by
  refine Qae Try.func122 rfl 2 (nle rfl) (fun X φ0 w0 hφ0 => ?_)
  unfold Qex at h
  refine Qbr ?_
  refine wx tbk [] trivial ?_
  obtain ⟨x3, hf2, h⟩ := bno h
  refine wx tbk [(2, ⟨[(.tmp 4, Qxn), (.tmp 5, (z47_2 p0))], [(1, (Qrd p1 p2))], B x3, [(1, (Qrd p1 p2))], false⟩)] ⟨Qao (first := []) (cap := [.ref 1 2 0 0]) (vs := [(z47_2 p0)]) (σr := [(Qrd p1 p2)]) (σr' := [(Qrd p1 p2)]) (res' := (B x3)) [1] rfl enter104 (Qiy N p0 p1 p2 _ hf2) rfl (Qb7 (rnc (.plain _ (NLt.agg _ (nlc nll (nlc (nld Qcb _) nl0)))) (rnc (Qa5 rfl) rn0))) (slc (Qak (rnc (.plain _ (nld Qaa _)) (rnc (.plain _ (nld Qaq _)) rn0))) Qan) (slc (Qak (rnc (.plain _ (nld Qaa _)) (rnc (.plain _ (nld Qaq _)) rn0))) Qan) (.plain _ nll) rfl rfl rfl, trivial⟩ ?_
  refine wmr (mto (n := 8) (l' := [(3, (B ((!x3))))]) (own' := [(.own 1 [[Qxn]]), (Qrd p1 p2)]) [(3, (B ((!x3))))] [0, 1] [(.own 1 [[Qxn]]), (Qrd p1 p2)] hφ0 (pc rwl pn) (qc (spb (lc (.rn (Qap rn0 (rnc (rqr rfl) rn0))) ln)) (qc (spb (lc (.rn (.plain _ (nld Qaa _))) (lc (.rn (.plain _ (nld Qaq _))) ln))) qn))) ?_
  refine Qac ?_
  obtain rfl := osi h
  exact ⟨_, Mor.rfl, Qb9 (vs := [(B ((!x3)))]) ⟨rot (by kernel_rfl), trivial⟩ rfl (NLt.of0 nll) (by kernel_rfl) (Qah (Qax (nlc (NLt.fn _ _ _ nl0 (nlc (NLt.ref _ _ _ _ (by decide)) nl0)) nl0)) (Qah (Qax (nlc (NLt.of0 (nld Qaa _)) (nlc (NLt.of0 (nld Qaq _)) nl0))) Qbl))⟩
def Qba (N : Nat) (p0 : (List GUnit)) (p1 : (List Int)) (k2 : Unit → Option Int) (p2 : (List GUnit)) : Nat → Int → Option Int
  | 0, _ => none
  | n5 + 1, y3 =>
    bif (decide (y3 < (p0.length : Int))) then
     (getI p0 y3).bind fun x7 =>
     (Qex N x7 p1 p2).bind fun x12 =>
     bif x12 then
      some y3
     else
      Qba N p0 p1 k2 p2 n5 (w64 (y3 + 1))
    else
     k2 ()
def Qcs (N : Nat) (p0 : (List GUnit)) (p1 : (List Int)) (p2 : (List GUnit)) : Option Int :=
  Qcn (fun _ =>
    some (-1)) fun k2 : Unit → Option Int =>
  Qba N p0 p1 k2 p2 N 0
def Qs6 (p0 : (List GUnit)) : AV := .dat 2 ((p0 : List GUnit).map Qch)
def Qv7 : AV := .fn (.func 122) [] [(.ref 0 1 (0) 0)]
def Qlg : AV := .fn (.func 104) [] [(.ref 1 2 (0) 0)]
def Qlf (p1 : (List Int)) (p2 : (List GUnit)) : Slot := .own 2 [[(.dat 1 ((p1 : List Int).map Qab)), (.dat 2 ((p2 : List GUnit).map Qch))]]
set_option maxRecDepth 100000 in
set_option maxHeartbeats 4000000 in
theorem Qe9 (N : Nat) (p0 : (List GUnit)) (p1 : (List Int)) (p2 : (List GUnit)) (r : Int) (h : Qcs N p0 p1 p2 = some r) : Spec Try.prog 132 [(Qs6 p0), Qv7] [(.own 1 [[Qlg]]), (Qlf p1 p2)] (I (r)) [(.own 1 [[Qlg]]), (Qlf p1 p2)] := by
  refine Qae Try.func132 rfl 2 (nle rfl) (fun X φ0 w0 hφ0 => ?_)
  unfold Qcs at h
  refine Qbr ?_
  refine wx tbk [] trivial ?_
  obtain ⟨k2, hk_k2, h⟩ := jko h
  refine wjn (τ := Unit) (fun t => k2 t = some r) (fun _ => ⟨mk 19 [], [(.own 1 [[Qlg]]), (Qlf p1 p2)]⟩) (fun t h => ?_) ?_
  ·subst hk_k2
   refine wx tbk [] trivial ?_
   refine wmr (mto (n := 19) (l' := [(4, (I ((-1))))]) (own' := [(.own 1 [[Qlg]]), (Qlf p1 p2)]) [(4, (I ((-1))))] [0, 1] [(.own 1 [[Qlg]]), (Qlf p1 p2)] hφ0 (pc rwl pn) (qc (spb (lc (.rn (Qap rn0 (rnc (rqr rfl) rn0))) ln)) (qc (spb (lc (.rn (.plain _ (nld Qaa _))) (lc (.rn (.plain _ (nld Qaq _))) ln))) qn))) ?_
   refine Qac ?_
   obtain rfl := osi h
   exact ⟨_, Mor.rfl, Qb9 (vs := [(I ((-1)))]) ⟨rot (by kernel_rfl), trivial⟩ rfl (NLt.of0 nll) (by kernel_rfl) (Qah (Qax (nlc (NLt.fn _ _ _ nl0 (nlc (NLt.ref _ _ _ _ (by decide)) nl0)) nl0)) (Qah (Qax (nlc (NLt.of0 (nld Qaa _)) (nlc (NLt.of0 (nld Qaq _)) nl0))) Qbl))⟩
  ·skip
   refine wx tbk [(1, rp [(.tmp 6, (Qs6 p0))] (I ((p0.length : Int))))] ⟨alm (c := Qch) (l := p0) (aln rfl Try.underlying89 rfl), trivial⟩ ?_
   refine Qai ?_
   refine wmr (mto (n := 19) (l' := [(0, (Qs6 p0)), (1, Qv7), (7, (I ((p0.length : Int)))), (8, I 0)]) (own' := [(.own 1 [[Qlg]]), (Qlf p1 p2)]) [(0, (Qs6 p0)), (1, Qv7), (7, (I ((p0.length : Int)))), (8, I 0)] [0, 1] [(.own 1 [[Qlg]]), (Qlf p1 p2)] hφ0 (pc (.rn (.plain _ (nld Qaq _))) (pc (.rn (Qap rn0 (rnc (rqr rfl) rn0))) (pc rwl (pc rwl pn)))) (qc (spb (lc (.rn (Qap rn0 (rnc (rqr rfl) rn0))) ln)) (qc (spb (lc (.rn (.plain _ (nld Qaa _))) (lc (.rn (.plain _ (nld Qaq _))) ln))) qn))) ?_
   refine Qby (τ := Int) (fun n t => Qba N p0 p1 k2 p2 n t = some r) (fun y3 => ⟨mk 19 [(0, (Qs6 p0)), (1, Qv7), (7, (I ((p0.length : Int)))), (8, I y3)], [(.own 1 [[Qlg]]), (Qlf p1 p2)]⟩) (fun t h => by rw [Qba] at h; cases h) (fun n5 ih y3 h => ?_) N (0) h
   rw [Qba] at h
   skip
   refine wx tbk [] trivial ?_
   refine wsq ?_
   rcases bft ((decide (y3 < (p0.length : Int)))) with hc6 | hc6
   ·replace h := Qau hc6 h
    refine wft hc6 (by kernel_rfl) ?_
    refine Qal ?_
    refine thn ?_
    refine wsq ?_
    refine Qai ?_
    refine wx tbk [] trivial ?_
    obtain ⟨x7, hg8, h⟩ := bno h
    obtain ⟨hi9, hj10⟩ := gsm hg8
    obtain ⟨x12, hf11, h⟩ := bno h
    refine wx tbk [(3, rp [(.tmp 12, (Qs6 p0)), (.tmp 13, I y3)] (.dptr (Qch (x7)) 0)), (5, ⟨[(.tmp 11, Qv7), (.tmp 15, (.agg [I x7.Inlet, (.dat 2 ((x7.Parts : List GPart).map Qcp))]))], [(0, .own 1 [[Qlg]]), (1, (Qlf p1 p2))], B x12, [(0, .own 1 [[Qlg]]), (1, (Qlf p1 p2))], false⟩)] ⟨aid rfl Try.underlying89 ti34 rfl rfl hi9 (mgt Qch hj10) rfl, Qao (first := []) (cap := [.ref 0 1 0 0]) (vs := [(.agg [I x7.Inlet, (.dat 2 ((x7.Parts : List GPart).map Qcp))])]) (σr := [(.own 1 [[Qlg]]), (Qlf p1 p2)]) (σr' := [(.own 1 [[Qlg]]), (Qlf p1 p2)]) (res' := (B x12)) [0, 1] rfl enter122 (Qif N x7 p1 p2 _ hf11) rfl (Qb7 (rnc (.plain _ (NLt.agg _ (nlc nll (nlc (nld Qcb _) nl0)))) (rnc (Qa5 rfl) rn0))) (slc (Qak (rnc (Qap rn0 (rnc (Qa5 rfl) rn0)) rn0)) (slc (Qak (rnc (.plain _ (nld Qaa _)) (rnc (.plain _ (nld Qaq _)) rn0))) Qan)) (slc (Qak (rnc (Qap rn0 (rnc (Qhj rfl) rn0)) rn0)) (slc (Qak (rnc (.plain _ (nld Qaa _)) (rnc (.plain _ (nld Qaq _)) rn0))) Qan)) (.plain _ nll) rfl rfl rfl, trivial⟩ ?_
    rcases bft (x12) with hc13 | hc13
    ·replace h := Qau hc13 h
     refine wft hc13 (by kernel_rfl) ?_
     refine wx tbk [] trivial ?_
     refine wmr (mto (n := 19) (l' := [(4, I y3)]) (own' := [(.own 1 [[Qlg]]), (Qlf p1 p2)]) [(4, I y3)] [0, 1] [(.own 1 [[Qlg]]), (Qlf p1 p2)] hφ0 (pc rwl pn) (qc (spb (lc (.rn (Qap rn0 (rnc (rqr rfl) rn0))) ln)) (qc (spb (lc (.rn (.plain _ (nld Qaa _))) (lc (.rn (.plain _ (nld Qaq _))) ln))) qn))) ?_
     refine Qac ?_
     refine Qbv ?_
     refine Qar ?_
     refine Qar ?_
     refine Qbv ?_
     refine Qar ?_
     obtain rfl := osi h
     exact ⟨_, Mor.rfl, Qb9 (vs := [I y3]) ⟨rot (by kernel_rfl), trivial⟩ rfl (NLt.of0 nll) (by kernel_rfl) (Qah (Qax (nlc (NLt.fn _ _ _ nl0 (nlc (NLt.ref _ _ _ _ (by decide)) nl0)) nl0)) (Qah (Qax (nlc (NLt.of0 (nld Qaa _)) (nlc (NLt.of0 (nld Qaq _)) nl0))) Qbl))⟩
    ·replace h := Qav hc13 h
     refine wfn hc13 (by kernel_rfl) ?_
     refine Qal ?_
     refine bln ?_
     refine thn ?_
     refine wx1 tbk [] trivial ?_
     refine thn ?_
     exact arm (mto (n := 19) [(0, (Qs6 p0)), (1, Qv7), (7, (I ((p0.length : Int)))), (8, (I (w64 (y3 + 1))))] [0, 1] [(.own 1 [[Qlg]]), (Qlf p1 p2)] hφ0 (pc (.rn (.plain _ (nld Qaq _))) (pc (.rn (Qap rn0 (rnc (rqr rfl) rn0))) (pc rwl (pc rwl pn)))) (qc (spb (lc (.rn (Qap rn0 (rnc (rqr rfl) rn0))) ln)) (qc (spb (lc (.rn (.plain _ (nld Qaa _))) (lc (.rn (.plain _ (nld Qaq _))) ln))) qn))) (ih (w64 (y3 + 1)) h)
   ·replace h := Qav hc6 h
    refine wfn hc6 (by kernel_rfl) ?_
    refine Qbd ?_
    refine Qas ?_
    refine Qas ?_
    refine Qbc rfl ?_
    refine thn ?_
    exact ⟨(), h, (mto (n := 19) [] [0, 1] [(.own 1 [[Qlg]]), (Qlf p1 p2)] hφ0 pn (qc (spb (lc (.rn (Qap rn0 (rnc (rqr rfl) rn0))) ln)) (qc (spb (lc (.rn (.plain _ (nld Qaa _))) (lc (.rn (.plain _ (nld Qaq _))) ln))) qn)))⟩
def Qce (N : Nat) (p0 : (List GUnit)) (p1 : (List Int)) (p2 : (List GUnit)) : Option Bool :=
  (Qcs N p0 p1 p2).bind fun x3 =>
  some (decide (x3 ≥ 0))
def z45_0 (p0 : (List GUnit)) : AV := .dat 2 ((p0 : List GUnit).map Qch)
def z45_1 : AV := .fn (.func 122) [] [(.ref 0 1 (0) 0)]
def Qrf : AV := .fn (.func 104) [] [(.ref 1 2 (0) 0)]
def Qre (p1 : (List Int)) (p2 : (List GUnit)) : Slot := .own 2 [[(.dat 1 ((p1 : List Int).map Qab)), (.dat 2 ((p2 : List GUnit).map Qch))]]
set_option maxRecDepth 100000 in
set_option maxHeartbeats 4000000 in
theorem Qes (N : Nat) (p0 : (List GUnit)) (p1 : (List Int)) (p2 : (List GUnit)) (r : Bool) (h : Qce N p0 p1 p2 = some r) : Spec Try.prog 121 [(z45_0 p0), z45_1] [(.own 1 [[Qrf]]), (Qre p1 p2)] (B (r)) [(.own 1 [[Qrf]]), (Qre p1 p2)] := by
  refine Qae Try.func121 rfl 2 (nle rfl) (fun X φ0 w0 hφ0 => ?_)
  unfold Qce at h
  refine Qbr ?_
  refine wx tbk [] trivial ?_
  obtain ⟨x3, hf2, h⟩ := bno h
  refine wx tbk [(2, ⟨[fu 132, (.tmp 5, (z45_0 p0)), (.tmp 6, z45_1)], [(0, .own 1 [[Qrf]]), (1, (Qre p1 p2))], I x3, [(0, .own 1 [[Qrf]]), (1, (Qre p1 p2))], false⟩)] ⟨Qao (first := []) (cap := []) (vs := [(z45_0 p0), z45_1]) (σr := [(.own 1 [[Qrf]]), (Qre p1 p2)]) (σr' := [(.own 1 [[Qrf]]), (Qre p1 p2)]) (res' := (I x3)) [0, 1] rfl enter132 (Qe9 N p0 p1 p2 _ hf2) rfl (Qb7 (rnc (.plain _ (nld Qaq _)) (rnc (Qap rn0 (rnc (Qa5 rfl) rn0)) rn0))) (slc (Qak (rnc (Qap rn0 (rnc (Qa5 rfl) rn0)) rn0)) (slc (Qak (rnc (.plain _ (nld Qaa _)) (rnc (.plain _ (nld Qaq _)) rn0))) Qan)) (slc (Qak (rnc (Qap rn0 (rnc (Qhj rfl) rn0)) rn0)) (slc (Qak (rnc (.plain _ (nld Qaa _)) (rnc (.plain _ (nld Qaq _)) rn0))) Qan)) (.plain _ nll) rfl rfl rfl, trivial⟩ ?_
  refine wmr (mto (n := 9) (l' := [(4, (B ((decide (x3 ≥ 0)))))]) (own' := [(.own 1 [[Qrf]]), (Qre p1 p2)]) [(4, (B ((decide (x3 ≥ 0)))))] [0, 1] [(.own 1 [[Qrf]]), (Qre p1 p2)] hφ0 (pc rwl pn) (qc (spb (lc (.rn (Qap rn0 (rnc (rqr rfl) rn0))) ln)) (qc (spb (lc (.rn (.plain _ (nld Qaa _))) (lc (.rn (.plain _ (nld Qaq _))) ln))) qn))) ?_
  refine Qac ?_
  obtain rfl := osi h
  exact ⟨_, Mor.rfl, Qb9 (vs := [(B ((decide (x3 ≥ 0))))]) ⟨rot (by kernel_rfl), trivial⟩ rfl (NLt.of0 nll) (by kernel_rfl) (Qah (Qax (nlc (NLt.fn _ _ _ nl0 (nlc (NLt.ref _ _ _ _ (by decide)) nl0)) nl0)) (Qah (Qax (nlc (NLt.of0 (nld Qaa _)) (nlc (NLt.of0 (nld Qaq _)) nl0))) Qbl))⟩
def Qff (N : Nat) (p0 : (List GUnit)) (p1 : (List Int)) (p2 : (List GUnit)) : Option Bool :=
  (Qce N p0 p1 p2).bind fun x3 =>
  some (!x3)
def z44_1 (p0 : (List GUnit)) : AV := .dat 2 ((p0 : List GUnit).map Qch)
def Qxo : AV := .fn (.func 104) [] [(.ref 0 2 (0) 0)]
def Qrg (p1 : (List Int)) (p2 : (List GUnit)) : Slot := .own 2 [[(.dat 1 ((p1 : List Int).map Qab)), (.dat 2 ((p2 : List GUnit).map Qch))]]
def z44_2 : AV := .fn (.func 122) [] [(.ref 1 1 (0) 0)]
set_option maxRecDepth 100000 in
set_option maxHeartbeats 4000000 in
theorem Qiz (N : Nat) (p0 : (List GUnit)) (p1 : (List Int)) (p2 : (List GUnit)) (r : Bool) (h : Qff N p0 p1 p2 = some r) : Spec Try.prog 103 [(z44_1 p0), Qxo] [(Qrg p1 p2)] (B (r)) [(Qrg p1 p2)] := by
  refine Qae Try.func103 rfl 1 (nle rfl) (fun X φ0 w0 hφ0 => ?_)
  unfold Qff at h
  refine Qbr ?_
  refine wx tbk [] trivial ?_
  obtain ⟨x3, hf2, h⟩ := bno h
  refine wx tbk [(1, rp [(.tmp 3, .ref 1 1 0 0)] z44_2), (2, ⟨[fu 121, (.tmp 5, (z44_1 p0)), (.tmp 6, z44_2)], [(1, .own 1 [[Qxo]]), (0, (Qrg p1 p2))], B x3, [(1, .own 1 [[Qxo]]), (0, (Qrg p1 p2))], false⟩)] ⟨Qd7 (fs := []) (cs := [.ref 1 1 0 0]) rfl rfl rfl rfl, Qao (first := []) (cap := []) (vs := [(z44_1 p0), z44_2]) (σr := [(.own 1 [[Qxo]]), (Qrg p1 p2)]) (σr' := [(.own 1 [[Qxo]]), (Qrg p1 p2)]) (res' := (B x3)) [1, 0] rfl enter121 (Qes N p0 p1 p2 _ hf2) rfl (Qb7 (rnc (.plain _ (nld Qaq _)) (rnc (Qap rn0 (rnc (Qa5 rfl) rn0)) rn0))) (slc (Qak (rnc (Qap rn0 (rnc (Qa5 rfl) rn0)) rn0)) (slc (Qak (rnc (.plain _ (nld Qaa _)) (rnc (.plain _ (nld Qaq _)) rn0))) Qan)) (slc (Qak (rnc (Qap rn0 (rnc (Qhj rfl) rn0)) rn0)) (slc (Qak (rnc (.plain _ (nld Qaa _)) (rnc (.plain _ (nld Qaq _)) rn0))) Qan)) (.plain _ nll) rfl rfl rfl, trivial⟩ ?_
  refine wmr (mto (n := 9) (l' := [(4, (B ((!x3))))]) (own' := [(Qrg p1 p2)]) [(4, (B ((!x3))))] [0] [(Qrg p1 p2)] hφ0 (pc rwl pn) (qc (spb (lc (.rn (.plain _ (nld Qaa _))) (lc (.rn (.plain _ (nld Qaq _))) ln))) qn)) ?_
  refine Qac ?_
  obtain rfl := osi h
  exact ⟨_, Mor.rfl, Qb9 (vs := [(B ((!x3)))]) ⟨rot (by kernel_rfl), trivial⟩ rfl (NLt.of0 nll) (by kernel_rfl) (Qah (Qax (nlc (NLt.of0 (nld Qaa _)) (nlc (NLt.of0 (nld Qaq _)) nl0))) Qbl)⟩
def Qgj (N : Nat) (p0 : GShared) : Option Bool :=
  (Qbe N (p0.heads.length : Int) 1 6).bind fun x2 =>
  bif x2 then
   (Qh8 N p0.heads).bind fun x5 =>
   bif x5 then
    (Qbe N (p0.units.length : Int) 1 10).bind fun x8 =>
    bif x8 then
     (Qff N p0.units p0.heads p0.units).bind fun x11 =>
     some x11
    else
     some false
   else
    some false
  else
   some false
def Qnp (p0 : GShared) : AV := .dat 1 ((p0.heads : List Int).map Qab)
def Qxp (p0 : GShared) : AV := .dat 2 ((p0.units : List GUnit).map Qch)
def z38_4 : AV := .fn (.func 104) [] [(.ref 0 2 (0) 0)]
def z38_2 (p0 : GShared) : Slot := .own 2 [[(Qnp p0), (Qxp p0)]]
set_option maxRecDepth 100000 in
set_option maxHeartbeats 4000000 in
theorem Qj7 (N : Nat) (p0 : GShared) (r : Bool) (h : Qgj N p0 = some r) : Spec Try.prog 80 [(.agg (Qop p0))] [] (B r) [] := by
  refine Qae Try.func80 rfl 0 (nle rfl) (fun X φ0 w0 hφ0 => ?_)
  unfold Qgj at h
  refine wx tbk [] trivial ?_
  obtain ⟨x2, hf1, h⟩ := bno h
  rcases bft (x2) with hb3 | hb3
  ·replace h := Qau hb3 h
   obtain ⟨x5, hf4, h⟩ := bno h
   rcases bft (x5) with hb6 | hb6
   ·replace h := Qau hb6 h
    obtain ⟨x8, hf7, h⟩ := bno h
    rcases bft (x8) with hb9 | hb9
    ·replace h := Qau hb9 h
     obtain ⟨x11, hf10, h⟩ := bno h
     refine wx tbk [(2, rp [(.tmp 4, (Qnp p0))] (I ((p0.heads.length : Int)))), (3, rp [fu 65, (.tmp 5, (I ((p0.heads.length : Int)))), ci 1, ci 6] (B x2)), (4, rp [(.tmp 6, B x2)] (B true)), (7, rp [(.tmp 7, B true), fu 89, (.tmp 9, (Qnp p0)), fu 102] (B x5)), (9, rp [(.tmp 11, B x5)] (B true)), (12, rp [(.tmp 12, B true), (.tmp 14, (Qxp p0))] (I ((p0.units.length : Int)))), (13, rp [(.tmp 12, B true), fu 65, (.tmp 15, (I ((p0.units.length : Int)))), ci 1, ci 10] (B x8)), (15, rp [(.tmp 17, B x8)] (B true)), (18, rp [(.tmp 18, B true), (.tmp 1, .ref 0 2 0 0)] z38_4), (19, ⟨[(.tmp 18, B true), fu 103, (.tmp 20, (Qxp p0)), (.tmp 21, z38_4)], [(0, (z38_2 p0))], B x11, [(0, (z38_2 p0))], false⟩)] ⟨alm (c := Qab) (l := p0.heads) (aln rfl Try.underlying37 rfl), apc (first := []) (cap := []) (vs := [(I ((p0.heads.length : Int))), I 1, I 6]) rfl Qbt (Qag N (p0.heads.length : Int) 1 6 _ hf1) rfl rfl (nlc nll (nlc nll (nlc nll nl0))) nll rfl, asb hb3 (amv rfl), ag_ (Qao (first := []) (cap := []) (vs := [(Qnp p0), (.fn (.func 102) [] [])]) (σr := []) (σr' := []) (res' := (B x5)) [] rfl Qj3 (Qgk N p0.heads _ hf4) rfl (Qb7 (rnc (.plain _ (nld Qaa _)) (rnc (.plain _ (NLt.fn _ _ _ nl0 nl0)) rn0))) Qan Qan (.plain _ nll) rfl rfl rfl), asb hb6 (amv rfl), ag_ (alm (c := Qch) (l := p0.units) (aln rfl Try.underlying89 rfl)), ag_ (apc (first := []) (cap := []) (vs := [(I ((p0.units.length : Int))), I 1, I 10]) rfl Qbt (Qag N (p0.units.length : Int) 1 10 _ hf7) rfl rfl (nlc nll (nlc nll (nlc nll nl0))) nll rfl), asb hb9 (amv rfl), ag_ (Qd7 (fs := []) (cs := [.ref 0 2 0 0]) rfl rfl rfl rfl), ag_ (Qao (first := []) (cap := []) (vs := [(Qxp p0), z38_4]) (σr := [(z38_2 p0)]) (σr' := [(z38_2 p0)]) (res' := (B x11)) [0] rfl enter103 (Qiz N p0.units p0.heads p0.units _ hf10) rfl (Qb7 (rnc (.plain _ (nld Qaq _)) (rnc (Qap rn0 (rnc (Qa5 rfl) rn0)) rn0))) (slc (Qak (rnc (.plain _ (nld Qaa _)) (rnc (.plain _ (nld Qaq _)) rn0))) Qan) (slc (Qak (rnc (.plain _ (nld Qaa _)) (rnc (.plain _ (nld Qaq _)) rn0))) Qan) (.plain _ nll) rfl rfl rfl), trivial⟩ ?_
     refine Qac ?_
     obtain rfl := osi h
     exact fend ⟨[B x11], ⟨rot (by kernel_rfl), trivial⟩, rfl⟩ nll
    ·replace h := Qav hb9 h
     refine wx tbk [(2, rp [(.tmp 4, (Qnp p0))] (I ((p0.heads.length : Int)))), (3, rp [fu 65, (.tmp 5, (I ((p0.heads.length : Int)))), ci 1, ci 6] (B x2)), (4, rp [(.tmp 6, B x2)] (B true)), (7, rp [(.tmp 7, B true), fu 89, (.tmp 9, (Qnp p0)), fu 102] (B x5)), (9, rp [(.tmp 11, B x5)] (B true)), (12, rp [(.tmp 12, B true), (.tmp 14, (Qxp p0))] (I ((p0.units.length : Int)))), (13, rp [(.tmp 12, B true), fu 65, (.tmp 15, (I ((p0.units.length : Int)))), ci 1, ci 10] (B x8)), (15, rp [(.tmp 17, B x8)] (B false))] ⟨alm (c := Qab) (l := p0.heads) (aln rfl Try.underlying37 rfl), apc (first := []) (cap := []) (vs := [(I ((p0.heads.length : Int))), I 1, I 6]) rfl Qbt (Qag N (p0.heads.length : Int) 1 6 _ hf1) rfl rfl (nlc nll (nlc nll (nlc nll nl0))) nll rfl, asb hb3 (amv rfl), ag_ (Qao (first := []) (cap := []) (vs := [(Qnp p0), (.fn (.func 102) [] [])]) (σr := []) (σr' := []) (res' := (B x5)) [] rfl Qj3 (Qgk N p0.heads _ hf4) rfl (Qb7 (rnc (.plain _ (nld Qaa _)) (rnc (.plain _ (NLt.fn _ _ _ nl0 nl0)) rn0))) Qan Qan (.plain _ nll) rfl rfl rfl), asb hb6 (amv rfl), ag_ (alm (c := Qch) (l := p0.units) (aln rfl Try.underlying89 rfl)), ag_ (apc (first := []) (cap := []) (vs := [(I ((p0.units.length : Int))), I 1, I 10]) rfl Qbt (Qag N (p0.units.length : Int) 1 10 _ hf7) rfl rfl (nlc nll (nlc nll (nlc nll nl0))) nll rfl), asb hb9 (amv rfl), trivial⟩ ?_
     refine Qac ?_
     obtain rfl := osi h
     exact fend ⟨[B false], ⟨rot (by kernel_rfl), trivial⟩, rfl⟩ nll
   ·replace h := Qav hb6 h
    refine wx tbk [(2, rp [(.tmp 4, (Qnp p0))] (I ((p0.heads.length : Int)))), (3, rp [fu 65, (.tmp 5, (I ((p0.heads.length : Int)))), ci 1, ci 6] (B x2)), (4, rp [(.tmp 6, B x2)] (B true)), (7, rp [(.tmp 7, B true), fu 89, (.tmp 9, (Qnp p0)), fu 102] (B x5)), (9, rp [(.tmp 11, B x5)] (B false))] ⟨alm (c := Qab) (l := p0.heads) (aln rfl Try.underlying37 rfl), apc (first := []) (cap := []) (vs := [(I ((p0.heads.length : Int))), I 1, I 6]) rfl Qbt (Qag N (p0.heads.length : Int) 1 6 _ hf1) rfl rfl (nlc nll (nlc nll (nlc nll nl0))) nll rfl, asb hb3 (amv rfl), ag_ (Qao (first := []) (cap := []) (vs := [(Qnp p0), (.fn (.func 102) [] [])]) (σr := []) (σr' := []) (res' := (B x5)) [] rfl Qj3 (Qgk N p0.heads _ hf4) rfl (Qb7 (rnc (.plain _ (nld Qaa _)) (rnc (.plain _ (NLt.fn _ _ _ nl0 nl0)) rn0))) Qan Qan (.plain _ nll) rfl rfl rfl), asb hb6 (amv rfl), trivial⟩ ?_
    refine Qac ?_
    obtain rfl := osi h
    exact fend ⟨[B false], ⟨rot (by kernel_rfl), trivial⟩, rfl⟩ nll
  ·replace h := Qav hb3 h
   refine wx tbk [(2, rp [(.tmp 4, (Qnp p0))] (I ((p0.heads.length : Int)))), (3, rp [fu 65, (.tmp 5, (I ((p0.heads.length : Int)))), ci 1, ci 6] (B x2)), (4, rp [(.tmp 6, B x2)] (B false))] ⟨alm (c := Qab) (l := p0.heads) (aln rfl Try.underlying37 rfl), apc (first := []) (cap := []) (vs := [(I ((p0.heads.length : Int))), I 1, I 6]) rfl Qbt (Qag N (p0.heads.length : Int) 1 6 _ hf1) rfl rfl (nlc nll (nlc nll (nlc nll nl0))) nll rfl, asb hb3 (amv rfl), trivial⟩ ?_
   refine Qac ?_
   obtain rfl := osi h
   exact fend ⟨[B false], ⟨rot (by kernel_rfl), trivial⟩, rfl⟩ nll
def Qdf (N : Nat) (p0 : GShared) (p1 : (List Int)) (k2 : Int → Option Int) : Nat → Int → Int → Option Int
  | 0, _, _ => none
  | n7 + 1, y3, y4 =>
    bif (decide (y4 < (p1.length : Int))) then
     (getI p1 y4).bind fun x9 =>
     (getI p0.units y4).bind fun x13 =>
     (Qf4 N x13 x9).bind fun x18 =>
     Qdf N p0 p1 k2 n7 (w64 (y3 + x18)) (w64 (y4 + 1))
    else
     k2 (y3)
def Qgy (N : Nat) (p0 : GShared) (p1 : (List Int)) : Option Int :=
  Qcn (fun y1 =>
    some y1) fun k2 : Int → Option Int =>
  Qdf N p0 p1 k2 N 0 0
def Qv5 (p1 : (List Int)) : AV := .dat 1 ((p1 : List Int).map Qab)
def z49_1 (p0 : GShared) : AV := .dat 2 ((p0.units : List GUnit).map Qch)
def z49_2 (p0 : GShared) : Slot := .own 2 [[(.dat 1 ((p0.heads : List Int).map Qab)), (z49_1 p0)]]
set_option maxRecDepth 100000 in
set_option maxHeartbeats 4000000 in
theorem Qkm (N : Nat) (p0 : GShared) (p1 : (List Int)) (r : Int) (h : Qgy N p0 p1 = some r) : Spec Try.prog 82 [(.agg (Qop p0)), (.dat 1 (p1.map Qab))] [] (I r) [] := by
  refine Qae Try.func82 rfl 0 (nle rfl) (fun X φ0 w0 hφ0 => ?_)
  unfold Qgy at h
  refine wx tbk [] trivial ?_
  obtain ⟨k2, hk_k2, h⟩ := jko h
  refine wjn (τ := Int) (fun t => k2 t = some r) (fun y1 => ⟨mk 25 [(4, I y1)], []⟩) (fun y1 h => ?_) ?_
  ·subst hk_k2
   refine wx tbk [] trivial ?_
   refine Qac ?_
   obtain rfl := osi h
   exact fend ⟨[I y1], ⟨rot (by kernel_rfl), trivial⟩, rfl⟩ nll
  ·skip
   refine wx tbk [(1, rp [(.tmp 7, (Qv5 p1))] (I ((p1.length : Int))))] ⟨alm (c := Qab) (l := p1) (aln rfl Try.underlying37 rfl), trivial⟩ ?_
   refine Qai ?_
   refine wmr (mto (n := 25) (l' := [(2, .ref 0 2 0 0), (4, I 0), (7, (Qv5 p1)), (8, (I ((p1.length : Int)))), (9, I 0)]) (own' := [(z49_2 p0)]) [(2, .ref 0 2 0 0), (4, I 0), (7, (Qv5 p1)), (8, (I ((p1.length : Int)))), (9, I 0)] [0] [(z49_2 p0)] hφ0 (pc (.rn (rqr rfl)) (pc rwl (pc (.rn (.plain _ (nld Qaa _))) (pc rwl (pc rwl pn))))) (qc (spb (lc (.rn (.plain _ (nld Qaa _))) (lc (.rn (.plain _ (nld Qaq _))) ln))) qn)) ?_
   refine Qby (τ := Int × Int) (fun n t => Qdf N p0 p1 k2 n t.1 t.2 = some r) (fun ⟨y3, y4⟩ => ⟨mk 25 [(2, .ref 0 2 0 0), (4, I y3), (7, (Qv5 p1)), (8, (I ((p1.length : Int)))), (9, I y4)], [(z49_2 p0)]⟩) (fun t h => by rw [Qdf] at h; cases h) (fun n7 ih t h => ?_) N (0, 0) h
   obtain ⟨y3, y4⟩ := t
   rw [Qdf] at h
   skip
   refine wx tbk [] trivial ?_
   refine wsq ?_
   rcases bft ((decide (y4 < (p1.length : Int)))) with hc8 | hc8
   ·replace h := Qau hc8 h
    refine wft hc8 (by kernel_rfl) ?_
    refine Qal ?_
    refine thn ?_
    refine wsq ?_
    refine Qai ?_
    obtain ⟨x9, hg10, h⟩ := bno h
    obtain ⟨hi11, hj12⟩ := gsm hg10
    refine wx tbk [(1, rp [(.tmp 7, (Qv5 p1)), (.tmp 9, I y4)] (.dptr (Qab (x9)) 0))] ⟨aid rfl Try.underlying37 ti3 rfl rfl hi11 (mgt Qab hj12) rfl, trivial⟩ ?_
    obtain ⟨x13, hg14, h⟩ := bno h
    obtain ⟨hi15, hj16⟩ := gsm hg14
    obtain ⟨x18, hf17, h⟩ := bno h
    refine wx1 tbk [(4, rp [(.tmp 16, (z49_1 p0)), (.tmp 17, I y4)] (.dptr (Qch (x13)) 0)), (7, rp [fu 67, (.tmp 19, (.agg [I x13.Inlet, (.dat 2 ((x13.Parts : List GPart).map Qcp))])), (.tmp 20, I x9)] (I x18))] ⟨aid rfl Try.underlying89 ti34 rfl rfl hi15 (mgt Qch hj16) rfl, apc (first := []) (cap := []) (vs := [(.agg [I x13.Inlet, (.dat 2 ((x13.Parts : List GPart).map Qcp))]), I x9]) rfl enter67 (Qib N x13 x9 _ hf17) rfl rfl (nlc (NLt.agg _ (nlc nll (nlc (nld Qcb _) nl0))) (nlc nll nl0)) nll rfl, trivial⟩ ?_
    refine bln ?_
    refine thn ?_
    refine wx1 tbk [] trivial ?_
    refine thn ?_
    exact arm (mto (n := 25) [(2, .ref 0 2 0 0), (4, (I (w64 (y3 + x18)))), (7, (Qv5 p1)), (8, (I ((p1.length : Int)))), (9, (I (w64 (y4 + 1))))] [0] [(z49_2 p0)] hφ0 (pc (.rn (rqr rfl)) (pc rwl (pc (.rn (.plain _ (nld Qaa _))) (pc rwl (pc rwl pn))))) (qc (spb (lc (.rn (.plain _ (nld Qaa _))) (lc (.rn (.plain _ (nld Qaq _))) ln))) qn)) (ih (w64 (y3 + x18), w64 (y4 + 1)) h)
   ·replace h := Qav hc8 h
    refine wfn hc8 (by kernel_rfl) ?_
    refine Qbd ?_
    refine Qas ?_
    refine Qas ?_
    refine Qbc rfl ?_
    refine thn ?_
    exact ⟨(y3), h, (mto (n := 25) [(4, I y3)] [] [] hφ0 (pc rwl pn) qn)⟩
def Qer (N : Nat) (p0 : (List Int)) (y7 : (List Int)) (k10 : (List Int) → Option ((List Int) × Int × (List Int) × Int)) : Nat → (List Int) → Int → Int → Option ((List Int) × Int × (List Int) × Int)
  | 0, _, _, _ => none
  | n19 + 1, y13, y14, y15 =>
    bif (decide (y15 < (((p0.length : Int).toNat : Nat) : Int))) then
     chk (decide (0 ≤ y15) && decide (y15.toNat < (p0.length : Int).toNat)) <|
     (y7[y15.toNat]?).bind fun x22 =>
     chk (decide ((y13.length + ([w64 (x22 - y14)]).length) * 8 ≤ 140737488355328)) <|
     Qer N p0 y7 k10 n19 (y13 ++ ([w64 (x22 - y14)])) x22 (w64 (y15 + 1))
    else
     k10 (y13)
def Qep (N : Nat) (p0 : (List Int)) (k32 : (List Int) → Option ((List Int) × Int × (List Int) × Int)) (x37 : Int) : Nat → Int → (List Int) → Option ((List Int) × Int × (List Int) × Int)
  | 0, _, _ => none
  | n48 + 1, y44, y45 =>
    bif (decide (y44 < (((p0.length : Int).toNat : Nat) : Int))) then
     chk (decide (0 ≤ y44) && decide (y44.toNat < (p0.length : Int).toNat)) <|
     (y45[y44.toNat]?).bind fun x51 =>
     chk (decide (0 ≤ y44) && decide (y44.toNat < (p0.length : Int).toNat)) <|
     (y45[y44.toNat]?).bind fun _ =>
     Qep N p0 k32 x37 n48 (w64 (y44 + 1)) (y45.set y44.toNat (if x37 > x51 then x37 else x51))
    else
     k32 (y45)
def Qeo (N : Nat) (x5 : ((List Int) × (List Int) × (List Int))) (k43 : Int → Option ((List Int) × Int × (List Int) × Int)) : Nat → Int → Option ((List Int) × Int × (List Int) × Int)
  | 0, _ => none
  | n58 + 1, y56 =>
    (getI x5.2.1 y56).bind fun x59 =>
    bif (decide (x59 > 0)) then
     Qeo N x5 k43 n58 (w64 (y56 - 1))
    else
     k43 (y56)
def Qeq (N : Nat) (p0 : (List Int)) (p1 : (List GUnit)) (x5 : ((List Int) × (List Int) × (List Int))) (k8 : (List Int) → Option ((List Int) × Int × (List Int) × Int)) : Nat → Int → (List Int) → Option ((List Int) × Int × (List Int) × Int)
  | 0, _, _ => none
  | n29 + 1, y25, y26 =>
    bif (decide (y25 < (p1.length : Int))) then
     Qcn (fun y31 =>
       Qeq N p0 p1 x5 k8 n29 (w64 (y25 + 1)) y31) fun k32 : (List Int) → Option ((List Int) × Int × (List Int) × Int) =>
     (getI p1 y25).bind fun x33 =>
     (getI x5.2.2 y25).bind fun x37 =>
     bif (decide (x37 ≤ 0)) then
      k32 (y26)
     else
      Qcn (fun y42 =>
        Qep N p0 k32 x37 N y42 y26) fun k43 : Int → Option ((List Int) × Int × (List Int) × Int) =>
      Qeo N x5 k43 N x33.Inlet
    else
     k8 (y26)
def Qkt (N : Nat) (p0 : (List Int)) (p1 : (List GUnit)) : Option ((List Int) × Int × (List Int) × Int) :=
  (Qgj N (⟨p0, p1⟩ : GShared)).bind fun x2 =>
  bif (!x2) then
   some ([], 0, [], 1)
  else
   (Qg0 N (⟨p0, p1⟩ : GShared)).bind fun x5 =>
   chk (decide (0 ≤ (p0.length : Int)) && decide (8 * (p0.length : Int) ≤ 281474976710656) && decide ((p0.length : Int) ≤ 9223372036854775807)) <|
   Qcn (fun y7 =>
     Qcn (fun y9 =>
       (Qgy N (⟨p0, p1⟩ : GShared) x5.1).bind fun x12 =>
       some (x5.1, x12, y9, 0)) fun k10 : (List Int) → Option ((List Int) × Int × (List Int) × Int) =>
     Qer N p0 y7 k10 N ([]) 0 0) fun k8 : (List Int) → Option ((List Int) × Int × (List Int) × Int) =>
   Qeq N p0 p1 x5 k8 N 0 (List.replicate (p0.length : Int).toNat 0)
def Qxs (p0 : (List Int)) : AV := .dat 1 ((p0 : List Int).map Qab)
def Qin (p1 : (List GUnit)) : AV := .dat 2 ((p1 : List GUnit).map Qch)
def Qs8 (p0 : (List Int)) (p1 : (List GUnit)) : AV := .agg [(Qxs p0), (Qin p1)]
def Qxr : AV := .dat 1 (([] : List Int).map Qab)
def Qgr (x5 : ((List Int) × (List Int) × (List Int))) : AV := .dat 1 ((x5.1 : List Int).map Qab)
def Qjo (x5 : ((List Int) × (List Int) × (List Int))) : AV := .dat 1 ((x5.2.1 : List Int).map Qab)
def Qje (x5 : ((List Int) × (List Int) × (List Int))) : AV := .dat 1 ((x5.2.2 : List Int).map Qab)
def z37_7 (p0 : (List Int)) : Slot := .own 1 ((List.replicate (p0.length : Int).toNat 0 : List Int).map Qab)
def Qh1 (p0 : (List Int)) (p1 : (List GUnit)) : Slot := .own 2 [[(Qxs p0), (Qin p1)]]
def Qnq (y7 : (List Int)) : Slot := .own 1 ((y7 : List Int).map Qab)
def Qxq (y13 : (List Int)) : AV := .acc 0 3 1 ((y13 : List Int).map Qab)
def Qke (y26 : (List Int)) : Slot := .own 1 ((y26 : List Int).map Qab)
def Qmm (y45 : (List Int)) : Slot := .own 1 ((y45 : List Int).map Qab)
set_option maxRecDepth 100000 in
set_option maxHeartbeats 4000000 in
theorem Qob (N : Nat) (p0 : (List Int)) (p1 : (List GUnit)) (r : ((List Int) × Int × (List Int) × Int)) (h : Qkt N p0 p1 = some r) : Spec Try.prog 44 [(.dat 1 (p0.map Qab)), (.dat 2 (p1.map Qch))] [] (.tup [(.dat 1 (r.1.map Qab)), (I r.2.1), (.dat 1 (r.2.2.1.map Qab)), (I r.2.2.2)]) [] := by
  refine Qae Try.func44 rfl 0 (nle rfl) (fun X φ0 w0 hφ0 => ?_)
  unfold Qkt at h
  refine wx tbk [] trivial ?_
  refine wx tbk [(2, rp [(.tmp 18, (Qxs p0)), (.tmp 19, (Qin p1))] (Qs8 p0 p1))] ⟨Qbp (vs := [(Qxs p0), (Qin p1)]) rfl ts133 tz133 rfl (by rfl) rfl, trivial⟩ ?_
  refine wsq ?_
  obtain ⟨x2, hf1, h⟩ := bno h
  refine wx tbk [(1, rp [fu 80, (.tmp 21, (Qs8 p0 p1))] (B x2))] ⟨apc (first := []) (cap := []) (vs := [(Qs8 p0 p1)]) rfl enter80 (Qj7 N (⟨p0, p1⟩ : GShared) _ hf1) rfl rfl (nlc (NLt.agg _ (nlc (nld Qaa _) (nlc (nld Qaq _) nl0))) nl0) nll rfl, trivial⟩ ?_
  rcases bft ((!x2)) with hc3 | hc3
  ·replace h := Qau hc3 h
   refine wft hc3 (by kernel_rfl) ?_
   refine wx tbk [] trivial ?_
   refine Qac ?_
   refine Qar ?_
   obtain rfl := osi h
   exact fend ⟨[Qxr, I 0, Qxr, I 1], ⟨Qf1 (v := nilS) (rot (by kernel_rfl)) Less.nil, rot (by kernel_rfl), Qf1 (v := nilS) (rot (by kernel_rfl)) Less.nil, rot (by kernel_rfl), trivial⟩, rfl⟩ (NLt.tup _ (nlc (nld Qaa _) (nlc nll (nlc (nld Qaa _) (nlc nll nl0)))))
  ·replace h := Qav hc3 h
   refine wfn hc3 (by kernel_rfl) ?_
   refine Qal ?_
   refine thn ?_
   obtain ⟨x5, hf4, h⟩ := bno h
   refine wx tbk [(1, rp [fu 81, (.tmp 25, (Qs8 p0 p1))] (.tup [(Qgr x5), (Qjo x5), (Qje x5)]))] ⟨apc (first := []) (cap := []) (vs := [(Qs8 p0 p1)]) rfl enter81 (Qkn N (⟨p0, p1⟩ : GShared) _ hf4) rfl rfl (nlc (NLt.agg _ (nlc (nld Qaa _) (nlc (nld Qaq _) nl0))) nl0) (NLt.tup _ (nlc (nld Qaa _) (nlc (nld Qaa _) (nlc (nld Qaa _) nl0)))) rfl, trivial⟩ ?_
   obtain ⟨hm6, h⟩ := cko h
   refine wx tbk [(1, rp [(.tmp 30, (Qxs p0))] (I ((p0.length : Int)))), (2, ⟨[(.tmp 31, (I ((p0.length : Int)))), (.tmp 31, (I ((p0.length : Int))))], [(1, .unused)], (.own 1 1 (0) ((p0.length : Int).toNat)), [(1, (z37_7 p0))], false⟩)] ⟨alm (c := Qab) (l := p0) (aln rfl Try.underlying37 rfl), Qf6 rfl Try.underlying37 te3 tz3 rfl (Qo8 hm6) rfl (Qo7 hm6) (Qmi hm6) (Qmu Qab rfl), trivial⟩ ?_
   obtain ⟨k8, hk_k8, h⟩ := jko h
   refine wjn (τ := (List Int)) (fun t => k8 t = some r) (fun y7 => ⟨mk 92 [(4, (Qgr x5)), (6, nilS), (8, .ref 0 2 0 0), (11, (.own 1 1 (0) ((p0.length : Int).toNat)))], [(Qh1 p0 p1), (Qnq y7)]⟩) (fun y7 h => ?_) ?_
   ·subst hk_k8
    refine wx tbk [] trivial ?_
    obtain ⟨k10, hk_k10, h⟩ := jko h
    refine wjn (τ := (List Int)) (fun t => k10 t = some r) (fun y9 => ⟨mk 92 [(4, (Qgr x5)), (6, (.acc 0 3 1 ((y9 : List Int).map Qab))), (8, .ref 1 2 0 0)], [.tok, (Qh1 p0 p1)]⟩) (fun y9 h => ?_) ?_
    ·subst hk_k10
     obtain ⟨x12, hf11, h⟩ := bno h
     refine wx tbk [(3, rp [fu 82, (.tmp 88, (Qs8 p0 p1)), (.tmp 89, (Qgr x5))] (I x12))] ⟨apc (first := []) (cap := []) (vs := [(Qs8 p0 p1), (Qgr x5)]) rfl enter82 (Qkm N (⟨p0, p1⟩ : GShared) x5.1 _ hf11) rfl rfl (nlc (NLt.agg _ (nlc (nld Qaa _) (nlc (nld Qaq _) nl0))) (nlc (nld Qaa _) nl0)) nll rfl, trivial⟩ ?_
     refine Qac ?_
     obtain rfl := osi h
     exact fend ⟨[(Qgr x5), I x12, (.dat 1 ((y9 : List Int).map Qab)), I 0], ⟨rot (by kernel_rfl), rot (by kernel_rfl), Qf1 (v := (.acc 0 3 1 ((y9 : List Int).map Qab))) (rot (by kernel_rfl)) Less.acc, rot (by kernel_rfl), trivial⟩, rfl⟩ (NLt.tup _ (nlc (nld Qaa _) (nlc nll (nlc (nld Qaa _) (nlc nll nl0)))))
    ·skip
     refine wx tbk [(1, rp [(.tmp 73, (.own 1 1 (0) ((p0.length : Int).toNat)))] (I ((((p0.length : Int).toNat : Nat) : Int))))] ⟨aln rfl Try.underlying37 rfl, trivial⟩ ?_
     refine Qai ?_
     refine wmr (Mor.trans (Qtt 2 3 1 6 (by kernel_rfl) (by kernel_rfl)) (mto (n := 92) (l' := [(4, (Qgr x5)), (6, (.acc 0 3 1 ((([]) : List Int).map Qab))), (8, .ref 1 2 0 0), (15, I 0), (73, (.own 2 1 (0) ((p0.length : Int).toNat))), (74, (I ((((p0.length : Int).toNat : Nat) : Int)))), (75, I 0)]) (own' := [.tok, (Qh1 p0 p1), (Qnq y7)]) [(4, (Qgr x5)), (6, (.acc 2 3 1 (([] : List Int).map Qab))), (8, .ref 0 2 0 0), (15, I 0), (73, (.own 1 1 (0) ((p0.length : Int).toNat))), (74, (I ((((p0.length : Int).toNat : Nat) : Int)))), (75, I 0)] [2, 0, 1] [.tok, (Qh1 p0 p1), (Qnq y7)] hφ0 (pc (.rn (.plain _ (nld Qaa _))) (pc (.rn (Qh7 rfl (Qfn Qaa _))) (pc (.rn (rqr rfl)) (pc rwl (pc (.rn (Qad rfl)) (pc rwl (pc rwl pn))))))) (qc .tok (qc (spb (lc (.rn (.plain _ (nld Qaa _))) (lc (.rn (.plain _ (nld Qaq _))) ln))) (qc (spr Qaa) qn))))) ?_
     refine Qby (τ := (List Int) × Int × Int) (fun n t => Qer N p0 y7 k10 n t.1 t.2.1 t.2.2 = some r) (fun ⟨y13, y14, y15⟩ => ⟨mk 92 [(4, (Qgr x5)), (6, (Qxq y13)), (8, .ref 1 2 0 0), (15, I y14), (73, (.own 2 1 (0) ((p0.length : Int).toNat))), (74, (I ((((p0.length : Int).toNat : Nat) : Int)))), (75, I y15)], [.tok, (Qh1 p0 p1), (Qnq y7)]⟩) (fun t h => by rw [Qer] at h; cases h) (fun n19 ih t h => ?_) N ([], 0, 0) h
     obtain ⟨y13, y14, y15⟩ := t
     rw [Qer] at h
     skip
     refine wx tbk [] trivial ?_
     refine wsq ?_
     rcases bft ((decide (y15 < (((p0.length : Int).toNat : Nat) : Int)))) with hc20 | hc20
     ·replace h := Qau hc20 h
      refine wft hc20 (by kernel_rfl) ?_
      refine Qal ?_
      refine thn ?_
      refine wsq ?_
      refine Qai ?_
      obtain ⟨hi21, h⟩ := cko h
      obtain ⟨hi21a, hi21b⟩ := Qaz hi21
      obtain ⟨x22, hg23, h⟩ := bno h
      refine wx tbk [(0, rb [(.tmp 73, (.own 2 1 (0) ((p0.length : Int).toNat))), (.tmp 75, I y15)] [(2, (Qnq y7))] (.ref 2 1 (y15.toNat) 0)), (1, rb [(.tmp 77, (.ref 2 1 (y15.toNat) 0))] [(2, (Qnq y7))] (I x22))] ⟨aio rfl Try.underlying37 ti3 (odt hi21a) (odt hi21b) (Nat.zero_add _), ald rfl ti3 (by decide) (mgt Qab hg23) (nle rfl) rfl, trivial⟩ ?_
      obtain ⟨ha24, h⟩ := cko h
      refine wx tbk [(4, rp [(.tmp 82, (I (w64 (x22 - y14))))] (.dat 1 (([w64 (x22 - y14)] : List Int).map Qab))), (5, ⟨[(.tmp 79, (Qxq y13)), (.tmp 83, (.dat 1 (([w64 (x22 - y14)] : List Int).map Qab)))], [(0, .tok), (3, .unused)], (.acc 3 3 1 ((y13 ++ ([w64 (x22 - y14)]) : List Int).map Qab)), [(0, .dead), (3, .tok)], false⟩)] ⟨Qcq (vs := [(I (w64 (x22 - y14)))]) rfl Try.underlying37 ti3 tz3 rfl (by decide) rfl (by decide) (by rfl) (by rfl) (by rfl) rfl, Qhd rfl Try.underlying37 te3 (Base.acc _ _) rfl rfl (by rfl) (Qo0 Qab ha24) (Qoz Qab ha24 (by decide)) (Qoy Qab) rfl rfl, trivial⟩ ?_
      refine wx1 tbk [] trivial ?_
      refine bln ?_
      refine thn ?_
      refine wx1 tbk [] trivial ?_
      refine thn ?_
      exact arm (mto (n := 92) [(4, (Qgr x5)), (6, (.acc 3 3 1 ((y13 ++ ([w64 (x22 - y14)]) : List Int).map Qab))), (8, .ref 1 2 0 0), (15, I x22), (73, (.own 2 1 (0) ((p0.length : Int).toNat))), (74, (I ((((p0.length : Int).toNat : Nat) : Int)))), (75, (I (w64 (y15 + 1))))] [3, 1, 2] [.tok, (Qh1 p0 p1), (Qnq y7)] hφ0 (pc (.rn (.plain _ (nld Qaa _))) (pc (.rn (Qh7 rfl (Qfn Qaa _))) (pc (.rn (rqr rfl)) (pc rwl (pc (.rn (Qad rfl)) (pc rwl (pc rwl pn))))))) (qc .tok (qc (spb (lc (.rn (.plain _ (nld Qaa _))) (lc (.rn (.plain _ (nld Qaq _))) ln))) (qc (spr Qaa) qn)))) (ih (y13 ++ ([w64 (x22 - y14)]), x22, w64 (y15 + 1)) h)
     ·replace h := Qav hc20 h
      refine wfn hc20 (by kernel_rfl) ?_
      refine Qbd ?_
      refine Qas ?_
      refine Qas ?_
      refine Qbc rfl ?_
      refine thn ?_
      exact ⟨(y13), h, (mto (n := 92) [(4, (Qgr x5)), (6, (Qxq y13)), (8, .ref 1 2 0 0)] [0, 1] [.tok, (Qh1 p0 p1)] hφ0 (pc (.rn (.plain _ (nld Qaa _))) (pc (.rn (Qh7 rfl (Qfn Qaa _))) (pc (.rn (rqr rfl)) pn))) (qc .tok (qc (spb (lc (.rn (.plain _ (nld Qaa _))) (lc (.rn (.plain _ (nld Qaq _))) ln))) qn)))⟩
   ·skip
    refine wx tbk [(1, rp [(.tmp 33, (Qin p1))] (I ((p1.length : Int))))] ⟨alm (c := Qch) (l := p1) (aln rfl Try.underlying89 rfl), trivial⟩ ?_
    refine Qai ?_
    refine wmr (mto (n := 92) (l' := [(4, (Qgr x5)), (6, nilS), (8, .ref 0 2 0 0), (9, (Qjo x5)), (10, (Qje x5)), (11, (.own 1 1 (0) ((p0.length : Int).toNat))), (33, (Qin p1)), (34, (I ((p1.length : Int)))), (35, I 0)]) (own' := [(Qh1 p0 p1), (.own 1 (((List.replicate (p0.length : Int).toNat 0) : List Int).map Qab))]) [(4, (Qgr x5)), (6, nilS), (8, .ref 0 2 0 0), (9, (Qjo x5)), (10, (Qje x5)), (11, (.own 1 1 (0) ((p0.length : Int).toNat))), (33, (Qin p1)), (34, (I ((p1.length : Int)))), (35, I 0)] [0, 1] [(Qh1 p0 p1), (z37_7 p0)] hφ0 (pc (.rn (.plain _ (nld Qaa _))) (pc rwl (pc (.rn (rqr rfl)) (pc (.rn (.plain _ (nld Qaa _))) (pc (.rn (.plain _ (nld Qaa _))) (pc (.rn (Qad rfl)) (pc (.rn (.plain _ (nld Qaq _))) (pc rwl (pc rwl pn))))))))) (qc (spb (lc (.rn (.plain _ (nld Qaa _))) (lc (.rn (.plain _ (nld Qaq _))) ln))) (qc (spr Qaa) qn))) ?_
    refine Qby (τ := Int × (List Int)) (fun n t => Qeq N p0 p1 x5 k8 n t.1 t.2 = some r) (fun ⟨y25, y26⟩ => ⟨mk 92 [(4, (Qgr x5)), (6, nilS), (8, .ref 0 2 0 0), (9, (Qjo x5)), (10, (Qje x5)), (11, (.own 1 1 (0) ((p0.length : Int).toNat))), (33, (Qin p1)), (34, (I ((p1.length : Int)))), (35, I y25)], [(Qh1 p0 p1), (Qke y26)]⟩) (fun t h => by rw [Qeq] at h; cases h) (fun n29 ih t h => ?_) N (0, List.replicate (p0.length : Int).toNat 0) h
    obtain ⟨y25, y26⟩ := t
    rw [Qeq] at h
    skip
    refine wx tbk [] trivial ?_
    refine wsq ?_
    rcases bft ((decide (y25 < (p1.length : Int)))) with hc30 | hc30
    ·replace h := Qau hc30 h
     refine wft hc30 (by kernel_rfl) ?_
     refine Qal ?_
     refine thn ?_
     obtain ⟨k32, hk_k32, h⟩ := jko h
     refine wjn (τ := (List Int)) (fun t => k32 t = some r) (fun y31 => ⟨mk 92 [(4, (Qgr x5)), (6, nilS), (8, .ref 0 2 0 0), (9, (Qjo x5)), (10, (Qje x5)), (11, (.own 1 1 (0) ((p0.length : Int).toNat))), (33, (Qin p1)), (34, (I ((p1.length : Int)))), (35, I y25)], [(Qh1 p0 p1), (.own 1 ((y31 : List Int).map Qab))]⟩) (fun y31 h => ?_) ?_
     ·subst hk_k32
      refine wx1 tbk [] trivial ?_
      refine thn ?_
      exact arm (mto (n := 92) [(4, (Qgr x5)), (6, nilS), (8, .ref 0 2 0 0), (9, (Qjo x5)), (10, (Qje x5)), (11, (.own 1 1 (0) ((p0.length : Int).toNat))), (33, (Qin p1)), (34, (I ((p1.length : Int)))), (35, (I (w64 (y25 + 1))))] [0, 1] [(Qh1 p0 p1), (.own 1 ((y31 : List Int).map Qab))] hφ0 (pc (.rn (.plain _ (nld Qaa _))) (pc rwl (pc (.rn (rqr rfl)) (pc (.rn (.plain _ (nld Qaa _))) (pc (.rn (.plain _ (nld Qaa _))) (pc (.rn (Qad rfl)) (pc (.rn (.plain _ (nld Qaq _))) (pc rwl (pc rwl pn))))))))) (qc (spb (lc (.rn (.plain _ (nld Qaa _))) (lc (.rn (.plain _ (nld Qaq _))) ln))) (qc (spr Qaa) qn))) (ih (w64 (y25 + 1), y31) h)
     ·skip
      refine Qai ?_
      obtain ⟨x33, hg34, h⟩ := bno h
      obtain ⟨hi35, hj36⟩ := gsm hg34
      refine wx tbk [(1, rp [(.tmp 33, (Qin p1)), (.tmp 35, I y25)] (.dptr (Qch (x33)) 0))] ⟨aid rfl Try.underlying89 ti34 rfl rfl hi35 (mgt Qch hj36) rfl, trivial⟩ ?_
      refine wsq ?_
      obtain ⟨x37, hg38, h⟩ := bno h
      obtain ⟨hi39, hj40⟩ := gsm hg38
      refine wx tbk [(2, rp [(.tmp 40, (Qje x5)), (.tmp 41, I y25)] (.dptr (Qab (x37)) 0))] ⟨aid rfl Try.underlying37 ti3 rfl rfl hi39 (mgt Qab hj40) rfl, trivial⟩ ?_
      rcases bft ((decide (x37 ≤ 0))) with hc41 | hc41
      ·replace h := Qau hc41 h
       refine wft hc41 (by kernel_rfl) ?_
       refine Qbd ?_
       refine Qas ?_
       refine Qbc rfl ?_
       refine thn ?_
       exact ⟨(y26), h, (mto (n := 92) [(4, (Qgr x5)), (6, nilS), (8, .ref 0 2 0 0), (9, (Qjo x5)), (10, (Qje x5)), (11, (.own 1 1 (0) ((p0.length : Int).toNat))), (33, (Qin p1)), (34, (I ((p1.length : Int)))), (35, I y25)] [0, 1] [(Qh1 p0 p1), (Qke y26)] hφ0 (pc (.rn (.plain _ (nld Qaa _))) (pc rwl (pc (.rn (rqr rfl)) (pc (.rn (.plain _ (nld Qaa _))) (pc (.rn (.plain _ (nld Qaa _))) (pc (.rn (Qad rfl)) (pc (.rn (.plain _ (nld Qaq _))) (pc rwl (pc rwl pn))))))))) (qc (spb (lc (.rn (.plain _ (nld Qaa _))) (lc (.rn (.plain _ (nld Qaq _))) ln))) (qc (spr Qaa) qn)))⟩
      ·replace h := Qav hc41 h
       refine wfn hc41 (by kernel_rfl) ?_
       refine Qal ?_
       refine thn ?_
       refine wx tbk [] trivial ?_
       obtain ⟨k43, hk_k43, h⟩ := jko h
       refine wjn (τ := Int) (fun t => k43 t = some r) (fun y42 => ⟨mk 92 [(4, (Qgr x5)), (6, nilS), (8, .ref 0 2 0 0), (9, (Qjo x5)), (10, (Qje x5)), (11, (.own 1 1 (0) ((p0.length : Int).toNat))), (12, I y25), (14, I y42), (33, (Qin p1)), (34, (I ((p1.length : Int)))), (35, I y25)], [(Qh1 p0 p1), (Qke y26)]⟩) (fun y42 h => ?_) ?_
       ·subst hk_k43
        refine Qai ?_
        refine wmr (mto (n := 92) (l' := [(4, (Qgr x5)), (6, nilS), (8, .ref 0 2 0 0), (9, (Qjo x5)), (10, (Qje x5)), (11, (.own 1 1 (0) ((p0.length : Int).toNat))), (12, I y25), (14, I y42), (33, (Qin p1)), (34, (I ((p1.length : Int)))), (35, I y25)]) (own' := [(Qh1 p0 p1), (Qke y26)]) [(4, (Qgr x5)), (6, nilS), (8, .ref 0 2 0 0), (9, (Qjo x5)), (10, (Qje x5)), (11, (.own 1 1 (0) ((p0.length : Int).toNat))), (12, I y25), (14, I y42), (33, (Qin p1)), (34, (I ((p1.length : Int)))), (35, I y25)] [0, 1] [(Qh1 p0 p1), (Qke y26)] hφ0 (pc (.rn (.plain _ (nld Qaa _))) (pc rwl (pc (.rn (rqr rfl)) (pc (.rn (.plain _ (nld Qaa _))) (pc (.rn (.plain _ (nld Qaa _))) (pc (.rn (Qad rfl)) (pc rwl (pc rwl (pc (.rn (.plain _ (nld Qaq _))) (pc rwl (pc rwl pn))))))))))) (qc (spb (lc (.rn (.plain _ (nld Qaa _))) (lc (.rn (.plain _ (nld Qaq _))) ln))) (qc (spr Qaa) qn))) ?_
        refine Qby (τ := Int × (List Int)) (fun n t => Qep N p0 k32 x37 n t.1 t.2 = some r) (fun ⟨y44, y45⟩ => ⟨mk 92 [(4, (Qgr x5)), (6, nilS), (8, .ref 0 2 0 0), (9, (Qjo x5)), (10, (Qje x5)), (11, (.own 1 1 (0) ((p0.length : Int).toNat))), (12, I y25), (14, I y44), (33, (Qin p1)), (34, (I ((p1.length : Int)))), (35, I y25)], [(Qh1 p0 p1), (Qmm y45)]⟩) (fun t h => by rw [Qep] at h; cases h) (fun n48 ih t h => ?_) N (y42, y26) h
        obtain ⟨y44, y45⟩ := t
        rw [Qep] at h
        skip
        refine wsq ?_
        refine wx tbk [(2, rp [(.tmp 55, (.own 1 1 (0) ((p0.length : Int).toNat)))] (I ((((p0.length : Int).toNat : Nat) : Int))))] ⟨aln rfl Try.underlying37 rfl, trivial⟩ ?_
        rcases bft ((decide (y44 < (((p0.length : Int).toNat : Nat) : Int)))) with hc49 | hc49
        ·replace h := Qau hc49 h
         refine wft hc49 (by kernel_rfl) ?_
         refine Qal ?_
         refine thn ?_
         refine wsq ?_
         refine Qai ?_
         obtain ⟨hi50, h⟩ := cko h
         obtain ⟨hi50a, hi50b⟩ := Qaz hi50
         obtain ⟨x51, hg52, h⟩ := bno h
         obtain ⟨hi53, h⟩ := cko h
         obtain ⟨hi53a, hi53b⟩ := Qaz hi53
         obtain ⟨x54, hg55, h⟩ := bno h
         refine wy1 tbk [(4, rb [(.tmp 62, (.own 1 1 (0) ((p0.length : Int).toNat))), (.tmp 63, I y44)] [(1, (Qmm y45))] (.ref 1 1 (y44.toNat) 0)), (5, rb [(.tmp 64, (.ref 1 1 (y44.toNat) 0))] [(1, (Qmm y45))] (I x51)), (8, rp [(.tmp 66, (Qje x5)), (.tmp 67, I y25)] (.dptr (Qab (x37)) 0)), (10, rp [(.tmp 65, I x51), (.tmp 69, I x37)] (I ((if x37 > x51 then x37 else x51)))), (11, rb [(.tmp 60, (.own 1 1 (0) ((p0.length : Int).toNat))), (.tmp 61, I y44)] [(1, (Qmm y45))] (.ref 1 1 (y44.toNat) 0)), (12, ⟨[(.tmp 71, (.ref 1 1 (y44.toNat) 0)), (.tmp 70, (I ((if x37 > x51 then x37 else x51))))], [(1, (Qmm y45))], .any, [(1, (.own 1 ((y45.set y44.toNat (if x37 > x51 then x37 else x51) : List Int).map Qab)))], false⟩)] ⟨aio rfl Try.underlying37 ti3 (odt hi50a) (odt hi50b) (Nat.zero_add _), ald rfl ti3 (by decide) (mgt Qab hg52) (nle rfl) rfl, aid rfl Try.underlying37 ti3 rfl rfl hi39 (mgt Qab hj40) rfl, Qmf rfl, aio rfl Try.underlying37 ti3 (odt hi53a) (odt hi53b) (Nat.zero_add _), ast rfl ti3 (by rfl) (mgt Qab hg55) (nle rfl) (Qfs Qab rfl), trivial⟩ ?_
         refine bln ?_
         refine thn ?_
         refine wx1 tbk [] trivial ?_
         refine thn ?_
         exact arm (mto (n := 92) [(4, (Qgr x5)), (6, nilS), (8, .ref 0 2 0 0), (9, (Qjo x5)), (10, (Qje x5)), (11, (.own 1 1 (0) ((p0.length : Int).toNat))), (12, I y25), (14, (I (w64 (y44 + 1)))), (33, (Qin p1)), (34, (I ((p1.length : Int)))), (35, I y25)] [0, 1] [(Qh1 p0 p1), (.own 1 ((y45.set y44.toNat (if x37 > x51 then x37 else x51) : List Int).map Qab))] hφ0 (pc (.rn (.plain _ (nld Qaa _))) (pc rwl (pc (.rn (rqr rfl)) (pc (.rn (.plain _ (nld Qaa _))) (pc (.rn (.plain _ (nld Qaa _))) (pc (.rn (Qad rfl)) (pc rwl (pc rwl (pc (.rn (.plain _ (nld Qaq _))) (pc rwl (pc rwl pn))))))))))) (qc (spb (lc (.rn (.plain _ (nld Qaa _))) (lc (.rn (.plain _ (nld Qaq _))) ln))) (qc (spr Qaa) qn))) (ih (w64 (y44 + 1), y45.set y44.toNat (if x37 > x51 then x37 else x51)) h)
        ·replace h := Qav hc49 h
         refine wfn hc49 (by kernel_rfl) ?_
         refine Qbd ?_
         refine Qas ?_
         refine Qas ?_
         refine Qbc rfl ?_
         refine bln ?_
         refine thn ?_
         exact ⟨(y45), h, (mto (n := 92) [(4, (Qgr x5)), (6, nilS), (8, .ref 0 2 0 0), (9, (Qjo x5)), (10, (Qje x5)), (11, (.own 1 1 (0) ((p0.length : Int).toNat))), (33, (Qin p1)), (34, (I ((p1.length : Int)))), (35, I y25)] [0, 1] [(Qh1 p0 p1), (Qmm y45)] hφ0 (pc (.rn (.plain _ (nld Qaa _))) (pc rwl (pc (.rn (rqr rfl)) (pc (.rn (.plain _ (nld Qaa _))) (pc (.rn (.plain _ (nld Qaa _))) (pc (.rn (Qad rfl)) (pc (.rn (.plain _ (nld Qaq _))) (pc rwl (pc rwl pn))))))))) (qc (spb (lc (.rn (.plain _ (nld Qaa _))) (lc (.rn (.plain _ (nld Qaq _))) ln))) (qc (spr Qaa) qn)))⟩
       ·skip
        refine Qai ?_
        refine wmr (mto (n := 92) (l' := [(4, (Qgr x5)), (6, nilS), (8, .ref 0 2 0 0), (9, (Qjo x5)), (10, (Qje x5)), (11, (.own 1 1 (0) ((p0.length : Int).toNat))), (12, I y25), (14, I x33.Inlet), (33, (Qin p1)), (34, (I ((p1.length : Int)))), (35, I y25)]) (own' := [(Qh1 p0 p1), (Qke y26)]) [(4, (Qgr x5)), (6, nilS), (8, .ref 0 2 0 0), (9, (Qjo x5)), (10, (Qje x5)), (11, (.own 1 1 (0) ((p0.length : Int).toNat))), (12, I y25), (14, I x33.Inlet), (33, (Qin p1)), (34, (I ((p1.length : Int)))), (35, I y25)] [0, 1] [(Qh1 p0 p1), (Qke y26)] hφ0 (pc (.rn (.plain _ (nld Qaa _))) (pc rwl (pc (.rn (rqr rfl)) (pc (.rn (.plain _ (nld Qaa _))) (pc (.rn (.plain _ (nld Qaa _))) (pc (.rn (Qad rfl)) (pc rwl (pc rwl (pc (.rn (.plain _ (nld Qaq _))) (pc rwl (pc rwl pn))))))))))) (qc (spb (lc (.rn (.plain _ (nld Qaa _))) (lc (.rn (.plain _ (nld Qaq _))) ln))) (qc (spr Qaa) qn))) ?_
        refine Qby (τ := Int) (fun n t => Qeo N x5 k43 n t = some r) (fun y56 => ⟨mk 92 [(4, (Qgr x5)), (6, nilS), (8, .ref 0 2 0 0), (9, (Qjo x5)), (10, (Qje x5)), (11, (.own 1 1 (0) ((p0.length : Int).toNat))), (12, I y25), (14, I y56), (33, (Qin p1)), (34, (I ((p1.length : Int)))), (35, I y25)], [(Qh1 p0 p1), (Qke y26)]⟩) (fun t h => by rw [Qeo] at h; cases h) (fun n58 ih y56 h => ?_) N (x33.Inlet) h
        rw [Qeo] at h
        skip
        refine wsq ?_
        obtain ⟨x59, hg60, h⟩ := bno h
        obtain ⟨hi61, hj62⟩ := gsm hg60
        refine wx tbk [(2, rp [(.tmp 47, (Qjo x5)), (.tmp 48, I y56)] (.dptr (Qab (x59)) 0))] ⟨aid rfl Try.underlying37 ti3 rfl rfl hi61 (mgt Qab hj62) rfl, trivial⟩ ?_
        rcases bft ((decide (x59 > 0))) with hc63 | hc63
        ·replace h := Qau hc63 h
         refine wft hc63 (by kernel_rfl) ?_
         refine Qal ?_
         refine thn ?_
         refine Qai ?_
         refine wx1 tbk [] trivial ?_
         refine bln ?_
         refine thn ?_
         exact arm (mto (n := 92) [(4, (Qgr x5)), (6, nilS), (8, .ref 0 2 0 0), (9, (Qjo x5)), (10, (Qje x5)), (11, (.own 1 1 (0) ((p0.length : Int).toNat))), (12, I y25), (14, (I (w64 (y56 - 1)))), (33, (Qin p1)), (34, (I ((p1.length : Int)))), (35, I y25)] [0, 1] [(Qh1 p0 p1), (Qke y26)] hφ0 (pc (.rn (.plain _ (nld Qaa _))) (pc rwl (pc (.rn (rqr rfl)) (pc (.rn (.plain _ (nld Qaa _))) (pc (.rn (.plain _ (nld Qaa _))) (pc (.rn (Qad rfl)) (pc rwl (pc rwl (pc (.rn (.plain _ (nld Qaq _))) (pc rwl (pc rwl pn))))))))))) (qc (spb (lc (.rn (.plain _ (nld Qaa _))) (lc (.rn (.plain _ (nld Qaq _))) ln))) (qc (spr Qaa) qn))) (ih (w64 (y56 - 1)) h)
        ·replace h := Qav hc63 h
         refine wfn hc63 (by kernel_rfl) ?_
         refine Qbd ?_
         refine Qas ?_
         refine Qas ?_
         refine Qbc rfl ?_
         refine thn ?_
         exact ⟨(y56), h, (mto (n := 92) [(4, (Qgr x5)), (6, nilS), (8, .ref 0 2 0 0), (9, (Qjo x5)), (10, (Qje x5)), (11, (.own 1 1 (0) ((p0.length : Int).toNat))), (12, I y25), (14, I y56), (33, (Qin p1)), (34, (I ((p1.length : Int)))), (35, I y25)] [0, 1] [(Qh1 p0 p1), (Qke y26)] hφ0 (pc (.rn (.plain _ (nld Qaa _))) (pc rwl (pc (.rn (rqr rfl)) (pc (.rn (.plain _ (nld Qaa _))) (pc (.rn (.plain _ (nld Qaa _))) (pc (.rn (Qad rfl)) (pc rwl (pc rwl (pc (.rn (.plain _ (nld Qaq _))) (pc rwl (pc rwl pn))))))))))) (qc (spb (lc (.rn (.plain _ (nld Qaa _))) (lc (.rn (.plain _ (nld Qaq _))) ln))) (qc (spr Qaa) qn)))⟩
    ·replace h := Qav hc30 h
     refine wfn hc30 (by kernel_rfl) ?_
     refine Qbd ?_
     refine Qas ?_
     refine Qas ?_
     refine Qbc rfl ?_
     refine thn ?_
     exact ⟨(y26), h, (mto (n := 92) [(4, (Qgr x5)), (6, nilS), (8, .ref 0 2 0 0), (11, (.own 1 1 (0) ((p0.length : Int).toNat)))] [0, 1] [(Qh1 p0 p1), (Qke y26)] hφ0 (pc (.rn (.plain _ (nld Qaa _))) (pc rwl (pc (.rn (rqr rfl)) (pc (.rn (Qad rfl)) pn)))) (qc (spb (lc (.rn (.plain _ (nld Qaa _))) (lc (.rn (.plain _ (nld Qaq _))) ln))) (qc (spr Qaa) qn)))⟩
end Go.Proofs.Ytlhakkkjgdbdpaa
