/-
  Functions of the program: what they compute, as plain functions, and that they do. No conditions.
-/
import Derived.Test.YtlhakkkjgdbdpaaX2
namespace Go.Proofs.Ytlhakkkjgdbdpaa
open Go.RowKit
def Qf3 (N : Nat) (p0 : Int) : Option Bool :=
  (Qa8 N p0 0 1000000).bind fun x2 =>
  some x2
set_option maxRecDepth 100000 in
set_option maxHeartbeats 4000000 in
theorem Qjv (N : Nat) (p0 : Int) (r : Bool) (h : Qf3 N p0 = some r) : Spec Try.prog 102 [(I p0)] [] (B r) [] := by
  refine Qac Try.func102 rfl 0 (nle rfl) (fun X φ0 w0 hφ0 => ?_)
  unfold Qf3 at h
  refine wx tbk [] trivial ?_
  obtain ⟨x2, hf1, h⟩ := bno h
  refine wx tbk [(1, rp [fu 65, (.tmp 3, I p0), ci 0, ci 1000000] (B x2))] ⟨apc (first := []) (cap := []) (vs := [I p0, I 0, I 1000000]) rfl Qbs (Qae N p0 0 1000000 _ hf1) rfl rfl (nlc nll (nlc nll (nlc nll nl0))) nll rfl, trivial⟩ ?_
  refine Qab ?_
  obtain rfl := osi h
  exact fend ⟨[B x2], ⟨rot (by kernel_rfl), trivial⟩, rfl⟩ nll
def Qha (N : Nat) (p0 : Int) : Option Bool :=
  (Qf3 N p0).bind fun x3 =>
  some (!x3)
def z42_0 : Slot := .own 1 [[(.fn (.func 102) [] [])]]
set_option maxRecDepth 100000 in
set_option maxHeartbeats 4000000 in
theorem Qk3 (N : Nat) (p0 : Int) (r : Bool) (h : Qha N p0 = some r) : Spec Try.prog 110 [(I (p0)), (.ref 0 1 (0) 0)] [z42_0] (B (r)) [z42_0] := by
  refine Qac Try.func110 rfl 1 (nle rfl) (fun X φ0 w0 hφ0 => ?_)
  unfold Qha at h
  refine Qbj ?_
  refine wx tbk [] trivial ?_
  obtain ⟨x3, hf2, h⟩ := bno h
  refine wx tbk [(2, rp [(.tmp 4, (.fn (.func 102) [] [])), (.tmp 5, I p0)] (B x3))] ⟨apc (first := []) (cap := []) (vs := [I p0]) rfl enter102 (Qjv N p0 _ hf2) rfl rfl (nlc nll nl0) nll rfl, trivial⟩ ?_
  refine wmr (mto (n := 8) (l' := [(3, (B ((!x3))))]) (own' := [z42_0]) [(3, (B ((!x3))))] [0] [z42_0] hφ0 (pc rwl pn) (qc (spb (lc (.rn (Qaq rn0 rn0)) ln)) qn)) ?_
  refine Qab ?_
  obtain rfl := osi h
  exact ⟨_, Mor.rfl, Qbx (vs := [(B ((!x3)))]) ⟨rot (by kernel_rfl), trivial⟩ rfl (NLt.of0 nll) (by kernel_rfl) (Qag (Qas (nlc (NLt.of0 (NLt.fn _ _ _ nl0 nl0)) nl0)) Qa5)⟩
def Qcc (N : Nat) (p0 : (List Int)) (k2 : Unit → Option Int) : Nat → Int → Option Int
  | 0, _ => none
  | n5 + 1, y3 =>
    bif (decide (y3 < (p0.length : Int))) then
     (getI p0 y3).bind fun x7 =>
     (Qha N x7).bind fun x12 =>
     bif x12 then
      some y3
     else
      Qcc N p0 k2 n5 (w64 (y3 + 1))
    else
     k2 ()
def Qeg (N : Nat) (p0 : (List Int)) : Option Int :=
  Qdu (fun _ =>
    some (-1)) fun k2 : Unit → Option Int =>
  Qcc N p0 k2 N 0
def Qtb (p0 : (List Int)) : AV := .dat 1 ((p0 : List Int).map Qad)
def Qwe : AV := .fn (.func 110) [] [(.ref 0 1 (0) 0)]
def Qlv : Slot := .own 1 [[(.fn (.func 102) [] [])]]
set_option maxRecDepth 100000 in
set_option maxHeartbeats 4000000 in
theorem Qh7 (N : Nat) (p0 : (List Int)) (r : Int) (h : Qeg N p0 = some r) : Spec Try.prog 71 [(Qtb p0), Qwe] [Qlv] (I (r)) [Qlv] := by
  refine Qac Try.func71 rfl 1 (nle rfl) (fun X φ0 w0 hφ0 => ?_)
  unfold Qeg at h
  refine Qbj ?_
  refine wx tbk [] trivial ?_
  obtain ⟨k2, hk_k2, h⟩ := jko h
  refine wjn (τ := Unit) (fun t => k2 t = some r) (fun _ => ⟨mk 19 [], [Qlv]⟩) (fun t h => ?_) ?_
  ·subst hk_k2
   refine wx tbk [] trivial ?_
   refine wmr (mto (n := 19) (l' := [(4, (I ((-1))))]) (own' := [Qlv]) [(4, (I ((-1))))] [0] [Qlv] hφ0 (pc rwl pn) (qc (spb (lc (.rn (Qaq rn0 rn0)) ln)) qn)) ?_
   refine Qab ?_
   obtain rfl := osi h
   exact ⟨_, Mor.rfl, Qbx (vs := [(I ((-1)))]) ⟨rot (by kernel_rfl), trivial⟩ rfl (NLt.of0 nll) (by kernel_rfl) (Qag (Qas (nlc (NLt.of0 (NLt.fn _ _ _ nl0 nl0)) nl0)) Qa5)⟩
  ·skip
   refine wx tbk [(1, rp [(.tmp 6, (Qtb p0))] (I ((p0.length : Int))))] ⟨alm (c := Qad) (l := p0) (aln rfl Try.underlying37 rfl), trivial⟩ ?_
   refine Qak ?_
   refine wmr (mto (n := 19) (l' := [(0, (Qtb p0)), (1, Qwe), (7, (I ((p0.length : Int)))), (8, I 0)]) (own' := [Qlv]) [(0, (Qtb p0)), (1, Qwe), (7, (I ((p0.length : Int)))), (8, I 0)] [0] [Qlv] hφ0 (pc (.rn (.plain _ (nld Qaa _))) (pc (.rn (Qaq rn0 (rnc (rqr rfl) rn0))) (pc rwl (pc rwl pn)))) (qc (spb (lc (.rn (Qaq rn0 rn0)) ln)) qn)) ?_
   refine Qb1 (τ := Int) (fun n t => Qcc N p0 k2 n t = some r) (fun y3 => ⟨mk 19 [(0, (Qtb p0)), (1, Qwe), (7, (I ((p0.length : Int)))), (8, I y3)], [Qlv]⟩) (fun t h => by rw [Qcc] at h; cases h) (fun n5 ih y3 h => ?_) N (0) h
   rw [Qcc] at h
   skip
   refine wx tbk [] trivial ?_
   refine wsq ?_
   rcases bft ((decide (y3 < (p0.length : Int)))) with hc6 | hc6
   ·replace h := Qav hc6 h
    refine wft hc6 (by kernel_rfl) ?_
    refine Qao ?_
    refine thn ?_
    refine wsq ?_
    refine Qak ?_
    refine wx tbk [] trivial ?_
    obtain ⟨x7, hg8, h⟩ := bno h
    obtain ⟨hi9, hj10⟩ := gsm hg8
    obtain ⟨x12, hf11, h⟩ := bno h
    refine wx tbk [(3, rp [(.tmp 12, (Qtb p0)), (.tmp 13, I y3)] (.dptr (Qad (x7)) 0)), (5, ⟨[(.tmp 11, Qwe), (.tmp 15, I x7)], [(0, Qlv)], B x12, [(0, Qlv)], false⟩)] ⟨aid rfl Try.underlying37 ti3 rfl rfl hi9 (mgt Qad hj10) rfl, Qam (first := []) (cap := [.ref 0 1 0 0]) (vs := [I x7]) (σr := [Qlv]) (σr' := [Qlv]) (res' := (B x12)) [0] rfl Qq1 (Qk3 N x7 _ hf11) rfl (Qbi (rnc (.plain _ nll) (rnc (Qax rfl) rn0))) (slc (Qai (rnc (.plain _ (NLt.fn _ _ _ nl0 nl0)) rn0)) Qal) (slc (Qai (rnc (.plain _ (NLt.fn _ _ _ nl0 nl0)) rn0)) Qal) (.plain _ nll) rfl rfl rfl, trivial⟩ ?_
    rcases bft (x12) with hc13 | hc13
    ·replace h := Qav hc13 h
     refine wft hc13 (by kernel_rfl) ?_
     refine wx tbk [] trivial ?_
     refine wmr (mto (n := 19) (l' := [(4, I y3)]) (own' := [Qlv]) [(4, I y3)] [0] [Qlv] hφ0 (pc rwl pn) (qc (spb (lc (.rn (Qaq rn0 rn0)) ln)) qn)) ?_
     refine Qab ?_
     refine Qb2 ?_
     refine Qau ?_
     refine Qau ?_
     refine Qb2 ?_
     refine Qau ?_
     obtain rfl := osi h
     exact ⟨_, Mor.rfl, Qbx (vs := [I y3]) ⟨rot (by kernel_rfl), trivial⟩ rfl (NLt.of0 nll) (by kernel_rfl) (Qag (Qas (nlc (NLt.of0 (NLt.fn _ _ _ nl0 nl0)) nl0)) Qa5)⟩
    ·replace h := Qaw hc13 h
     refine wfn hc13 (by kernel_rfl) ?_
     refine Qao ?_
     refine bln ?_
     refine thn ?_
     refine wx1 tbk [] trivial ?_
     refine thn ?_
     exact arm (mto (n := 19) [(0, (Qtb p0)), (1, Qwe), (7, (I ((p0.length : Int)))), (8, (I (w64 (y3 + 1))))] [0] [Qlv] hφ0 (pc (.rn (.plain _ (nld Qaa _))) (pc (.rn (Qaq rn0 (rnc (rqr rfl) rn0))) (pc rwl (pc rwl pn)))) (qc (spb (lc (.rn (Qaq rn0 rn0)) ln)) qn)) (ih (w64 (y3 + 1)) h)
   ·replace h := Qaw hc6 h
    refine wfn hc6 (by kernel_rfl) ?_
    refine Qbh ?_
    refine Qar ?_
    refine Qar ?_
    refine Qbg rfl ?_
    refine thn ?_
    exact ⟨(), h, (mto (n := 19) [] [0] [Qlv] hφ0 pn (qc (spb (lc (.rn (Qaq rn0 rn0)) ln)) qn))⟩
def Qd0 (N : Nat) (p0 : (List Int)) : Option Bool :=
  (Qeg N p0).bind fun x3 =>
  some (decide (x3 ≥ 0))
def z40_0 (p0 : (List Int)) : AV := .dat 1 ((p0 : List Int).map Qad)
def z40_1 : AV := .fn (.func 110) [] [(.ref 0 1 (0) 0)]
def Qry : Slot := .own 1 [[(.fn (.func 102) [] [])]]
set_option maxRecDepth 100000 in
set_option maxHeartbeats 4000000 in
theorem Qg4 (N : Nat) (p0 : (List Int)) (r : Bool) (h : Qd0 N p0 = some r) : Spec Try.prog 109 [(z40_0 p0), z40_1] [Qry] (B (r)) [Qry] := by
  refine Qac Try.func109 rfl 1 (nle rfl) (fun X φ0 w0 hφ0 => ?_)
  unfold Qd0 at h
  refine Qbj ?_
  refine wx tbk [] trivial ?_
  obtain ⟨x3, hf2, h⟩ := bno h
  refine wx tbk [(2, ⟨[fu 71, (.tmp 5, (z40_0 p0)), (.tmp 6, z40_1)], [(0, Qry)], I x3, [(0, Qry)], false⟩)] ⟨Qam (first := []) (cap := []) (vs := [(z40_0 p0), z40_1]) (σr := [Qry]) (σr' := [Qry]) (res' := (I x3)) [0] rfl Qqy (Qh7 N p0 _ hf2) rfl (Qbi (rnc (.plain _ (nld Qaa _)) (rnc (Qaq rn0 (rnc (Qax rfl) rn0)) rn0))) (slc (Qai (rnc (.plain _ (NLt.fn _ _ _ nl0 nl0)) rn0)) Qal) (slc (Qai (rnc (.plain _ (NLt.fn _ _ _ nl0 nl0)) rn0)) Qal) (.plain _ nll) rfl rfl rfl, trivial⟩ ?_
  refine wmr (mto (n := 9) (l' := [(4, (B ((decide (x3 ≥ 0)))))]) (own' := [Qry]) [(4, (B ((decide (x3 ≥ 0)))))] [0] [Qry] hφ0 (pc rwl pn) (qc (spb (lc (.rn (Qaq rn0 rn0)) ln)) qn)) ?_
  refine Qab ?_
  obtain rfl := osi h
  exact ⟨_, Mor.rfl, Qbx (vs := [(B ((decide (x3 ≥ 0))))]) ⟨rot (by kernel_rfl), trivial⟩ rfl (NLt.of0 nll) (by kernel_rfl) (Qag (Qas (nlc (NLt.of0 (NLt.fn _ _ _ nl0 nl0)) nl0)) Qa5)⟩
def Qim (N : Nat) (p0 : (List Int)) : Option Bool :=
  (Qd0 N p0).bind fun x2 =>
  some (!x2)
def z39_1 (p0 : (List Int)) : AV := .dat 1 ((p0 : List Int).map Qad)
def z39_2 : AV := .fn (.func 110) [] [(.ref 0 1 (0) 0)]
def z39_0 : Slot := .own 1 [[(.fn (.func 102) [] [])]]
set_option maxRecDepth 100000 in
set_option maxHeartbeats 4000000 in
theorem Qgo (N : Nat) (p0 : (List Int)) (r : Bool) (h : Qim N p0 = some r) : Spec Try.prog 89 [(z39_1 p0), (.fn (.func 102) [] [])] [] (B (r)) [] := by
  refine Qac Try.func89 rfl 0 (nle rfl) (fun X φ0 w0 hφ0 => ?_)
  unfold Qim at h
  refine wx tbk [] trivial ?_
  obtain ⟨x2, hf1, h⟩ := bno h
  refine wx tbk [(1, rp [(.tmp 3, .ref 0 1 0 0)] z39_2), (2, ⟨[fu 109, (.tmp 5, (z39_1 p0)), (.tmp 6, z39_2)], [(0, z39_0)], B x2, [(0, z39_0)], false⟩)] ⟨Qdt (fs := []) (cs := [.ref 0 1 0 0]) rfl rfl rfl rfl, Qam (first := []) (cap := []) (vs := [(z39_1 p0), z39_2]) (σr := [z39_0]) (σr' := [z39_0]) (res' := (B x2)) [0] rfl Qq2 (Qg4 N p0 _ hf1) rfl (Qbi (rnc (.plain _ (nld Qaa _)) (rnc (Qaq rn0 (rnc (Qax rfl) rn0)) rn0))) (slc (Qai (rnc (.plain _ (NLt.fn _ _ _ nl0 nl0)) rn0)) Qal) (slc (Qai (rnc (.plain _ (NLt.fn _ _ _ nl0 nl0)) rn0)) Qal) (.plain _ nll) rfl rfl rfl, trivial⟩ ?_
  refine Qab ?_
  obtain rfl := osi h
  exact fend ⟨[(B ((!x2)))], ⟨rot (by kernel_rfl), trivial⟩, rfl⟩ nll
def Qfi (N : Nat) (p0 : GUnit) (p1 : (List Int)) (_p2 : (List GUnit)) : Option Bool :=
  (Qd9 N p0).bind fun x3 =>
  bif x3 then
   some (decide (p0.Inlet < (p1.length : Int)))
  else
   some false
def Qxk (p0 : GUnit) : AV := .agg [(I (p0.Inlet)), (.dat 2 ((p0.Parts : List GPart).map Qby))]
def Qwc (p1 : (List Int)) (p2 : (List GUnit)) : Slot := .own 2 [[(.dat 1 ((p1 : List Int).map Qad)), (.dat 2 ((p2 : List GUnit).map Qbo))]]
set_option maxRecDepth 100000 in
set_option maxHeartbeats 4000000 in
theorem Qjb (N : Nat) (p0 : GUnit) (p1 : (List Int)) (p2 : (List GUnit)) (r : Bool) (h : Qfi N p0 p1 p2 = some r) : Spec Try.prog 104 [(Qxk p0), (.ref 0 2 (0) 0)] [(Qwc p1 p2)] (B (r)) [(Qwc p1 p2)] := by
  refine Qac Try.func104 rfl 1 (nle rfl) (fun X φ0 w0 hφ0 => ?_)
  unfold Qfi at h
  refine Qbj ?_
  refine wx tbk [] trivial ?_
  obtain ⟨x3, hf2, h⟩ := bno h
  rcases bft (x3) with hb4 | hb4
  ·replace h := Qav hb4 h
   refine wx tbk [(1, rp [fu 64, (.tmp 4, (Qxk p0))] (B x3)), (2, rp [(.tmp 5, B x3)] (B true)), (7, rp [(.tmp 6, B true), (.tmp 10, (.dat 1 ((p1 : List Int).map Qad)))] (I ((p1.length : Int))))] ⟨apc (first := []) (cap := []) (vs := [(Qxk p0)]) rfl Qnm (Qdr N p0 _ hf2) rfl rfl (nlc (NLt.agg _ (nlc nll (nlc (nld Qbc _) nl0))) nl0) nll rfl, asb hb4 (amv rfl), ag_ (alm (c := Qad) (l := p1) (aln rfl Try.underlying37 rfl)), trivial⟩ ?_
   refine wmr (mto (n := 14) (l' := [(3, (B ((decide (p0.Inlet < (p1.length : Int))))))]) (own' := [(Qwc p1 p2)]) [(3, (B ((decide (p0.Inlet < (p1.length : Int))))))] [0] [(Qwc p1 p2)] hφ0 (pc rwl pn) (qc (spb (lc (.rn (.plain _ (nld Qaa _))) (lc (.rn (.plain _ (nld Qan _))) ln))) qn)) ?_
   refine Qab ?_
   obtain rfl := osi h
   exact ⟨_, Mor.rfl, Qbx (vs := [(B ((decide (p0.Inlet < (p1.length : Int)))))]) ⟨rot (by kernel_rfl), trivial⟩ rfl (NLt.of0 nll) (by kernel_rfl) (Qag (Qas (nlc (NLt.of0 (nld Qaa _)) (nlc (NLt.of0 (nld Qan _)) nl0))) Qa5)⟩
  ·replace h := Qaw hb4 h
   refine wx tbk [(1, rp [fu 64, (.tmp 4, (Qxk p0))] (B x3)), (2, rp [(.tmp 5, B x3)] (B false))] ⟨apc (first := []) (cap := []) (vs := [(Qxk p0)]) rfl Qnm (Qdr N p0 _ hf2) rfl rfl (nlc (NLt.agg _ (nlc nll (nlc (nld Qbc _) nl0))) nl0) nll rfl, asb hb4 (amv rfl), trivial⟩ ?_
   refine wmr (mto (n := 14) (l' := [(3, B false)]) (own' := [(Qwc p1 p2)]) [(3, B false)] [0] [(Qwc p1 p2)] hφ0 (pc rwl pn) (qc (spb (lc (.rn (.plain _ (nld Qaa _))) (lc (.rn (.plain _ (nld Qan _))) ln))) qn)) ?_
   refine Qab ?_
   obtain rfl := osi h
   exact ⟨_, Mor.rfl, Qbx (vs := [B false]) ⟨rot (by kernel_rfl), trivial⟩ rfl (NLt.of0 nll) (by kernel_rfl) (Qag (Qas (nlc (NLt.of0 (nld Qaa _)) (nlc (NLt.of0 (nld Qan _)) nl0))) Qa5)⟩
def Qe3 (N : Nat) (p0 : GUnit) (p1 : (List Int)) (p2 : (List GUnit)) : Option Bool :=
  (Qfi N p0 p1 p2).bind fun x3 =>
  some (!x3)
def z47_2 (p0 : GUnit) : AV := .agg [(I (p0.Inlet)), (.dat 2 ((p0.Parts : List GPart).map Qby))]
def Qxl : AV := .fn (.func 104) [] [(.ref 1 2 (0) 0)]
def Qru (p1 : (List Int)) (p2 : (List GUnit)) : Slot := .own 2 [[(.dat 1 ((p1 : List Int).map Qad)), (.dat 2 ((p2 : List GUnit).map Qbo))]]
set_option maxRecDepth 100000 in
set_option maxHeartbeats 4000000 in
theorem Qiu (N : Nat) (p0 : GUnit) (p1 : (List Int)) (p2 : (List GUnit)) (r : Bool) (h : Qe3 N p0 p1 p2 = some r) : Spec Try.prog 122 [(z47_2 p0), (.ref 0 1 (0) 0)] [(.own 1 [[Qxl]]), (Qru p1 p2)] (B (r)) [(.own 1 [[Qxl]]), (Qru p1 p2)] := by
  refine Qac Try.func122 rfl 2 (nle rfl) (fun X φ0 w0 hφ0 => ?_)
  unfold Qe3 at h
  refine Qbj ?_
  refine wx tbk [] trivial ?_
  obtain ⟨x3, hf2, h⟩ := bno h
  refine wx tbk [(2, ⟨[(.tmp 4, Qxl), (.tmp 5, (z47_2 p0))], [(1, (Qru p1 p2))], B x3, [(1, (Qru p1 p2))], false⟩)] ⟨Qam (first := []) (cap := [.ref 1 2 0 0]) (vs := [(z47_2 p0)]) (σr := [(Qru p1 p2)]) (σr' := [(Qru p1 p2)]) (res' := (B x3)) [1] rfl enter104 (Qjb N p0 p1 p2 _ hf2) rfl (Qbi (rnc (.plain _ (NLt.agg _ (nlc nll (nlc (nld Qbc _) nl0)))) (rnc (Qax rfl) rn0))) (slc (Qai (rnc (.plain _ (nld Qaa _)) (rnc (.plain _ (nld Qan _)) rn0))) Qal) (slc (Qai (rnc (.plain _ (nld Qaa _)) (rnc (.plain _ (nld Qan _)) rn0))) Qal) (.plain _ nll) rfl rfl rfl, trivial⟩ ?_
  refine wmr (mto (n := 8) (l' := [(3, (B ((!x3))))]) (own' := [(.own 1 [[Qxl]]), (Qru p1 p2)]) [(3, (B ((!x3))))] [0, 1] [(.own 1 [[Qxl]]), (Qru p1 p2)] hφ0 (pc rwl pn) (qc (spb (lc (.rn (Qaq rn0 (rnc (rqr rfl) rn0))) ln)) (qc (spb (lc (.rn (.plain _ (nld Qaa _))) (lc (.rn (.plain _ (nld Qan _))) ln))) qn))) ?_
  refine Qab ?_
  obtain rfl := osi h
  exact ⟨_, Mor.rfl, Qbx (vs := [(B ((!x3)))]) ⟨rot (by kernel_rfl), trivial⟩ rfl (NLt.of0 nll) (by kernel_rfl) (Qag (Qas (nlc (NLt.fn _ _ _ nl0 (nlc (NLt.ref _ _ _ _ (by decide)) nl0)) nl0)) (Qag (Qas (nlc (NLt.of0 (nld Qaa _)) (nlc (NLt.of0 (nld Qan _)) nl0))) Qa5))⟩
def Qbd (N : Nat) (p0 : (List GUnit)) (p1 : (List Int)) (k2 : Unit → Option Int) (p2 : (List GUnit)) : Nat → Int → Option Int
  | 0, _ => none
  | n5 + 1, y3 =>
    bif (decide (y3 < (p0.length : Int))) then
     (getI p0 y3).bind fun x7 =>
     (Qe3 N x7 p1 p2).bind fun x12 =>
     bif x12 then
      some y3
     else
      Qbd N p0 p1 k2 p2 n5 (w64 (y3 + 1))
    else
     k2 ()
def Qcu (N : Nat) (p0 : (List GUnit)) (p1 : (List Int)) (p2 : (List GUnit)) : Option Int :=
  Qdu (fun _ =>
    some (-1)) fun k2 : Unit → Option Int =>
  Qbd N p0 p1 k2 p2 N 0
def Qta (p0 : (List GUnit)) : AV := .dat 2 ((p0 : List GUnit).map Qbo)
def Qwd : AV := .fn (.func 122) [] [(.ref 0 1 (0) 0)]
def Qlu : AV := .fn (.func 104) [] [(.ref 1 2 (0) 0)]
def Qlt (p1 : (List Int)) (p2 : (List GUnit)) : Slot := .own 2 [[(.dat 1 ((p1 : List Int).map Qad)), (.dat 2 ((p2 : List GUnit).map Qbo))]]
set_option maxRecDepth 100000 in
set_option maxHeartbeats 4000000 in
theorem Qfc (N : Nat) (p0 : (List GUnit)) (p1 : (List Int)) (p2 : (List GUnit)) (r : Int) (h : Qcu N p0 p1 p2 = some r) : Spec Try.prog 132 [(Qta p0), Qwd] [(.own 1 [[Qlu]]), (Qlt p1 p2)] (I (r)) [(.own 1 [[Qlu]]), (Qlt p1 p2)] := by
  refine Qac Try.func132 rfl 2 (nle rfl) (fun X φ0 w0 hφ0 => ?_)
  unfold Qcu at h
  refine Qbj ?_
  refine wx tbk [] trivial ?_
  obtain ⟨k2, hk_k2, h⟩ := jko h
  refine wjn (τ := Unit) (fun t => k2 t = some r) (fun _ => ⟨mk 19 [], [(.own 1 [[Qlu]]), (Qlt p1 p2)]⟩) (fun t h => ?_) ?_
  ·subst hk_k2
   refine wx tbk [] trivial ?_
   refine wmr (mto (n := 19) (l' := [(4, (I ((-1))))]) (own' := [(.own 1 [[Qlu]]), (Qlt p1 p2)]) [(4, (I ((-1))))] [0, 1] [(.own 1 [[Qlu]]), (Qlt p1 p2)] hφ0 (pc rwl pn) (qc (spb (lc (.rn (Qaq rn0 (rnc (rqr rfl) rn0))) ln)) (qc (spb (lc (.rn (.plain _ (nld Qaa _))) (lc (.rn (.plain _ (nld Qan _))) ln))) qn))) ?_
   refine Qab ?_
   obtain rfl := osi h
   exact ⟨_, Mor.rfl, Qbx (vs := [(I ((-1)))]) ⟨rot (by kernel_rfl), trivial⟩ rfl (NLt.of0 nll) (by kernel_rfl) (Qag (Qas (nlc (NLt.fn _ _ _ nl0 (nlc (NLt.ref _ _ _ _ (by decide)) nl0)) nl0)) (Qag (Qas (nlc (NLt.of0 (nld Qaa _)) (nlc (NLt.of0 (nld Qan _)) nl0))) Qa5))⟩
  ·skip
   refine wx tbk [(1, rp [(.tmp 6, (Qta p0))] (I ((p0.length : Int))))] ⟨alm (c := Qbo) (l := p0) (aln rfl Try.underlying89 rfl), trivial⟩ ?_
   refine Qak ?_
   refine wmr (mto (n := 19) (l' := [(0, (Qta p0)), (1, Qwd), (7, (I ((p0.length : Int)))), (8, I 0)]) (own' := [(.own 1 [[Qlu]]), (Qlt p1 p2)]) [(0, (Qta p0)), (1, Qwd), (7, (I ((p0.length : Int)))), (8, I 0)] [0, 1] [(.own 1 [[Qlu]]), (Qlt p1 p2)] hφ0 (pc (.rn (.plain _ (nld Qan _))) (pc (.rn (Qaq rn0 (rnc (rqr rfl) rn0))) (pc rwl (pc rwl pn)))) (qc (spb (lc (.rn (Qaq rn0 (rnc (rqr rfl) rn0))) ln)) (qc (spb (lc (.rn (.plain _ (nld Qaa _))) (lc (.rn (.plain _ (nld Qan _))) ln))) qn))) ?_
   refine Qb1 (τ := Int) (fun n t => Qbd N p0 p1 k2 p2 n t = some r) (fun y3 => ⟨mk 19 [(0, (Qta p0)), (1, Qwd), (7, (I ((p0.length : Int)))), (8, I y3)], [(.own 1 [[Qlu]]), (Qlt p1 p2)]⟩) (fun t h => by rw [Qbd] at h; cases h) (fun n5 ih y3 h => ?_) N (0) h
   rw [Qbd] at h
   skip
   refine wx tbk [] trivial ?_
   refine wsq ?_
   rcases bft ((decide (y3 < (p0.length : Int)))) with hc6 | hc6
   ·replace h := Qav hc6 h
    refine wft hc6 (by kernel_rfl) ?_
    refine Qao ?_
    refine thn ?_
    refine wsq ?_
    refine Qak ?_
    refine wx tbk [] trivial ?_
    obtain ⟨x7, hg8, h⟩ := bno h
    obtain ⟨hi9, hj10⟩ := gsm hg8
    obtain ⟨x12, hf11, h⟩ := bno h
    refine wx tbk [(3, rp [(.tmp 12, (Qta p0)), (.tmp 13, I y3)] (.dptr (Qbo (x7)) 0)), (5, ⟨[(.tmp 11, Qwd), (.tmp 15, (.agg [I x7.Inlet, (.dat 2 ((x7.Parts : List GPart).map Qby))]))], [(0, .own 1 [[Qlu]]), (1, (Qlt p1 p2))], B x12, [(0, .own 1 [[Qlu]]), (1, (Qlt p1 p2))], false⟩)] ⟨aid rfl Try.underlying89 ti34 rfl rfl hi9 (mgt Qbo hj10) rfl, Qam (first := []) (cap := [.ref 0 1 0 0]) (vs := [(.agg [I x7.Inlet, (.dat 2 ((x7.Parts : List GPart).map Qby))])]) (σr := [(.own 1 [[Qlu]]), (Qlt p1 p2)]) (σr' := [(.own 1 [[Qlu]]), (Qlt p1 p2)]) (res' := (B x12)) [0, 1] rfl enter122 (Qiu N x7 p1 p2 _ hf11) rfl (Qbi (rnc (.plain _ (NLt.agg _ (nlc nll (nlc (nld Qbc _) nl0)))) (rnc (Qax rfl) rn0))) (slc (Qai (rnc (Qaq rn0 (rnc (Qax rfl) rn0)) rn0)) (slc (Qai (rnc (.plain _ (nld Qaa _)) (rnc (.plain _ (nld Qan _)) rn0))) Qal)) (slc (Qai (rnc (Qaq rn0 (rnc (Qbt rfl) rn0)) rn0)) (slc (Qai (rnc (.plain _ (nld Qaa _)) (rnc (.plain _ (nld Qan _)) rn0))) Qal)) (.plain _ nll) rfl rfl rfl, trivial⟩ ?_
    rcases bft (x12) with hc13 | hc13
    ·replace h := Qav hc13 h
     refine wft hc13 (by kernel_rfl) ?_
     refine wx tbk [] trivial ?_
     refine wmr (mto (n := 19) (l' := [(4, I y3)]) (own' := [(.own 1 [[Qlu]]), (Qlt p1 p2)]) [(4, I y3)] [0, 1] [(.own 1 [[Qlu]]), (Qlt p1 p2)] hφ0 (pc rwl pn) (qc (spb (lc (.rn (Qaq rn0 (rnc (rqr rfl) rn0))) ln)) (qc (spb (lc (.rn (.plain _ (nld Qaa _))) (lc (.rn (.plain _ (nld Qan _))) ln))) qn))) ?_
     refine Qab ?_
     refine Qb2 ?_
     refine Qau ?_
     refine Qau ?_
     refine Qb2 ?_
     refine Qau ?_
     obtain rfl := osi h
     exact ⟨_, Mor.rfl, Qbx (vs := [I y3]) ⟨rot (by kernel_rfl), trivial⟩ rfl (NLt.of0 nll) (by kernel_rfl) (Qag (Qas (nlc (NLt.fn _ _ _ nl0 (nlc (NLt.ref _ _ _ _ (by decide)) nl0)) nl0)) (Qag (Qas (nlc (NLt.of0 (nld Qaa _)) (nlc (NLt.of0 (nld Qan _)) nl0))) Qa5))⟩
    ·replace h := Qaw hc13 h
     refine wfn hc13 (by kernel_rfl) ?_
     refine Qao ?_
     refine bln ?_
     refine thn ?_
     refine wx1 tbk [] trivial ?_
     refine thn ?_
     exact arm (mto (n := 19) [(0, (Qta p0)), (1, Qwd), (7, (I ((p0.length : Int)))), (8, (I (w64 (y3 + 1))))] [0, 1] [(.own 1 [[Qlu]]), (Qlt p1 p2)] hφ0 (pc (.rn (.plain _ (nld Qan _))) (pc (.rn (Qaq rn0 (rnc (rqr rfl) rn0))) (pc rwl (pc rwl pn)))) (qc (spb (lc (.rn (Qaq rn0 (rnc (rqr rfl) rn0))) ln)) (qc (spb (lc (.rn (.plain _ (nld Qaa _))) (lc (.rn (.plain _ (nld Qan _))) ln))) qn))) (ih (w64 (y3 + 1)) h)
   ·replace h := Qaw hc6 h
    refine wfn hc6 (by kernel_rfl) ?_
    refine Qbh ?_
    refine Qar ?_
    refine Qar ?_
    refine Qbg rfl ?_
    refine thn ?_
    exact ⟨(), h, (mto (n := 19) [] [0, 1] [(.own 1 [[Qlu]]), (Qlt p1 p2)] hφ0 pn (qc (spb (lc (.rn (Qaq rn0 (rnc (rqr rfl) rn0))) ln)) (qc (spb (lc (.rn (.plain _ (nld Qaa _))) (lc (.rn (.plain _ (nld Qan _))) ln))) qn)))⟩
def Qcj (N : Nat) (p0 : (List GUnit)) (p1 : (List Int)) (p2 : (List GUnit)) : Option Bool :=
  (Qcu N p0 p1 p2).bind fun x3 =>
  some (decide (x3 ≥ 0))
def z45_0 (p0 : (List GUnit)) : AV := .dat 2 ((p0 : List GUnit).map Qbo)
def z45_1 : AV := .fn (.func 122) [] [(.ref 0 1 (0) 0)]
def Qrw : AV := .fn (.func 104) [] [(.ref 1 2 (0) 0)]
def Qrv (p1 : (List Int)) (p2 : (List GUnit)) : Slot := .own 2 [[(.dat 1 ((p1 : List Int).map Qad)), (.dat 2 ((p2 : List GUnit).map Qbo))]]
set_option maxRecDepth 100000 in
set_option maxHeartbeats 4000000 in
theorem Qez (N : Nat) (p0 : (List GUnit)) (p1 : (List Int)) (p2 : (List GUnit)) (r : Bool) (h : Qcj N p0 p1 p2 = some r) : Spec Try.prog 121 [(z45_0 p0), z45_1] [(.own 1 [[Qrw]]), (Qrv p1 p2)] (B (r)) [(.own 1 [[Qrw]]), (Qrv p1 p2)] := by
  refine Qac Try.func121 rfl 2 (nle rfl) (fun X φ0 w0 hφ0 => ?_)
  unfold Qcj at h
  refine Qbj ?_
  refine wx tbk [] trivial ?_
  obtain ⟨x3, hf2, h⟩ := bno h
  refine wx tbk [(2, ⟨[fu 132, (.tmp 5, (z45_0 p0)), (.tmp 6, z45_1)], [(0, .own 1 [[Qrw]]), (1, (Qrv p1 p2))], I x3, [(0, .own 1 [[Qrw]]), (1, (Qrv p1 p2))], false⟩)] ⟨Qam (first := []) (cap := []) (vs := [(z45_0 p0), z45_1]) (σr := [(.own 1 [[Qrw]]), (Qrv p1 p2)]) (σr' := [(.own 1 [[Qrw]]), (Qrv p1 p2)]) (res' := (I x3)) [0, 1] rfl enter132 (Qfc N p0 p1 p2 _ hf2) rfl (Qbi (rnc (.plain _ (nld Qan _)) (rnc (Qaq rn0 (rnc (Qax rfl) rn0)) rn0))) (slc (Qai (rnc (Qaq rn0 (rnc (Qax rfl) rn0)) rn0)) (slc (Qai (rnc (.plain _ (nld Qaa _)) (rnc (.plain _ (nld Qan _)) rn0))) Qal)) (slc (Qai (rnc (Qaq rn0 (rnc (Qbt rfl) rn0)) rn0)) (slc (Qai (rnc (.plain _ (nld Qaa _)) (rnc (.plain _ (nld Qan _)) rn0))) Qal)) (.plain _ nll) rfl rfl rfl, trivial⟩ ?_
  refine wmr (mto (n := 9) (l' := [(4, (B ((decide (x3 ≥ 0)))))]) (own' := [(.own 1 [[Qrw]]), (Qrv p1 p2)]) [(4, (B ((decide (x3 ≥ 0)))))] [0, 1] [(.own 1 [[Qrw]]), (Qrv p1 p2)] hφ0 (pc rwl pn) (qc (spb (lc (.rn (Qaq rn0 (rnc (rqr rfl) rn0))) ln)) (qc (spb (lc (.rn (.plain _ (nld Qaa _))) (lc (.rn (.plain _ (nld Qan _))) ln))) qn))) ?_
  refine Qab ?_
  obtain rfl := osi h
  exact ⟨_, Mor.rfl, Qbx (vs := [(B ((decide (x3 ≥ 0))))]) ⟨rot (by kernel_rfl), trivial⟩ rfl (NLt.of0 nll) (by kernel_rfl) (Qag (Qas (nlc (NLt.fn _ _ _ nl0 (nlc (NLt.ref _ _ _ _ (by decide)) nl0)) nl0)) (Qag (Qas (nlc (NLt.of0 (nld Qaa _)) (nlc (NLt.of0 (nld Qan _)) nl0))) Qa5))⟩
def Qfm (N : Nat) (p0 : (List GUnit)) (p1 : (List Int)) (p2 : (List GUnit)) : Option Bool :=
  (Qcj N p0 p1 p2).bind fun x3 =>
  some (!x3)
def z44_1 (p0 : (List GUnit)) : AV := .dat 2 ((p0 : List GUnit).map Qbo)
def Qxm : AV := .fn (.func 104) [] [(.ref 0 2 (0) 0)]
def Qrx (p1 : (List Int)) (p2 : (List GUnit)) : Slot := .own 2 [[(.dat 1 ((p1 : List Int).map Qad)), (.dat 2 ((p2 : List GUnit).map Qbo))]]
def z44_2 : AV := .fn (.func 122) [] [(.ref 1 1 (0) 0)]
set_option maxRecDepth 100000 in
set_option maxHeartbeats 4000000 in
theorem Qjc (N : Nat) (p0 : (List GUnit)) (p1 : (List Int)) (p2 : (List GUnit)) (r : Bool) (h : Qfm N p0 p1 p2 = some r) : Spec Try.prog 103 [(z44_1 p0), Qxm] [(Qrx p1 p2)] (B (r)) [(Qrx p1 p2)] := by
  refine Qac Try.func103 rfl 1 (nle rfl) (fun X φ0 w0 hφ0 => ?_)
  unfold Qfm at h
  refine Qbj ?_
  refine wx tbk [] trivial ?_
  obtain ⟨x3, hf2, h⟩ := bno h
  refine wx tbk [(1, rp [(.tmp 3, .ref 1 1 0 0)] z44_2), (2, ⟨[fu 121, (.tmp 5, (z44_1 p0)), (.tmp 6, z44_2)], [(1, .own 1 [[Qxm]]), (0, (Qrx p1 p2))], B x3, [(1, .own 1 [[Qxm]]), (0, (Qrx p1 p2))], false⟩)] ⟨Qdt (fs := []) (cs := [.ref 1 1 0 0]) rfl rfl rfl rfl, Qam (first := []) (cap := []) (vs := [(z44_1 p0), z44_2]) (σr := [(.own 1 [[Qxm]]), (Qrx p1 p2)]) (σr' := [(.own 1 [[Qxm]]), (Qrx p1 p2)]) (res' := (B x3)) [1, 0] rfl enter121 (Qez N p0 p1 p2 _ hf2) rfl (Qbi (rnc (.plain _ (nld Qan _)) (rnc (Qaq rn0 (rnc (Qax rfl) rn0)) rn0))) (slc (Qai (rnc (Qaq rn0 (rnc (Qax rfl) rn0)) rn0)) (slc (Qai (rnc (.plain _ (nld Qaa _)) (rnc (.plain _ (nld Qan _)) rn0))) Qal)) (slc (Qai (rnc (Qaq rn0 (rnc (Qbt rfl) rn0)) rn0)) (slc (Qai (rnc (.plain _ (nld Qaa _)) (rnc (.plain _ (nld Qan _)) rn0))) Qal)) (.plain _ nll) rfl rfl rfl, trivial⟩ ?_
  refine wmr (mto (n := 9) (l' := [(4, (B ((!x3))))]) (own' := [(Qrx p1 p2)]) [(4, (B ((!x3))))] [0] [(Qrx p1 p2)] hφ0 (pc rwl pn) (qc (spb (lc (.rn (.plain _ (nld Qaa _))) (lc (.rn (.plain _ (nld Qan _))) ln))) qn)) ?_
  refine Qab ?_
  obtain rfl := osi h
  exact ⟨_, Mor.rfl, Qbx (vs := [(B ((!x3)))]) ⟨rot (by kernel_rfl), trivial⟩ rfl (NLt.of0 nll) (by kernel_rfl) (Qag (Qas (nlc (NLt.of0 (nld Qaa _)) (nlc (NLt.of0 (nld Qan _)) nl0))) Qa5)⟩
def Qek (N : Nat) (p0 : GShared) : Option Bool :=
  (Qa8 N (p0.heads.length : Int) 1 6).bind fun x2 =>
  bif x2 then
   (Qim N p0.heads).bind fun x5 =>
   bif x5 then
    (Qa8 N (p0.units.length : Int) 1 10).bind fun x8 =>
    bif x8 then
     (Qfm N p0.units p0.heads p0.units).bind fun x11 =>
     some x11
    else
     some false
   else
    some false
  else
   some false
def Qn7 (p0 : GShared) : AV := .dat 1 ((p0.heads : List Int).map Qad)
def Qxn (p0 : GShared) : AV := .dat 2 ((p0.units : List GUnit).map Qbo)
def z38_4 : AV := .fn (.func 104) [] [(.ref 0 2 (0) 0)]
def z38_2 (p0 : GShared) : Slot := .own 2 [[(Qn7 p0), (Qxn p0)]]
set_option maxRecDepth 100000 in
set_option maxHeartbeats 4000000 in
theorem Qc7 (N : Nat) (p0 : GShared) (r : Bool) (h : Qek N p0 = some r) : Spec Try.prog 80 [(.agg (Qlf p0))] [] (B r) [] := by
  refine Qac Try.func80 rfl 0 (nle rfl) (fun X φ0 w0 hφ0 => ?_)
  unfold Qek at h
  refine wx tbk [] trivial ?_
  obtain ⟨x2, hf1, h⟩ := bno h
  rcases bft (x2) with hb3 | hb3
  ·replace h := Qav hb3 h
   obtain ⟨x5, hf4, h⟩ := bno h
   rcases bft (x5) with hb6 | hb6
   ·replace h := Qav hb6 h
    obtain ⟨x8, hf7, h⟩ := bno h
    rcases bft (x8) with hb9 | hb9
    ·replace h := Qav hb9 h
     obtain ⟨x11, hf10, h⟩ := bno h
     refine wx tbk [(2, rp [(.tmp 4, (Qn7 p0))] (I ((p0.heads.length : Int)))), (3, rp [fu 65, (.tmp 5, (I ((p0.heads.length : Int)))), ci 1, ci 6] (B x2)), (4, rp [(.tmp 6, B x2)] (B true)), (7, rp [(.tmp 7, B true), fu 89, (.tmp 9, (Qn7 p0)), fu 102] (B x5)), (9, rp [(.tmp 11, B x5)] (B true)), (12, rp [(.tmp 12, B true), (.tmp 14, (Qxn p0))] (I ((p0.units.length : Int)))), (13, rp [(.tmp 12, B true), fu 65, (.tmp 15, (I ((p0.units.length : Int)))), ci 1, ci 10] (B x8)), (15, rp [(.tmp 17, B x8)] (B true)), (18, rp [(.tmp 18, B true), (.tmp 1, .ref 0 2 0 0)] z38_4), (19, ⟨[(.tmp 18, B true), fu 103, (.tmp 20, (Qxn p0)), (.tmp 21, z38_4)], [(0, (z38_2 p0))], B x11, [(0, (z38_2 p0))], false⟩)] ⟨alm (c := Qad) (l := p0.heads) (aln rfl Try.underlying37 rfl), apc (first := []) (cap := []) (vs := [(I ((p0.heads.length : Int))), I 1, I 6]) rfl Qbs (Qae N (p0.heads.length : Int) 1 6 _ hf1) rfl rfl (nlc nll (nlc nll (nlc nll nl0))) nll rfl, asb hb3 (amv rfl), ag_ (Qam (first := []) (cap := []) (vs := [(Qn7 p0), (.fn (.func 102) [] [])]) (σr := []) (σr' := []) (res' := (B x5)) [] rfl Qjp (Qgo N p0.heads _ hf4) rfl (Qbi (rnc (.plain _ (nld Qaa _)) (rnc (.plain _ (NLt.fn _ _ _ nl0 nl0)) rn0))) Qal Qal (.plain _ nll) rfl rfl rfl), asb hb6 (amv rfl), ag_ (alm (c := Qbo) (l := p0.units) (aln rfl Try.underlying89 rfl)), ag_ (apc (first := []) (cap := []) (vs := [(I ((p0.units.length : Int))), I 1, I 10]) rfl Qbs (Qae N (p0.units.length : Int) 1 10 _ hf7) rfl rfl (nlc nll (nlc nll (nlc nll nl0))) nll rfl), asb hb9 (amv rfl), ag_ (Qdt (fs := []) (cs := [.ref 0 2 0 0]) rfl rfl rfl rfl), ag_ (Qam (first := []) (cap := []) (vs := [(Qxn p0), z38_4]) (σr := [(z38_2 p0)]) (σr' := [(z38_2 p0)]) (res' := (B x11)) [0] rfl enter103 (Qjc N p0.units p0.heads p0.units _ hf10) rfl (Qbi (rnc (.plain _ (nld Qan _)) (rnc (Qaq rn0 (rnc (Qax rfl) rn0)) rn0))) (slc (Qai (rnc (.plain _ (nld Qaa _)) (rnc (.plain _ (nld Qan _)) rn0))) Qal) (slc (Qai (rnc (.plain _ (nld Qaa _)) (rnc (.plain _ (nld Qan _)) rn0))) Qal) (.plain _ nll) rfl rfl rfl), trivial⟩ ?_
     refine Qab ?_
     obtain rfl := osi h
     exact fend ⟨[B x11], ⟨rot (by kernel_rfl), trivial⟩, rfl⟩ nll
    ·replace h := Qaw hb9 h
     refine wx tbk [(2, rp [(.tmp 4, (Qn7 p0))] (I ((p0.heads.length : Int)))), (3, rp [fu 65, (.tmp 5, (I ((p0.heads.length : Int)))), ci 1, ci 6] (B x2)), (4, rp [(.tmp 6, B x2)] (B true)), (7, rp [(.tmp 7, B true), fu 89, (.tmp 9, (Qn7 p0)), fu 102] (B x5)), (9, rp [(.tmp 11, B x5)] (B true)), (12, rp [(.tmp 12, B true), (.tmp 14, (Qxn p0))] (I ((p0.units.length : Int)))), (13, rp [(.tmp 12, B true), fu 65, (.tmp 15, (I ((p0.units.length : Int)))), ci 1, ci 10] (B x8)), (15, rp [(.tmp 17, B x8)] (B false))] ⟨alm (c := Qad) (l := p0.heads) (aln rfl Try.underlying37 rfl), apc (first := []) (cap := []) (vs := [(I ((p0.heads.length : Int))), I 1, I 6]) rfl Qbs (Qae N (p0.heads.length : Int) 1 6 _ hf1) rfl rfl (nlc nll (nlc nll (nlc nll nl0))) nll rfl, asb hb3 (amv rfl), ag_ (Qam (first := []) (cap := []) (vs := [(Qn7 p0), (.fn (.func 102) [] [])]) (σr := []) (σr' := []) (res' := (B x5)) [] rfl Qjp (Qgo N p0.heads _ hf4) rfl (Qbi (rnc (.plain _ (nld Qaa _)) (rnc (.plain _ (NLt.fn _ _ _ nl0 nl0)) rn0))) Qal Qal (.plain _ nll) rfl rfl rfl), asb hb6 (amv rfl), ag_ (alm (c := Qbo) (l := p0.units) (aln rfl Try.underlying89 rfl)), ag_ (apc (first := []) (cap := []) (vs := [(I ((p0.units.length : Int))), I 1, I 10]) rfl Qbs (Qae N (p0.units.length : Int) 1 10 _ hf7) rfl rfl (nlc nll (nlc nll (nlc nll nl0))) nll rfl), asb hb9 (amv rfl), trivial⟩ ?_
     refine Qab ?_
     obtain rfl := osi h
     exact fend ⟨[B false], ⟨rot (by kernel_rfl), trivial⟩, rfl⟩ nll
   ·replace h := Qaw hb6 h
    refine wx tbk [(2, rp [(.tmp 4, (Qn7 p0))] (I ((p0.heads.length : Int)))), (3, rp [fu 65, (.tmp 5, (I ((p0.heads.length : Int)))), ci 1, ci 6] (B x2)), (4, rp [(.tmp 6, B x2)] (B true)), (7, rp [(.tmp 7, B true), fu 89, (.tmp 9, (Qn7 p0)), fu 102] (B x5)), (9, rp [(.tmp 11, B x5)] (B false))] ⟨alm (c := Qad) (l := p0.heads) (aln rfl Try.underlying37 rfl), apc (first := []) (cap := []) (vs := [(I ((p0.heads.length : Int))), I 1, I 6]) rfl Qbs (Qae N (p0.heads.length : Int) 1 6 _ hf1) rfl rfl (nlc nll (nlc nll (nlc nll nl0))) nll rfl, asb hb3 (amv rfl), ag_ (Qam (first := []) (cap := []) (vs := [(Qn7 p0), (.fn (.func 102) [] [])]) (σr := []) (σr' := []) (res' := (B x5)) [] rfl Qjp (Qgo N p0.heads _ hf4) rfl (Qbi (rnc (.plain _ (nld Qaa _)) (rnc (.plain _ (NLt.fn _ _ _ nl0 nl0)) rn0))) Qal Qal (.plain _ nll) rfl rfl rfl), asb hb6 (amv rfl), trivial⟩ ?_
    refine Qab ?_
    obtain rfl := osi h
    exact fend ⟨[B false], ⟨rot (by kernel_rfl), trivial⟩, rfl⟩ nll
  ·replace h := Qaw hb3 h
   refine wx tbk [(2, rp [(.tmp 4, (Qn7 p0))] (I ((p0.heads.length : Int)))), (3, rp [fu 65, (.tmp 5, (I ((p0.heads.length : Int)))), ci 1, ci 6] (B x2)), (4, rp [(.tmp 6, B x2)] (B false))] ⟨alm (c := Qad) (l := p0.heads) (aln rfl Try.underlying37 rfl), apc (first := []) (cap := []) (vs := [(I ((p0.heads.length : Int))), I 1, I 6]) rfl Qbs (Qae N (p0.heads.length : Int) 1 6 _ hf1) rfl rfl (nlc nll (nlc nll (nlc nll nl0))) nll rfl, asb hb3 (amv rfl), trivial⟩ ?_
   refine Qab ?_
   obtain rfl := osi h
   exact fend ⟨[B false], ⟨rot (by kernel_rfl), trivial⟩, rfl⟩ nll
def Qdg (N : Nat) (p0 : GShared) (p1 : (List Int)) (k2 : Int → Option Int) : Nat → Int → Int → Option Int
  | 0, _, _ => none
  | n7 + 1, y3, y4 =>
    bif (decide (y4 < (p1.length : Int))) then
     (getI p1 y4).bind fun x9 =>
     (getI p0.units y4).bind fun x13 =>
     (Qfa N x13 x9).bind fun x18 =>
     Qdg N p0 p1 k2 n7 (w64 (y3 + x18)) (w64 (y4 + 1))
    else
     k2 (y3)
def Qf0 (N : Nat) (p0 : GShared) (p1 : (List Int)) : Option Int :=
  Qdu (fun y1 =>
    some y1) fun k2 : Int → Option Int =>
  Qdg N p0 p1 k2 N 0 0
def Qwb (p1 : (List Int)) : AV := .dat 1 ((p1 : List Int).map Qad)
def z49_1 (p0 : GShared) : AV := .dat 2 ((p0.units : List GUnit).map Qbo)
def z49_2 (p0 : GShared) : Slot := .own 2 [[(.dat 1 ((p0.heads : List Int).map Qad)), (z49_1 p0)]]
set_option maxRecDepth 100000 in
set_option maxHeartbeats 4000000 in
theorem Qf2 (N : Nat) (p0 : GShared) (p1 : (List Int)) (r : Int) (h : Qf0 N p0 p1 = some r) : Spec Try.prog 82 [(.agg (Qlf p0)), (.dat 1 (p1.map Qad))] [] (I r) [] := by
  refine Qac Try.func82 rfl 0 (nle rfl) (fun X φ0 w0 hφ0 => ?_)
  unfold Qf0 at h
  refine wx tbk [] trivial ?_
  obtain ⟨k2, hk_k2, h⟩ := jko h
  refine wjn (τ := Int) (fun t => k2 t = some r) (fun y1 => ⟨mk 25 [(4, I y1)], []⟩) (fun y1 h => ?_) ?_
  ·subst hk_k2
   refine wx tbk [] trivial ?_
   refine Qab ?_
   obtain rfl := osi h
   exact fend ⟨[I y1], ⟨rot (by kernel_rfl), trivial⟩, rfl⟩ nll
  ·skip
   refine wx tbk [(1, rp [(.tmp 7, (Qwb p1))] (I ((p1.length : Int))))] ⟨alm (c := Qad) (l := p1) (aln rfl Try.underlying37 rfl), trivial⟩ ?_
   refine Qak ?_
   refine wmr (mto (n := 25) (l' := [(2, .ref 0 2 0 0), (4, I 0), (7, (Qwb p1)), (8, (I ((p1.length : Int)))), (9, I 0)]) (own' := [(z49_2 p0)]) [(2, .ref 0 2 0 0), (4, I 0), (7, (Qwb p1)), (8, (I ((p1.length : Int)))), (9, I 0)] [0] [(z49_2 p0)] hφ0 (pc (.rn (rqr rfl)) (pc rwl (pc (.rn (.plain _ (nld Qaa _))) (pc rwl (pc rwl pn))))) (qc (spb (lc (.rn (.plain _ (nld Qaa _))) (lc (.rn (.plain _ (nld Qan _))) ln))) qn)) ?_
   refine Qb1 (τ := Int × Int) (fun n t => Qdg N p0 p1 k2 n t.1 t.2 = some r) (fun ⟨y3, y4⟩ => ⟨mk 25 [(2, .ref 0 2 0 0), (4, I y3), (7, (Qwb p1)), (8, (I ((p1.length : Int)))), (9, I y4)], [(z49_2 p0)]⟩) (fun t h => by rw [Qdg] at h; cases h) (fun n7 ih t h => ?_) N (0, 0) h
   obtain ⟨y3, y4⟩ := t
   rw [Qdg] at h
   skip
   refine wx tbk [] trivial ?_
   refine wsq ?_
   rcases bft ((decide (y4 < (p1.length : Int)))) with hc8 | hc8
   ·replace h := Qav hc8 h
    refine wft hc8 (by kernel_rfl) ?_
    refine Qao ?_
    refine thn ?_
    refine wsq ?_
    refine Qak ?_
    obtain ⟨x9, hg10, h⟩ := bno h
    obtain ⟨hi11, hj12⟩ := gsm hg10
    refine wx tbk [(1, rp [(.tmp 7, (Qwb p1)), (.tmp 9, I y4)] (.dptr (Qad (x9)) 0))] ⟨aid rfl Try.underlying37 ti3 rfl rfl hi11 (mgt Qad hj12) rfl, trivial⟩ ?_
    obtain ⟨x13, hg14, h⟩ := bno h
    obtain ⟨hi15, hj16⟩ := gsm hg14
    obtain ⟨x18, hf17, h⟩ := bno h
    refine wx1 tbk [(4, rp [(.tmp 16, (z49_1 p0)), (.tmp 17, I y4)] (.dptr (Qbo (x13)) 0)), (7, rp [fu 67, (.tmp 19, (.agg [I x13.Inlet, (.dat 2 ((x13.Parts : List GPart).map Qby))])), (.tmp 20, I x9)] (I x18))] ⟨aid rfl Try.underlying89 ti34 rfl rfl hi15 (mgt Qbo hj16) rfl, apc (first := []) (cap := []) (vs := [(.agg [I x13.Inlet, (.dat 2 ((x13.Parts : List GPart).map Qby))]), I x9]) rfl Qt1 (Qgd N x13 x9 _ hf17) rfl rfl (nlc (NLt.agg _ (nlc nll (nlc (nld Qbc _) nl0))) (nlc nll nl0)) nll rfl, trivial⟩ ?_
    refine bln ?_
    refine thn ?_
    refine wx1 tbk [] trivial ?_
    refine thn ?_
    exact arm (mto (n := 25) [(2, .ref 0 2 0 0), (4, (I (w64 (y3 + x18)))), (7, (Qwb p1)), (8, (I ((p1.length : Int)))), (9, (I (w64 (y4 + 1))))] [0] [(z49_2 p0)] hφ0 (pc (.rn (rqr rfl)) (pc rwl (pc (.rn (.plain _ (nld Qaa _))) (pc rwl (pc rwl pn))))) (qc (spb (lc (.rn (.plain _ (nld Qaa _))) (lc (.rn (.plain _ (nld Qan _))) ln))) qn)) (ih (w64 (y3 + x18), w64 (y4 + 1)) h)
   ·replace h := Qaw hc8 h
    refine wfn hc8 (by kernel_rfl) ?_
    refine Qbh ?_
    refine Qar ?_
    refine Qar ?_
    refine Qbg rfl ?_
    refine thn ?_
    exact ⟨(y3), h, (mto (n := 25) [(4, I y3)] [] [] hφ0 (pc rwl pn) qn)⟩
def Qex (N : Nat) (p0 : (List Int)) (y7 : (List Int)) (k10 : (List Int) → Option ((List Int) × Int × (List Int) × Int)) : Nat → (List Int) → Int → Int → Option ((List Int) × Int × (List Int) × Int)
  | 0, _, _, _ => none
  | n19 + 1, y13, y14, y15 =>
    bif (decide (y15 < (((p0.length : Int).toNat : Nat) : Int))) then
     chk (decide (0 ≤ y15) && decide (y15.toNat < (p0.length : Int).toNat)) <|
     (y7[y15.toNat]?).bind fun x22 =>
     chk (decide ((y13.length + ([w64 (x22 - y14)]).length) * 8 ≤ 140737488355328)) <|
     Qex N p0 y7 k10 n19 (y13 ++ ([w64 (x22 - y14)])) x22 (w64 (y15 + 1))
    else
     k10 (y13)
def Qev (N : Nat) (p0 : (List Int)) (k32 : (List Int) → Option ((List Int) × Int × (List Int) × Int)) (x37 : Int) : Nat → Int → (List Int) → Option ((List Int) × Int × (List Int) × Int)
  | 0, _, _ => none
  | n48 + 1, y44, y45 =>
    bif (decide (y44 < (((p0.length : Int).toNat : Nat) : Int))) then
     chk (decide (0 ≤ y44) && decide (y44.toNat < (p0.length : Int).toNat)) <|
     (y45[y44.toNat]?).bind fun x51 =>
     chk (decide (0 ≤ y44) && decide (y44.toNat < (p0.length : Int).toNat)) <|
     (y45[y44.toNat]?).bind fun _ =>
     Qev N p0 k32 x37 n48 (w64 (y44 + 1)) (y45.set y44.toNat (if x37 > x51 then x37 else x51))
    else
     k32 (y45)
def Qeu (N : Nat) (x5 : ((List Int) × (List Int) × (List Int))) (k43 : Int → Option ((List Int) × Int × (List Int) × Int)) : Nat → Int → Option ((List Int) × Int × (List Int) × Int)
  | 0, _ => none
  | n58 + 1, y56 =>
    (getI x5.2.1 y56).bind fun x59 =>
    bif (decide (x59 > 0)) then
     Qeu N x5 k43 n58 (w64 (y56 - 1))
    else
     k43 (y56)
def Qew (N : Nat) (p0 : (List Int)) (p1 : (List GUnit)) (x5 : ((List Int) × (List Int) × (List Int))) (k8 : (List Int) → Option ((List Int) × Int × (List Int) × Int)) : Nat → Int → (List Int) → Option ((List Int) × Int × (List Int) × Int)
  | 0, _, _ => none
  | n29 + 1, y25, y26 =>
    bif (decide (y25 < (p1.length : Int))) then
     Qdu (fun y31 =>
       Qew N p0 p1 x5 k8 n29 (w64 (y25 + 1)) y31) fun k32 : (List Int) → Option ((List Int) × Int × (List Int) × Int) =>
     (getI p1 y25).bind fun x33 =>
     (getI x5.2.2 y25).bind fun x37 =>
     bif (decide (x37 ≤ 0)) then
      k32 (y26)
     else
      Qdu (fun y42 =>
        Qev N p0 k32 x37 N y42 y26) fun k43 : Int → Option ((List Int) × Int × (List Int) × Int) =>
      Qeu N x5 k43 N x33.Inlet
    else
     k8 (y26)
def Qia (N : Nat) (p0 : (List Int)) (p1 : (List GUnit)) : Option ((List Int) × Int × (List Int) × Int) :=
  (Qek N (⟨p0, p1⟩ : GShared)).bind fun x2 =>
  bif (!x2) then
   some ([], 0, [], 1)
  else
   (Qg6 N (⟨p0, p1⟩ : GShared)).bind fun x5 =>
   chk (decide (0 ≤ (p0.length : Int)) && decide (8 * (p0.length : Int) ≤ 281474976710656) && decide ((p0.length : Int) ≤ 9223372036854775807)) <|
   Qdu (fun y7 =>
     Qdu (fun y9 =>
       (Qf0 N (⟨p0, p1⟩ : GShared) x5.1).bind fun x12 =>
       some (x5.1, x12, y9, 0)) fun k10 : (List Int) → Option ((List Int) × Int × (List Int) × Int) =>
     Qex N p0 y7 k10 N ([]) 0 0) fun k8 : (List Int) → Option ((List Int) × Int × (List Int) × Int) =>
   Qew N p0 p1 x5 k8 N 0 (List.replicate (p0.length : Int).toNat 0)
def Qxq (p0 : (List Int)) : AV := .dat 1 ((p0 : List Int).map Qad)
def Qi1 (p1 : (List GUnit)) : AV := .dat 2 ((p1 : List GUnit).map Qbo)
def Qtc (p0 : (List Int)) (p1 : (List GUnit)) : AV := .agg [(Qxq p0), (Qi1 p1)]
def Qxp : AV := .dat 1 (([] : List Int).map Qad)
def Qgx (x5 : ((List Int) × (List Int) × (List Int))) : AV := .dat 1 ((x5.1 : List Int).map Qad)
def Qj1 (x5 : ((List Int) × (List Int) × (List Int))) : AV := .dat 1 ((x5.2.1 : List Int).map Qad)
def Qjr (x5 : ((List Int) × (List Int) × (List Int))) : AV := .dat 1 ((x5.2.2 : List Int).map Qad)
def z37_7 (p0 : (List Int)) : Slot := .own 1 ((List.replicate (p0.length : Int).toNat 0 : List Int).map Qad)
def Qid (p0 : (List Int)) (p1 : (List GUnit)) : Slot := .own 2 [[(Qxq p0), (Qi1 p1)]]
def Qn8 (y7 : (List Int)) : Slot := .own 1 ((y7 : List Int).map Qad)
def Qxo (y13 : (List Int)) : AV := .acc 0 3 1 ((y13 : List Int).map Qad)
def Qks (y26 : (List Int)) : Slot := .own 1 ((y26 : List Int).map Qad)
def Qm3 (y45 : (List Int)) : Slot := .own 1 ((y45 : List Int).map Qad)
set_option maxRecDepth 100000 in
set_option maxHeartbeats 4000000 in
theorem Qi6 (N : Nat) (p0 : (List Int)) (p1 : (List GUnit)) (r : ((List Int) × Int × (List Int) × Int)) (h : Qia N p0 p1 = some r) : Spec Try.prog 44 [(.dat 1 (p0.map Qad)), (.dat 2 (p1.map Qbo))] [] (.tup [(.dat 1 (r.1.map Qad)), (I r.2.1), (.dat 1 (r.2.2.1.map Qad)), (I r.2.2.2)]) [] := by
  refine Qac Try.func44 rfl 0 (nle rfl) (fun X φ0 w0 hφ0 => ?_)
  unfold Qia at h
  refine wx tbk [] trivial ?_
  refine wx tbk [(2, rp [(.tmp 18, (Qxq p0)), (.tmp 19, (Qi1 p1))] (Qtc p0 p1))] ⟨Qaj (vs := [(Qxq p0), (Qi1 p1)]) rfl ts133 tz133 rfl (by rfl) rfl, trivial⟩ ?_
  refine wsq ?_
  obtain ⟨x2, hf1, h⟩ := bno h
  refine wx tbk [(1, rp [fu 80, (.tmp 21, (Qtc p0 p1))] (B x2))] ⟨apc (first := []) (cap := []) (vs := [(Qtc p0 p1)]) rfl Qnl (Qc7 N (⟨p0, p1⟩ : GShared) _ hf1) rfl rfl (nlc (NLt.agg _ (nlc (nld Qaa _) (nlc (nld Qan _) nl0))) nl0) nll rfl, trivial⟩ ?_
  rcases bft ((!x2)) with hc3 | hc3
  ·replace h := Qav hc3 h
   refine wft hc3 (by kernel_rfl) ?_
   refine wx tbk [] trivial ?_
   refine Qab ?_
   refine Qau ?_
   obtain rfl := osi h
   exact fend ⟨[Qxp, I 0, Qxp, I 1], ⟨Qlj (v := nilS) (rot (by kernel_rfl)) Less.nil, rot (by kernel_rfl), Qlj (v := nilS) (rot (by kernel_rfl)) Less.nil, rot (by kernel_rfl), trivial⟩, rfl⟩ (NLt.tup _ (nlc (nld Qaa _) (nlc nll (nlc (nld Qaa _) (nlc nll nl0)))))
  ·replace h := Qaw hc3 h
   refine wfn hc3 (by kernel_rfl) ?_
   refine Qao ?_
   refine thn ?_
   obtain ⟨x5, hf4, h⟩ := bno h
   refine wx tbk [(1, rp [fu 81, (.tmp 25, (Qtc p0 p1))] (.tup [(Qgx x5), (Qj1 x5), (Qjr x5)]))] ⟨apc (first := []) (cap := []) (vs := [(Qtc p0 p1)]) rfl enter81 (Qk0 N (⟨p0, p1⟩ : GShared) _ hf4) rfl rfl (nlc (NLt.agg _ (nlc (nld Qaa _) (nlc (nld Qan _) nl0))) nl0) (NLt.tup _ (nlc (nld Qaa _) (nlc (nld Qaa _) (nlc (nld Qaa _) nl0)))) rfl, trivial⟩ ?_
   obtain ⟨hm6, h⟩ := cko h
   refine wx tbk [(1, rp [(.tmp 30, (Qxq p0))] (I ((p0.length : Int)))), (2, ⟨[(.tmp 31, (I ((p0.length : Int)))), (.tmp 31, (I ((p0.length : Int))))], [(1, .unused)], (.own 1 1 (0) ((p0.length : Int).toNat)), [(1, (z37_7 p0))], false⟩)] ⟨alm (c := Qad) (l := p0) (aln rfl Try.underlying37 rfl), Qhz rfl Try.underlying37 te3 tz3 rfl (Qrd hm6) rfl (Qrc hm6) (Qpd hm6) (Qos Qad rfl), trivial⟩ ?_
   obtain ⟨k8, hk_k8, h⟩ := jko h
   refine wjn (τ := (List Int)) (fun t => k8 t = some r) (fun y7 => ⟨mk 92 [(4, (Qgx x5)), (6, nilS), (8, .ref 0 2 0 0), (11, (.own 1 1 (0) ((p0.length : Int).toNat)))], [(Qid p0 p1), (Qn8 y7)]⟩) (fun y7 h => ?_) ?_
   ·subst hk_k8
    refine wx tbk [] trivial ?_
    obtain ⟨k10, hk_k10, h⟩ := jko h
    refine wjn (τ := (List Int)) (fun t => k10 t = some r) (fun y9 => ⟨mk 92 [(4, (Qgx x5)), (6, (.acc 0 3 1 ((y9 : List Int).map Qad))), (8, .ref 1 2 0 0)], [.tok, (Qid p0 p1)]⟩) (fun y9 h => ?_) ?_
    ·subst hk_k10
     obtain ⟨x12, hf11, h⟩ := bno h
     refine wx tbk [(3, rp [fu 82, (.tmp 88, (Qtc p0 p1)), (.tmp 89, (Qgx x5))] (I x12))] ⟨apc (first := []) (cap := []) (vs := [(Qtc p0 p1), (Qgx x5)]) rfl Qty (Qf2 N (⟨p0, p1⟩ : GShared) x5.1 _ hf11) rfl rfl (nlc (NLt.agg _ (nlc (nld Qaa _) (nlc (nld Qan _) nl0))) (nlc (nld Qaa _) nl0)) nll rfl, trivial⟩ ?_
     refine Qab ?_
     obtain rfl := osi h
     exact fend ⟨[(Qgx x5), I x12, (.dat 1 ((y9 : List Int).map Qad)), I 0], ⟨rot (by kernel_rfl), rot (by kernel_rfl), Qlj (v := (.acc 0 3 1 ((y9 : List Int).map Qad))) (rot (by kernel_rfl)) Less.acc, rot (by kernel_rfl), trivial⟩, rfl⟩ (NLt.tup _ (nlc (nld Qaa _) (nlc nll (nlc (nld Qaa _) (nlc nll nl0)))))
    ·skip
     refine wx tbk [(1, rp [(.tmp 73, (.own 1 1 (0) ((p0.length : Int).toNat)))] (I ((((p0.length : Int).toNat : Nat) : Int))))] ⟨aln rfl Try.underlying37 rfl, trivial⟩ ?_
     refine Qak ?_
     refine wmr (Mor.trans (Qtu 2 3 1 6 (by kernel_rfl) (by kernel_rfl)) (mto (n := 92) (l' := [(4, (Qgx x5)), (6, (.acc 0 3 1 ((([]) : List Int).map Qad))), (8, .ref 1 2 0 0), (15, I 0), (73, (.own 2 1 (0) ((p0.length : Int).toNat))), (74, (I ((((p0.length : Int).toNat : Nat) : Int)))), (75, I 0)]) (own' := [.tok, (Qid p0 p1), (Qn8 y7)]) [(4, (Qgx x5)), (6, (.acc 2 3 1 (([] : List Int).map Qad))), (8, .ref 0 2 0 0), (15, I 0), (73, (.own 1 1 (0) ((p0.length : Int).toNat))), (74, (I ((((p0.length : Int).toNat : Nat) : Int)))), (75, I 0)] [2, 0, 1] [.tok, (Qid p0 p1), (Qn8 y7)] hφ0 (pc (.rn (.plain _ (nld Qaa _))) (pc (.rn (Qj7 rfl (Qgs Qaa _))) (pc (.rn (rqr rfl)) (pc rwl (pc (.rn (Qaf rfl)) (pc rwl (pc rwl pn))))))) (qc .tok (qc (spb (lc (.rn (.plain _ (nld Qaa _))) (lc (.rn (.plain _ (nld Qan _))) ln))) (qc (spr Qaa) qn))))) ?_
     refine Qb1 (τ := (List Int) × Int × Int) (fun n t => Qex N p0 y7 k10 n t.1 t.2.1 t.2.2 = some r) (fun ⟨y13, y14, y15⟩ => ⟨mk 92 [(4, (Qgx x5)), (6, (Qxo y13)), (8, .ref 1 2 0 0), (15, I y14), (73, (.own 2 1 (0) ((p0.length : Int).toNat))), (74, (I ((((p0.length : Int).toNat : Nat) : Int)))), (75, I y15)], [.tok, (Qid p0 p1), (Qn8 y7)]⟩) (fun t h => by rw [Qex] at h; cases h) (fun n19 ih t h => ?_) N ([], 0, 0) h
     obtain ⟨y13, y14, y15⟩ := t
     rw [Qex] at h
     skip
     refine wx tbk [] trivial ?_
     refine wsq ?_
     rcases bft ((decide (y15 < (((p0.length : Int).toNat : Nat) : Int)))) with hc20 | hc20
     ·replace h := Qav hc20 h
      refine wft hc20 (by kernel_rfl) ?_
      refine Qao ?_
      refine thn ?_
      refine wsq ?_
      refine Qak ?_
      obtain ⟨hi21, h⟩ := cko h
      obtain ⟨hi21a, hi21b⟩ := Qaz hi21
      obtain ⟨x22, hg23, h⟩ := bno h
      refine wx tbk [(0, rb [(.tmp 73, (.own 2 1 (0) ((p0.length : Int).toNat))), (.tmp 75, I y15)] [(2, (Qn8 y7))] (.ref 2 1 (y15.toNat) 0)), (1, rb [(.tmp 77, (.ref 2 1 (y15.toNat) 0))] [(2, (Qn8 y7))] (I x22))] ⟨aio rfl Try.underlying37 ti3 (odt hi21a) (odt hi21b) (Nat.zero_add _), ald rfl ti3 (by decide) (mgt Qad hg23) (nle rfl) rfl, trivial⟩ ?_
      obtain ⟨ha24, h⟩ := cko h
      refine wx tbk [(4, rp [(.tmp 82, (I (w64 (x22 - y14))))] (.dat 1 (([w64 (x22 - y14)] : List Int).map Qad))), (5, ⟨[(.tmp 79, (Qxo y13)), (.tmp 83, (.dat 1 (([w64 (x22 - y14)] : List Int).map Qad)))], [(0, .tok), (3, .unused)], (.acc 3 3 1 ((y13 ++ ([w64 (x22 - y14)]) : List Int).map Qad)), [(0, .dead), (3, .tok)], false⟩)] ⟨Qbk (vs := [(I (w64 (x22 - y14)))]) rfl Try.underlying37 ti3 tz3 rfl (by decide) rfl (by decide) (by rfl) (by rfl) (by rfl) rfl, Qpc rfl Try.underlying37 te3 (Base.acc _ _) rfl rfl (by rfl) (Qul Qad ha24) (Quk Qad ha24 (by decide)) (Quj Qad) rfl rfl, trivial⟩ ?_
      refine wx1 tbk [] trivial ?_
      refine bln ?_
      refine thn ?_
      refine wx1 tbk [] trivial ?_
      refine thn ?_
      exact arm (mto (n := 92) [(4, (Qgx x5)), (6, (.acc 3 3 1 ((y13 ++ ([w64 (x22 - y14)]) : List Int).map Qad))), (8, .ref 1 2 0 0), (15, I x22), (73, (.own 2 1 (0) ((p0.length : Int).toNat))), (74, (I ((((p0.length : Int).toNat : Nat) : Int)))), (75, (I (w64 (y15 + 1))))] [3, 1, 2] [.tok, (Qid p0 p1), (Qn8 y7)] hφ0 (pc (.rn (.plain _ (nld Qaa _))) (pc (.rn (Qj7 rfl (Qgs Qaa _))) (pc (.rn (rqr rfl)) (pc rwl (pc (.rn (Qaf rfl)) (pc rwl (pc rwl pn))))))) (qc .tok (qc (spb (lc (.rn (.plain _ (nld Qaa _))) (lc (.rn (.plain _ (nld Qan _))) ln))) (qc (spr Qaa) qn)))) (ih (y13 ++ ([w64 (x22 - y14)]), x22, w64 (y15 + 1)) h)
     ·replace h := Qaw hc20 h
      refine wfn hc20 (by kernel_rfl) ?_
      refine Qbh ?_
      refine Qar ?_
      refine Qar ?_
      refine Qbg rfl ?_
      refine thn ?_
      exact ⟨(y13), h, (mto (n := 92) [(4, (Qgx x5)), (6, (Qxo y13)), (8, .ref 1 2 0 0)] [0, 1] [.tok, (Qid p0 p1)] hφ0 (pc (.rn (.plain _ (nld Qaa _))) (pc (.rn (Qj7 rfl (Qgs Qaa _))) (pc (.rn (rqr rfl)) pn))) (qc .tok (qc (spb (lc (.rn (.plain _ (nld Qaa _))) (lc (.rn (.plain _ (nld Qan _))) ln))) qn)))⟩
   ·skip
    refine wx tbk [(1, rp [(.tmp 33, (Qi1 p1))] (I ((p1.length : Int))))] ⟨alm (c := Qbo) (l := p1) (aln rfl Try.underlying89 rfl), trivial⟩ ?_
    refine Qak ?_
    refine wmr (mto (n := 92) (l' := [(4, (Qgx x5)), (6, nilS), (8, .ref 0 2 0 0), (9, (Qj1 x5)), (10, (Qjr x5)), (11, (.own 1 1 (0) ((p0.length : Int).toNat))), (33, (Qi1 p1)), (34, (I ((p1.length : Int)))), (35, I 0)]) (own' := [(Qid p0 p1), (.own 1 (((List.replicate (p0.length : Int).toNat 0) : List Int).map Qad))]) [(4, (Qgx x5)), (6, nilS), (8, .ref 0 2 0 0), (9, (Qj1 x5)), (10, (Qjr x5)), (11, (.own 1 1 (0) ((p0.length : Int).toNat))), (33, (Qi1 p1)), (34, (I ((p1.length : Int)))), (35, I 0)] [0, 1] [(Qid p0 p1), (z37_7 p0)] hφ0 (pc (.rn (.plain _ (nld Qaa _))) (pc rwl (pc (.rn (rqr rfl)) (pc (.rn (.plain _ (nld Qaa _))) (pc (.rn (.plain _ (nld Qaa _))) (pc (.rn (Qaf rfl)) (pc (.rn (.plain _ (nld Qan _))) (pc rwl (pc rwl pn))))))))) (qc (spb (lc (.rn (.plain _ (nld Qaa _))) (lc (.rn (.plain _ (nld Qan _))) ln))) (qc (spr Qaa) qn))) ?_
    refine Qb1 (τ := Int × (List Int)) (fun n t => Qew N p0 p1 x5 k8 n t.1 t.2 = some r) (fun ⟨y25, y26⟩ => ⟨mk 92 [(4, (Qgx x5)), (6, nilS), (8, .ref 0 2 0 0), (9, (Qj1 x5)), (10, (Qjr x5)), (11, (.own 1 1 (0) ((p0.length : Int).toNat))), (33, (Qi1 p1)), (34, (I ((p1.length : Int)))), (35, I y25)], [(Qid p0 p1), (Qks y26)]⟩) (fun t h => by rw [Qew] at h; cases h) (fun n29 ih t h => ?_) N (0, List.replicate (p0.length : Int).toNat 0) h
    obtain ⟨y25, y26⟩ := t
    rw [Qew] at h
    skip
    refine wx tbk [] trivial ?_
    refine wsq ?_
    rcases bft ((decide (y25 < (p1.length : Int)))) with hc30 | hc30
    ·replace h := Qav hc30 h
     refine wft hc30 (by kernel_rfl) ?_
     refine Qao ?_
     refine thn ?_
     obtain ⟨k32, hk_k32, h⟩ := jko h
     refine wjn (τ := (List Int)) (fun t => k32 t = some r) (fun y31 => ⟨mk 92 [(4, (Qgx x5)), (6, nilS), (8, .ref 0 2 0 0), (9, (Qj1 x5)), (10, (Qjr x5)), (11, (.own 1 1 (0) ((p0.length : Int).toNat))), (33, (Qi1 p1)), (34, (I ((p1.length : Int)))), (35, I y25)], [(Qid p0 p1), (.own 1 ((y31 : List Int).map Qad))]⟩) (fun y31 h => ?_) ?_
     ·subst hk_k32
      refine wx1 tbk [] trivial ?_
      refine thn ?_
      exact arm (mto (n := 92) [(4, (Qgx x5)), (6, nilS), (8, .ref 0 2 0 0), (9, (Qj1 x5)), (10, (Qjr x5)), (11, (.own 1 1 (0) ((p0.length : Int).toNat))), (33, (Qi1 p1)), (34, (I ((p1.length : Int)))), (35, (I (w64 (y25 + 1))))] [0, 1] [(Qid p0 p1), (.own 1 ((y31 : List Int).map Qad))] hφ0 (pc (.rn (.plain _ (nld Qaa _))) (pc rwl (pc (.rn (rqr rfl)) (pc (.rn (.plain _ (nld Qaa _))) (pc (.rn (.plain _ (nld Qaa _))) (pc (.rn (Qaf rfl)) (pc (.rn (.plain _ (nld Qan _))) (pc rwl (pc rwl pn))))))))) (qc (spb (lc (.rn (.plain _ (nld Qaa _))) (lc (.rn (.plain _ (nld Qan _))) ln))) (qc (spr Qaa) qn))) (ih (w64 (y25 + 1), y31) h)
     ·skip
      refine Qak ?_
      obtain ⟨x33, hg34, h⟩ := bno h
      obtain ⟨hi35, hj36⟩ := gsm hg34
      refine wx tbk [(1, rp [(.tmp 33, (Qi1 p1)), (.tmp 35, I y25)] (.dptr (Qbo (x33)) 0))] ⟨aid rfl Try.underlying89 ti34 rfl rfl hi35 (mgt Qbo hj36) rfl, trivial⟩ ?_
      refine wsq ?_
      obtain ⟨x37, hg38, h⟩ := bno h
      obtain ⟨hi39, hj40⟩ := gsm hg38
      refine wx tbk [(2, rp [(.tmp 40, (Qjr x5)), (.tmp 41, I y25)] (.dptr (Qad (x37)) 0))] ⟨aid rfl Try.underlying37 ti3 rfl rfl hi39 (mgt Qad hj40) rfl, trivial⟩ ?_
      rcases bft ((decide (x37 ≤ 0))) with hc41 | hc41
      ·replace h := Qav hc41 h
       refine wft hc41 (by kernel_rfl) ?_
       refine Qbh ?_
       refine Qar ?_
       refine Qbg rfl ?_
       refine thn ?_
       exact ⟨(y26), h, (mto (n := 92) [(4, (Qgx x5)), (6, nilS), (8, .ref 0 2 0 0), (9, (Qj1 x5)), (10, (Qjr x5)), (11, (.own 1 1 (0) ((p0.length : Int).toNat))), (33, (Qi1 p1)), (34, (I ((p1.length : Int)))), (35, I y25)] [0, 1] [(Qid p0 p1), (Qks y26)] hφ0 (pc (.rn (.plain _ (nld Qaa _))) (pc rwl (pc (.rn (rqr rfl)) (pc (.rn (.plain _ (nld Qaa _))) (pc (.rn (.plain _ (nld Qaa _))) (pc (.rn (Qaf rfl)) (pc (.rn (.plain _ (nld Qan _))) (pc rwl (pc rwl pn))))))))) (qc (spb (lc (.rn (.plain _ (nld Qaa _))) (lc (.rn (.plain _ (nld Qan _))) ln))) (qc (spr Qaa) qn)))⟩
      ·replace h := Qaw hc41 h
       refine wfn hc41 (by kernel_rfl) ?_
       refine Qao ?_
       refine thn ?_
       refine wx tbk [] trivial ?_
       obtain ⟨k43, hk_k43, h⟩ := jko h
       refine wjn (τ := Int) (fun t => k43 t = some r) (fun y42 => ⟨mk 92 [(4, (Qgx x5)), (6, nilS), (8, .ref 0 2 0 0), (9, (Qj1 x5)), (10, (Qjr x5)), (11, (.own 1 1 (0) ((p0.length : Int).toNat))), (12, I y25), (14, I y42), (33, (Qi1 p1)), (34, (I ((p1.length : Int)))), (35, I y25)], [(Qid p0 p1), (Qks y26)]⟩) (fun y42 h => ?_) ?_
       ·subst hk_k43
        refine Qak ?_
        refine wmr (mto (n := 92) (l' := [(4, (Qgx x5)), (6, nilS), (8, .ref 0 2 0 0), (9, (Qj1 x5)), (10, (Qjr x5)), (11, (.own 1 1 (0) ((p0.length : Int).toNat))), (12, I y25), (14, I y42), (33, (Qi1 p1)), (34, (I ((p1.length : Int)))), (35, I y25)]) (own' := [(Qid p0 p1), (Qks y26)]) [(4, (Qgx x5)), (6, nilS), (8, .ref 0 2 0 0), (9, (Qj1 x5)), (10, (Qjr x5)), (11, (.own 1 1 (0) ((p0.length : Int).toNat))), (12, I y25), (14, I y42), (33, (Qi1 p1)), (34, (I ((p1.length : Int)))), (35, I y25)] [0, 1] [(Qid p0 p1), (Qks y26)] hφ0 (pc (.rn (.plain _ (nld Qaa _))) (pc rwl (pc (.rn (rqr rfl)) (pc (.rn (.plain _ (nld Qaa _))) (pc (.rn (.plain _ (nld Qaa _))) (pc (.rn (Qaf rfl)) (pc rwl (pc rwl (pc (.rn (.plain _ (nld Qan _))) (pc rwl (pc rwl pn))))))))))) (qc (spb (lc (.rn (.plain _ (nld Qaa _))) (lc (.rn (.plain _ (nld Qan _))) ln))) (qc (spr Qaa) qn))) ?_
        refine Qb1 (τ := Int × (List Int)) (fun n t => Qev N p0 k32 x37 n t.1 t.2 = some r) (fun ⟨y44, y45⟩ => ⟨mk 92 [(4, (Qgx x5)), (6, nilS), (8, .ref 0 2 0 0), (9, (Qj1 x5)), (10, (Qjr x5)), (11, (.own 1 1 (0) ((p0.length : Int).toNat))), (12, I y25), (14, I y44), (33, (Qi1 p1)), (34, (I ((p1.length : Int)))), (35, I y25)], [(Qid p0 p1), (Qm3 y45)]⟩) (fun t h => by rw [Qev] at h; cases h) (fun n48 ih t h => ?_) N (y42, y26) h
        obtain ⟨y44, y45⟩ := t
        rw [Qev] at h
        skip
        refine wsq ?_
        refine wx tbk [(2, rp [(.tmp 55, (.own 1 1 (0) ((p0.length : Int).toNat)))] (I ((((p0.length : Int).toNat : Nat) : Int))))] ⟨aln rfl Try.underlying37 rfl, trivial⟩ ?_
        rcases bft ((decide (y44 < (((p0.length : Int).toNat : Nat) : Int)))) with hc49 | hc49
        ·replace h := Qav hc49 h
         refine wft hc49 (by kernel_rfl) ?_
         refine Qao ?_
         refine thn ?_
         refine wsq ?_
         refine Qak ?_
         obtain ⟨hi50, h⟩ := cko h
         obtain ⟨hi50a, hi50b⟩ := Qaz hi50
         obtain ⟨x51, hg52, h⟩ := bno h
         obtain ⟨hi53, h⟩ := cko h
         obtain ⟨hi53a, hi53b⟩ := Qaz hi53
         obtain ⟨x54, hg55, h⟩ := bno h
         refine wy1 tbk [(4, rb [(.tmp 62, (.own 1 1 (0) ((p0.length : Int).toNat))), (.tmp 63, I y44)] [(1, (Qm3 y45))] (.ref 1 1 (y44.toNat) 0)), (5, rb [(.tmp 64, (.ref 1 1 (y44.toNat) 0))] [(1, (Qm3 y45))] (I x51)), (8, rp [(.tmp 66, (Qjr x5)), (.tmp 67, I y25)] (.dptr (Qad (x37)) 0)), (10, rp [(.tmp 65, I x51), (.tmp 69, I x37)] (I ((if x37 > x51 then x37 else x51)))), (11, rb [(.tmp 60, (.own 1 1 (0) ((p0.length : Int).toNat))), (.tmp 61, I y44)] [(1, (Qm3 y45))] (.ref 1 1 (y44.toNat) 0)), (12, ⟨[(.tmp 71, (.ref 1 1 (y44.toNat) 0)), (.tmp 70, (I ((if x37 > x51 then x37 else x51))))], [(1, (Qm3 y45))], .any, [(1, (.own 1 ((y45.set y44.toNat (if x37 > x51 then x37 else x51) : List Int).map Qad)))], false⟩)] ⟨aio rfl Try.underlying37 ti3 (odt hi50a) (odt hi50b) (Nat.zero_add _), ald rfl ti3 (by decide) (mgt Qad hg52) (nle rfl) rfl, aid rfl Try.underlying37 ti3 rfl rfl hi39 (mgt Qad hj40) rfl, Qlg rfl, aio rfl Try.underlying37 ti3 (odt hi53a) (odt hi53b) (Nat.zero_add _), ast rfl ti3 (by rfl) (mgt Qad hg55) (nle rfl) (Qfx Qad rfl), trivial⟩ ?_
         refine bln ?_
         refine thn ?_
         refine wx1 tbk [] trivial ?_
         refine thn ?_
         exact arm (mto (n := 92) [(4, (Qgx x5)), (6, nilS), (8, .ref 0 2 0 0), (9, (Qj1 x5)), (10, (Qjr x5)), (11, (.own 1 1 (0) ((p0.length : Int).toNat))), (12, I y25), (14, (I (w64 (y44 + 1)))), (33, (Qi1 p1)), (34, (I ((p1.length : Int)))), (35, I y25)] [0, 1] [(Qid p0 p1), (.own 1 ((y45.set y44.toNat (if x37 > x51 then x37 else x51) : List Int).map Qad))] hφ0 (pc (.rn (.plain _ (nld Qaa _))) (pc rwl (pc (.rn (rqr rfl)) (pc (.rn (.plain _ (nld Qaa _))) (pc (.rn (.plain _ (nld Qaa _))) (pc (.rn (Qaf rfl)) (pc rwl (pc rwl (pc (.rn (.plain _ (nld Qan _))) (pc rwl (pc rwl pn))))))))))) (qc (spb (lc (.rn (.plain _ (nld Qaa _))) (lc (.rn (.plain _ (nld Qan _))) ln))) (qc (spr Qaa) qn))) (ih (w64 (y44 + 1), y45.set y44.toNat (if x37 > x51 then x37 else x51)) h)
        ·replace h := Qaw hc49 h
         refine wfn hc49 (by kernel_rfl) ?_
         refine Qbh ?_
         refine Qar ?_
         refine Qar ?_
         refine Qbg rfl ?_
         refine bln ?_
         refine thn ?_
         exact ⟨(y45), h, (mto (n := 92) [(4, (Qgx x5)), (6, nilS), (8, .ref 0 2 0 0), (9, (Qj1 x5)), (10, (Qjr x5)), (11, (.own 1 1 (0) ((p0.length : Int).toNat))), (33, (Qi1 p1)), (34, (I ((p1.length : Int)))), (35, I y25)] [0, 1] [(Qid p0 p1), (Qm3 y45)] hφ0 (pc (.rn (.plain _ (nld Qaa _))) (pc rwl (pc (.rn (rqr rfl)) (pc (.rn (.plain _ (nld Qaa _))) (pc (.rn (.plain _ (nld Qaa _))) (pc (.rn (Qaf rfl)) (pc (.rn (.plain _ (nld Qan _))) (pc rwl (pc rwl pn))))))))) (qc (spb (lc (.rn (.plain _ (nld Qaa _))) (lc (.rn (.plain _ (nld Qan _))) ln))) (qc (spr Qaa) qn)))⟩
       ·skip
        refine Qak ?_
        refine wmr (mto (n := 92) (l' := [(4, (Qgx x5)), (6, nilS), (8, .ref 0 2 0 0), (9, (Qj1 x5)), (10, (Qjr x5)), (11, (.own 1 1 (0) ((p0.length : Int).toNat))), (12, I y25), (14, I x33.Inlet), (33, (Qi1 p1)), (34, (I ((p1.length : Int)))), (35, I y25)]) (own' := [(Qid p0 p1), (Qks y26)]) [(4, (Qgx x5)), (6, nilS), (8, .ref 0 2 0 0), (9, (Qj1 x5)), (10, (Qjr x5)), (11, (.own 1 1 (0) ((p0.length : Int).toNat))), (12, I y25), (14, I x33.Inlet), (33, (Qi1 p1)), (34, (I ((p1.length : Int)))), (35, I y25)] [0, 1] [(Qid p0 p1), (Qks y26)] hφ0 (pc (.rn (.plain _ (nld Qaa _))) (pc rwl (pc (.rn (rqr rfl)) (pc (.rn (.plain _ (nld Qaa _))) (pc (.rn (.plain _ (nld Qaa _))) (pc (.rn (Qaf rfl)) (pc rwl (pc rwl (pc (.rn (.plain _ (nld Qan _))) (pc rwl (pc rwl pn))))))))))) (qc (spb (lc (.rn (.plain _ (nld Qaa _))) (lc (.rn (.plain _ (nld Qan _))) ln))) (qc (spr Qaa) qn))) ?_
        refine Qb1 (τ := Int) (fun n t => Qeu N x5 k43 n t = some r) (fun y56 => ⟨mk 92 [(4, (Qgx x5)), (6, nilS), (8, .ref 0 2 0 0), (9, (Qj1 x5)), (10, (Qjr x5)), (11, (.own 1 1 (0) ((p0.length : Int).toNat))), (12, I y25), (14, I y56), (33, (Qi1 p1)), (34, (I ((p1.length : Int)))), (35, I y25)], [(Qid p0 p1), (Qks y26)]⟩) (fun t h => by rw [Qeu] at h; cases h) (fun n58 ih y56 h => ?_) N (x33.Inlet) h
        rw [Qeu] at h
        skip
        refine wsq ?_
        obtain ⟨x59, hg60, h⟩ := bno h
        obtain ⟨hi61, hj62⟩ := gsm hg60
        refine wx tbk [(2, rp [(.tmp 47, (Qj1 x5)), (.tmp 48, I y56)] (.dptr (Qad (x59)) 0))] ⟨aid rfl Try.underlying37 ti3 rfl rfl hi61 (mgt Qad hj62) rfl, trivial⟩ ?_
        rcases bft ((decide (x59 > 0))) with hc63 | hc63
        ·replace h := Qav hc63 h
         refine wft hc63 (by kernel_rfl) ?_
         refine Qao ?_
         refine thn ?_
         refine Qak ?_
         refine wx1 tbk [] trivial ?_
         refine bln ?_
         refine thn ?_
         exact arm (mto (n := 92) [(4, (Qgx x5)), (6, nilS), (8, .ref 0 2 0 0), (9, (Qj1 x5)), (10, (Qjr x5)), (11, (.own 1 1 (0) ((p0.length : Int).toNat))), (12, I y25), (14, (I (w64 (y56 - 1)))), (33, (Qi1 p1)), (34, (I ((p1.length : Int)))), (35, I y25)] [0, 1] [(Qid p0 p1), (Qks y26)] hφ0 (pc (.rn (.plain _ (nld Qaa _))) (pc rwl (pc (.rn (rqr rfl)) (pc (.rn (.plain _ (nld Qaa _))) (pc (.rn (.plain _ (nld Qaa _))) (pc (.rn (Qaf rfl)) (pc rwl (pc rwl (pc (.rn (.plain _ (nld Qan _))) (pc rwl (pc rwl pn))))))))))) (qc (spb (lc (.rn (.plain _ (nld Qaa _))) (lc (.rn (.plain _ (nld Qan _))) ln))) (qc (spr Qaa) qn))) (ih (w64 (y56 - 1)) h)
        ·replace h := Qaw hc63 h
         refine wfn hc63 (by kernel_rfl) ?_
         refine Qbh ?_
         refine Qar ?_
         refine Qar ?_
         refine Qbg rfl ?_
         refine thn ?_
         exact ⟨(y56), h, (mto (n := 92) [(4, (Qgx x5)), (6, nilS), (8, .ref 0 2 0 0), (9, (Qj1 x5)), (10, (Qjr x5)), (11, (.own 1 1 (0) ((p0.length : Int).toNat))), (12, I y25), (14, I y56), (33, (Qi1 p1)), (34, (I ((p1.length : Int)))), (35, I y25)] [0, 1] [(Qid p0 p1), (Qks y26)] hφ0 (pc (.rn (.plain _ (nld Qaa _))) (pc rwl (pc (.rn (rqr rfl)) (pc (.rn (.plain _ (nld Qaa _))) (pc (.rn (.plain _ (nld Qaa _))) (pc (.rn (Qaf rfl)) (pc rwl (pc rwl (pc (.rn (.plain _ (nld Qan _))) (pc rwl (pc rwl pn))))))))))) (qc (spb (lc (.rn (.plain _ (nld Qaa _))) (lc (.rn (.plain _ (nld Qan _))) ln))) (qc (spr Qaa) qn)))⟩
    ·replace h := Qaw hc30 h
     refine wfn hc30 (by kernel_rfl) ?_
     refine Qbh ?_
     refine Qar ?_
     refine Qar ?_
     refine Qbg rfl ?_
     refine thn ?_
     exact ⟨(y26), h, (mto (n := 92) [(4, (Qgx x5)), (6, nilS), (8, .ref 0 2 0 0), (11, (.own 1 1 (0) ((p0.length : Int).toNat)))] [0, 1] [(Qid p0 p1), (Qks y26)] hφ0 (pc (.rn (.plain _ (nld Qaa _))) (pc rwl (pc (.rn (rqr rfl)) (pc (.rn (Qaf rfl)) pn)))) (qc (spb (lc (.rn (.plain _ (nld Qaa _))) (lc (.rn (.plain _ (nld Qan _))) ln))) (qc (spr Qaa) qn)))⟩
end Go.Proofs.Ytlhakkkjgdbdpaa
