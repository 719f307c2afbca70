/-
  Functions of the program: what they compute, as plain functions, and that they do. No conditions.
-/
import Derived.Test.YtgdepcgbjjgnfaaX12
namespace Go.Proofs.Ytgdepcgbjjgnfaa
open Go.RowKit
def Qfe (_N : Nat) (p0 : Nat) (p1 : (List Int)) : Option (List Int) :=
  chk (decide (p0 ≤ p1.length)) <|
  chk (decide ((([] : List Int).length + (p1.take p0).length) * 8 ≤ 140737488355328)) <|
  some (([] : List Int) ++ (p1.take p0))
def Quo (p1 : (List Int)) : Slot := .own 1 ((p1 : List Int).map Qac)
def z89_0 : AV := .acc 1 3 1 ((([] : List Int) : List Int).map Qac)
set_option maxRecDepth 100000 in
set_option maxHeartbeats 4000000 in
theorem Qlg (N : Nat) (p0 : Nat) (p1 : (List Int)) (r : (List Int)) (h : Qfe N p0 p1 = some r) : Spec Try.prog 24 [(.own 0 1 (0) (p0))] [(Quo p1)] (.dat 1 ((r : List Int).map Qac)) [(Quo p1)] := by
  refine Qaj Try.func24 rfl 1 (nle rfl) (fun X φ0 w0 hφ0 => ?_)
  unfold Qfe at h
  refine Qcb ?_
  refine wx tbk [] trivial ?_
  obtain ⟨hz2, h⟩ := cko h
  obtain ⟨ha3, h⟩ := cko h
  refine wx tbk [(0, ⟨[], [(1, .unused)], z89_0, [(1, .tok)], false⟩), (2, ⟨[(.tmp 3, z89_0), (.tmp 4, (.own 0 1 (0) (p0)))], [(0, (Quo p1)), (1, .tok), (2, .unused)], (.acc 2 3 1 ((([] : List Int) ++ (p1.take p0) : List Int).map Qac)), [(1, .dead), (2, .tok)], false⟩)] ⟨Qic rfl Try.underlying23 ti3 tz3, Qid (rd' := [(.tmp 3, z89_0), (.tmp 4, (.dat 1 ((p1.take p0 : List Int).map Qac)))]) [(0, 1, (p1 : List Int).map Qac)] ⟨rfl, .same _, rfl, (Qok 0 rfl hz2), trivial⟩ (by rfl) (.acc _ _ _ _ (nin rfl) (by simp) (Qsw Qq6 _)) (Qlh .dead (Qlh .tok Qqw)) (Qmk rfl Try.underlying23 te3 (Base.acc _ _) rfl rfl (Qn4 Qac Qq4 _) (Qru Qac ha3) (Qrt Qac ha3 (by decide)) (Qrs Qac) rfl rfl), trivial⟩ ?_
  refine wmr (mto (n := 6) (l' := [(2, (.dat 1 ((([] : List Int) ++ (p1.take p0) : List Int).map Qac)))]) (own' := [(Quo p1)]) [(2, (.acc 2 3 1 ((([] : List Int) ++ (p1.take p0) : List Int).map Qac)))] [0] [(Quo p1)] hφ0 (pc (.dat _ _ _ _ (Qh5 Qaa _)) pn) (qc (spr Qaa) qn)) ?_
  refine Qaf ?_
  obtain rfl := osi h
  exact ⟨_, Mor.rfl, Qcl (vs := [(.dat 1 ((([] : List Int) ++ (p1.take p0) : List Int).map Qac))]) ⟨rot (by kernel_rfl), trivial⟩ rfl (NLt.of0 (nld Qaa _)) (by kernel_rfl) (Qam (Qcr Qaa _) Qbn)⟩
def Qbi (N : Nat) (p0 : Nat) (p1 : (List Int)) (k2 : Unit → Option Int) : Nat → Int → Option Int
  | 0, _ => none
  | n5 + 1, y3 =>
    bif (decide (y3 < ((p0 : Nat) : Int))) then
     chk (decide (0 ≤ y3) && decide (y3.toNat < p0)) <|
     (p1[y3.toNat]?).bind fun x8 =>
     (Qd2 N x8).bind fun x11 =>
     bif x11 then
      some y3
     else
      Qbi N p0 p1 k2 n5 (w64 (y3 + 1))
    else
     k2 ()
def Qde (N : Nat) (p0 : Nat) (p1 : (List Int)) : Option Int :=
  Qck (fun _ =>
    some (-1)) fun k2 : Unit → Option Int =>
  Qbi N p0 p1 k2 N 0
def Qth : AV := .fn (.func 108) [] [(.ref 1 1 (0) 0)]
def Qju (p1 : (List Int)) : Slot := .own 1 ((p1 : List Int).map Qac)
def Qi1 : Slot := .own 1 [[(.fn (.func 94) [] [])]]
set_option maxRecDepth 100000 in
set_option maxHeartbeats 4000000 in
theorem Qgl (N : Nat) (p0 : Nat) (p1 : (List Int)) (r : Int) (h : Qde N p0 p1 = some r) : Spec Try.prog 113 [(.own 0 1 (0) (p0)), Qth] [(Qju p1), Qi1] (I (r)) [(Qju p1), Qi1] := by
  refine Qaj Try.func113 rfl 2 (nle rfl) (fun X φ0 w0 hφ0 => ?_)
  unfold Qde at h
  refine Qcb ?_
  refine wx tbk [] trivial ?_
  obtain ⟨k2, hk_k2, h⟩ := jko h
  refine wjn (τ := Unit) (fun t => k2 t = some r) (fun _ => ⟨mk 19 [], [(Qju p1), Qi1]⟩) (fun t h => ?_) ?_
  ·subst hk_k2
   refine wx tbk [] trivial ?_
   refine wmr (mto (n := 19) (l' := [(4, (I ((-1))))]) (own' := [(Qju p1), Qi1]) [(4, (I ((-1))))] [0, 1] [(Qju p1), Qi1] hφ0 (pc rwl pn) (qc (spr Qaa) (qc (spb (lc (.rn (Qaw rn0 rn0)) ln)) qn))) ?_
   refine Qaf ?_
   obtain rfl := osi h
   exact ⟨_, Mor.rfl, Qcl (vs := [(I ((-1)))]) ⟨rot (by kernel_rfl), trivial⟩ rfl (NLt.of0 nll) (by kernel_rfl) (Qam (Qcr Qaa _) (Qam (Qbt (nlc (NLt.of0 (NLt.fn _ _ _ nl0 nl0)) nl0)) Qbn))⟩
  ·skip
   refine wx tbk [(1, rp [(.tmp 6, (.own 0 1 (0) (p0)))] (I (((p0 : Nat) : Int))))] ⟨aln rfl Try.underlying23 rfl, trivial⟩ ?_
   refine Qag ?_
   refine wmr (mto (n := 19) (l' := [(0, (.own 0 1 (0) (p0))), (1, Qth), (7, (I (((p0 : Nat) : Int)))), (8, I 0)]) (own' := [(Qju p1), Qi1]) [(0, (.own 0 1 (0) (p0))), (1, Qth), (7, (I (((p0 : Nat) : Int)))), (8, I 0)] [0, 1] [(Qju p1), Qi1] hφ0 (pc (.rn (Qae rfl)) (pc (.rn (Qaw rn0 (rnc (rqr rfl) rn0))) (pc rwl (pc rwl pn)))) (qc (spr Qaa) (qc (spb (lc (.rn (Qaw rn0 rn0)) ln)) qn))) ?_
   refine Qcc (τ := Int) (fun n t => Qbi N p0 p1 k2 n t = some r) (fun y3 => ⟨mk 19 [(0, (.own 0 1 (0) (p0))), (1, Qth), (7, (I (((p0 : Nat) : Int)))), (8, I y3)], [(Qju p1), Qi1]⟩) (fun t h => by rw [Qbi] at h; cases h) (fun n5 ih y3 h => ?_) N (0) h
   rw [Qbi] at h
   skip
   refine wx tbk [] trivial ?_
   refine wsq ?_
   rcases bft ((decide (y3 < ((p0 : Nat) : Int)))) with hc6 | hc6
   ·replace h := Qat hc6 h
    refine wft hc6 (by kernel_rfl) ?_
    refine Qah ?_
    refine thn ?_
    refine wsq ?_
    refine Qag ?_
    refine wx tbk [] trivial ?_
    obtain ⟨hi7, h⟩ := cko h
    obtain ⟨hi7a, hi7b⟩ := Qa3 hi7
    obtain ⟨x8, hg9, h⟩ := bno h
    obtain ⟨x11, hf10, h⟩ := bno h
    refine wx tbk [(3, rb [(.tmp 12, (.own 0 1 (0) (p0))), (.tmp 13, I y3)] [(0, (Qju p1))] (.ref 0 1 (y3.toNat) 0)), (4, rb [(.tmp 14, (.ref 0 1 (y3.toNat) 0))] [(0, (Qju p1))] (I x8)), (5, ⟨[(.tmp 11, Qth), (.tmp 15, I x8)], [(1, Qi1)], B x11, [(1, Qi1)], false⟩)] ⟨aio rfl Try.underlying23 ti3 (odt hi7a) (odt hi7b) (Nat.zero_add _), ald rfl ti3 (by decide) (mgt Qac hg9) (nle rfl) rfl, Qao (first := []) (cap := [.ref 1 1 0 0]) (vs := [I x8]) (σr := [Qi1]) (σr' := [Qi1]) (res' := (B x11)) [1] rfl Qs4 (Qgu N x8 _ hf10) rfl (Qcq (rnc (.plain _ nll) (rnc (Qbs rfl) rn0))) (slc (Qal (rnc (.plain _ (NLt.fn _ _ _ nl0 nl0)) rn0)) Qan) (slc (Qal (rnc (.plain _ (NLt.fn _ _ _ nl0 nl0)) rn0)) Qan) (.plain _ nll) rfl rfl rfl, trivial⟩ ?_
    rcases bft (x11) with hc12 | hc12
    ·replace h := Qat hc12 h
     refine wft hc12 (by kernel_rfl) ?_
     refine wx tbk [] trivial ?_
     refine wmr (mto (n := 19) (l' := [(4, I y3)]) (own' := [(Qju p1), Qi1]) [(4, I y3)] [0, 1] [(Qju p1), Qi1] hφ0 (pc rwl pn) (qc (spr Qaa) (qc (spb (lc (.rn (Qaw rn0 rn0)) ln)) qn))) ?_
     refine Qaf ?_
     refine Qax ?_
     refine Qai ?_
     refine Qai ?_
     refine Qax ?_
     refine Qai ?_
     obtain rfl := osi h
     exact ⟨_, Mor.rfl, Qcl (vs := [I y3]) ⟨rot (by kernel_rfl), trivial⟩ rfl (NLt.of0 nll) (by kernel_rfl) (Qam (Qcr Qaa _) (Qam (Qbt (nlc (NLt.of0 (NLt.fn _ _ _ nl0 nl0)) nl0)) Qbn))⟩
    ·replace h := Qau hc12 h
     refine wfn hc12 (by kernel_rfl) ?_
     refine Qah ?_
     refine bln ?_
     refine thn ?_
     refine wx1 tbk [] trivial ?_
     refine thn ?_
     exact arm (mto (n := 19) [(0, (.own 0 1 (0) (p0))), (1, Qth), (7, (I (((p0 : Nat) : Int)))), (8, (I (w64 (y3 + 1))))] [0, 1] [(Qju p1), Qi1] hφ0 (pc (.rn (Qae rfl)) (pc (.rn (Qaw rn0 (rnc (rqr rfl) rn0))) (pc rwl (pc rwl pn)))) (qc (spr Qaa) (qc (spb (lc (.rn (Qaw rn0 rn0)) ln)) qn))) (ih (w64 (y3 + 1)) h)
   ·replace h := Qau hc6 h
    refine wfn hc6 (by kernel_rfl) ?_
    refine Qbe ?_
    refine Qap ?_
    refine Qap ?_
    refine Qbd rfl ?_
    refine thn ?_
    exact ⟨(), h, (mto (n := 19) [] [0, 1] [(Qju p1), Qi1] hφ0 pn (qc (spr Qaa) (qc (spb (lc (.rn (Qaw rn0 rn0)) ln)) qn)))⟩
def Qcz (N : Nat) (p0 : Nat) (p1 : (List Int)) : Option Bool :=
  (Qde N p0 p1).bind fun x3 =>
  some (decide (x3 ≥ 0))
def z93_0 : AV := .fn (.func 108) [] [(.ref 1 1 (0) 0)]
def Qow (p1 : (List Int)) : Slot := .own 1 ((p1 : List Int).map Qac)
def Qov : Slot := .own 1 [[(.fn (.func 94) [] [])]]
set_option maxRecDepth 100000 in
set_option maxHeartbeats 4000000 in
theorem Qft (N : Nat) (p0 : Nat) (p1 : (List Int)) (r : Bool) (h : Qcz N p0 p1 = some r) : Spec Try.prog 107 [(.own 0 1 (0) (p0)), z93_0] [(Qow p1), Qov] (B (r)) [(Qow p1), Qov] := by
  refine Qaj Try.func107 rfl 2 (nle rfl) (fun X φ0 w0 hφ0 => ?_)
  unfold Qcz at h
  refine Qcb ?_
  refine wx tbk [] trivial ?_
  obtain ⟨x3, hf2, h⟩ := bno h
  refine wx tbk [(2, ⟨[fu 113, (.tmp 5, (.own 0 1 (0) (p0))), (.tmp 6, z93_0)], [(0, (Qow p1)), (1, Qov)], I x3, [(0, (Qow p1)), (1, Qov)], false⟩)] ⟨Qao (first := []) (cap := []) (vs := [(.own 0 1 (0) (p0)), z93_0]) (σr := [(Qow p1), Qov]) (σr' := [(Qow p1), Qov]) (res' := (I x3)) [0, 1] rfl Qs2 (Qgl N p0 p1 _ hf2) rfl (Qcq (rnc (Qdk rfl) (rnc (Qaw rn0 (rnc (Qbs rfl) rn0)) rn0))) (slc (Qbf Qaa) (slc (Qal (rnc (.plain _ (NLt.fn _ _ _ nl0 nl0)) rn0)) Qan)) (slc (Qbf Qaa) (slc (Qal (rnc (.plain _ (NLt.fn _ _ _ nl0 nl0)) rn0)) Qan)) (.plain _ nll) rfl rfl rfl, trivial⟩ ?_
  refine wmr (mto (n := 9) (l' := [(4, (B ((decide (x3 ≥ 0)))))]) (own' := [(Qow p1), Qov]) [(4, (B ((decide (x3 ≥ 0)))))] [0, 1] [(Qow p1), Qov] hφ0 (pc rwl pn) (qc (spr Qaa) (qc (spb (lc (.rn (Qaw rn0 rn0)) ln)) qn))) ?_
  refine Qaf ?_
  obtain rfl := osi h
  exact ⟨_, Mor.rfl, Qcl (vs := [(B ((decide (x3 ≥ 0))))]) ⟨rot (by kernel_rfl), trivial⟩ rfl (NLt.of0 nll) (by kernel_rfl) (Qam (Qcr Qaa _) (Qam (Qbt (nlc (NLt.of0 (NLt.fn _ _ _ nl0 nl0)) nl0)) Qbn))⟩
def Qfq (N : Nat) (p0 : Nat) (p1 : (List Int)) : Option Bool :=
  (Qcz N p0 p1).bind fun x3 =>
  some (!x3)
def Qox (p1 : (List Int)) : Slot := .own 1 ((p1 : List Int).map Qac)
def z92_1 : AV := .fn (.func 108) [] [(.ref 1 1 (0) 0)]
def Qxf : Slot := .own 1 [[(.fn (.func 94) [] [])]]
set_option maxRecDepth 100000 in
set_option maxHeartbeats 4000000 in
theorem Qj4 (N : Nat) (p0 : Nat) (p1 : (List Int)) (r : Bool) (h : Qfq N p0 p1 = some r) : Spec Try.prog 90 [(.own 0 1 (0) (p0)), (.fn (.func 94) [] [])] [(Qox p1)] (B (r)) [(Qox p1)] := by
  refine Qaj Try.func90 rfl 1 (nle rfl) (fun X φ0 w0 hφ0 => ?_)
  unfold Qfq at h
  refine Qcb ?_
  refine wx tbk [] trivial ?_
  obtain ⟨x3, hf2, h⟩ := bno h
  refine wx tbk [(1, rp [(.tmp 3, .ref 1 1 0 0)] z92_1), (2, ⟨[fu 107, (.tmp 5, (.own 0 1 (0) (p0))), (.tmp 6, z92_1)], [(0, (Qox p1)), (1, Qxf)], B x3, [(0, (Qox p1)), (1, Qxf)], false⟩)] ⟨Qfn (fs := []) (cs := [.ref 1 1 0 0]) rfl rfl rfl rfl, Qao (first := []) (cap := []) (vs := [(.own 0 1 (0) (p0)), z92_1]) (σr := [(Qox p1), Qxf]) (σr' := [(Qox p1), Qxf]) (res' := (B x3)) [0, 1] rfl Qs5 (Qft N p0 p1 _ hf2) rfl (Qcq (rnc (Qdk rfl) (rnc (Qaw rn0 (rnc (Qbs rfl) rn0)) rn0))) (slc (Qbf Qaa) (slc (Qal (rnc (.plain _ (NLt.fn _ _ _ nl0 nl0)) rn0)) Qan)) (slc (Qbf Qaa) (slc (Qal (rnc (.plain _ (NLt.fn _ _ _ nl0 nl0)) rn0)) Qan)) (.plain _ nll) rfl rfl rfl, trivial⟩ ?_
  refine wmr (mto (n := 9) (l' := [(4, (B ((!x3))))]) (own' := [(Qox p1)]) [(4, (B ((!x3))))] [0] [(Qox p1)] hφ0 (pc rwl pn) (qc (spr Qaa) qn)) ?_
  refine Qaf ?_
  obtain rfl := osi h
  exact ⟨_, Mor.rfl, Qcl (vs := [(B ((!x3)))]) ⟨rot (by kernel_rfl), trivial⟩ rfl (NLt.of0 nll) (by kernel_rfl) (Qam (Qcr Qaa _) Qbn)⟩
def Qgd (N : Nat) (p0 : (List GNode)) (p1 : Nat) (p2 : (List Int)) : Option Int :=
  (Qd7 N p0).bind fun x3 =>
  bif (!x3) then
   some 1
  else
   bif (((p1 : Nat) : Int) != (p0.length : Int)) then
    some 2
   else
    (Qfq N p1 p2).bind fun x7 =>
    bif (!x7) then
     some 2
    else
     some 0
def Qun (p0 : (List GNode)) : AV := .dat 4 ((p0 : List GNode).map Qad)
def Qjv (p2 : (List Int)) : Slot := .own 1 ((p2 : List Int).map Qac)
set_option maxRecDepth 100000 in
set_option maxHeartbeats 4000000 in
theorem Qlz (N : Nat) (p0 : (List GNode)) (p1 : Nat) (p2 : (List Int)) (r : Int) (h : Qgd N p0 p1 p2 = some r) : Spec Try.prog 67 [(Qun p0), (.own 0 1 (0) (p1))] [(Qjv p2)] (I (r)) [(Qjv p2)] := by
  refine Qaj Try.func67 rfl 1 (nle rfl) (fun X φ0 w0 hφ0 => ?_)
  unfold Qgd at h
  refine Qcb ?_
  refine wx tbk [] trivial ?_
  refine wsq ?_
  refine Qag ?_
  obtain ⟨x3, hf2, h⟩ := bno h
  refine wx tbk [(1, rp [fu 80, (.tmp 6, (Qun p0))] (B x3))] ⟨apc (first := []) (cap := []) (vs := [(Qun p0)]) rfl Qwn (Qg4 N p0 _ hf2) rfl rfl (nlc (nld Qab _) nl0) nll rfl, trivial⟩ ?_
  rcases bft ((!x3)) with hc4 | hc4
  ·replace h := Qat hc4 h
   refine wft hc4 (by kernel_rfl) ?_
   refine wx tbk [] trivial ?_
   refine wmr (mto (n := 20) (l' := [(4, I 1)]) (own' := [(Qjv p2)]) [(4, I 1)] [0] [(Qjv p2)] hφ0 (pc rwl pn) (qc (spr Qaa) qn)) ?_
   refine Qaf ?_
   refine Qax ?_
   refine Qai ?_
   obtain rfl := osi h
   exact ⟨_, Mor.rfl, Qcl (vs := [I 1]) ⟨rot (by kernel_rfl), trivial⟩ rfl (NLt.of0 nll) (by kernel_rfl) (Qam (Qcr Qaa _) Qbn)⟩
  ·replace h := Qau hc4 h
   refine wfn hc4 (by kernel_rfl) ?_
   rcases bft ((((p1 : Nat) : Int) != (p0.length : Int))) with hb5 | hb5
   ·replace h := Qat hb5 h
    refine wx tbk [(1, rp [(.tmp 10, (.own 0 1 (0) (p1)))] (I (((p1 : Nat) : Int)))), (3, rp [(.tmp 12, (Qun p0))] (I ((p0.length : Int)))), (5, rp [(.tmp 14, (B ((((p1 : Nat) : Int) != (p0.length : Int)))))] (B true))] ⟨aln rfl Try.underlying23 rfl, alm (c := Qad) (l := p0) (aln rfl Try.underlying31 rfl), asb hb5 (amv rfl), trivial⟩ ?_
    refine Qbw (by kernel_rfl) ?_
    refine wx tbk [] trivial ?_
    refine wmr (mto (n := 20) (l' := [(4, I 2)]) (own' := [(Qjv p2)]) [(4, I 2)] [0] [(Qjv p2)] hφ0 (pc rwl pn) (qc (spr Qaa) qn)) ?_
    refine Qaf ?_
    refine Qax ?_
    refine Qai ?_
    obtain rfl := osi h
    exact ⟨_, Mor.rfl, Qcl (vs := [I 2]) ⟨rot (by kernel_rfl), trivial⟩ rfl (NLt.of0 nll) (by kernel_rfl) (Qam (Qcr Qaa _) Qbn)⟩
   ·replace h := Qau hb5 h
    obtain ⟨x7, hf6, h⟩ := bno h
    refine wx tbk [(1, rp [(.tmp 10, (.own 0 1 (0) (p1)))] (I (((p1 : Nat) : Int)))), (3, rp [(.tmp 12, (Qun p0))] (I ((p0.length : Int)))), (5, rp [(.tmp 14, (B ((((p1 : Nat) : Int) != (p0.length : Int)))))] (B false)), (7, ⟨[(.tmp 15, B false), fu 90, (.tmp 16, (.own 0 1 (0) (p1))), fu 94], [(0, (Qjv p2))], B x7, [(0, (Qjv p2))], false⟩)] ⟨aln rfl Try.underlying23 rfl, alm (c := Qad) (l := p0) (aln rfl Try.underlying31 rfl), asb hb5 (amv rfl), ag_ (Qao (first := []) (cap := []) (vs := [(.own 0 1 (0) (p1)), (.fn (.func 94) [] [])]) (σr := [(Qjv p2)]) (σr' := [(Qjv p2)]) (res' := (B x7)) [0] rfl Qwl (Qj4 N p1 p2 _ hf6) rfl (Qcq (rnc (Qdk rfl) (rnc (.plain _ (NLt.fn _ _ _ nl0 nl0)) rn0))) (slc (Qbf Qaa) Qan) (slc (Qbf Qaa) Qan) (.plain _ nll) rfl rfl rfl), trivial⟩ ?_
    rcases bft ((!x7)) with hc8 | hc8
    ·replace h := Qat hc8 h
     refine wft hc8 (by kernel_rfl) ?_
     refine wx tbk [] trivial ?_
     refine wmr (mto (n := 20) (l' := [(4, I 2)]) (own' := [(Qjv p2)]) [(4, I 2)] [0] [(Qjv p2)] hφ0 (pc rwl pn) (qc (spr Qaa) qn)) ?_
     refine Qaf ?_
     refine Qax ?_
     refine Qai ?_
     obtain rfl := osi h
     exact ⟨_, Mor.rfl, Qcl (vs := [I 2]) ⟨rot (by kernel_rfl), trivial⟩ rfl (NLt.of0 nll) (by kernel_rfl) (Qam (Qcr Qaa _) Qbn)⟩
    ·replace h := Qau hc8 h
     refine wfn hc8 (by kernel_rfl) ?_
     refine Qah ?_
     refine bln ?_
     refine thn ?_
     refine wx tbk [] trivial ?_
     refine wmr (mto (n := 20) (l' := [(4, I 0)]) (own' := [(Qjv p2)]) [(4, I 0)] [0] [(Qjv p2)] hφ0 (pc rwl pn) (qc (spr Qaa) qn)) ?_
     refine Qaf ?_
     obtain rfl := osi h
     exact ⟨_, Mor.rfl, Qcl (vs := [I 0]) ⟨rot (by kernel_rfl), trivial⟩ rfl (NLt.of0 nll) (by kernel_rfl) (Qam (Qcr Qaa _) Qbn)⟩
def Qfd (N : Nat) (p0 : (List GNode)) (p1 : Nat) (p2 : (List Int)) : Option ((List Int) × Int × Int) :=
  (Qgd N p0 p1 p2).bind fun x5 =>
  bif (x5 != 0) then
   some ([], 0, x5)
  else
   (Qdu N p0 p1 p2).bind fun x8 =>
   (Qd3 N p0 x8).bind fun x10 =>
   bif (decide (x10 ≥ 0)) then
    some ([], x10, 11)
   else
    some (x8, 0, 0)
def Qqe (p0 : (List GNode)) : AV := .dat 4 ((p0 : List GNode).map Qad)
def Qi2 (p2 : (List Int)) : Slot := .own 1 ((p2 : List Int).map Qac)
def Qxg : AV := .dat 1 (([] : List Int).map Qac)
def Qqd (x8 : (List Int)) : AV := .dat 1 ((x8 : List Int).map Qac)
set_option maxRecDepth 100000 in
set_option maxHeartbeats 4000000 in
theorem Qlf (N : Nat) (p0 : (List GNode)) (p1 : Nat) (p2 : (List Int)) (r : ((List Int) × Int × Int)) (h : Qfd N p0 p1 p2 = some r) : Spec Try.prog 36 [(Qqe p0), (.own 0 1 (0) (p1))] [(Qi2 p2)] (.tup [(.dat 1 ((r.1 : List Int).map Qac)), (I (r.2.1)), (I (r.2.2))]) [(Qi2 p2)] := by
  refine Qaj Try.func36 rfl 1 (nle rfl) (fun X φ0 w0 hφ0 => ?_)
  unfold Qfd at h
  refine Qcb ?_
  refine wx tbk [] trivial ?_
  refine wsq ?_
  obtain ⟨x5, hf4, h⟩ := bno h
  refine wx tbk [(2, ⟨[fu 67, (.tmp 10, (Qqe p0)), (.tmp 11, (.own 0 1 (0) (p1)))], [(0, (Qi2 p2))], I x5, [(0, (Qi2 p2))], false⟩)] ⟨Qao (first := []) (cap := []) (vs := [(Qqe p0), (.own 0 1 (0) (p1))]) (σr := [(Qi2 p2)]) (σr' := [(Qi2 p2)]) (res' := (I x5)) [0] rfl Qrb (Qlz N p0 p1 p2 _ hf4) rfl (Qcq (rnc (.plain _ (nld Qab _)) (rnc (Qdk rfl) rn0))) (slc (Qbf Qaa) Qan) (slc (Qbf Qaa) Qan) (.plain _ nll) rfl rfl rfl, trivial⟩ ?_
  refine wx tbk [] trivial ?_
  rcases bft ((x5 != 0)) with hc6 | hc6
  ·replace h := Qat hc6 h
   refine wft hc6 (by kernel_rfl) ?_
   refine wx tbk [] trivial ?_
   refine wmr (mto (n := 26) (l' := [(4, Qxg), (5, I 0), (6, I x5)]) (own' := [(Qi2 p2)]) [(4, nilS), (5, I 0), (6, I x5)] [0] [(Qi2 p2)] hφ0 (pc (.nil _) (pc rwl (pc rwl pn))) (qc (spr Qaa) qn)) ?_
   refine Qaf ?_
   refine Qai ?_
   obtain rfl := osi h
   exact ⟨_, Mor.rfl, Qcl (vs := [Qxg, I 0, I x5]) ⟨rot (by kernel_rfl), rot (by kernel_rfl), rot (by kernel_rfl), trivial⟩ rfl (NLt.tup _ (nlc (NLt.of0 (nld Qaa _)) (nlc (NLt.of0 nll) (nlc (NLt.of0 nll) nl0)))) (by kernel_rfl) (Qam (Qcr Qaa _) Qbn)⟩
  ·replace h := Qau hc6 h
   refine wfn hc6 (by kernel_rfl) ?_
   refine Qah ?_
   refine thn ?_
   obtain ⟨x8, hf7, h⟩ := bno h
   refine wx tbk [(2, ⟨[fu 71, (.tmp 16, (Qqe p0)), (.tmp 17, (.own 0 1 (0) (p1)))], [(0, (Qi2 p2))], (Qqd x8), [(0, (Qi2 p2))], false⟩)] ⟨Qao (first := []) (cap := []) (vs := [(Qqe p0), (.own 0 1 (0) (p1))]) (σr := [(Qi2 p2)]) (σr' := [(Qi2 p2)]) (res' := (Qqd x8)) [0] rfl Qra (Qge N p0 p1 p2 _ hf7) rfl (Qcq (rnc (.plain _ (nld Qab _)) (rnc (Qdk rfl) rn0))) (slc (Qbf Qaa) Qan) (slc (Qbf Qaa) Qan) (.plain _ (nld Qaa _)) rfl rfl rfl, trivial⟩ ?_
   refine wsq ?_
   obtain ⟨x10, hf9, h⟩ := bno h
   refine wx tbk [(2, rp [fu 72, (.tmp 19, (Qqe p0)), (.tmp 20, (Qqd x8))] (I x10))] ⟨apc (first := []) (cap := []) (vs := [(Qqe p0), (Qqd x8)]) rfl Qoh (Qe3 N p0 x8 _ hf9) rfl rfl (nlc (nld Qab _) (nlc (nld Qaa _) nl0)) nll rfl, trivial⟩ ?_
   refine wx tbk [] trivial ?_
   rcases bft ((decide (x10 ≥ 0))) with hc11 | hc11
   ·replace h := Qat hc11 h
    refine wft hc11 (by kernel_rfl) ?_
    refine wx tbk [] trivial ?_
    refine wmr (mto (n := 26) (l' := [(4, Qxg), (5, I x10), (6, I 11)]) (own' := [(Qi2 p2)]) [(4, nilS), (5, I x10), (6, I 11)] [0] [(Qi2 p2)] hφ0 (pc (.nil _) (pc rwl (pc rwl pn))) (qc (spr Qaa) qn)) ?_
    refine Qaf ?_
    refine Qai ?_
    obtain rfl := osi h
    exact ⟨_, Mor.rfl, Qcl (vs := [Qxg, I x10, I 11]) ⟨rot (by kernel_rfl), rot (by kernel_rfl), rot (by kernel_rfl), trivial⟩ rfl (NLt.tup _ (nlc (NLt.of0 (nld Qaa _)) (nlc (NLt.of0 nll) (nlc (NLt.of0 nll) nl0)))) (by kernel_rfl) (Qam (Qcr Qaa _) Qbn)⟩
   ·replace h := Qau hc11 h
    refine wfn hc11 (by kernel_rfl) ?_
    refine Qah ?_
    refine thn ?_
    refine wx tbk [] trivial ?_
    refine wmr (mto (n := 26) (l' := [(4, (Qqd x8)), (5, I 0), (6, I 0)]) (own' := [(Qi2 p2)]) [(4, (Qqd x8)), (5, I 0), (6, I 0)] [0] [(Qi2 p2)] hφ0 (pc (.rn (.plain _ (nld Qaa _))) (pc rwl (pc rwl pn))) (qc (spr Qaa) qn)) ?_
    refine Qaf ?_
    obtain rfl := osi h
    exact ⟨_, Mor.rfl, Qcl (vs := [(Qqd x8), I 0, I 0]) ⟨rot (by kernel_rfl), rot (by kernel_rfl), rot (by kernel_rfl), trivial⟩ rfl (NLt.tup _ (nlc (NLt.of0 (nld Qaa _)) (nlc (NLt.of0 nll) (nlc (NLt.of0 nll) nl0)))) (by kernel_rfl) (Qam (Qcr Qaa _) Qbn)⟩
def Qa4 (N : Nat) (p0 : (List GNode)) (p1 : (List Int)) (x7 : ((List Bool) × Int × Int)) (y22 : Int) (k30 : (List Int) → Option Bool) : Nat → Int → (List Int) → Option Bool
  | 0, _, _ => none
  | n53 + 1, y49, y50 =>
    bif (decide (y49 < (p0.length : Int))) then
     (getI x7.1 y49).bind fun x55 =>
     bif x55 then
      (getI p0 y49).bind fun x60 =>
      (getI p0 y22).bind fun x64 =>
      bif (decide (x60.Rank < x64.Rank)) then
       (getI p1 y49).bind fun x69 =>
       chk (decide (0 ≤ y49) && decide (y49.toNat < (p0.length : Int).toNat)) <|
       (y50[y49.toNat]?).bind fun _ =>
       Qa4 N p0 p1 x7 y22 k30 n53 (w64 (y49 + 1)) (y50.set y49.toNat x69)
      else
       bif (x60.Rank == x64.Rank) then
        bif (decide (y49 < y22)) then
         (getI p1 y49).bind fun x78 =>
         chk (decide (0 ≤ y49) && decide (y49.toNat < (p0.length : Int).toNat)) <|
         (y50[y49.toNat]?).bind fun _ =>
         Qa4 N p0 p1 x7 y22 k30 n53 (w64 (y49 + 1)) (y50.set y49.toNat x78)
        else
         Qa4 N p0 p1 x7 y22 k30 n53 (w64 (y49 + 1)) y50
       else
        Qa4 N p0 p1 x7 y22 k30 n53 (w64 (y49 + 1)) y50
     else
      Qa4 N p0 p1 x7 y22 k30 n53 (w64 (y49 + 1)) y50
    else
     k30 (y50)
def Qcs (N : Nat) (p0 : (List GNode)) (p1 : (List Int)) (p2 : Int) (x7 : ((List Bool) × Int × Int)) (k19 : Unit → Option Bool) : Nat → Int → Option Bool
  | 0, _ => none
  | n24 + 1, y22 =>
    bif (decide (y22 < (p0.length : Int))) then
     Qck (fun _ =>
       Qcs N p0 p1 p2 x7 k19 n24 (w64 (y22 + 1))) fun k26 : Unit → Option Bool =>
     Qck (fun _ =>
       chk (decide (0 ≤ (p0.length : Int)) && decide (8 * (p0.length : Int) ≤ 281474976710656) && decide ((p0.length : Int) ≤ 9223372036854775807)) <|
       Qck (fun y29 =>
         (getI p1 y22).bind fun x31 =>
         chk (decide (0 ≤ y22) && decide (y22.toNat < (p0.length : Int).toNat)) <|
         (y29[y22.toNat]?).bind fun _ =>
         (Qfb N p0).bind fun x39 =>
         (Qfd N x39 ((p0.length : Int).toNat) (y29.set y22.toNat x31)).bind fun x41 =>
         bif (x41.2.2 == 0) then
          bif ((x41.1.length : Int) != (p0.length : Int)) then
           some false
          else
           (getI x41.1 0).bind fun x44 =>
           bif (decide (x44 ≤ p2)) then
            some false
           else
            k26 ()
         else
          k26 ()) fun k30 : (List Int) → Option Bool =>
       Qa4 N p0 p1 x7 y22 k30 N 0 (List.replicate (p0.length : Int).toNat 0)) fun k27 : Unit → Option Bool =>
     (getI x7.1 y22).bind fun x85 =>
     bif x85 then
      (getI p1 y22).bind fun x90 =>
      bif (x90 == 0) then
       some false
      else
       k26 ()
     else
      (getI p1 y22).bind fun x95 =>
      bif (x95 == 0) then
       k26 ()
      else
       k27 ()
    else
     k19 ()
def Qb5 (N : Nat) (p0 : (List GNode)) (p1 : (List Int)) (x7 : ((List Bool) × Int × Int)) (k11 : (List Int) → Option Bool) : Nat → Int → (List Int) → Option Bool
  | 0, _, _ => none
  | n112 + 1, y108, y109 =>
    bif (decide (y108 < (p0.length : Int))) then
     (getI x7.1 y108).bind fun x114 =>
     bif x114 then
      (getI p1 y108).bind fun x119 =>
      chk (decide (0 ≤ y108) && decide (y108.toNat < (p0.length : Int).toNat)) <|
      (y109[y108.toNat]?).bind fun _ =>
      Qb5 N p0 p1 x7 k11 n112 (w64 (y108 + 1)) (y109.set y108.toNat x119)
     else
      Qb5 N p0 p1 x7 k11 n112 (w64 (y108 + 1)) y109
    else
     k11 (y109)
def Qev (N : Nat) (p0 : (List GNode)) (p1 : (List Int)) (p2 : Int) : Option Bool :=
  Qck (fun _ =>
    (Qfb N p0).bind fun x3 =>
    (Qhc N p1).bind fun x5 =>
    (Qf0 N x3 x5 p2).bind fun x7 =>
    Qck (fun _ =>
      chk (decide (0 ≤ (p0.length : Int)) && decide (8 * (p0.length : Int) ≤ 281474976710656) && decide ((p0.length : Int) ≤ 9223372036854775807)) <|
      Qck (fun y10 =>
        (Qfb N p0).bind fun x13 =>
        (Qfe N ((p0.length : Int).toNat) y10).bind fun x15 =>
        (Qfj N x13 x15).bind fun x17 =>
        Qck (fun _ =>
          Qck (fun _ =>
            (Qei 2000 ).bind fun x21 =>
            some x21) fun k19 : Unit → Option Bool =>
          Qcs N p0 p1 p2 x7 k19 N 0) fun k18 : Unit → Option Bool =>
        bif (x17.2.2 != 0) then
         some false
        else
         bif ((x17.1.length : Int) != (p0.length : Int)) then
          some false
         else
          (getI x17.1 0).bind fun x102 =>
          bif (x102 != x7.2.1) then
           some false
          else
           bif (decide (x7.2.1 > p2)) then
            some false
           else
            k18 ()) fun k11 : (List Int) → Option Bool =>
      Qb5 N p0 p1 x7 k11 N 0 (List.replicate (p0.length : Int).toNat 0)) fun k8 : Unit → Option Bool =>
    bif (x7.2.2 != 0) then
     some false
    else
     bif ((x7.1.length : Int) != (p0.length : Int)) then
      some false
     else
      k8 ()) fun k1 : Unit → Option Bool =>
  (Qht N p0 p1).bind fun x129 =>
  bif (!x129) then
   (Qei 2000 ).bind fun x132 =>
   some x132
  else
   (Qgn N p0).bind fun x134 =>
   bif (!x134) then
    (Qei 2000 ).bind fun x137 =>
    some x137
   else
    (Qha N p0 p1).bind fun x139 =>
    bif (!x139) then
     (Qei 2000 ).bind fun x142 =>
     some x142
    else
     (Qee N p2 0 100000000000).bind fun x144 =>
     bif (!x144) then
      (Qei 2000 ).bind fun x147 =>
      some x147
     else
      k1 ()
def Qcg (p0 : (List GNode)) : AV := .dat 4 ((p0 : List GNode).map Qad)
def Qdr (p1 : (List Int)) : AV := .dat 1 ((p1 : List Int).map Qac)
def z88_2 (x3 : (List GNode)) : AV := .dat 4 ((x3 : List GNode).map Qad)
def z88_3 (x5 : (List Int)) : AV := .dat 1 ((x5 : List Int).map Qac)
def Qd9 (x7 : ((List Bool) × Int × Int)) : AV := .dat 1 ((x7.1 : List Bool).map Qa6)
def Qxh (p0 : (List GNode)) : Slot := .own 1 ((List.replicate (p0.length : Int).toNat 0 : List Int).map Qac)
def Qoy (y10 : (List Int)) : Slot := .own 1 ((y10 : List Int).map Qac)
def Qup (x13 : (List GNode)) : AV := .dat 4 ((x13 : List GNode).map Qad)
def Qry (x15 : (List Int)) : AV := .dat 1 ((x15 : List Int).map Qac)
def Qmt (x17 : ((List Int) × Int × Int)) : AV := .dat 1 ((x17.1 : List Int).map Qac)
def Qlo (y29 : (List Int)) (y22 : Int) (x31 : Int) : Slot := .own 1 ((y29.set y22.toNat x31 : List Int).map Qac)
def Qqf (x39 : (List GNode)) : AV := .dat 4 ((x39 : List GNode).map Qad)
def Qln (x41 : ((List Int) × Int × Int)) : AV := .dat 1 ((x41.1 : List Int).map Qac)
def z88_9 (p0 : (List GNode)) : Slot := .own 1 (((List.replicate (p0.length : Int).toNat 0) : List Int).map Qac)
def Qhw (y50 : (List Int)) : Slot := .own 1 ((y50 : List Int).map Qac)
def Qlm (y109 : (List Int)) : Slot := .own 1 ((y109 : List Int).map Qac)
set_option maxRecDepth 100000 in
set_option maxHeartbeats 4000000 in
theorem Qjs (N : Nat) (p0 : (List GNode)) (p1 : (List Int)) (p2 : Int) (r : Bool) (h : Qev N p0 p1 p2 = some r) : Spec Try.prog 6 [(.dat 4 (p0.map Qad)), (.dat 1 (p1.map Qac)), (I p2)] [] (B r) [] := by
  refine Qaj Try.func6 rfl 0 (nle rfl) (fun X φ0 w0 hφ0 => ?_)
  unfold Qev at h
  refine wx tbk [] trivial ?_
  obtain ⟨k1, hk_k1, h⟩ := jko h
  refine wjn (τ := Unit) (fun t => k1 t = some r) (fun _ => ⟨mk 221 [(0, (Qcg p0)), (1, (Qdr p1)), (2, I p2)], []⟩) (fun t h => ?_) ?_
  ·subst hk_k1
   obtain ⟨x3, hf2, h⟩ := bno h
   obtain ⟨x5, hf4, h⟩ := bno h
   obtain ⟨x7, hf6, h⟩ := bno h
   refine wx tbk [(1, rp [fu 23, (.tmp 42, (Qcg p0))] (z88_2 x3)), (3, rp [fu 24, (.tmp 44, (Qdr p1))] (z88_3 x5)), (5, rp [fu 22, (.tmp 43, (z88_2 x3)), (.tmp 45, (z88_3 x5)), (.tmp 46, I p2)] (.tup [(Qd9 x7), I x7.2.1, I x7.2.2]))] ⟨apc (first := []) (cap := []) (vs := [(Qcg p0)]) rfl Qre (Qhp N p0 _ hf2) rfl rfl (nlc (nld Qab _) nl0) (nld Qab _) rfl, apc (first := []) (cap := []) (vs := [(Qdr p1)]) rfl Qwr (Qms N p1 _ hf4) rfl rfl (nlc (nld Qaa _) nl0) (nld Qaa _) rfl, apc (first := []) (cap := []) (vs := [(z88_2 x3), (z88_3 x5), I p2]) rfl Qws (Qjc N x3 x5 p2 _ hf6) rfl rfl (nlc (nld Qab _) (nlc (nld Qaa _) (nlc nll nl0))) (NLt.tup _ (nlc (nld Qcx _) (nlc nll (nlc nll nl0)))) rfl, trivial⟩ ?_
   obtain ⟨k8, hk_k8, h⟩ := jko h
   refine wjn (τ := Unit) (fun t => k8 t = some r) (fun _ => ⟨mk 221 [(0, (Qcg p0)), (1, (Qdr p1)), (2, I p2), (7, (Qd9 x7)), (8, I x7.2.1)], []⟩) (fun t h => ?_) ?_
   ·subst hk_k8
    obtain ⟨hm9, h⟩ := cko h
    refine wx tbk [(1, rp [(.tmp 60, (Qcg p0))] (I ((p0.length : Int)))), (2, ⟨[(.tmp 61, (I ((p0.length : Int)))), (.tmp 61, (I ((p0.length : Int))))], [(0, .unused)], (.own 0 1 (0) ((p0.length : Int).toNat)), [(0, (Qxh p0))], false⟩)] ⟨alm (c := Qad) (l := p0) (aln rfl Try.underlying22 rfl), Qf7 rfl Try.underlying23 te3 tz3 rfl (Qrw hm9) rfl (Qrv hm9) (Qmo hm9) (Qjn Qac rfl), trivial⟩ ?_
    obtain ⟨k11, hk_k11, h⟩ := jko h
    refine wjn (τ := (List Int)) (fun t => k11 t = some r) (fun y10 => ⟨mk 221 [(0, (Qcg p0)), (1, (Qdr p1)), (2, I p2), (7, (Qd9 x7)), (8, I x7.2.1), (10, (.own 0 1 (0) ((p0.length : Int).toNat)))], [(Qoy y10)]⟩) (fun y10 h => ?_) ?_
    ·subst hk_k11
     obtain ⟨x13, hf12, h⟩ := bno h
     obtain ⟨x15, hf14, h⟩ := bno h
     obtain ⟨x17, hf16, h⟩ := bno h
     refine wx tbk [(1, rp [fu 23, (.tmp 81, (Qcg p0))] (Qup x13)), (3, ⟨[fu 24, (.tmp 83, (.own 0 1 (0) ((p0.length : Int).toNat)))], [(0, (Qoy y10))], (Qry x15), [(0, (Qoy y10))], false⟩), (4, rp [fu 36, (.tmp 82, (Qup x13)), (.tmp 84, (Qry x15))] (.tup [(Qmt x17), I x17.2.1, I x17.2.2]))] ⟨apc (first := []) (cap := []) (vs := [(Qcg p0)]) rfl Qre (Qhp N p0 _ hf12) rfl rfl (nlc (nld Qab _) nl0) (nld Qab _) rfl, Qao (first := []) (cap := []) (vs := [(.own 0 1 (0) (((p0.length : Int).toNat)))]) (σr := [(Qoy y10)]) (σr' := [(Qoy y10)]) (res' := (Qry x15)) [0] rfl Qwr (Qlg N ((p0.length : Int).toNat) y10 _ hf14) rfl (Qcq (rnc (Qdk rfl) rn0)) (slc (Qbf Qaa) Qan) (slc (Qbf Qaa) Qan) (.plain _ (nld Qaa _)) rfl rfl rfl, apc (first := []) (cap := []) (vs := [(Qup x13), (Qry x15)]) rfl Qrc (Qjd N x13 x15 _ hf16) rfl rfl (nlc (nld Qab _) (nlc (nld Qaa _) nl0)) (NLt.tup _ (nlc (nld Qaa _) (nlc nll (nlc nll nl0)))) rfl, trivial⟩ ?_
     obtain ⟨k18, hk_k18, h⟩ := jko h
     refine wjn (τ := Unit) (fun t => k18 t = some r) (fun _ => ⟨mk 221 [(0, (Qcg p0)), (1, (Qdr p1)), (2, I p2), (7, (Qd9 x7))], []⟩) (fun t h => ?_) ?_
     ·subst hk_k18
      obtain ⟨k19, hk_k19, h⟩ := jko h
      refine wjn (τ := Unit) (fun t => k19 t = some r) (fun _ => ⟨mk 221 [], []⟩) (fun t h => ?_) ?_
      ·subst hk_k19
       obtain ⟨x21, hf20, h⟩ := bno h
       refine wx tbk [(0, rp [fu 21] (B x21))] ⟨apc (first := []) (cap := []) (vs := []) rfl Qmb (Qfa 2000  _ hf20) rfl rfl nl0 nll rfl, trivial⟩ ?_
       refine Qaf ?_
       obtain rfl := osi h
       exact fend ⟨[B x21], ⟨rot (by kernel_rfl), trivial⟩, rfl⟩ nll
      ·skip
       refine wx tbk [] trivial ?_
       refine Qag ?_
       refine wmr (mto (n := 221) (l' := [(0, (Qcg p0)), (1, (Qdr p1)), (2, I p2), (7, (Qd9 x7)), (14, I 0)]) (own' := []) [(0, (Qcg p0)), (1, (Qdr p1)), (2, I p2), (7, (Qd9 x7)), (14, I 0)] [] [] hφ0 (pc (.rn (.plain _ (nld Qab _))) (pc (.rn (.plain _ (nld Qaa _))) (pc rwl (pc (.rn (.plain _ (nld Qcx _))) (pc rwl pn))))) qn) ?_
       refine Qcc (τ := Int) (fun n t => Qcs N p0 p1 p2 x7 k19 n t = some r) (fun y22 => ⟨mk 221 [(0, (Qcg p0)), (1, (Qdr p1)), (2, I p2), (7, (Qd9 x7)), (14, I y22)], []⟩) (fun t h => by rw [Qcs] at h; cases h) (fun n24 ih y22 h => ?_) N (0) h
       rw [Qcs] at h
       skip
       refine wsq ?_
       refine wx tbk [(2, rp [(.tmp 111, (Qcg p0))] (I ((p0.length : Int))))] ⟨alm (c := Qad) (l := p0) (aln rfl Try.underlying22 rfl), trivial⟩ ?_
       rcases bft ((decide (y22 < (p0.length : Int)))) with hc25 | hc25
       ·replace h := Qat hc25 h
        refine wft hc25 (by kernel_rfl) ?_
        refine Qah ?_
        refine thn ?_
        obtain ⟨k26, hk_k26, h⟩ := jko h
        refine wjn (τ := Unit) (fun t => k26 t = some r) (fun _ => ⟨mk 221 [(0, (Qcg p0)), (1, (Qdr p1)), (2, I p2), (7, (Qd9 x7)), (14, I y22)], []⟩) (fun t h => ?_) ?_
        ·subst hk_k26
         refine wx1 tbk [] trivial ?_
         refine thn ?_
         exact arm (mto (n := 221) [(0, (Qcg p0)), (1, (Qdr p1)), (2, I p2), (7, (Qd9 x7)), (14, (I (w64 (y22 + 1))))] [] [] hφ0 (pc (.rn (.plain _ (nld Qab _))) (pc (.rn (.plain _ (nld Qaa _))) (pc rwl (pc (.rn (.plain _ (nld Qcx _))) (pc rwl pn))))) qn) (ih (w64 (y22 + 1)) h)
        ·skip
         refine Qag ?_
         obtain ⟨k27, hk_k27, h⟩ := jko h
         refine wjn (τ := Unit) (fun t => k27 t = some r) (fun _ => ⟨mk 221 [(0, (Qcg p0)), (1, (Qdr p1)), (2, I p2), (7, (Qd9 x7)), (14, I y22)], []⟩) (fun t h => ?_) ?_
         ·subst hk_k27
          obtain ⟨hm28, h⟩ := cko h
          refine wx tbk [(1, rp [(.tmp 138, (Qcg p0))] (I ((p0.length : Int)))), (2, ⟨[(.tmp 139, (I ((p0.length : Int)))), (.tmp 139, (I ((p0.length : Int))))], [(0, .unused)], (.own 0 1 (0) ((p0.length : Int).toNat)), [(0, (Qxh p0))], false⟩)] ⟨alm (c := Qad) (l := p0) (aln rfl Try.underlying22 rfl), Qf7 rfl Try.underlying23 te3 tz3 rfl (Qrw hm28) rfl (Qrv hm28) (Qmo hm28) (Qjn Qac rfl), trivial⟩ ?_
          obtain ⟨k30, hk_k30, h⟩ := jko h
          refine wjn (τ := (List Int)) (fun t => k30 t = some r) (fun y29 => ⟨mk 221 [(0, (Qcg p0)), (1, (Qdr p1)), (2, I p2), (7, (Qd9 x7)), (14, I y22), (15, (.own 0 1 (0) ((p0.length : Int).toNat)))], [(.own 1 ((y29 : List Int).map Qac))]⟩) (fun y29 h => ?_) ?_
          ·subst hk_k30
           obtain ⟨x31, hg32, h⟩ := bno h
           obtain ⟨hi33, hj34⟩ := gsm hg32
           obtain ⟨hi35, h⟩ := cko h
           obtain ⟨hi35a, hi35b⟩ := Qa3 hi35
           obtain ⟨x36, hg37, h⟩ := bno h
           refine wx tbk [(4, rp [(.tmp 191, (Qdr p1)), (.tmp 192, I y22)] (.dptr (Qac (x31)) 0)), (6, rb [(.tmp 189, (.own 0 1 (0) ((p0.length : Int).toNat))), (.tmp 190, I y22)] [(0, (.own 1 ((y29 : List Int).map Qac)))] (.ref 0 1 (y22.toNat) 0)), (7, ⟨[(.tmp 195, (.ref 0 1 (y22.toNat) 0)), (.tmp 194, I x31)], [(0, (.own 1 ((y29 : List Int).map Qac)))], .any, [(0, (Qlo y29 y22 x31))], false⟩)] ⟨aid rfl Try.underlying23 ti3 rfl rfl hi33 (mgt Qac hj34) rfl, aio rfl Try.underlying23 ti3 (odt hi35a) (odt hi35b) (Nat.zero_add _), ast rfl ti3 (by rfl) (mgt Qac hg37) (nle rfl) (Qd1 Qac rfl), trivial⟩ ?_
           obtain ⟨x39, hf38, h⟩ := bno h
           obtain ⟨x41, hf40, h⟩ := bno h
           refine wx tbk [(1, rp [fu 23, (.tmp 197, (Qcg p0))] (Qqf x39)), (3, ⟨[fu 36, (.tmp 198, (Qqf x39)), (.tmp 199, (.own 0 1 (0) ((p0.length : Int).toNat)))], [(0, (Qlo y29 y22 x31))], (.tup [(Qln x41), I x41.2.1, I x41.2.2]), [(0, (Qlo y29 y22 x31))], false⟩)] ⟨apc (first := []) (cap := []) (vs := [(Qcg p0)]) rfl Qre (Qhp N p0 _ hf38) rfl rfl (nlc (nld Qab _) nl0) (nld Qab _) rfl, Qao (first := []) (cap := []) (vs := [(Qqf x39), (.own 0 1 (0) (((p0.length : Int).toNat)))]) (σr := [(Qlo y29 y22 x31)]) (σr' := [(Qlo y29 y22 x31)]) (res' := (.tup [(Qln x41), I x41.2.1, I x41.2.2])) [0] rfl Qrc (Qlf N x39 ((p0.length : Int).toNat) (y29.set y22.toNat x31) _ hf40) rfl (Qcq (rnc (.plain _ (nld Qab _)) (rnc (Qdk rfl) rn0))) (slc (Qbf Qaa) Qan) (slc (Qbf Qaa) Qan) (.plain _ (NLt.tup _ (nlc (nld Qaa _) (nlc nll (nlc nll nl0))))) rfl rfl rfl, trivial⟩ ?_
           rcases bft ((x41.2.2 == 0)) with hb42 | hb42
           ·replace h := Qat hb42 h
            rcases bft (((x41.1.length : Int) != (p0.length : Int))) with hb43 | hb43
            ·replace h := Qat hb43 h
             refine wx tbk [(2, rp [(.tmp 205, (B ((x41.2.2 == 0))))] (B true)), (4, rp [(.tmp 206, B true), (.tmp 207, (Qln x41))] (I ((x41.1.length : Int)))), (6, rp [(.tmp 206, B true), (.tmp 209, (Qcg p0))] (I ((p0.length : Int)))), (8, rp [(.tmp 206, B true), (.tmp 211, (B (((x41.1.length : Int) != (p0.length : Int)))))] (B true))] ⟨asb hb42 (amv rfl), ag_ (alm (c := Qac) (l := x41.1) (aln rfl Try.underlying23 rfl)), ag_ (alm (c := Qad) (l := p0) (aln rfl Try.underlying22 rfl)), asb hb43 (ag_ (amv rfl)), trivial⟩ ?_
             refine Qbw (by kernel_rfl) ?_
             refine wx tbk [] trivial ?_
             refine Qaf ?_
             refine Qax ?_
             refine Qai ?_
             refine Qai ?_
             refine Qax ?_
             refine Qai ?_
             obtain rfl := osi h
             exact fend ⟨[B false], ⟨rot (by kernel_rfl), trivial⟩, rfl⟩ nll
            ·replace h := Qau hb43 h
             obtain ⟨x44, hg45, h⟩ := bno h
             obtain ⟨hi46, hj47⟩ := gsm hg45
             refine wx tbk [(2, rp [(.tmp 205, (B ((x41.2.2 == 0))))] (B true)), (4, rp [(.tmp 206, B true), (.tmp 207, (Qln x41))] (I ((x41.1.length : Int)))), (6, rp [(.tmp 206, B true), (.tmp 209, (Qcg p0))] (I ((p0.length : Int)))), (8, rp [(.tmp 206, B true), (.tmp 211, (B (((x41.1.length : Int) != (p0.length : Int)))))] (B false)), (10, rp [(.tmp 212, B false), (.tmp 213, (Qln x41)), ci 0] (.dptr (Qac (x44)) 0))] ⟨asb hb42 (amv rfl), ag_ (alm (c := Qac) (l := x41.1) (aln rfl Try.underlying23 rfl)), ag_ (alm (c := Qad) (l := p0) (aln rfl Try.underlying22 rfl)), asb hb43 (ag_ (amv rfl)), ag_ (aid rfl Try.underlying23 ti3 rfl rfl hi46 (mgt Qac hj47) rfl), trivial⟩ ?_
             rcases bft ((decide (x44 ≤ p2))) with hc48 | hc48
             ·replace h := Qat hc48 h
              refine wft hc48 (by kernel_rfl) ?_
              refine wx tbk [] trivial ?_
              refine Qaf ?_
              refine Qax ?_
              refine Qai ?_
              refine Qai ?_
              refine Qax ?_
              refine Qai ?_
              obtain rfl := osi h
              exact fend ⟨[B false], ⟨rot (by kernel_rfl), trivial⟩, rfl⟩ nll
             ·replace h := Qau hc48 h
              refine wfn hc48 (by kernel_rfl) ?_
              refine Qah ?_
              refine bln ?_
              refine thn ?_
              exact ⟨(), h, (mto (n := 221) [(0, (Qcg p0)), (1, (Qdr p1)), (2, I p2), (7, (Qd9 x7)), (14, I y22)] [] [] hφ0 (pc (.rn (.plain _ (nld Qab _))) (pc (.rn (.plain _ (nld Qaa _))) (pc rwl (pc (.rn (.plain _ (nld Qcx _))) (pc rwl pn))))) qn)⟩
           ·replace h := Qau hb42 h
            refine wx tbk [(2, rp [(.tmp 205, (B ((x41.2.2 == 0))))] (B false))] ⟨asb hb42 (amv rfl), trivial⟩ ?_
            refine Qd5 (by kernel_rfl) ?_
            refine Qah ?_
            refine bln ?_
            refine thn ?_
            exact ⟨(), h, (mto (n := 221) [(0, (Qcg p0)), (1, (Qdr p1)), (2, I p2), (7, (Qd9 x7)), (14, I y22)] [] [] hφ0 (pc (.rn (.plain _ (nld Qab _))) (pc (.rn (.plain _ (nld Qaa _))) (pc rwl (pc (.rn (.plain _ (nld Qcx _))) (pc rwl pn))))) qn)⟩
          ·skip
           refine wx tbk [] trivial ?_
           refine Qag ?_
           refine wmr (mto (n := 221) (l' := [(0, (Qcg p0)), (1, (Qdr p1)), (2, I p2), (7, (Qd9 x7)), (14, I y22), (15, (.own 0 1 (0) ((p0.length : Int).toNat))), (16, I 0)]) (own' := [(z88_9 p0)]) [(0, (Qcg p0)), (1, (Qdr p1)), (2, I p2), (7, (Qd9 x7)), (14, I y22), (15, (.own 0 1 (0) ((p0.length : Int).toNat))), (16, I 0)] [0] [(Qxh p0)] hφ0 (pc (.rn (.plain _ (nld Qab _))) (pc (.rn (.plain _ (nld Qaa _))) (pc rwl (pc (.rn (.plain _ (nld Qcx _))) (pc rwl (pc (.rn (Qae rfl)) (pc rwl pn))))))) (qc (spr Qaa) qn)) ?_
           refine Qcc (τ := Int × (List Int)) (fun n t => Qa4 N p0 p1 x7 y22 k30 n t.1 t.2 = some r) (fun ⟨y49, y50⟩ => ⟨mk 221 [(0, (Qcg p0)), (1, (Qdr p1)), (2, I p2), (7, (Qd9 x7)), (14, I y22), (15, (.own 0 1 (0) ((p0.length : Int).toNat))), (16, I y49)], [(Qhw y50)]⟩) (fun t h => by rw [Qa4] at h; cases h) (fun n53 ih t h => ?_) N (0, List.replicate (p0.length : Int).toNat 0) h
           obtain ⟨y49, y50⟩ := t
           rw [Qa4] at h
           skip
           refine wsq ?_
           refine wx tbk [(2, rp [(.tmp 142, (Qcg p0))] (I ((p0.length : Int))))] ⟨alm (c := Qad) (l := p0) (aln rfl Try.underlying22 rfl), trivial⟩ ?_
           rcases bft ((decide (y49 < (p0.length : Int)))) with hc54 | hc54
           ·replace h := Qat hc54 h
            refine wft hc54 (by kernel_rfl) ?_
            refine Qah ?_
            refine thn ?_
            refine wsq ?_
            refine Qag ?_
            obtain ⟨x55, hg56, h⟩ := bno h
            obtain ⟨hi57, hj58⟩ := gsm hg56
            rcases bft (x55) with hb59 | hb59
            ·replace h := Qat hb59 h
             obtain ⟨x60, hg61, h⟩ := bno h
             obtain ⟨hi62, hj63⟩ := gsm hg61
             obtain ⟨x64, hg65, h⟩ := bno h
             obtain ⟨hi66, hj67⟩ := gsm hg65
             rcases bft ((decide (x60.Rank < x64.Rank))) with hb68 | hb68
             ·replace h := Qat hb68 h
              refine wxd tbk [(2, rp [(.tmp 147, (Qd9 x7)), (.tmp 148, I y49)] (.dptr (Qa6 (x55)) 0)), (4, rp [(.tmp 150, B x55)] (B true)), (7, rp [(.tmp 151, B true), (.tmp 152, (Qcg p0)), (.tmp 153, I y49)] (.dptr (Qad (x60)) 0)), (12, rp [(.tmp 151, B true), (.tmp 157, (Qcg p0)), (.tmp 158, I y22)] (.dptr (Qad (x64)) 0)), (16, rp [(.tmp 151, B true), (.tmp 162, (B ((decide (x60.Rank < x64.Rank)))))] (B true))] ⟨aid rfl Try.underlying26 ti4 rfl rfl hi57 (mgt Qa6 hj58) rfl, asb hb59 (amv rfl), ag_ (aid rfl Try.underlying22 ti56 rfl rfl hi62 (mgt Qad hj63) rfl), ag_ (aid rfl Try.underlying22 ti56 rfl rfl hi66 (mgt Qad hj67) rfl), asb hb68 (ag_ (amv rfl)), trivial⟩ ?_
              refine Qbw (by kernel_rfl) ?_
              obtain ⟨x69, hg70, h⟩ := bno h
              obtain ⟨hi71, hj72⟩ := gsm hg70
              obtain ⟨hi73, h⟩ := cko h
              obtain ⟨hi73a, hi73b⟩ := Qa3 hi73
              obtain ⟨x74, hg75, h⟩ := bno h
              refine wx1 tbk [(4, rp [(.tmp 184, (Qdr p1)), (.tmp 185, I y49)] (.dptr (Qac (x69)) 0)), (6, rb [(.tmp 182, (.own 0 1 (0) ((p0.length : Int).toNat))), (.tmp 183, I y49)] [(0, (Qhw y50))] (.ref 0 1 (y49.toNat) 0)), (7, ⟨[(.tmp 188, (.ref 0 1 (y49.toNat) 0)), (.tmp 187, I x69)], [(0, (Qhw y50))], .any, [(0, (.own 1 ((y50.set y49.toNat x69 : List Int).map Qac)))], false⟩)] ⟨aid rfl Try.underlying23 ti3 rfl rfl hi71 (mgt Qac hj72) rfl, aio rfl Try.underlying23 ti3 (odt hi73a) (odt hi73b) (Nat.zero_add _), ast rfl ti3 (by rfl) (mgt Qac hg75) (nle rfl) (Qd1 Qac rfl), trivial⟩ ?_
              refine bln ?_
              refine thn ?_
              refine wx1 tbk [] trivial ?_
              refine thn ?_
              exact arm (mto (n := 221) [(0, (Qcg p0)), (1, (Qdr p1)), (2, I p2), (7, (Qd9 x7)), (14, I y22), (15, (.own 0 1 (0) ((p0.length : Int).toNat))), (16, (I (w64 (y49 + 1))))] [0] [(.own 1 ((y50.set y49.toNat x69 : List Int).map Qac))] hφ0 (pc (.rn (.plain _ (nld Qab _))) (pc (.rn (.plain _ (nld Qaa _))) (pc rwl (pc (.rn (.plain _ (nld Qcx _))) (pc rwl (pc (.rn (Qae rfl)) (pc rwl pn))))))) (qc (spr Qaa) qn)) (ih (w64 (y49 + 1), y50.set y49.toNat x69) h)
             ·replace h := Qau hb68 h
              rcases bft ((x60.Rank == x64.Rank)) with hb76 | hb76
              ·replace h := Qat hb76 h
               refine wxd tbk [(2, rp [(.tmp 147, (Qd9 x7)), (.tmp 148, I y49)] (.dptr (Qa6 (x55)) 0)), (4, rp [(.tmp 150, B x55)] (B true)), (7, rp [(.tmp 151, B true), (.tmp 152, (Qcg p0)), (.tmp 153, I y49)] (.dptr (Qad (x60)) 0)), (12, rp [(.tmp 151, B true), (.tmp 157, (Qcg p0)), (.tmp 158, I y22)] (.dptr (Qad (x64)) 0)), (16, rp [(.tmp 151, B true), (.tmp 162, (B ((decide (x60.Rank < x64.Rank)))))] (B false)), (19, rp [(.tmp 163, B false), (.tmp 164, (Qcg p0)), (.tmp 165, I y49)] (.dptr (Qad (x60)) 0)), (24, rp [(.tmp 163, B false), (.tmp 169, (Qcg p0)), (.tmp 170, I y22)] (.dptr (Qad (x64)) 0)), (28, rp [(.tmp 163, B false), (.tmp 174, (B ((x60.Rank == x64.Rank))))] (B true))] ⟨aid rfl Try.underlying26 ti4 rfl rfl hi57 (mgt Qa6 hj58) rfl, asb hb59 (amv rfl), ag_ (aid rfl Try.underlying22 ti56 rfl rfl hi62 (mgt Qad hj63) rfl), ag_ (aid rfl Try.underlying22 ti56 rfl rfl hi66 (mgt Qad hj67) rfl), asb hb68 (ag_ (amv rfl)), ag_ (aid rfl Try.underlying22 ti56 rfl rfl hi62 (mgt Qad hj63) rfl), ag_ (aid rfl Try.underlying22 ti56 rfl rfl hi66 (mgt Qad hj67) rfl), asb hb76 (ag_ (amv rfl)), trivial⟩ ?_
               rcases bft ((decide (y49 < y22))) with hc77 | hc77
               ·replace h := Qat hc77 h
                refine wft hc77 (by kernel_rfl) ?_
                obtain ⟨x78, hg79, h⟩ := bno h
                obtain ⟨hi80, hj81⟩ := gsm hg79
                obtain ⟨hi82, h⟩ := cko h
                obtain ⟨hi82a, hi82b⟩ := Qa3 hi82
                obtain ⟨x83, hg84, h⟩ := bno h
                refine wx1 tbk [(4, rp [(.tmp 184, (Qdr p1)), (.tmp 185, I y49)] (.dptr (Qac (x78)) 0)), (6, rb [(.tmp 182, (.own 0 1 (0) ((p0.length : Int).toNat))), (.tmp 183, I y49)] [(0, (Qhw y50))] (.ref 0 1 (y49.toNat) 0)), (7, ⟨[(.tmp 188, (.ref 0 1 (y49.toNat) 0)), (.tmp 187, I x78)], [(0, (Qhw y50))], .any, [(0, (.own 1 ((y50.set y49.toNat x78 : List Int).map Qac)))], false⟩)] ⟨aid rfl Try.underlying23 ti3 rfl rfl hi80 (mgt Qac hj81) rfl, aio rfl Try.underlying23 ti3 (odt hi82a) (odt hi82b) (Nat.zero_add _), ast rfl ti3 (by rfl) (mgt Qac hg84) (nle rfl) (Qd1 Qac rfl), trivial⟩ ?_
                refine bln ?_
                refine thn ?_
                refine wx1 tbk [] trivial ?_
                refine thn ?_
                exact arm (mto (n := 221) [(0, (Qcg p0)), (1, (Qdr p1)), (2, I p2), (7, (Qd9 x7)), (14, I y22), (15, (.own 0 1 (0) ((p0.length : Int).toNat))), (16, (I (w64 (y49 + 1))))] [0] [(.own 1 ((y50.set y49.toNat x78 : List Int).map Qac))] hφ0 (pc (.rn (.plain _ (nld Qab _))) (pc (.rn (.plain _ (nld Qaa _))) (pc rwl (pc (.rn (.plain _ (nld Qcx _))) (pc rwl (pc (.rn (Qae rfl)) (pc rwl pn))))))) (qc (spr Qaa) qn)) (ih (w64 (y49 + 1), y50.set y49.toNat x78) h)
               ·replace h := Qau hc77 h
                refine wfn hc77 (by kernel_rfl) ?_
                refine Qah ?_
                refine bln ?_
                refine thn ?_
                refine wx1 tbk [] trivial ?_
                refine thn ?_
                exact arm (mto (n := 221) [(0, (Qcg p0)), (1, (Qdr p1)), (2, I p2), (7, (Qd9 x7)), (14, I y22), (15, (.own 0 1 (0) ((p0.length : Int).toNat))), (16, (I (w64 (y49 + 1))))] [0] [(Qhw y50)] hφ0 (pc (.rn (.plain _ (nld Qab _))) (pc (.rn (.plain _ (nld Qaa _))) (pc rwl (pc (.rn (.plain _ (nld Qcx _))) (pc rwl (pc (.rn (Qae rfl)) (pc rwl pn))))))) (qc (spr Qaa) qn)) (ih (w64 (y49 + 1), y50) h)
              ·replace h := Qau hb76 h
               refine wxd tbk [(2, rp [(.tmp 147, (Qd9 x7)), (.tmp 148, I y49)] (.dptr (Qa6 (x55)) 0)), (4, rp [(.tmp 150, B x55)] (B true)), (7, rp [(.tmp 151, B true), (.tmp 152, (Qcg p0)), (.tmp 153, I y49)] (.dptr (Qad (x60)) 0)), (12, rp [(.tmp 151, B true), (.tmp 157, (Qcg p0)), (.tmp 158, I y22)] (.dptr (Qad (x64)) 0)), (16, rp [(.tmp 151, B true), (.tmp 162, (B ((decide (x60.Rank < x64.Rank)))))] (B false)), (19, rp [(.tmp 163, B false), (.tmp 164, (Qcg p0)), (.tmp 165, I y49)] (.dptr (Qad (x60)) 0)), (24, rp [(.tmp 163, B false), (.tmp 169, (Qcg p0)), (.tmp 170, I y22)] (.dptr (Qad (x64)) 0)), (28, rp [(.tmp 163, B false), (.tmp 174, (B ((x60.Rank == x64.Rank))))] (B false))] ⟨aid rfl Try.underlying26 ti4 rfl rfl hi57 (mgt Qa6 hj58) rfl, asb hb59 (amv rfl), ag_ (aid rfl Try.underlying22 ti56 rfl rfl hi62 (mgt Qad hj63) rfl), ag_ (aid rfl Try.underlying22 ti56 rfl rfl hi66 (mgt Qad hj67) rfl), asb hb68 (ag_ (amv rfl)), ag_ (aid rfl Try.underlying22 ti56 rfl rfl hi62 (mgt Qad hj63) rfl), ag_ (aid rfl Try.underlying22 ti56 rfl rfl hi66 (mgt Qad hj67) rfl), asb hb76 (ag_ (amv rfl)), trivial⟩ ?_
               refine Qd5 (by kernel_rfl) ?_
               refine Qah ?_
               refine bln ?_
               refine thn ?_
               refine wx1 tbk [] trivial ?_
               refine thn ?_
               exact arm (mto (n := 221) [(0, (Qcg p0)), (1, (Qdr p1)), (2, I p2), (7, (Qd9 x7)), (14, I y22), (15, (.own 0 1 (0) ((p0.length : Int).toNat))), (16, (I (w64 (y49 + 1))))] [0] [(Qhw y50)] hφ0 (pc (.rn (.plain _ (nld Qab _))) (pc (.rn (.plain _ (nld Qaa _))) (pc rwl (pc (.rn (.plain _ (nld Qcx _))) (pc rwl (pc (.rn (Qae rfl)) (pc rwl pn))))))) (qc (spr Qaa) qn)) (ih (w64 (y49 + 1), y50) h)
            ·replace h := Qau hb59 h
             refine wxd tbk [(2, rp [(.tmp 147, (Qd9 x7)), (.tmp 148, I y49)] (.dptr (Qa6 (x55)) 0)), (4, rp [(.tmp 150, B x55)] (B false))] ⟨aid rfl Try.underlying26 ti4 rfl rfl hi57 (mgt Qa6 hj58) rfl, asb hb59 (amv rfl), trivial⟩ ?_
             refine Qd5 (by kernel_rfl) ?_
             refine Qah ?_
             refine bln ?_
             refine thn ?_
             refine wx1 tbk [] trivial ?_
             refine thn ?_
             exact arm (mto (n := 221) [(0, (Qcg p0)), (1, (Qdr p1)), (2, I p2), (7, (Qd9 x7)), (14, I y22), (15, (.own 0 1 (0) ((p0.length : Int).toNat))), (16, (I (w64 (y49 + 1))))] [0] [(Qhw y50)] hφ0 (pc (.rn (.plain _ (nld Qab _))) (pc (.rn (.plain _ (nld Qaa _))) (pc rwl (pc (.rn (.plain _ (nld Qcx _))) (pc rwl (pc (.rn (Qae rfl)) (pc rwl pn))))))) (qc (spr Qaa) qn)) (ih (w64 (y49 + 1), y50) h)
           ·replace h := Qau hc54 h
            refine wfn hc54 (by kernel_rfl) ?_
            refine Qbe ?_
            refine Qap ?_
            refine Qap ?_
            refine Qbd rfl ?_
            refine thn ?_
            exact ⟨(y50), h, (mto (n := 221) [(0, (Qcg p0)), (1, (Qdr p1)), (2, I p2), (7, (Qd9 x7)), (14, I y22), (15, (.own 0 1 (0) ((p0.length : Int).toNat)))] [0] [(Qhw y50)] hφ0 (pc (.rn (.plain _ (nld Qab _))) (pc (.rn (.plain _ (nld Qaa _))) (pc rwl (pc (.rn (.plain _ (nld Qcx _))) (pc rwl (pc (.rn (Qae rfl)) pn)))))) (qc (spr Qaa) qn))⟩
         ·skip
          obtain ⟨x85, hg86, h⟩ := bno h
          obtain ⟨hi87, hj88⟩ := gsm hg86
          rcases bft (x85) with hb89 | hb89
          ·replace h := Qat hb89 h
           refine wx tbk [(2, rp [(.tmp 116, (Qd9 x7)), (.tmp 117, I y22)] (.dptr (Qa6 (x85)) 0)), (4, rp [(.tmp 119, B x85)] (B true))] ⟨aid rfl Try.underlying26 ti4 rfl rfl hi87 (mgt Qa6 hj88) rfl, asb hb89 (amv rfl), trivial⟩ ?_
           refine Qbw (by kernel_rfl) ?_
           refine wsq ?_
           obtain ⟨x90, hg91, h⟩ := bno h
           obtain ⟨hi92, hj93⟩ := gsm hg91
           refine wx tbk [(2, rp [(.tmp 127, (Qd9 x7)), (.tmp 128, I y22)] (.dptr (Qa6 (x85)) 0)), (4, rp [(.tmp 130, B x85)] (B true)), (7, rp [(.tmp 131, B true), (.tmp 132, (Qdr p1)), (.tmp 133, I y22)] (.dptr (Qac (x90)) 0))] ⟨aid rfl Try.underlying26 ti4 rfl rfl hi87 (mgt Qa6 hj88) rfl, asb hb89 (amv rfl), ag_ (aid rfl Try.underlying23 ti3 rfl rfl hi92 (mgt Qac hj93) rfl), trivial⟩ ?_
           rcases bft ((x90 == 0)) with hc94 | hc94
           ·replace h := Qat hc94 h
            refine wft hc94 (by kernel_rfl) ?_
            refine wx tbk [] trivial ?_
            refine Qaf ?_
            refine Qai ?_
            refine Qai ?_
            refine Qax ?_
            refine Qai ?_
            refine Qai ?_
            refine Qax ?_
            refine Qai ?_
            obtain rfl := osi h
            exact fend ⟨[B false], ⟨rot (by kernel_rfl), trivial⟩, rfl⟩ nll
           ·replace h := Qau hc94 h
            refine wfn hc94 (by kernel_rfl) ?_
            refine Qah ?_
            refine thn ?_
            refine Qbe ?_
            refine Qap ?_
            refine Qbd rfl ?_
            refine thn ?_
            exact ⟨(), h, (mto (n := 221) [(0, (Qcg p0)), (1, (Qdr p1)), (2, I p2), (7, (Qd9 x7)), (14, I y22)] [] [] hφ0 (pc (.rn (.plain _ (nld Qab _))) (pc (.rn (.plain _ (nld Qaa _))) (pc rwl (pc (.rn (.plain _ (nld Qcx _))) (pc rwl pn))))) qn)⟩
          ·replace h := Qau hb89 h
           obtain ⟨x95, hg96, h⟩ := bno h
           obtain ⟨hi97, hj98⟩ := gsm hg96
           refine wx tbk [(2, rp [(.tmp 116, (Qd9 x7)), (.tmp 117, I y22)] (.dptr (Qa6 (x85)) 0)), (4, rp [(.tmp 119, B x85)] (B false)), (7, rp [(.tmp 120, B false), (.tmp 121, (Qdr p1)), (.tmp 122, I y22)] (.dptr (Qac (x95)) 0))] ⟨aid rfl Try.underlying26 ti4 rfl rfl hi87 (mgt Qa6 hj88) rfl, asb hb89 (amv rfl), ag_ (aid rfl Try.underlying23 ti3 rfl rfl hi97 (mgt Qac hj98) rfl), trivial⟩ ?_
           rcases bft ((x95 == 0)) with hc99 | hc99
           ·replace h := Qat hc99 h
            refine wft hc99 (by kernel_rfl) ?_
            refine wsq ?_
            refine wx tbk [(2, rp [(.tmp 127, (Qd9 x7)), (.tmp 128, I y22)] (.dptr (Qa6 (x85)) 0)), (4, rp [(.tmp 130, B x85)] (B false))] ⟨aid rfl Try.underlying26 ti4 rfl rfl hi87 (mgt Qa6 hj88) rfl, asb hb89 (amv rfl), trivial⟩ ?_
            refine Qd5 (by kernel_rfl) ?_
            refine Qah ?_
            refine thn ?_
            refine Qbe ?_
            refine Qap ?_
            refine Qbd rfl ?_
            refine thn ?_
            exact ⟨(), h, (mto (n := 221) [(0, (Qcg p0)), (1, (Qdr p1)), (2, I p2), (7, (Qd9 x7)), (14, I y22)] [] [] hφ0 (pc (.rn (.plain _ (nld Qab _))) (pc (.rn (.plain _ (nld Qaa _))) (pc rwl (pc (.rn (.plain _ (nld Qcx _))) (pc rwl pn))))) qn)⟩
           ·replace h := Qau hc99 h
            refine wfn hc99 (by kernel_rfl) ?_
            refine Qah ?_
            refine thn ?_
            exact ⟨(), h, (mto (n := 221) [(0, (Qcg p0)), (1, (Qdr p1)), (2, I p2), (7, (Qd9 x7)), (14, I y22)] [] [] hφ0 (pc (.rn (.plain _ (nld Qab _))) (pc (.rn (.plain _ (nld Qaa _))) (pc rwl (pc (.rn (.plain _ (nld Qcx _))) (pc rwl pn))))) qn)⟩
       ·replace h := Qau hc25 h
        refine wfn hc25 (by kernel_rfl) ?_
        refine Qbe ?_
        refine Qap ?_
        refine Qap ?_
        refine Qbd rfl ?_
        refine thn ?_
        exact ⟨(), h, (mto (n := 221) [] [] [] hφ0 pn qn)⟩
     ·skip
      rcases bft ((x17.2.2 != 0)) with hb100 | hb100
      ·replace h := Qat hb100 h
       refine wx tbk [(2, rp [(.tmp 90, (B ((x17.2.2 != 0))))] (B true))] ⟨asb hb100 (amv rfl), trivial⟩ ?_
       refine Qbw (by kernel_rfl) ?_
       refine wx tbk [] trivial ?_
       refine Qaf ?_
       refine Qai ?_
       obtain rfl := osi h
       exact fend ⟨[B false], ⟨rot (by kernel_rfl), trivial⟩, rfl⟩ nll
      ·replace h := Qau hb100 h
       rcases bft (((x17.1.length : Int) != (p0.length : Int))) with hb101 | hb101
       ·replace h := Qat hb101 h
        refine wx tbk [(2, rp [(.tmp 90, (B ((x17.2.2 != 0))))] (B false)), (4, rp [(.tmp 91, B false), (.tmp 92, (Qmt x17))] (I ((x17.1.length : Int)))), (6, rp [(.tmp 91, B false), (.tmp 94, (Qcg p0))] (I ((p0.length : Int)))), (9, rp [(.tmp 97, (B (((x17.1.length : Int) != (p0.length : Int)))))] (B true))] ⟨asb hb100 (amv rfl), ag_ (alm (c := Qac) (l := x17.1) (aln rfl Try.underlying23 rfl)), ag_ (alm (c := Qad) (l := p0) (aln rfl Try.underlying22 rfl)), asb hb101 (amv rfl), trivial⟩ ?_
        refine Qbw (by kernel_rfl) ?_
        refine wx tbk [] trivial ?_
        refine Qaf ?_
        refine Qai ?_
        obtain rfl := osi h
        exact fend ⟨[B false], ⟨rot (by kernel_rfl), trivial⟩, rfl⟩ nll
       ·replace h := Qau hb101 h
        obtain ⟨x102, hg103, h⟩ := bno h
        obtain ⟨hi104, hj105⟩ := gsm hg103
        rcases bft ((x102 != x7.2.1)) with hb106 | hb106
        ·replace h := Qat hb106 h
         refine wx tbk [(2, rp [(.tmp 90, (B ((x17.2.2 != 0))))] (B false)), (4, rp [(.tmp 91, B false), (.tmp 92, (Qmt x17))] (I ((x17.1.length : Int)))), (6, rp [(.tmp 91, B false), (.tmp 94, (Qcg p0))] (I ((p0.length : Int)))), (9, rp [(.tmp 97, (B (((x17.1.length : Int) != (p0.length : Int)))))] (B false)), (11, rp [(.tmp 98, B false), (.tmp 99, (Qmt x17)), ci 0] (.dptr (Qac (x102)) 0)), (16, rp [(.tmp 104, (B ((x102 != x7.2.1))))] (B true))] ⟨asb hb100 (amv rfl), ag_ (alm (c := Qac) (l := x17.1) (aln rfl Try.underlying23 rfl)), ag_ (alm (c := Qad) (l := p0) (aln rfl Try.underlying22 rfl)), asb hb101 (amv rfl), ag_ (aid rfl Try.underlying23 ti3 rfl rfl hi104 (mgt Qac hj105) rfl), asb hb106 (amv rfl), trivial⟩ ?_
         refine Qbw (by kernel_rfl) ?_
         refine wx tbk [] trivial ?_
         refine Qaf ?_
         refine Qai ?_
         obtain rfl := osi h
         exact fend ⟨[B false], ⟨rot (by kernel_rfl), trivial⟩, rfl⟩ nll
        ·replace h := Qau hb106 h
         refine wx tbk [(2, rp [(.tmp 90, (B ((x17.2.2 != 0))))] (B false)), (4, rp [(.tmp 91, B false), (.tmp 92, (Qmt x17))] (I ((x17.1.length : Int)))), (6, rp [(.tmp 91, B false), (.tmp 94, (Qcg p0))] (I ((p0.length : Int)))), (9, rp [(.tmp 97, (B (((x17.1.length : Int) != (p0.length : Int)))))] (B false)), (11, rp [(.tmp 98, B false), (.tmp 99, (Qmt x17)), ci 0] (.dptr (Qac (x102)) 0)), (16, rp [(.tmp 104, (B ((x102 != x7.2.1))))] (B false))] ⟨asb hb100 (amv rfl), ag_ (alm (c := Qac) (l := x17.1) (aln rfl Try.underlying23 rfl)), ag_ (alm (c := Qad) (l := p0) (aln rfl Try.underlying22 rfl)), asb hb101 (amv rfl), ag_ (aid rfl Try.underlying23 ti3 rfl rfl hi104 (mgt Qac hj105) rfl), asb hb106 (amv rfl), trivial⟩ ?_
         rcases bft ((decide (x7.2.1 > p2))) with hc107 | hc107
         ·replace h := Qat hc107 h
          refine wft hc107 (by kernel_rfl) ?_
          refine wx tbk [] trivial ?_
          refine Qaf ?_
          refine Qai ?_
          obtain rfl := osi h
          exact fend ⟨[B false], ⟨rot (by kernel_rfl), trivial⟩, rfl⟩ nll
         ·replace h := Qau hc107 h
          refine wfn hc107 (by kernel_rfl) ?_
          refine Qah ?_
          refine thn ?_
          exact ⟨(), h, (mto (n := 221) [(0, (Qcg p0)), (1, (Qdr p1)), (2, I p2), (7, (Qd9 x7))] [] [] hφ0 (pc (.rn (.plain _ (nld Qab _))) (pc (.rn (.plain _ (nld Qaa _))) (pc rwl (pc (.rn (.plain _ (nld Qcx _))) pn)))) qn)⟩
    ·skip
     refine wx tbk [] trivial ?_
     refine Qag ?_
     refine wmr (mto (n := 221) (l' := [(0, (Qcg p0)), (1, (Qdr p1)), (2, I p2), (7, (Qd9 x7)), (8, I x7.2.1), (10, (.own 0 1 (0) ((p0.length : Int).toNat))), (11, I 0)]) (own' := [(z88_9 p0)]) [(0, (Qcg p0)), (1, (Qdr p1)), (2, I p2), (7, (Qd9 x7)), (8, I x7.2.1), (10, (.own 0 1 (0) ((p0.length : Int).toNat))), (11, I 0)] [0] [(Qxh p0)] hφ0 (pc (.rn (.plain _ (nld Qab _))) (pc (.rn (.plain _ (nld Qaa _))) (pc rwl (pc (.rn (.plain _ (nld Qcx _))) (pc rwl (pc (.rn (Qae rfl)) (pc rwl pn))))))) (qc (spr Qaa) qn)) ?_
     refine Qcc (τ := Int × (List Int)) (fun n t => Qb5 N p0 p1 x7 k11 n t.1 t.2 = some r) (fun ⟨y108, y109⟩ => ⟨mk 221 [(0, (Qcg p0)), (1, (Qdr p1)), (2, I p2), (7, (Qd9 x7)), (8, I x7.2.1), (10, (.own 0 1 (0) ((p0.length : Int).toNat))), (11, I y108)], [(Qlm y109)]⟩) (fun t h => by rw [Qb5] at h; cases h) (fun n112 ih t h => ?_) N (0, List.replicate (p0.length : Int).toNat 0) h
     obtain ⟨y108, y109⟩ := t
     rw [Qb5] at h
     skip
     refine wsq ?_
     refine wx tbk [(2, rp [(.tmp 64, (Qcg p0))] (I ((p0.length : Int))))] ⟨alm (c := Qad) (l := p0) (aln rfl Try.underlying22 rfl), trivial⟩ ?_
     rcases bft ((decide (y108 < (p0.length : Int)))) with hc113 | hc113
     ·replace h := Qat hc113 h
      refine wft hc113 (by kernel_rfl) ?_
      refine Qah ?_
      refine thn ?_
      refine wsq ?_
      refine Qag ?_
      obtain ⟨x114, hg115, h⟩ := bno h
      obtain ⟨hi116, hj117⟩ := gsm hg115
      refine wx tbk [(2, rp [(.tmp 69, (Qd9 x7)), (.tmp 70, I y108)] (.dptr (Qa6 (x114)) 0))] ⟨aid rfl Try.underlying26 ti4 rfl rfl hi116 (mgt Qa6 hj117) rfl, trivial⟩ ?_
      rcases bft (x114) with hc118 | hc118
      ·replace h := Qat hc118 h
       refine wft hc118 (by kernel_rfl) ?_
       obtain ⟨x119, hg120, h⟩ := bno h
       obtain ⟨hi121, hj122⟩ := gsm hg120
       obtain ⟨hi123, h⟩ := cko h
       obtain ⟨hi123a, hi123b⟩ := Qa3 hi123
       obtain ⟨x124, hg125, h⟩ := bno h
       refine wx1 tbk [(4, rp [(.tmp 75, (Qdr p1)), (.tmp 76, I y108)] (.dptr (Qac (x119)) 0)), (6, rb [(.tmp 73, (.own 0 1 (0) ((p0.length : Int).toNat))), (.tmp 74, I y108)] [(0, (Qlm y109))] (.ref 0 1 (y108.toNat) 0)), (7, ⟨[(.tmp 79, (.ref 0 1 (y108.toNat) 0)), (.tmp 78, I x119)], [(0, (Qlm y109))], .any, [(0, (.own 1 ((y109.set y108.toNat x119 : List Int).map Qac)))], false⟩)] ⟨aid rfl Try.underlying23 ti3 rfl rfl hi121 (mgt Qac hj122) rfl, aio rfl Try.underlying23 ti3 (odt hi123a) (odt hi123b) (Nat.zero_add _), ast rfl ti3 (by rfl) (mgt Qac hg125) (nle rfl) (Qd1 Qac rfl), trivial⟩ ?_
       refine bln ?_
       refine thn ?_
       refine wx1 tbk [] trivial ?_
       refine thn ?_
       exact arm (mto (n := 221) [(0, (Qcg p0)), (1, (Qdr p1)), (2, I p2), (7, (Qd9 x7)), (8, I x7.2.1), (10, (.own 0 1 (0) ((p0.length : Int).toNat))), (11, (I (w64 (y108 + 1))))] [0] [(.own 1 ((y109.set y108.toNat x119 : List Int).map Qac))] hφ0 (pc (.rn (.plain _ (nld Qab _))) (pc (.rn (.plain _ (nld Qaa _))) (pc rwl (pc (.rn (.plain _ (nld Qcx _))) (pc rwl (pc (.rn (Qae rfl)) (pc rwl pn))))))) (qc (spr Qaa) qn)) (ih (w64 (y108 + 1), y109.set y108.toNat x119) h)
      ·replace h := Qau hc118 h
       refine wfn hc118 (by kernel_rfl) ?_
       refine Qah ?_
       refine bln ?_
       refine thn ?_
       refine wx1 tbk [] trivial ?_
       refine thn ?_
       exact arm (mto (n := 221) [(0, (Qcg p0)), (1, (Qdr p1)), (2, I p2), (7, (Qd9 x7)), (8, I x7.2.1), (10, (.own 0 1 (0) ((p0.length : Int).toNat))), (11, (I (w64 (y108 + 1))))] [0] [(Qlm y109)] hφ0 (pc (.rn (.plain _ (nld Qab _))) (pc (.rn (.plain _ (nld Qaa _))) (pc rwl (pc (.rn (.plain _ (nld Qcx _))) (pc rwl (pc (.rn (Qae rfl)) (pc rwl pn))))))) (qc (spr Qaa) qn)) (ih (w64 (y108 + 1), y109) h)
     ·replace h := Qau hc113 h
      refine wfn hc113 (by kernel_rfl) ?_
      refine Qbe ?_
      refine Qap ?_
      refine Qap ?_
      refine Qbd rfl ?_
      refine thn ?_
      exact ⟨(y109), h, (mto (n := 221) [(0, (Qcg p0)), (1, (Qdr p1)), (2, I p2), (7, (Qd9 x7)), (8, I x7.2.1), (10, (.own 0 1 (0) ((p0.length : Int).toNat)))] [0] [(Qlm y109)] hφ0 (pc (.rn (.plain _ (nld Qab _))) (pc (.rn (.plain _ (nld Qaa _))) (pc rwl (pc (.rn (.plain _ (nld Qcx _))) (pc rwl (pc (.rn (Qae rfl)) pn)))))) (qc (spr Qaa) qn))⟩
   ·skip
    rcases bft ((x7.2.2 != 0)) with hb126 | hb126
    ·replace h := Qat hb126 h
     refine wx tbk [(2, rp [(.tmp 52, (B ((x7.2.2 != 0))))] (B true))] ⟨asb hb126 (amv rfl), trivial⟩ ?_
     refine Qbw (by kernel_rfl) ?_
     refine wx tbk [] trivial ?_
     refine Qaf ?_
     refine Qai ?_
     obtain rfl := osi h
     exact fend ⟨[B false], ⟨rot (by kernel_rfl), trivial⟩, rfl⟩ nll
    ·replace h := Qau hb126 h
     refine wx tbk [(2, rp [(.tmp 52, (B ((x7.2.2 != 0))))] (B false)), (4, rp [(.tmp 53, B false), (.tmp 54, (Qd9 x7))] (I ((x7.1.length : Int)))), (6, rp [(.tmp 53, B false), (.tmp 56, (Qcg p0))] (I ((p0.length : Int))))] ⟨asb hb126 (amv rfl), ag_ (alm (c := Qa6) (l := x7.1) (aln rfl Try.underlying26 rfl)), ag_ (alm (c := Qad) (l := p0) (aln rfl Try.underlying22 rfl)), trivial⟩ ?_
     rcases bft (((x7.1.length : Int) != (p0.length : Int))) with hc127 | hc127
     ·replace h := Qat hc127 h
      refine wft hc127 (by kernel_rfl) ?_
      refine wx tbk [] trivial ?_
      refine Qaf ?_
      refine Qai ?_
      obtain rfl := osi h
      exact fend ⟨[B false], ⟨rot (by kernel_rfl), trivial⟩, rfl⟩ nll
     ·replace h := Qau hc127 h
      refine wfn hc127 (by kernel_rfl) ?_
      refine Qah ?_
      refine thn ?_
      exact ⟨(), h, (mto (n := 221) [(0, (Qcg p0)), (1, (Qdr p1)), (2, I p2), (7, (Qd9 x7)), (8, I x7.2.1)] [] [] hφ0 (pc (.rn (.plain _ (nld Qab _))) (pc (.rn (.plain _ (nld Qaa _))) (pc rwl (pc (.rn (.plain _ (nld Qcx _))) (pc rwl pn))))) qn)⟩
  ·skip
   obtain ⟨x129, hf128, h⟩ := bno h
   rcases bft ((!x129)) with hb130 | hb130
   ·replace h := Qat hb130 h
    refine wx tbk [(2, rp [fu 20, (.tmp 20, (Qcg p0)), (.tmp 21, (Qdr p1))] (B x129)), (4, rp [(.tmp 23, (B ((!x129))))] (B true))] ⟨apc (first := []) (cap := []) (vs := [(Qcg p0), (Qdr p1)]) rfl Qoi (Qgx N p0 p1 _ hf128) rfl rfl (nlc (nld Qab _) (nlc (nld Qaa _) nl0)) nll rfl, asb hb130 (amv rfl), trivial⟩ ?_
    refine Qbw (by kernel_rfl) ?_
    obtain ⟨x132, hf131, h⟩ := bno h
    refine wx tbk [(0, rp [fu 21] (B x132))] ⟨apc (first := []) (cap := []) (vs := []) rfl Qmb (Qfa 2000  _ hf131) rfl rfl nl0 nll rfl, trivial⟩ ?_
    refine Qaf ?_
    refine Qai ?_
    obtain rfl := osi h
    exact fend ⟨[B x132], ⟨rot (by kernel_rfl), trivial⟩, rfl⟩ nll
   ·replace h := Qau hb130 h
    obtain ⟨x134, hf133, h⟩ := bno h
    rcases bft ((!x134)) with hb135 | hb135
    ·replace h := Qat hb135 h
     refine wx tbk [(2, rp [fu 20, (.tmp 20, (Qcg p0)), (.tmp 21, (Qdr p1))] (B x129)), (4, rp [(.tmp 23, (B ((!x129))))] (B false)), (6, rp [(.tmp 24, B false), fu 25, (.tmp 25, (Qcg p0))] (B x134)), (9, rp [(.tmp 28, (B ((!x134))))] (B true))] ⟨apc (first := []) (cap := []) (vs := [(Qcg p0), (Qdr p1)]) rfl Qoi (Qgx N p0 p1 _ hf128) rfl rfl (nlc (nld Qab _) (nlc (nld Qaa _) nl0)) nll rfl, asb hb130 (amv rfl), ag_ (apc (first := []) (cap := []) (vs := [(Qcg p0)]) rfl Qrd (Qhb N p0 _ hf133) rfl rfl (nlc (nld Qab _) nl0) nll rfl), asb hb135 (amv rfl), trivial⟩ ?_
     refine Qbw (by kernel_rfl) ?_
     obtain ⟨x137, hf136, h⟩ := bno h
     refine wx tbk [(0, rp [fu 21] (B x137))] ⟨apc (first := []) (cap := []) (vs := []) rfl Qmb (Qfa 2000  _ hf136) rfl rfl nl0 nll rfl, trivial⟩ ?_
     refine Qaf ?_
     refine Qai ?_
     obtain rfl := osi h
     exact fend ⟨[B x137], ⟨rot (by kernel_rfl), trivial⟩, rfl⟩ nll
    ·replace h := Qau hb135 h
     obtain ⟨x139, hf138, h⟩ := bno h
     rcases bft ((!x139)) with hb140 | hb140
     ·replace h := Qat hb140 h
      refine wx tbk [(2, rp [fu 20, (.tmp 20, (Qcg p0)), (.tmp 21, (Qdr p1))] (B x129)), (4, rp [(.tmp 23, (B ((!x129))))] (B false)), (6, rp [(.tmp 24, B false), fu 25, (.tmp 25, (Qcg p0))] (B x134)), (9, rp [(.tmp 28, (B ((!x134))))] (B false)), (12, rp [(.tmp 29, B false), fu 26, (.tmp 30, (Qcg p0)), (.tmp 31, (Qdr p1))] (B x139)), (15, rp [(.tmp 34, (B ((!x139))))] (B true))] ⟨apc (first := []) (cap := []) (vs := [(Qcg p0), (Qdr p1)]) rfl Qoi (Qgx N p0 p1 _ hf128) rfl rfl (nlc (nld Qab _) (nlc (nld Qaa _) nl0)) nll rfl, asb hb130 (amv rfl), ag_ (apc (first := []) (cap := []) (vs := [(Qcg p0)]) rfl Qrd (Qhb N p0 _ hf133) rfl rfl (nlc (nld Qab _) nl0) nll rfl), asb hb135 (amv rfl), ag_ (apc (first := []) (cap := []) (vs := [(Qcg p0), (Qdr p1)]) rfl Qwq (Qje N p0 p1 _ hf138) rfl rfl (nlc (nld Qab _) (nlc (nld Qaa _) nl0)) nll rfl), asb hb140 (amv rfl), trivial⟩ ?_
      refine Qbw (by kernel_rfl) ?_
      obtain ⟨x142, hf141, h⟩ := bno h
      refine wx tbk [(0, rp [fu 21] (B x142))] ⟨apc (first := []) (cap := []) (vs := []) rfl Qmb (Qfa 2000  _ hf141) rfl rfl nl0 nll rfl, trivial⟩ ?_
      refine Qaf ?_
      refine Qai ?_
      obtain rfl := osi h
      exact fend ⟨[B x142], ⟨rot (by kernel_rfl), trivial⟩, rfl⟩ nll
     ·replace h := Qau hb140 h
      obtain ⟨x144, hf143, h⟩ := bno h
      refine wx tbk [(2, rp [fu 20, (.tmp 20, (Qcg p0)), (.tmp 21, (Qdr p1))] (B x129)), (4, rp [(.tmp 23, (B ((!x129))))] (B false)), (6, rp [(.tmp 24, B false), fu 25, (.tmp 25, (Qcg p0))] (B x134)), (9, rp [(.tmp 28, (B ((!x134))))] (B false)), (12, rp [(.tmp 29, B false), fu 26, (.tmp 30, (Qcg p0)), (.tmp 31, (Qdr p1))] (B x139)), (15, rp [(.tmp 34, (B ((!x139))))] (B false)), (17, rp [(.tmp 35, B false), fu 27, (.tmp 36, I p2), ci 0, ci 100000000000] (B x144))] ⟨apc (first := []) (cap := []) (vs := [(Qcg p0), (Qdr p1)]) rfl Qoi (Qgx N p0 p1 _ hf128) rfl rfl (nlc (nld Qab _) (nlc (nld Qaa _) nl0)) nll rfl, asb hb130 (amv rfl), ag_ (apc (first := []) (cap := []) (vs := [(Qcg p0)]) rfl Qrd (Qhb N p0 _ hf133) rfl rfl (nlc (nld Qab _) nl0) nll rfl), asb hb135 (amv rfl), ag_ (apc (first := []) (cap := []) (vs := [(Qcg p0), (Qdr p1)]) rfl Qwq (Qje N p0 p1 _ hf138) rfl rfl (nlc (nld Qab _) (nlc (nld Qaa _) nl0)) nll rfl), asb hb140 (amv rfl), ag_ (apc (first := []) (cap := []) (vs := [I p2, I 0, I 100000000000]) rfl Qe0 (Qb4 N p2 0 100000000000 _ hf143) rfl rfl (nlc nll (nlc nll (nlc nll nl0))) nll rfl), trivial⟩ ?_
      rcases bft ((!x144)) with hc145 | hc145
      ·replace h := Qat hc145 h
       refine wft hc145 (by kernel_rfl) ?_
       obtain ⟨x147, hf146, h⟩ := bno h
       refine wx tbk [(0, rp [fu 21] (B x147))] ⟨apc (first := []) (cap := []) (vs := []) rfl Qmb (Qfa 2000  _ hf146) rfl rfl nl0 nll rfl, trivial⟩ ?_
       refine Qaf ?_
       refine Qai ?_
       obtain rfl := osi h
       exact fend ⟨[B x147], ⟨rot (by kernel_rfl), trivial⟩, rfl⟩ nll
      ·replace h := Qau hc145 h
       refine wfn hc145 (by kernel_rfl) ?_
       refine Qah ?_
       refine thn ?_
       exact ⟨(), h, (mto (n := 221) [(0, (Qcg p0)), (1, (Qdr p1)), (2, I p2)] [] [] hφ0 (pc (.rn (.plain _ (nld Qab _))) (pc (.rn (.plain _ (nld Qaa _))) (pc rwl pn))) qn)⟩
end Go.Proofs.Ytgdepcgbjjgnfaa
