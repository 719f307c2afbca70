/-
  Functions of the program: what they compute, as plain functions, and that they do. No conditions.
-/
import Derived.Test.YtlhakkkjgdbdpaaX9
namespace Go.Proofs.Ytlhakkkjgdbdpaa
open Go.RowKit
def Qiy (N : Nat) (p0 : GUnit) (p1 : GStream) : Option (GStream × Int × Int) :=
  Qdu (fun _ =>
    (Qfa N p0 p1.Mass).bind fun x3 =>
    bif (decide (p1.Heat < x3)) then
     some ((⟨0, 0, 0, 0⟩ : GStream), 0, 9)
    else
     some ((⟨p1.Mass, w64 (p1.Heat - x3), p1.Silica, p1.Gas⟩ : GStream), x3, 0)) fun k1 : Unit → Option (GStream × Int × Int) =>
  (Qd9 N p0).bind fun x6 =>
  bif (!x6) then
   some ((⟨0, 0, 0, 0⟩ : GStream), 0, 1)
  else
   (Qgu N ([p1])).bind fun x9 =>
   bif (!x9) then
    some ((⟨0, 0, 0, 0⟩ : GStream), 0, 1)
   else
    (Qd6 N p0).bind fun x12 =>
    bif (decide (p1.Mass > x12)) then
     some ((⟨0, 0, 0, 0⟩ : GStream), 0, 2)
    else
     k1 ()
def z90_0 (p0 : GUnit) : AV := .dat 2 ((p0.Parts : List GPart).map Qby)
def z90_3 (p1 : GStream) : Slot := .own 4 [[(I (p1.Mass)), (I (p1.Heat)), (I (p1.Silica)), (I (p1.Gas))]]
def z90_5 : Slot := .own 4 [[(I (0)), (I (0)), (I (0)), (I (0))]]
def Qrk (p0 : GUnit) : AV := .agg [(I (p0.Inlet)), (z90_0 p0)]
def Qrj : AV := .agg [(I (0)), (I (0)), (I (0)), (I (0))]
def z90_4 (p1 : GStream) : AV := .agg [(I (p1.Mass)), (I (p1.Heat)), (I (p1.Silica)), (I (p1.Gas))]
def z90_7 (p1 : GStream) : AV := .dat 4 (([p1] : List GStream).map Qa9)
set_option maxRecDepth 100000 in
set_option maxHeartbeats 4000000 in
theorem Qkl (N : Nat) (p0 : GUnit) (p1 : GStream) (r : (GStream × Int × Int)) (h : Qiy N p0 p1 = some r) : Spec Try.prog 57 [(.agg (Qbo p0)), (.agg (Qa9 p1))] [] (.tup [(.agg (Qa9 r.1)), (I r.2.1), (I r.2.2)]) [] := by
  refine Qac Try.func57 rfl 0 (nle rfl) (fun X φ0 w0 hφ0 => ?_)
  unfold Qiy at h
  refine wx tbk [] trivial ?_
  obtain ⟨k1, hk_k1, h⟩ := jko h
  refine wjn (τ := Unit) (fun t => k1 t = some r) (fun _ => ⟨mk 41 [(2, .ref 0 2 0 0), (3, .ref 1 4 0 0), (4, .ref 2 4 0 0)], [(.own 2 [[I p0.Inlet, (z90_0 p0)]]), (z90_3 p1), z90_5]⟩) (fun t h => ?_) ?_
  ·subst hk_k1
   obtain ⟨x3, hf2, h⟩ := bno h
   refine wx tbk [(3, rp [fu 67, (.tmp 25, (Qrk p0)), (.tmp 27, I p1.Mass)] (I x3))] ⟨apc (first := []) (cap := []) (vs := [(Qrk p0), I p1.Mass]) rfl Qt1 (Qgd N p0 p1.Mass _ hf2) rfl rfl (nlc (NLt.agg _ (nlc nll (nlc (nld Qbc _) nl0))) (nlc nll nl0)) nll rfl, trivial⟩ ?_
   refine wsq ?_
   refine wx tbk [] trivial ?_
   rcases bft ((decide (p1.Heat < x3))) with hc4 | hc4
   ·replace h := Qav hc4 h
    refine wft hc4 (by kernel_rfl) ?_
    refine wx tbk [(0, rp [] Qrj)] ⟨Qaj (vs := []) rfl ts60 tz60 rfl (by rfl) rfl, trivial⟩ ?_
    refine Qab ?_
    refine Qau ?_
    obtain rfl := osi h
    exact fend ⟨[Qrj, I 0, I 9], ⟨Qbv (n := 2) (m := 4) (j := 0) (i := 0) (xs := [[I 0, I 0, I 0, I 0]]) (by kernel_rfl) (by kernel_rfl) ti60 (by decide) rfl (nle rfl) rfl, rot (by kernel_rfl), rot (by kernel_rfl), trivial⟩, rfl⟩ (NLt.tup _ (nlc (NLt.agg _ (nlc nll (nlc nll (nlc nll (nlc nll nl0))))) (nlc nll (nlc nll nl0))))
   ·replace h := Qaw hc4 h
    refine wfn hc4 (by kernel_rfl) ?_
    refine Qao ?_
    refine thn ?_
    refine wx tbk [] trivial ?_
    refine wx tbk [] trivial ?_
    refine Qab ?_
    obtain rfl := osi h
    exact fend ⟨[(.agg [I p1.Mass, (I (w64 (p1.Heat - x3))), I p1.Silica, I p1.Gas]), I x3, I 0], ⟨Qbv (n := 2) (m := 4) (j := 0) (i := 0) (xs := [[I p1.Mass, (I (w64 (p1.Heat - x3))), I p1.Silica, I p1.Gas]]) (by kernel_rfl) (by kernel_rfl) ti60 (by decide) rfl (nle rfl) rfl, rot (by kernel_rfl), rot (by kernel_rfl), trivial⟩, rfl⟩ (NLt.tup _ (nlc (NLt.agg _ (nlc nll (nlc nll (nlc nll (nlc nll nl0))))) (nlc nll (nlc nll nl0))))
  ·skip
   refine Qak ?_
   obtain ⟨x6, hf5, h⟩ := bno h
   rcases bft ((!x6)) with hb7 | hb7
   ·replace h := Qav hb7 h
    refine wx tbk [(1, rp [fu 64, (.tmp 8, (Qrk p0))] (B x6)), (3, rp [(.tmp 10, (B ((!x6))))] (B true))] ⟨apc (first := []) (cap := []) (vs := [(Qrk p0)]) rfl Qnm (Qdr N p0 _ hf5) rfl rfl (nlc (NLt.agg _ (nlc nll (nlc (nld Qbc _) nl0))) nl0) nll rfl, asb hb7 (amv rfl), trivial⟩ ?_
    refine Qcy (by kernel_rfl) ?_
    refine wx tbk [(0, rp [] Qrj)] ⟨Qaj (vs := []) rfl ts60 tz60 rfl (by rfl) rfl, trivial⟩ ?_
    refine Qab ?_
    refine Qb2 ?_
    refine Qau ?_
    obtain rfl := osi h
    exact fend ⟨[Qrj, I 0, I 1], ⟨Qbv (n := 2) (m := 4) (j := 0) (i := 0) (xs := [[I 0, I 0, I 0, I 0]]) (by kernel_rfl) (by kernel_rfl) ti60 (by decide) rfl (nle rfl) rfl, rot (by kernel_rfl), rot (by kernel_rfl), trivial⟩, rfl⟩ (NLt.tup _ (nlc (NLt.agg _ (nlc nll (nlc nll (nlc nll (nlc nll nl0))))) (nlc nll (nlc nll nl0))))
   ·replace h := Qaw hb7 h
    obtain ⟨x9, hf8, h⟩ := bno h
    refine wx tbk [(1, rp [fu 64, (.tmp 8, (Qrk p0))] (B x6)), (3, rp [(.tmp 10, (B ((!x6))))] (B false)), (5, rp [(.tmp 11, B false), (.tmp 12, (z90_4 p1))] (z90_7 p1)), (6, rp [(.tmp 11, B false), fu 74, (.tmp 13, (z90_7 p1))] (B x9))] ⟨apc (first := []) (cap := []) (vs := [(Qrk p0)]) rfl Qnm (Qdr N p0 _ hf5) rfl rfl (nlc (NLt.agg _ (nlc nll (nlc (nld Qbc _) nl0))) nl0) nll rfl, asb hb7 (amv rfl), ag_ (Qbk (vs := [(z90_4 p1)]) rfl Try.underlying143 ti60 tz60 rfl (by decide) rfl (by decide) (by rfl) (by rfl) (by rfl) rfl), ag_ (apc (first := []) (cap := []) (vs := [(z90_7 p1)]) rfl Qqx (Qg7 N ([p1]) _ hf8) rfl rfl (nlc (nld Qc2 _) nl0) nll rfl), trivial⟩ ?_
    rcases bft ((!x9)) with hc10 | hc10
    ·replace h := Qav hc10 h
     refine wft hc10 (by kernel_rfl) ?_
     refine wx tbk [(0, rp [] Qrj)] ⟨Qaj (vs := []) rfl ts60 tz60 rfl (by rfl) rfl, trivial⟩ ?_
     refine Qab ?_
     refine Qb2 ?_
     refine Qau ?_
     obtain rfl := osi h
     exact fend ⟨[Qrj, I 0, I 1], ⟨Qbv (n := 2) (m := 4) (j := 0) (i := 0) (xs := [[I 0, I 0, I 0, I 0]]) (by kernel_rfl) (by kernel_rfl) ti60 (by decide) rfl (nle rfl) rfl, rot (by kernel_rfl), rot (by kernel_rfl), trivial⟩, rfl⟩ (NLt.tup _ (nlc (NLt.agg _ (nlc nll (nlc nll (nlc nll (nlc nll nl0))))) (nlc nll (nlc nll nl0))))
    ·replace h := Qaw hc10 h
     refine wfn hc10 (by kernel_rfl) ?_
     obtain ⟨x12, hf11, h⟩ := bno h
     refine wxd tbk [(3, rp [fu 66, (.tmp 21, (Qrk p0))] (I x12))] ⟨apc (first := []) (cap := []) (vs := [(Qrk p0)]) rfl Qt2 (Qfp N p0 _ hf11) rfl rfl (nlc (NLt.agg _ (nlc nll (nlc (nld Qbc _) nl0))) nl0) nll rfl, trivial⟩ ?_
     rcases bft ((decide (p1.Mass > x12))) with hc13 | hc13
     ·replace h := Qav hc13 h
      refine wft hc13 (by kernel_rfl) ?_
      refine wx tbk [(0, rp [] Qrj)] ⟨Qaj (vs := []) rfl ts60 tz60 rfl (by rfl) rfl, trivial⟩ ?_
      refine Qab ?_
      refine Qb2 ?_
      refine Qau ?_
      obtain rfl := osi h
      exact fend ⟨[Qrj, I 0, I 2], ⟨Qbv (n := 2) (m := 4) (j := 0) (i := 0) (xs := [[I 0, I 0, I 0, I 0]]) (by kernel_rfl) (by kernel_rfl) ti60 (by decide) rfl (nle rfl) rfl, rot (by kernel_rfl), rot (by kernel_rfl), trivial⟩, rfl⟩ (NLt.tup _ (nlc (NLt.agg _ (nlc nll (nlc nll (nlc nll (nlc nll nl0))))) (nlc nll (nlc nll nl0))))
     ·replace h := Qaw hc13 h
      refine wfn hc13 (by kernel_rfl) ?_
      refine Qao ?_
      refine bln ?_
      refine thn ?_
      exact ⟨(), h, (mto (n := 41) [(2, .ref 0 2 0 0), (3, .ref 1 4 0 0), (4, .ref 2 4 0 0)] [0, 1, 2] [(.own 2 [[I p0.Inlet, (z90_0 p0)]]), (z90_3 p1), z90_5] hφ0 (pc (.rn (rqr rfl)) (pc (.rn (rqr rfl)) (pc (.rn (rqr rfl)) pn))) (qc (spb (lc rwl (lc (.rn (.plain _ (nld Qbc _))) ln))) (qc (spb (lc rwl (lc rwl (lc rwl (lc rwl ln))))) (qc (spb (lc rwl (lc rwl (lc rwl (lc rwl ln))))) qn))))⟩
def Qeb (N : Nat) (p0 : GStream) : Option Bool :=
  (Qfg N p0).bind fun x3 =>
  some (!x3)
def z97_1 (p0 : GStream) : AV := .agg [(I (p0.Mass)), (I (p0.Heat)), (I (p0.Silica)), (I (p0.Gas))]
def z97_2 : Slot := .own 1 [[(.fn (.func 120) [] [])]]
set_option maxRecDepth 100000 in
set_option maxHeartbeats 4000000 in
theorem Qh3 (N : Nat) (p0 : GStream) (r : Bool) (h : Qeb N p0 = some r) : Spec Try.prog 134 [(z97_1 p0), (.ref 0 1 (0) 0)] [z97_2] (B (r)) [z97_2] := by
  refine Qac Try.func134 rfl 1 (nle rfl) (fun X φ0 w0 hφ0 => ?_)
  unfold Qeb at h
  refine Qbj ?_
  refine wx tbk [] trivial ?_
  obtain ⟨x3, hf2, h⟩ := bno h
  refine wx tbk [(2, rp [(.tmp 4, (.fn (.func 120) [] [])), (.tmp 5, (z97_1 p0))] (B x3))] ⟨apc (first := []) (cap := []) (vs := [(z97_1 p0)]) rfl Qvk (Qhm N p0 _ hf2) rfl rfl (nlc (NLt.agg _ (nlc nll (nlc nll (nlc nll (nlc nll nl0))))) nl0) nll rfl, trivial⟩ ?_
  refine wmr (mto (n := 8) (l' := [(3, (B ((!x3))))]) (own' := [z97_2]) [(3, (B ((!x3))))] [0] [z97_2] hφ0 (pc rwl pn) (qc (spb (lc (.rn (Qaq rn0 rn0)) ln)) qn)) ?_
  refine Qab ?_
  obtain rfl := osi h
  exact ⟨_, Mor.rfl, Qbx (vs := [(B ((!x3)))]) ⟨rot (by kernel_rfl), trivial⟩ rfl (NLt.of0 nll) (by kernel_rfl) (Qag (Qas (nlc (NLt.of0 (NLt.fn _ _ _ nl0 nl0)) nl0)) Qa5)⟩
def Qa0 (N : Nat) (p0 : (List GStream)) (k2 : Unit → Option Int) : Nat → Int → Option Int
  | 0, _ => none
  | n5 + 1, y3 =>
    bif (decide (y3 < (p0.length : Int))) then
     (getI p0 y3).bind fun x7 =>
     (Qeb N x7).bind fun x12 =>
     bif x12 then
      some y3
     else
      Qa0 N p0 k2 n5 (w64 (y3 + 1))
    else
     k2 ()
def Qch (N : Nat) (p0 : (List GStream)) : Option Int :=
  Qdu (fun _ =>
    some (-1)) fun k2 : Unit → Option Int =>
  Qa0 N p0 k2 N 0
def Qsy (p0 : (List GStream)) : AV := .dat 4 ((p0 : List GStream).map Qa9)
def Qv0 : AV := .fn (.func 134) [] [(.ref 0 1 (0) 0)]
def Qlk : Slot := .own 1 [[(.fn (.func 120) [] [])]]
def z96_8 (x7 : GStream) : AV := .agg [(I (x7.Mass)), (I (x7.Heat)), (I (x7.Silica)), (I (x7.Gas))]
set_option maxRecDepth 100000 in
set_option maxHeartbeats 4000000 in
theorem Qes (N : Nat) (p0 : (List GStream)) (r : Int) (h : Qch N p0 = some r) : Spec Try.prog 130 [(Qsy p0), Qv0] [Qlk] (I (r)) [Qlk] := by
  refine Qac Try.func130 rfl 1 (nle rfl) (fun X φ0 w0 hφ0 => ?_)
  unfold Qch at h
  refine Qbj ?_
  refine wx tbk [] trivial ?_
  obtain ⟨k2, hk_k2, h⟩ := jko h
  refine wjn (τ := Unit) (fun t => k2 t = some r) (fun _ => ⟨mk 19 [], [Qlk]⟩) (fun t h => ?_) ?_
  ·subst hk_k2
   refine wx tbk [] trivial ?_
   refine wmr (mto (n := 19) (l' := [(4, (I ((-1))))]) (own' := [Qlk]) [(4, (I ((-1))))] [0] [Qlk] hφ0 (pc rwl pn) (qc (spb (lc (.rn (Qaq rn0 rn0)) ln)) qn)) ?_
   refine Qab ?_
   obtain rfl := osi h
   exact ⟨_, Mor.rfl, Qbx (vs := [(I ((-1)))]) ⟨rot (by kernel_rfl), trivial⟩ rfl (NLt.of0 nll) (by kernel_rfl) (Qag (Qas (nlc (NLt.of0 (NLt.fn _ _ _ nl0 nl0)) nl0)) Qa5)⟩
  ·skip
   refine wx tbk [(1, rp [(.tmp 6, (Qsy p0))] (I ((p0.length : Int))))] ⟨alm (c := Qa9) (l := p0) (aln rfl Try.underlying143 rfl), trivial⟩ ?_
   refine Qak ?_
   refine wmr (mto (n := 19) (l' := [(0, (Qsy p0)), (1, Qv0), (7, (I ((p0.length : Int)))), (8, I 0)]) (own' := [Qlk]) [(0, (Qsy p0)), (1, Qv0), (7, (I ((p0.length : Int)))), (8, I 0)] [0] [Qlk] hφ0 (pc (.rn (.plain _ (nld Qc2 _))) (pc (.rn (Qaq rn0 (rnc (rqr rfl) rn0))) (pc rwl (pc rwl pn)))) (qc (spb (lc (.rn (Qaq rn0 rn0)) ln)) qn)) ?_
   refine Qb1 (τ := Int) (fun n t => Qa0 N p0 k2 n t = some r) (fun y3 => ⟨mk 19 [(0, (Qsy p0)), (1, Qv0), (7, (I ((p0.length : Int)))), (8, I y3)], [Qlk]⟩) (fun t h => by rw [Qa0] at h; cases h) (fun n5 ih y3 h => ?_) N (0) h
   rw [Qa0] at h
   skip
   refine wx tbk [] trivial ?_
   refine wsq ?_
   rcases bft ((decide (y3 < (p0.length : Int)))) with hc6 | hc6
   ·replace h := Qav hc6 h
    refine wft hc6 (by kernel_rfl) ?_
    refine Qao ?_
    refine thn ?_
    refine wsq ?_
    refine Qak ?_
    refine wx tbk [] trivial ?_
    obtain ⟨x7, hg8, h⟩ := bno h
    obtain ⟨hi9, hj10⟩ := gsm hg8
    obtain ⟨x12, hf11, h⟩ := bno h
    refine wx tbk [(3, rp [(.tmp 12, (Qsy p0)), (.tmp 13, I y3)] (.dptr (Qa9 (x7)) 0)), (5, ⟨[(.tmp 11, Qv0), (.tmp 15, (z96_8 x7))], [(0, Qlk)], B x12, [(0, Qlk)], false⟩)] ⟨aid rfl Try.underlying143 ti60 rfl rfl hi9 (mgt Qa9 hj10) rfl, Qam (first := []) (cap := [.ref 0 1 0 0]) (vs := [(z96_8 x7)]) (σr := [Qlk]) (σr' := [Qlk]) (res' := (B x12)) [0] rfl enter134 (Qh3 N x7 _ hf11) rfl (Qbi (rnc (.plain _ (NLt.agg _ (nlc nll (nlc nll (nlc nll (nlc nll nl0)))))) (rnc (Qax rfl) rn0))) (slc (Qai (rnc (.plain _ (NLt.fn _ _ _ nl0 nl0)) rn0)) Qal) (slc (Qai (rnc (.plain _ (NLt.fn _ _ _ nl0 nl0)) rn0)) Qal) (.plain _ nll) rfl rfl rfl, trivial⟩ ?_
    rcases bft (x12) with hc13 | hc13
    ·replace h := Qav hc13 h
     refine wft hc13 (by kernel_rfl) ?_
     refine wx tbk [] trivial ?_
     refine wmr (mto (n := 19) (l' := [(4, I y3)]) (own' := [Qlk]) [(4, I y3)] [0] [Qlk] hφ0 (pc rwl pn) (qc (spb (lc (.rn (Qaq rn0 rn0)) ln)) qn)) ?_
     refine Qab ?_
     refine Qb2 ?_
     refine Qau ?_
     refine Qau ?_
     refine Qb2 ?_
     refine Qau ?_
     obtain rfl := osi h
     exact ⟨_, Mor.rfl, Qbx (vs := [I y3]) ⟨rot (by kernel_rfl), trivial⟩ rfl (NLt.of0 nll) (by kernel_rfl) (Qag (Qas (nlc (NLt.of0 (NLt.fn _ _ _ nl0 nl0)) nl0)) Qa5)⟩
    ·replace h := Qaw hc13 h
     refine wfn hc13 (by kernel_rfl) ?_
     refine Qao ?_
     refine bln ?_
     refine thn ?_
     refine wx1 tbk [] trivial ?_
     refine thn ?_
     exact arm (mto (n := 19) [(0, (Qsy p0)), (1, Qv0), (7, (I ((p0.length : Int)))), (8, (I (w64 (y3 + 1))))] [0] [Qlk] hφ0 (pc (.rn (.plain _ (nld Qc2 _))) (pc (.rn (Qaq rn0 (rnc (rqr rfl) rn0))) (pc rwl (pc rwl pn)))) (qc (spb (lc (.rn (Qaq rn0 rn0)) ln)) qn)) (ih (w64 (y3 + 1)) h)
   ·replace h := Qaw hc6 h
    refine wfn hc6 (by kernel_rfl) ?_
    refine Qbh ?_
    refine Qar ?_
    refine Qar ?_
    refine Qbg rfl ?_
    refine thn ?_
    exact ⟨(), h, (mto (n := 19) [] [0] [Qlk] hφ0 pn (qc (spb (lc (.rn (Qaq rn0 rn0)) ln)) qn))⟩
def Qcd (N : Nat) (p0 : (List GStream)) : Option Bool :=
  (Qch N p0).bind fun x3 =>
  some (decide (x3 ≥ 0))
def z95_0 (p0 : (List GStream)) : AV := .dat 4 ((p0 : List GStream).map Qa9)
def z95_1 : AV := .fn (.func 134) [] [(.ref 0 1 (0) 0)]
def Qrh : Slot := .own 1 [[(.fn (.func 120) [] [])]]
set_option maxRecDepth 100000 in
set_option maxHeartbeats 4000000 in
theorem Qeh (N : Nat) (p0 : (List GStream)) (r : Bool) (h : Qcd N p0 = some r) : Spec Try.prog 118 [(z95_0 p0), z95_1] [Qrh] (B (r)) [Qrh] := by
  refine Qac Try.func118 rfl 1 (nle rfl) (fun X φ0 w0 hφ0 => ?_)
  unfold Qcd at h
  refine Qbj ?_
  refine wx tbk [] trivial ?_
  obtain ⟨x3, hf2, h⟩ := bno h
  refine wx tbk [(2, ⟨[fu 130, (.tmp 5, (z95_0 p0)), (.tmp 6, z95_1)], [(0, Qrh)], I x3, [(0, Qrh)], false⟩)] ⟨Qam (first := []) (cap := []) (vs := [(z95_0 p0), z95_1]) (σr := [Qrh]) (σr' := [Qrh]) (res' := (I x3)) [0] rfl Qvj (Qes N p0 _ hf2) rfl (Qbi (rnc (.plain _ (nld Qc2 _)) (rnc (Qaq rn0 (rnc (Qax rfl) rn0)) rn0))) (slc (Qai (rnc (.plain _ (NLt.fn _ _ _ nl0 nl0)) rn0)) Qal) (slc (Qai (rnc (.plain _ (NLt.fn _ _ _ nl0 nl0)) rn0)) Qal) (.plain _ nll) rfl rfl rfl, trivial⟩ ?_
  refine wmr (mto (n := 9) (l' := [(4, (B ((decide (x3 ≥ 0)))))]) (own' := [Qrh]) [(4, (B ((decide (x3 ≥ 0)))))] [0] [Qrh] hφ0 (pc rwl pn) (qc (spb (lc (.rn (Qaq rn0 rn0)) ln)) qn)) ?_
  refine Qab ?_
  obtain rfl := osi h
  exact ⟨_, Mor.rfl, Qbx (vs := [(B ((decide (x3 ≥ 0))))]) ⟨rot (by kernel_rfl), trivial⟩ rfl (NLt.of0 nll) (by kernel_rfl) (Qag (Qas (nlc (NLt.of0 (NLt.fn _ _ _ nl0 nl0)) nl0)) Qa5)⟩
def Qey (N : Nat) (p0 : (List GStream)) : Option Bool :=
  (Qcd N p0).bind fun x2 =>
  some (!x2)
def z94_1 (p0 : (List GStream)) : AV := .dat 4 ((p0 : List GStream).map Qa9)
def z94_2 : AV := .fn (.func 134) [] [(.ref 0 1 (0) 0)]
def z94_0 : Slot := .own 1 [[(.fn (.func 120) [] [])]]
set_option maxRecDepth 100000 in
set_option maxHeartbeats 4000000 in
theorem Qis (N : Nat) (p0 : (List GStream)) (r : Bool) (h : Qey N p0 = some r) : Spec Try.prog 125 [(z94_1 p0), (.fn (.func 120) [] [])] [] (B (r)) [] := by
  refine Qac Try.func125 rfl 0 (nle rfl) (fun X φ0 w0 hφ0 => ?_)
  unfold Qey at h
  refine wx tbk [] trivial ?_
  obtain ⟨x2, hf1, h⟩ := bno h
  refine wx tbk [(1, rp [(.tmp 3, .ref 0 1 0 0)] z94_2), (2, ⟨[fu 118, (.tmp 5, (z94_1 p0)), (.tmp 6, z94_2)], [(0, z94_0)], B x2, [(0, z94_0)], false⟩)] ⟨Qdt (fs := []) (cs := [.ref 0 1 0 0]) rfl rfl rfl rfl, Qam (first := []) (cap := []) (vs := [(z94_1 p0), z94_2]) (σr := [z94_0]) (σr' := [z94_0]) (res' := (B x2)) [0] rfl Qvl (Qeh N p0 _ hf1) rfl (Qbi (rnc (.plain _ (nld Qc2 _)) (rnc (Qaq rn0 (rnc (Qax rfl) rn0)) rn0))) (slc (Qai (rnc (.plain _ (NLt.fn _ _ _ nl0 nl0)) rn0)) Qal) (slc (Qai (rnc (.plain _ (NLt.fn _ _ _ nl0 nl0)) rn0)) Qal) (.plain _ nll) rfl rfl rfl, trivial⟩ ?_
  refine Qab ?_
  obtain rfl := osi h
  exact fend ⟨[(B ((!x2)))], ⟨rot (by kernel_rfl), trivial⟩, rfl⟩ nll
def Qjm (N : Nat) (p0 : (List GStream)) : Option Int :=
  bif (decide ((p0.length : Int) > 40)) then
   some 3
  else
   (Qey N p0).bind fun x3 =>
   bif (!x3) then
    some 1
   else
    some 0
def z93_0 (p0 : (List GStream)) : AV := .dat 4 ((p0 : List GStream).map Qa9)
set_option maxRecDepth 100000 in
set_option maxHeartbeats 4000000 in
theorem Qnc (N : Nat) (p0 : (List GStream)) (r : Int) (h : Qjm N p0 = some r) : Spec Try.prog 111 [(.dat 4 (p0.map Qa9))] [] (I r) [] := by
  refine Qac Try.func111 rfl 0 (nle rfl) (fun X φ0 w0 hφ0 => ?_)
  unfold Qjm at h
  refine wx tbk [] trivial ?_
  refine wsq ?_
  refine Qak ?_
  refine wx tbk [(1, rp [(.tmp 4, (z93_0 p0))] (I ((p0.length : Int))))] ⟨alm (c := Qa9) (l := p0) (aln rfl Try.underlying143 rfl), trivial⟩ ?_
  rcases bft ((decide ((p0.length : Int) > 40))) with hc1 | hc1
  ·replace h := Qav hc1 h
   refine wft hc1 (by kernel_rfl) ?_
   refine wx tbk [] trivial ?_
   refine Qab ?_
   refine Qb2 ?_
   refine Qau ?_
   obtain rfl := osi h
   exact fend ⟨[I 3], ⟨rot (by kernel_rfl), trivial⟩, rfl⟩ nll
  ·replace h := Qaw hc1 h
   refine wfn hc1 (by kernel_rfl) ?_
   obtain ⟨x3, hf2, h⟩ := bno h
   refine wx tbk [(1, rp [fu 125, (.tmp 8, (z93_0 p0)), fu 120] (B x3))] ⟨Qam (first := []) (cap := []) (vs := [(z93_0 p0), (.fn (.func 120) [] [])]) (σr := []) (σr' := []) (res' := (B x3)) [] rfl enter125 (Qis N p0 _ hf2) rfl (Qbi (rnc (.plain _ (nld Qc2 _)) (rnc (.plain _ (NLt.fn _ _ _ nl0 nl0)) rn0))) Qal Qal (.plain _ nll) rfl rfl rfl, trivial⟩ ?_
   rcases bft ((!x3)) with hc4 | hc4
   ·replace h := Qav hc4 h
    refine wft hc4 (by kernel_rfl) ?_
    refine wx tbk [] trivial ?_
    refine Qab ?_
    refine Qb2 ?_
    refine Qau ?_
    obtain rfl := osi h
    exact fend ⟨[I 1], ⟨rot (by kernel_rfl), trivial⟩, rfl⟩ nll
   ·replace h := Qaw hc4 h
    refine wfn hc4 (by kernel_rfl) ?_
    refine Qao ?_
    refine bln ?_
    refine thn ?_
    refine wx tbk [] trivial ?_
    refine Qab ?_
    obtain rfl := osi h
    exact fend ⟨[I 0], ⟨rot (by kernel_rfl), trivial⟩, rfl⟩ nll
def Qcm (_N : Nat) (_p0 : Int) (_p1 : Int) (_p2 : Int) (_p3 : Int) : Option Unit :=
  some ()
def Qnt (p0 : Int) (p1 : Int) (p2 : Int) (p3 : Int) : Slot := .own 4 [[(I (p0)), (I (p1)), (I (p2)), (I (p3))]]
def Qy0 : AV := .agg [(.ref 0 4 (0) 0), (.ref 0 4 (0) 1), (.ref 0 4 (0) 2), (.ref 0 4 (0) 3)]
def Qyz : Slot := .own 4 [[(.ref 0 4 (0) 0), (.ref 0 4 (0) 1), (.ref 0 4 (0) 2), (.ref 0 4 (0) 3)]]
set_option maxRecDepth 100000 in
set_option maxHeartbeats 4000000 in
theorem Qc3 (N : Nat) (p0 : Int) (p1 : Int) (p2 : Int) (p3 : Int) (r : Unit) (h : Qcm N p0 p1 p2 p3 = some r) : Spec Try.prog 127 [(.ref 0 4 (0) 0)] [(Qnt p0 p1 p2 p3)] Qy0 [(Qnt p0 p1 p2 p3), Qyz] := by
  refine Qac Try.func127 rfl 2 (nle rfl) (fun X φ0 w0 hφ0 => ?_)
  unfold Qcm at h
  refine Qbj ?_
  refine wx tbk [] trivial ?_
  refine wxd tbk [(1, rb [(.tmp 3, .ref 0 4 0 0)] [(0, (Qnt p0 p1 p2 p3))] (.ref 0 4 0 0)), (4, rb [(.tmp 6, .ref 0 4 0 0)] [(0, (Qnt p0 p1 p2 p3))] (.ref 0 4 0 0)), (7, rb [(.tmp 9, .ref 0 4 0 0)] [(0, (Qnt p0 p1 p2 p3))] (.ref 0 4 0 0)), (10, rb [(.tmp 12, .ref 0 4 0 0)] [(0, (Qnt p0 p1 p2 p3))] (.ref 0 4 0 0)), (12, rp [(.tmp 5, .ref 0 4 0 0), (.tmp 8, .ref 0 4 0 1), (.tmp 11, .ref 0 4 0 2), (.tmp 14, .ref 0 4 0 3)] Qy0)] ⟨Qds rfl, Qds rfl, Qds rfl, Qds rfl, Qst (vs := [.ref 0 4 0 0, .ref 0 4 0 1, .ref 0 4 0 2, .ref 0 4 0 3]) rfl Try.underlying169 Qpg tz169 rfl (by rfl) rfl, trivial⟩ ?_
  refine wmr (mto (n := 16) (l' := [(2, .ref 1 4 0 0)]) (own' := [(Qnt p0 p1 p2 p3), Qyz]) [(2, .ref 1 4 0 0)] [0, 1] [(Qnt p0 p1 p2 p3), Qyz] hφ0 (pc (.rn (rqr rfl)) pn) (qc (spb (lc rwl (lc rwl (lc rwl (lc rwl ln))))) (qc (spb (lc (.rn (rqr rfl)) (lc (.rn (rqr rfl)) (lc (.rn (rqr rfl)) (lc (.rn (rqr rfl)) ln))))) qn))) ?_
  refine Qab ?_
  obtain rfl := osi h
  exact ⟨_, Mor.rfl, Qbx (vs := [Qy0]) ⟨Qbv (n := 1) (m := 4) (j := 0) (i := 0) (xs := [[.ref 0 4 0 0, .ref 0 4 0 1, .ref 0 4 0 2, .ref 0 4 0 3]]) (by kernel_rfl) (by kernel_rfl) ti169 (by decide) rfl (nle rfl) rfl, trivial⟩ rfl (NLt.agg _ (nlc (NLt.ref _ _ _ _ (by decide)) (nlc (NLt.ref _ _ _ _ (by decide)) (nlc (NLt.ref _ _ _ _ (by decide)) (nlc (NLt.ref _ _ _ _ (by decide)) nl0))))) (by kernel_rfl) (Qag (Qas (nlc (NLt.of0 nll) (nlc (NLt.of0 nll) (nlc (NLt.of0 nll) (nlc (NLt.of0 nll) nl0))))) (Qag (Qas (nlc (NLt.ref _ _ _ _ (by decide)) (nlc (NLt.ref _ _ _ _ (by decide)) (nlc (NLt.ref _ _ _ _ (by decide)) (nlc (NLt.ref _ _ _ _ (by decide)) nl0))))) Qa5))⟩
def Qjl (N : Nat) (p0 : GStream) (p1 : Int) (p2 : Int) (p3 : Int) (p4 : Int) : Option Unit :=
  (Qcm N p0.Mass p0.Heat p0.Silica p0.Gas).bind fun _ =>
  (Qcm N p1 p2 p3 p4).bind fun _ =>
  (Qcm N (w64 (p1 + p0.Mass)) p2 p3 p4).bind fun _ =>
  (Qcm N (w64 (p1 + p0.Mass)) (w64 (p2 + p0.Heat)) p3 p4).bind fun _ =>
  (Qcm N (w64 (p1 + p0.Mass)) (w64 (p2 + p0.Heat)) (w64 (p3 + p0.Silica)) p4).bind fun _ =>
  some ()
def Qsx (p1 : Int) (p2 : Int) (p3 : Int) (p4 : Int) : Slot := .own 4 [[(I (p1)), (I (p2)), (I (p3)), (I (p4))]]
def Qw4 (p1 : Int) (p0 : GStream) (p2 : Int) (p3 : Int) (p4 : Int) : Slot := .own 4 [[(I (w64 (p1 + p0.Mass))), (I (w64 (p2 + p0.Heat))), (I (w64 (p3 + p0.Silica))), (I (w64 (p4 + p0.Gas)))]]
def Qrg (p0 : GStream) : Slot := .own 4 [[(I (p0.Mass)), (I (p0.Heat)), (I (p0.Silica)), (I (p0.Gas))]]
def Qvx : AV := .agg [(.ref 1 4 (0) 0), (.ref 1 4 (0) 1), (.ref 1 4 (0) 2), (.ref 1 4 (0) 3)]
def z99_2 : Slot := .own 4 [[(.ref 1 4 (0) 0), (.ref 1 4 (0) 1), (.ref 1 4 (0) 2), (.ref 1 4 (0) 3)]]
def Qnw : AV := .agg [(.ref 0 4 (0) 0), (.ref 0 4 (0) 1), (.ref 0 4 (0) 2), (.ref 0 4 (0) 3)]
def Qrf : Slot := .own 4 [[(.ref 0 4 (0) 0), (.ref 0 4 (0) 1), (.ref 0 4 (0) 2), (.ref 0 4 (0) 3)]]
def Qvw (p1 : Int) (p0 : GStream) (p2 : Int) (p3 : Int) (p4 : Int) : Slot := .own 4 [[(I (w64 (p1 + p0.Mass))), (I (p2)), (I (p3)), (I (p4))]]
def Qvv (p1 : Int) (p0 : GStream) (p2 : Int) (p3 : Int) (p4 : Int) : Slot := .own 4 [[(I (w64 (p1 + p0.Mass))), (I (w64 (p2 + p0.Heat))), (I (p3)), (I (p4))]]
def Qvu (p1 : Int) (p0 : GStream) (p2 : Int) (p3 : Int) (p4 : Int) : Slot := .own 4 [[(I (w64 (p1 + p0.Mass))), (I (w64 (p2 + p0.Heat))), (I (w64 (p3 + p0.Silica))), (I (p4))]]
set_option maxRecDepth 100000 in
set_option maxHeartbeats 4000000 in
theorem Qna (N : Nat) (p0 : GStream) (p1 : Int) (p2 : Int) (p3 : Int) (p4 : Int) (r : Unit) (h : Qjl N p0 p1 p2 p3 p4 = some r) : Spec Try.prog 126 [(.agg [(I (p0.Mass)), (I (p0.Heat)), (I (p0.Silica)), (I (p0.Gas))]), (.ref 0 4 (0) 0)] [(Qsx p1 p2 p3 p4)] (.tup []) [(Qw4 p1 p0 p2 p3 p4)] := by
  refine Qac Try.func126 rfl 1 (nle rfl) (fun X φ0 w0 hφ0 => ?_)
  unfold Qjl at h
  refine Qbj ?_
  refine wx tbk [] trivial ?_
  obtain ⟨x2, hf1, h⟩ := bno h
  refine wx tbk [(0, ⟨[fu 127, (.tmp 2, .ref 1 4 0 0)], [(1, (Qrg p0)), (2, .unused)], Qvx, [(1, (Qrg p0)), (2, z99_2)], false⟩)] ⟨Qam (first := []) (cap := []) (vs := [.ref 1 4 0 0]) (σr := [(Qrg p0)]) (σr' := [(Qrg p0), z99_2]) (res' := Qvx) [1, 2] rfl Qmu (Qc3 N p0.Mass p0.Heat p0.Silica p0.Gas _ hf1) rfl (Qbi (rnc (Qax rfl) rn0)) (slc (Qai (rnc (.plain _ nll) (rnc (.plain _ nll) (rnc (.plain _ nll) (rnc (.plain _ nll) rn0))))) Qal) (slc (Qai (rnc (.plain _ nll) (rnc (.plain _ nll) (rnc (.plain _ nll) (rnc (.plain _ nll) rn0))))) (slc (Qai (rnc (Qbt rfl) (rnc (Qbt rfl) (rnc (Qbt rfl) (rnc (Qbt rfl) rn0))))) Qal)) (Qbi (rnc (Qbt rfl) (rnc (Qbt rfl) (rnc (Qbt rfl) (rnc (Qbt rfl) rn0))))) rfl rfl rfl, trivial⟩ ?_
  refine Qak ?_
  refine Qvq 17 ?_
  refine Qp3 ?_
  refine wx tbk [] trivial ?_
  refine wsq ?_
  refine Qcy (by kernel_rfl) ?_
  refine Qao ?_
  refine thn ?_
  refine wsq ?_
  refine Qak ?_
  refine wx tbk [(1, rp [(.tmp 5, Qvx), (.tmp 6, I 0)] (.ref 1 4 0 0))] ⟨Qf7 rfl Try.underlying169 Qpg (by decide) (by decide) (nle rfl) (by decide) rfl, trivial⟩ ?_
  obtain ⟨x4, hf3, h⟩ := bno h
  refine wy1 tbk [(0, ⟨[fu 127, (.tmp 1, .ref 0 4 0 0)], [(0, (Qsx p1 p2 p3 p4)), (3, .unused)], Qnw, [(0, (Qsx p1 p2 p3 p4)), (3, Qrf)], false⟩), (2, rp [(.tmp 10, Qnw), (.tmp 11, I 0)] (.ref 0 4 0 0)), (3, rb [(.tmp 12, .ref 0 4 0 0)] [(0, (Qsx p1 p2 p3 p4))] (.ref 0 4 0 0)), (6, rb [(.tmp 15, .ref 1 4 0 0)] [(1, (Qrg p0))] (.ref 1 4 0 0)), (9, rb [(.tmp 12, .ref 0 4 0 0)] [(0, (Qsx p1 p2 p3 p4))] (.ref 0 4 0 0))] ⟨Qam (first := []) (cap := []) (vs := [.ref 0 4 0 0]) (σr := [(Qsx p1 p2 p3 p4)]) (σr' := [(Qsx p1 p2 p3 p4), Qrf]) (res' := Qnw) [0, 3] rfl Qmu (Qc3 N p1 p2 p3 p4 _ hf3) rfl (Qbi (rnc (Qax rfl) rn0)) (slc (Qai (rnc (.plain _ nll) (rnc (.plain _ nll) (rnc (.plain _ nll) (rnc (.plain _ nll) rn0))))) Qal) (slc (Qai (rnc (.plain _ nll) (rnc (.plain _ nll) (rnc (.plain _ nll) (rnc (.plain _ nll) rn0))))) (slc (Qai (rnc (Qbt rfl) (rnc (Qbt rfl) (rnc (Qbt rfl) (rnc (Qbt rfl) rn0))))) Qal)) (Qbi (rnc (Qbt rfl) (rnc (Qbt rfl) (rnc (Qbt rfl) (rnc (Qbt rfl) rn0))))) rfl rfl rfl, Qf7 rfl Try.underlying169 Qpg (by decide) (by decide) (nle rfl) (by decide) rfl, Qds rfl, Qds rfl, Qds rfl, trivial⟩ ?_
  refine bln ?_
  refine thn ?_
  refine wx1 tbk [] trivial ?_
  refine thn ?_
  refine Qp3 ?_
  refine wx tbk [] trivial ?_
  refine wsq ?_
  refine Qcy (by kernel_rfl) ?_
  refine Qao ?_
  refine thn ?_
  refine wsq ?_
  refine Qak ?_
  refine wx tbk [(1, rp [(.tmp 5, Qvx), (.tmp 6, I 1)] (.ref 1 4 0 1))] ⟨Qf7 rfl Try.underlying169 Qpg (by decide) (by decide) (nle rfl) (by decide) rfl, trivial⟩ ?_
  obtain ⟨x6, hf5, h⟩ := bno h
  refine wy1 tbk [(0, ⟨[fu 127, (.tmp 1, .ref 0 4 0 0)], [(0, (Qvw p1 p0 p2 p3 p4)), (4, .unused)], Qnw, [(0, (Qvw p1 p0 p2 p3 p4)), (4, Qrf)], false⟩), (2, rp [(.tmp 10, Qnw), (.tmp 11, I 1)] (.ref 0 4 0 1)), (3, rb [(.tmp 12, .ref 0 4 0 1)] [(0, (Qvw p1 p0 p2 p3 p4))] (.ref 0 4 0 1)), (6, rb [(.tmp 15, .ref 1 4 0 1)] [(1, (Qrg p0))] (.ref 1 4 0 1)), (9, rb [(.tmp 12, .ref 0 4 0 1)] [(0, (Qvw p1 p0 p2 p3 p4))] (.ref 0 4 0 1))] ⟨Qam (first := []) (cap := []) (vs := [.ref 0 4 0 0]) (σr := [(Qvw p1 p0 p2 p3 p4)]) (σr' := [(Qvw p1 p0 p2 p3 p4), Qrf]) (res' := Qnw) [0, 4] rfl Qmu (Qc3 N (w64 (p1 + p0.Mass)) p2 p3 p4 _ hf5) rfl (Qbi (rnc (Qax rfl) rn0)) (slc (Qai (rnc (.plain _ nll) (rnc (.plain _ nll) (rnc (.plain _ nll) (rnc (.plain _ nll) rn0))))) Qal) (slc (Qai (rnc (.plain _ nll) (rnc (.plain _ nll) (rnc (.plain _ nll) (rnc (.plain _ nll) rn0))))) (slc (Qai (rnc (Qbt rfl) (rnc (Qbt rfl) (rnc (Qbt rfl) (rnc (Qbt rfl) rn0))))) Qal)) (Qbi (rnc (Qbt rfl) (rnc (Qbt rfl) (rnc (Qbt rfl) (rnc (Qbt rfl) rn0))))) rfl rfl rfl, Qf7 rfl Try.underlying169 Qpg (by decide) (by decide) (nle rfl) (by decide) rfl, Qds rfl, Qds rfl, Qds rfl, trivial⟩ ?_
  refine bln ?_
  refine thn ?_
  refine wx1 tbk [] trivial ?_
  refine thn ?_
  refine Qp3 ?_
  refine wx tbk [] trivial ?_
  refine wsq ?_
  refine Qcy (by kernel_rfl) ?_
  refine Qao ?_
  refine thn ?_
  refine wsq ?_
  refine Qak ?_
  refine wx tbk [(1, rp [(.tmp 5, Qvx), (.tmp 6, I 2)] (.ref 1 4 0 2))] ⟨Qf7 rfl Try.underlying169 Qpg (by decide) (by decide) (nle rfl) (by decide) rfl, trivial⟩ ?_
  obtain ⟨x8, hf7, h⟩ := bno h
  refine wy1 tbk [(0, ⟨[fu 127, (.tmp 1, .ref 0 4 0 0)], [(0, (Qvv p1 p0 p2 p3 p4)), (5, .unused)], Qnw, [(0, (Qvv p1 p0 p2 p3 p4)), (5, Qrf)], false⟩), (2, rp [(.tmp 10, Qnw), (.tmp 11, I 2)] (.ref 0 4 0 2)), (3, rb [(.tmp 12, .ref 0 4 0 2)] [(0, (Qvv p1 p0 p2 p3 p4))] (.ref 0 4 0 2)), (6, rb [(.tmp 15, .ref 1 4 0 2)] [(1, (Qrg p0))] (.ref 1 4 0 2)), (9, rb [(.tmp 12, .ref 0 4 0 2)] [(0, (Qvv p1 p0 p2 p3 p4))] (.ref 0 4 0 2))] ⟨Qam (first := []) (cap := []) (vs := [.ref 0 4 0 0]) (σr := [(Qvv p1 p0 p2 p3 p4)]) (σr' := [(Qvv p1 p0 p2 p3 p4), Qrf]) (res' := Qnw) [0, 5] rfl Qmu (Qc3 N (w64 (p1 + p0.Mass)) (w64 (p2 + p0.Heat)) p3 p4 _ hf7) rfl (Qbi (rnc (Qax rfl) rn0)) (slc (Qai (rnc (.plain _ nll) (rnc (.plain _ nll) (rnc (.plain _ nll) (rnc (.plain _ nll) rn0))))) Qal) (slc (Qai (rnc (.plain _ nll) (rnc (.plain _ nll) (rnc (.plain _ nll) (rnc (.plain _ nll) rn0))))) (slc (Qai (rnc (Qbt rfl) (rnc (Qbt rfl) (rnc (Qbt rfl) (rnc (Qbt rfl) rn0))))) Qal)) (Qbi (rnc (Qbt rfl) (rnc (Qbt rfl) (rnc (Qbt rfl) (rnc (Qbt rfl) rn0))))) rfl rfl rfl, Qf7 rfl Try.underlying169 Qpg (by decide) (by decide) (nle rfl) (by decide) rfl, Qds rfl, Qds rfl, Qds rfl, trivial⟩ ?_
  refine bln ?_
  refine thn ?_
  refine wx1 tbk [] trivial ?_
  refine thn ?_
  refine Qp3 ?_
  refine wx tbk [] trivial ?_
  refine wsq ?_
  refine Qcy (by kernel_rfl) ?_
  refine Qao ?_
  refine thn ?_
  refine wsq ?_
  refine Qak ?_
  refine wx tbk [(1, rp [(.tmp 5, Qvx), (.tmp 6, I 3)] (.ref 1 4 0 3))] ⟨Qf7 rfl Try.underlying169 Qpg (by decide) (by decide) (nle rfl) (by decide) rfl, trivial⟩ ?_
  obtain ⟨x10, hf9, h⟩ := bno h
  refine wy1 tbk [(0, ⟨[fu 127, (.tmp 1, .ref 0 4 0 0)], [(0, (Qvu p1 p0 p2 p3 p4)), (6, .unused)], Qnw, [(0, (Qvu p1 p0 p2 p3 p4)), (6, Qrf)], false⟩), (2, rp [(.tmp 10, Qnw), (.tmp 11, I 3)] (.ref 0 4 0 3)), (3, rb [(.tmp 12, .ref 0 4 0 3)] [(0, (Qvu p1 p0 p2 p3 p4))] (.ref 0 4 0 3)), (6, rb [(.tmp 15, .ref 1 4 0 3)] [(1, (Qrg p0))] (.ref 1 4 0 3)), (9, rb [(.tmp 12, .ref 0 4 0 3)] [(0, (Qvu p1 p0 p2 p3 p4))] (.ref 0 4 0 3))] ⟨Qam (first := []) (cap := []) (vs := [.ref 0 4 0 0]) (σr := [(Qvu p1 p0 p2 p3 p4)]) (σr' := [(Qvu p1 p0 p2 p3 p4), Qrf]) (res' := Qnw) [0, 6] rfl Qmu (Qc3 N (w64 (p1 + p0.Mass)) (w64 (p2 + p0.Heat)) (w64 (p3 + p0.Silica)) p4 _ hf9) rfl (Qbi (rnc (Qax rfl) rn0)) (slc (Qai (rnc (.plain _ nll) (rnc (.plain _ nll) (rnc (.plain _ nll) (rnc (.plain _ nll) rn0))))) Qal) (slc (Qai (rnc (.plain _ nll) (rnc (.plain _ nll) (rnc (.plain _ nll) (rnc (.plain _ nll) rn0))))) (slc (Qai (rnc (Qbt rfl) (rnc (Qbt rfl) (rnc (Qbt rfl) (rnc (Qbt rfl) rn0))))) Qal)) (Qbi (rnc (Qbt rfl) (rnc (Qbt rfl) (rnc (Qbt rfl) (rnc (Qbt rfl) rn0))))) rfl rfl rfl, Qf7 rfl Try.underlying169 Qpg (by decide) (by decide) (nle rfl) (by decide) rfl, Qds rfl, Qds rfl, Qds rfl, trivial⟩ ?_
  refine bln ?_
  refine thn ?_
  refine wx1 tbk [] trivial ?_
  refine thn ?_
  refine Qp3 ?_
  refine wx tbk [] trivial ?_
  refine wsq ?_
  refine Qgg (by kernel_rfl) ?_
  refine Qbh ?_
  refine Qar ?_
  refine Qar ?_
  refine Qbg rfl ?_
  obtain rfl := osi h
  exact ⟨_, (mto (n := 21) (l' := []) (own' := [(Qw4 p1 p0 p2 p3 p4)]) [] [0] [(Qw4 p1 p0 p2 p3 p4)] hφ0 pn (qc (spb (lc rwl (lc rwl (lc rwl (lc rwl ln))))) qn)), Qbx (vs := []) trivial rfl (NLt.tup _ nl0) (by kernel_rfl) (Qag (Qas (nlc (NLt.of0 nll) (nlc (NLt.of0 nll) (nlc (NLt.of0 nll) (nlc (NLt.of0 nll) nl0))))) Qa5)⟩
def Qfs (N : Nat) (p0 : (List GStream)) (k5 : Int × Int × Int × Int → Option GStream) : Nat → Int → Int → Int → Int → Int → Option GStream
  | 0, _, _, _, _, _ => none
  | n16 + 1, y6, y7, y8, y9, y10 =>
    bif (decide (y6 < (p0.length : Int))) then
     (getI p0 y6).bind fun x18 =>
     (Qjl N x18 y7 y8 y9 y10).bind fun _ =>
     Qfs N p0 k5 n16 (w64 (y6 + 1)) (w64 (y7 + x18.Mass)) (w64 (y8 + x18.Heat)) (w64 (y9 + x18.Silica)) (w64 (y10 + x18.Gas))
    else
     k5 (y7, y8, y9, y10)
def Qnb (N : Nat) (p0 : (List GStream)) : Option GStream :=
  Qdu (fun ⟨y1, y2, y3, y4⟩ =>
    some (⟨y1, y2, y3, y4⟩ : GStream)) fun k5 : Int × Int × Int × Int → Option GStream =>
  Qfs N p0 k5 N 0 0 0 0 0
def Qvz : AV := .fn (.func 126) [] [(.ref 0 4 (0) 0)]
def Qvy (p0 : (List GStream)) : AV := .dat 4 ((p0 : List GStream).map Qa9)
def z98_0 : Slot := .own 4 [[(I (0)), (I (0)), (I (0)), (I (0))]]
def Quo (y7 : Int) (y8 : Int) (y9 : Int) (y10 : Int) : Slot := .own 4 [[(I (y7)), (I (y8)), (I (y9)), (I (y10))]]
def z98_21 (x18 : GStream) : AV := .agg [(I (x18.Mass)), (I (x18.Heat)), (I (x18.Silica)), (I (x18.Gas))]
def Qw5 (y7 : Int) (x18 : GStream) (y8 : Int) (y9 : Int) (y10 : Int) : Slot := .own 4 [[(I (w64 (y7 + x18.Mass))), (I (w64 (y8 + x18.Heat))), (I (w64 (y9 + x18.Silica))), (I (w64 (y10 + x18.Gas)))]]
set_option maxRecDepth 100000 in
set_option maxHeartbeats 4000000 in
theorem Qqm (N : Nat) (p0 : (List GStream)) (r : GStream) (h : Qnb N p0 = some r) : Spec Try.prog 112 [(.dat 4 (p0.map Qa9))] [] (.agg (Qa9 r)) [] := by
  refine Qac Try.func112 rfl 0 (nle rfl) (fun X φ0 w0 hφ0 => ?_)
  unfold Qnb at h
  refine wx tbk [] trivial ?_
  refine wx tbk [(0, rp [(.tmp 2, .ref 0 4 0 0)] Qvz)] ⟨Qdt (fs := []) (cs := [.ref 0 4 0 0]) rfl rfl rfl rfl, trivial⟩ ?_
  obtain ⟨k5, hk_k5, h⟩ := jko h
  refine wjn (τ := Int × Int × Int × Int) (fun t => k5 t = some r) (fun ⟨y1, y2, y3, y4⟩ => ⟨mk 18 [(2, .ref 0 4 0 0)], [(.own 4 [[I y1, I y2, I y3, I y4]])]⟩) (fun t h => ?_) ?_
  ·subst hk_k5
   obtain ⟨y1, y2, y3, y4⟩ := t
   refine wx tbk [] trivial ?_
   refine Qab ?_
   obtain rfl := osi h
   exact fend ⟨[(.agg [I y1, I y2, I y3, I y4])], ⟨Qbv (n := 0) (m := 4) (j := 0) (i := 0) (xs := [[I y1, I y2, I y3, I y4]]) (by kernel_rfl) (by kernel_rfl) ti60 (by decide) rfl (nle rfl) rfl, trivial⟩, rfl⟩ (NLt.agg _ (nlc nll (nlc nll (nlc nll (nlc nll nl0)))))
  ·skip
   refine wx tbk [(1, rp [(.tmp 7, (Qvy p0))] (I ((p0.length : Int))))] ⟨alm (c := Qa9) (l := p0) (aln rfl Try.underlying143 rfl), trivial⟩ ?_
   refine Qak ?_
   refine wmr (mto (n := 18) (l' := [(2, .ref 0 4 0 0), (3, Qvz), (7, (Qvy p0)), (8, (I ((p0.length : Int)))), (9, I 0)]) (own' := [z98_0]) [(2, .ref 0 4 0 0), (3, Qvz), (7, (Qvy p0)), (8, (I ((p0.length : Int)))), (9, I 0)] [0] [z98_0] hφ0 (pc (.rn (rqr rfl)) (pc (.rn (Qaq rn0 (rnc (rqr rfl) rn0))) (pc (.rn (.plain _ (nld Qc2 _))) (pc rwl (pc rwl pn))))) (qc (spb (lc rwl (lc rwl (lc rwl (lc rwl ln))))) qn)) ?_
   refine Qb1 (τ := Int × Int × Int × Int × Int) (fun n t => Qfs N p0 k5 n t.1 t.2.1 t.2.2.1 t.2.2.2.1 t.2.2.2.2 = some r) (fun ⟨y6, y7, y8, y9, y10⟩ => ⟨mk 18 [(2, .ref 0 4 0 0), (3, Qvz), (7, (Qvy p0)), (8, (I ((p0.length : Int)))), (9, I y6)], [(Quo y7 y8 y9 y10)]⟩) (fun t h => by rw [Qfs] at h; cases h) (fun n16 ih t h => ?_) N (0, 0, 0, 0, 0) h
   obtain ⟨y6, y7, y8, y9, y10⟩ := t
   rw [Qfs] at h
   skip
   refine wx tbk [] trivial ?_
   refine wsq ?_
   rcases bft ((decide (y6 < (p0.length : Int)))) with hc17 | hc17
   ·replace h := Qav hc17 h
    refine wft hc17 (by kernel_rfl) ?_
    refine Qao ?_
    refine thn ?_
    refine wsq ?_
    refine Qak ?_
    obtain ⟨x18, hg19, h⟩ := bno h
    obtain ⟨hi20, hj21⟩ := gsm hg19
    refine wx tbk [(0, rp [(.tmp 7, (Qvy p0)), (.tmp 9, I y6)] (.dptr (Qa9 (x18)) 0))] ⟨aid rfl Try.underlying143 ti60 rfl rfl hi20 (mgt Qa9 hj21) rfl, trivial⟩ ?_
    obtain ⟨x23, hf22, h⟩ := bno h
    refine wx1 tbk [(2, ⟨[(.tmp 13, Qvz), (.tmp 14, (z98_21 x18))], [(0, (Quo y7 y8 y9 y10))], (.tup []), [(0, (Qw5 y7 x18 y8 y9 y10))], false⟩)] ⟨Qam (first := []) (cap := [.ref 0 4 0 0]) (vs := [(z98_21 x18)]) (σr := [(Quo y7 y8 y9 y10)]) (σr' := [(Qw5 y7 x18 y8 y9 y10)]) (res' := (.tup [])) [0] rfl enter126 (Qna N x18 y7 y8 y9 y10 _ hf22) rfl (Qbi (rnc (.plain _ (NLt.agg _ (nlc nll (nlc nll (nlc nll (nlc nll nl0)))))) (rnc (Qax rfl) rn0))) (slc (Qai (rnc (.plain _ nll) (rnc (.plain _ nll) (rnc (.plain _ nll) (rnc (.plain _ nll) rn0))))) Qal) (slc (Qai (rnc (.plain _ nll) (rnc (.plain _ nll) (rnc (.plain _ nll) (rnc (.plain _ nll) rn0))))) Qal) (.plain _ (NLt.tup _ nl0)) rfl rfl rfl, trivial⟩ ?_
    refine bln ?_
    refine thn ?_
    refine wx1 tbk [] trivial ?_
    refine thn ?_
    exact arm (mto (n := 18) [(2, .ref 0 4 0 0), (3, Qvz), (7, (Qvy p0)), (8, (I ((p0.length : Int)))), (9, (I (w64 (y6 + 1))))] [0] [(Qw5 y7 x18 y8 y9 y10)] hφ0 (pc (.rn (rqr rfl)) (pc (.rn (Qaq rn0 (rnc (rqr rfl) rn0))) (pc (.rn (.plain _ (nld Qc2 _))) (pc rwl (pc rwl pn))))) (qc (spb (lc rwl (lc rwl (lc rwl (lc rwl ln))))) qn)) (ih (w64 (y6 + 1), w64 (y7 + x18.Mass), w64 (y8 + x18.Heat), w64 (y9 + x18.Silica), w64 (y10 + x18.Gas)) h)
   ·replace h := Qaw hc17 h
    refine wfn hc17 (by kernel_rfl) ?_
    refine Qbh ?_
    refine Qar ?_
    refine Qar ?_
    refine Qbg rfl ?_
    refine thn ?_
    exact ⟨(y7, y8, y9, y10), h, (mto (n := 18) [(2, .ref 0 4 0 0)] [0] [(Quo y7 y8 y9 y10)] hφ0 (pc (.rn (rqr rfl)) pn) (qc (spb (lc rwl (lc rwl (lc rwl (lc rwl ln))))) qn))⟩
def Qnd (N : Nat) (p0 : (List GStream)) : Option (GStream × Int) :=
  (Qjm N p0).bind fun x2 =>
  bif (x2 != 0) then
   some ((⟨0, 0, 0, 0⟩ : GStream), x2)
  else
   (Qnb N p0).bind fun x5 =>
   bif (decide (x5.Mass > 1000000)) then
    some ((⟨0, 0, 0, 0⟩ : GStream), 3)
   else
    bif (decide (x5.Gas > 1000000000)) then
     some ((⟨0, 0, 0, 0⟩ : GStream), 3)
    else
     some (x5, 0)
def z92_1 (p0 : (List GStream)) : AV := .dat 4 ((p0 : List GStream).map Qa9)
def Qv1 : AV := .agg [(I (0)), (I (0)), (I (0)), (I (0))]
def z92_3 (x5 : GStream) : AV := .agg [(I (x5.Mass)), (I (x5.Heat)), (I (x5.Silica)), (I (x5.Gas))]
set_option maxRecDepth 100000 in
set_option maxHeartbeats 4000000 in
theorem Qqn (N : Nat) (p0 : (List GStream)) (r : (GStream × Int)) (h : Qnd N p0 = some r) : Spec Try.prog 91 [(.dat 4 (p0.map Qa9))] [] (.tup [(.agg (Qa9 r.1)), (I r.2)]) [] := by
  refine Qac Try.func91 rfl 0 (nle rfl) (fun X φ0 w0 hφ0 => ?_)
  unfold Qnd at h
  refine wx tbk [] trivial ?_
  refine wsq ?_
  obtain ⟨x2, hf1, h⟩ := bno h
  refine wx tbk [(1, rp [fu 111, (.tmp 6, (z92_1 p0))] (I x2))] ⟨apc (first := []) (cap := []) (vs := [(z92_1 p0)]) rfl enter111 (Qnc N p0 _ hf1) rfl rfl (nlc (nld Qc2 _) nl0) nll rfl, trivial⟩ ?_
  refine wx tbk [] trivial ?_
  rcases bft ((x2 != 0)) with hc3 | hc3
  ·replace h := Qav hc3 h
   refine wft hc3 (by kernel_rfl) ?_
   refine wx tbk [(0, rp [] Qv1)] ⟨Qaj (vs := []) rfl ts60 tz60 rfl (by rfl) rfl, trivial⟩ ?_
   refine Qab ?_
   refine Qau ?_
   obtain rfl := osi h
   exact fend ⟨[Qv1, I x2], ⟨Qbv (n := 0) (m := 4) (j := 0) (i := 0) (xs := [[I 0, I 0, I 0, I 0]]) (by kernel_rfl) (by kernel_rfl) ti60 (by decide) rfl (nle rfl) rfl, rot (by kernel_rfl), trivial⟩, rfl⟩ (NLt.tup _ (nlc (NLt.agg _ (nlc nll (nlc nll (nlc nll (nlc nll nl0))))) (nlc nll nl0)))
  ·replace h := Qaw hc3 h
   refine wfn hc3 (by kernel_rfl) ?_
   refine Qao ?_
   refine thn ?_
   obtain ⟨x5, hf4, h⟩ := bno h
   refine wx tbk [(1, rp [fu 112, (.tmp 12, (z92_1 p0))] (z92_3 x5))] ⟨apc (first := []) (cap := []) (vs := [(z92_1 p0)]) rfl enter112 (Qqm N p0 _ hf4) rfl rfl (nlc (nld Qc2 _) nl0) (NLt.agg _ (nlc nll (nlc nll (nlc nll (nlc nll nl0))))) rfl, trivial⟩ ?_
   refine wsq ?_
   rcases bft ((decide (x5.Mass > 1000000))) with hb6 | hb6
   ·replace h := Qav hb6 h
    refine wx tbk [(3, rp [(.tmp 16, (B ((decide (x5.Mass > 1000000)))))] (B true))] ⟨asb hb6 (amv rfl), trivial⟩ ?_
    refine Qcy (by kernel_rfl) ?_
    refine wx tbk [(0, rp [] Qv1)] ⟨Qaj (vs := []) rfl ts60 tz60 rfl (by rfl) rfl, trivial⟩ ?_
    refine Qab ?_
    refine Qau ?_
    obtain rfl := osi h
    exact fend ⟨[Qv1, I 3], ⟨Qbv (n := 0) (m := 4) (j := 0) (i := 0) (xs := [[I 0, I 0, I 0, I 0]]) (by kernel_rfl) (by kernel_rfl) ti60 (by decide) rfl (nle rfl) rfl, rot (by kernel_rfl), trivial⟩, rfl⟩ (NLt.tup _ (nlc (NLt.agg _ (nlc nll (nlc nll (nlc nll (nlc nll nl0))))) (nlc nll nl0)))
   ·replace h := Qaw hb6 h
    refine wx tbk [(3, rp [(.tmp 16, (B ((decide (x5.Mass > 1000000)))))] (B false))] ⟨asb hb6 (amv rfl), trivial⟩ ?_
    rcases bft ((decide (x5.Gas > 1000000000))) with hc7 | hc7
    ·replace h := Qav hc7 h
     refine wft hc7 (by kernel_rfl) ?_
     refine wx tbk [(0, rp [] Qv1)] ⟨Qaj (vs := []) rfl ts60 tz60 rfl (by rfl) rfl, trivial⟩ ?_
     refine Qab ?_
     refine Qau ?_
     obtain rfl := osi h
     exact fend ⟨[Qv1, I 3], ⟨Qbv (n := 0) (m := 4) (j := 0) (i := 0) (xs := [[I 0, I 0, I 0, I 0]]) (by kernel_rfl) (by kernel_rfl) ti60 (by decide) rfl (nle rfl) rfl, rot (by kernel_rfl), trivial⟩, rfl⟩ (NLt.tup _ (nlc (NLt.agg _ (nlc nll (nlc nll (nlc nll (nlc nll nl0))))) (nlc nll nl0)))
    ·replace h := Qaw hc7 h
     refine wfn hc7 (by kernel_rfl) ?_
     refine Qao ?_
     refine thn ?_
     refine wx tbk [] trivial ?_
     refine Qab ?_
     obtain rfl := osi h
     exact fend ⟨[(z92_3 x5), I 0], ⟨Qbv (n := 0) (m := 4) (j := 0) (i := 0) (xs := [[I x5.Mass, I x5.Heat, I x5.Silica, I x5.Gas]]) (by kernel_rfl) (by kernel_rfl) ti60 (by decide) rfl (nle rfl) rfl, rot (by kernel_rfl), trivial⟩, rfl⟩ (NLt.tup _ (nlc (NLt.agg _ (nlc nll (nlc nll (nlc nll (nlc nll nl0))))) (nlc nll nl0)))
def Qf6 (N : Nat) (p0 : GStream) (p1 : GStream) (p2 : Int) : Option (GStream × Int × Int) :=
  (Qgu N ([p0, p1])).bind fun x2 =>
  bif (!x2) then
   some ((⟨0, 0, 0, 0⟩ : GStream), 0, 1)
  else
   (Qa8 N p2 0 1000000000).bind fun x5 =>
   bif (!x5) then
    some ((⟨0, 0, 0, 0⟩ : GStream), 0, 2)
   else
    (Qnd N ([p0, p1])).bind fun x8 =>
    bif (x8.2 != 0) then
     some ((⟨0, 0, 0, 0⟩ : GStream), 0, x8.2)
    else
     bif (decide (x8.1.Gas > p2)) then
      some ((⟨0, 0, 0, 0⟩ : GStream), 0, 11)
     else
      some ((⟨x8.1.Mass, x8.1.Heat, x8.1.Silica, 0⟩ : GStream), x8.1.Gas, 0)
def z91_1 (p0 : GStream) : AV := .agg [(I (p0.Mass)), (I (p0.Heat)), (I (p0.Silica)), (I (p0.Gas))]
def z91_3 (p1 : GStream) : AV := .agg [(I (p1.Mass)), (I (p1.Heat)), (I (p1.Silica)), (I (p1.Gas))]
def Qv2 (p0 : GStream) (p1 : GStream) : AV := .dat 4 (([p0, p1] : List GStream).map Qa9)
def Qri : AV := .agg [(I (0)), (I (0)), (I (0)), (I (0))]
set_option maxRecDepth 100000 in
set_option maxHeartbeats 4000000 in
theorem Qhh (N : Nat) (p0 : GStream) (p1 : GStream) (p2 : Int) (r : (GStream × Int × Int)) (h : Qf6 N p0 p1 p2 = some r) : Spec Try.prog 58 [(.agg (Qa9 p0)), (.agg (Qa9 p1)), (I p2)] [] (.tup [(.agg (Qa9 r.1)), (I r.2.1), (I r.2.2)]) [] := by
  refine Qac Try.func58 rfl 0 (nle rfl) (fun X φ0 w0 hφ0 => ?_)
  unfold Qf6 at h
  refine wx tbk [] trivial ?_
  refine wsq ?_
  refine Qak ?_
  obtain ⟨x2, hf1, h⟩ := bno h
  refine wx tbk [(2, rp [(.tmp 10, (z91_1 p0)), (.tmp 11, (z91_3 p1))] (Qv2 p0 p1)), (3, rp [fu 74, (.tmp 12, (Qv2 p0 p1))] (B x2))] ⟨Qbk (vs := [(z91_1 p0), (z91_3 p1)]) rfl Try.underlying143 ti60 tz60 rfl (by decide) rfl (by decide) (by rfl) (by rfl) (by rfl) rfl, apc (first := []) (cap := []) (vs := [(Qv2 p0 p1)]) rfl Qqx (Qg7 N ([p0, p1]) _ hf1) rfl rfl (nlc (nld Qc2 _) nl0) nll rfl, trivial⟩ ?_
  rcases bft ((!x2)) with hc3 | hc3
  ·replace h := Qav hc3 h
   refine wft hc3 (by kernel_rfl) ?_
   refine wx tbk [(0, rp [] Qri)] ⟨Qaj (vs := []) rfl ts60 tz60 rfl (by rfl) rfl, trivial⟩ ?_
   refine Qab ?_
   refine Qb2 ?_
   refine Qau ?_
   obtain rfl := osi h
   exact fend ⟨[Qri, I 0, I 1], ⟨Qbv (n := 2) (m := 4) (j := 0) (i := 0) (xs := [[I 0, I 0, I 0, I 0]]) (by kernel_rfl) (by kernel_rfl) ti60 (by decide) rfl (nle rfl) rfl, rot (by kernel_rfl), rot (by kernel_rfl), trivial⟩, rfl⟩ (NLt.tup _ (nlc (NLt.agg _ (nlc nll (nlc nll (nlc nll (nlc nll nl0))))) (nlc nll (nlc nll nl0))))
  ·replace h := Qaw hc3 h
   refine wfn hc3 (by kernel_rfl) ?_
   obtain ⟨x5, hf4, h⟩ := bno h
   refine wx tbk [(1, rp [fu 65, (.tmp 17, I p2), ci 0, ci 1000000000] (B x5))] ⟨apc (first := []) (cap := []) (vs := [I p2, I 0, I 1000000000]) rfl Qbs (Qae N p2 0 1000000000 _ hf4) rfl rfl (nlc nll (nlc nll (nlc nll nl0))) nll rfl, trivial⟩ ?_
   rcases bft ((!x5)) with hc6 | hc6
   ·replace h := Qav hc6 h
    refine wft hc6 (by kernel_rfl) ?_
    refine wx tbk [(0, rp [] Qri)] ⟨Qaj (vs := []) rfl ts60 tz60 rfl (by rfl) rfl, trivial⟩ ?_
    refine Qab ?_
    refine Qb2 ?_
    refine Qau ?_
    obtain rfl := osi h
    exact fend ⟨[Qri, I 0, I 2], ⟨Qbv (n := 2) (m := 4) (j := 0) (i := 0) (xs := [[I 0, I 0, I 0, I 0]]) (by kernel_rfl) (by kernel_rfl) ti60 (by decide) rfl (nle rfl) rfl, rot (by kernel_rfl), rot (by kernel_rfl), trivial⟩, rfl⟩ (NLt.tup _ (nlc (NLt.agg _ (nlc nll (nlc nll (nlc nll (nlc nll nl0))))) (nlc nll (nlc nll nl0))))
   ·replace h := Qaw hc6 h
    refine wfn hc6 (by kernel_rfl) ?_
    refine Qao ?_
    refine bln ?_
    refine thn ?_
    obtain ⟨x8, hf7, h⟩ := bno h
    refine wx tbk [(2, rp [(.tmp 22, (z91_1 p0)), (.tmp 23, (z91_3 p1))] (Qv2 p0 p1)), (3, rp [fu 91, (.tmp 24, (Qv2 p0 p1))] (.tup [(.agg [I x8.1.Mass, I x8.1.Heat, I x8.1.Silica, I x8.1.Gas]), I x8.2]))] ⟨Qbk (vs := [(z91_1 p0), (z91_3 p1)]) rfl Try.underlying143 ti60 tz60 rfl (by decide) rfl (by decide) (by rfl) (by rfl) (by rfl) rfl, apc (first := []) (cap := []) (vs := [(Qv2 p0 p1)]) rfl enter91 (Qqn N ([p0, p1]) _ hf7) rfl rfl (nlc (nld Qc2 _) nl0) (NLt.tup _ (nlc (NLt.agg _ (nlc nll (nlc nll (nlc nll (nlc nll nl0))))) (nlc nll nl0))) rfl, trivial⟩ ?_
    refine wsq ?_
    refine wx tbk [] trivial ?_
    rcases bft ((x8.2 != 0)) with hc9 | hc9
    ·replace h := Qav hc9 h
     refine wft hc9 (by kernel_rfl) ?_
     refine wx tbk [(0, rp [] Qri)] ⟨Qaj (vs := []) rfl ts60 tz60 rfl (by rfl) rfl, trivial⟩ ?_
     refine Qab ?_
     refine Qau ?_
     obtain rfl := osi h
     exact fend ⟨[Qri, I 0, I x8.2], ⟨Qbv (n := 2) (m := 4) (j := 0) (i := 0) (xs := [[I 0, I 0, I 0, I 0]]) (by kernel_rfl) (by kernel_rfl) ti60 (by decide) rfl (nle rfl) rfl, rot (by kernel_rfl), rot (by kernel_rfl), trivial⟩, rfl⟩ (NLt.tup _ (nlc (NLt.agg _ (nlc nll (nlc nll (nlc nll (nlc nll nl0))))) (nlc nll (nlc nll nl0))))
    ·replace h := Qaw hc9 h
     refine wfn hc9 (by kernel_rfl) ?_
     refine Qao ?_
     refine thn ?_
     refine wsq ?_
     refine wx tbk [] trivial ?_
     rcases bft ((decide (x8.1.Gas > p2))) with hc10 | hc10
     ·replace h := Qav hc10 h
      refine wft hc10 (by kernel_rfl) ?_
      refine wx tbk [(0, rp [] Qri)] ⟨Qaj (vs := []) rfl ts60 tz60 rfl (by rfl) rfl, trivial⟩ ?_
      refine Qab ?_
      refine Qau ?_
      obtain rfl := osi h
      exact fend ⟨[Qri, I 0, I 11], ⟨Qbv (n := 2) (m := 4) (j := 0) (i := 0) (xs := [[I 0, I 0, I 0, I 0]]) (by kernel_rfl) (by kernel_rfl) ti60 (by decide) rfl (nle rfl) rfl, rot (by kernel_rfl), rot (by kernel_rfl), trivial⟩, rfl⟩ (NLt.tup _ (nlc (NLt.agg _ (nlc nll (nlc nll (nlc nll (nlc nll nl0))))) (nlc nll (nlc nll nl0))))
     ·replace h := Qaw hc10 h
      refine wfn hc10 (by kernel_rfl) ?_
      refine Qao ?_
      refine thn ?_
      refine wx tbk [] trivial ?_
      refine wx tbk [] trivial ?_
      refine Qab ?_
      obtain rfl := osi h
      exact fend ⟨[(.agg [I x8.1.Mass, I x8.1.Heat, I x8.1.Silica, I 0]), I x8.1.Gas, I 0], ⟨Qbv (n := 2) (m := 4) (j := 0) (i := 0) (xs := [[I x8.1.Mass, I x8.1.Heat, I x8.1.Silica, I 0]]) (by kernel_rfl) (by kernel_rfl) ti60 (by decide) rfl (nle rfl) rfl, rot (by kernel_rfl), rot (by kernel_rfl), trivial⟩, rfl⟩ (NLt.tup _ (nlc (NLt.agg _ (nlc nll (nlc nll (nlc nll (nlc nll nl0))))) (nlc nll (nlc nll nl0))))
end Go.Proofs.Ytlhakkkjgdbdpaa
