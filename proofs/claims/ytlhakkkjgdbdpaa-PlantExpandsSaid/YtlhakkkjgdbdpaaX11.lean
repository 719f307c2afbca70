/-
  Functions of the program: what they compute, as plain functions, and that they do. No conditions.
-/
import Derived.Test.YtlhakkkjgdbdpaaX9
namespace Go.Proofs.Ytlhakkkjgdbdpaa
open Go.RowKit

def Qg8 (N : Nat) (p0 : GUnit) (p1 : GStream) : Option (GStream × Int × Int) :=
  Qc5 (fun _ =>
    (Qd3 N p0 p1.Mass).bind fun x3 =>
    bif (decide (p1.Heat < x3)) then
     some ((⟨0, 0, 0, 0⟩ : GStream), 0, 9)
    else
     some ((⟨p1.Mass, w64 (p1.Heat - x3), p1.Silica, p1.Gas⟩ : GStream), x3, 0)) fun k1 : Unit → Option (GStream × Int × Int) =>
  (Qd2 N p0).bind fun x6 =>
  bif (!x6) then
   some ((⟨0, 0, 0, 0⟩ : GStream), 0, 1)
  else
   (Qey N ([p1])).bind fun x9 =>
   bif (!x9) then
    some ((⟨0, 0, 0, 0⟩ : GStream), 0, 1)
   else
    (Qdx N p0).bind fun x12 =>
    bif (decide (p1.Mass > x12)) then
     some ((⟨0, 0, 0, 0⟩ : GStream), 0, 2)
    else
     k1 ()
def Qi4 (p0 : GUnit) : AV := .dat 2 ((p0.Parts : List GPart).map Qap)
def z89_2 (p1 : GStream) : AV := .agg [(I (p1.Mass)), (I (p1.Heat)), (I (p1.Silica)), (I (p1.Gas))]
def z89_1 (p1 : GStream) : Slot := .own 4 [[(I (p1.Mass)), (I (p1.Heat)), (I (p1.Silica)), (I (p1.Gas))]]
def z89_3 : Slot := .own 4 [[(I (0)), (I (0)), (I (0)), (I (0))]]
def z89_5 (p1 : GStream) (x3 : Int) : Slot := .own 4 [[(I (p1.Mass)), (I (w64 (p1.Heat - x3))), (I (p1.Silica)), (I (p1.Gas))]]
def z89_6 (p1 : GStream) (x3 : Int) : AV := .agg [(I (p1.Mass)), (I (w64 (p1.Heat - x3))), (I (p1.Silica)), (I (p1.Gas))]
def z89_4 (p1 : GStream) : AV := .dat 4 (([p1] : List GStream).map Qad)
set_option maxRecDepth 100000 in
set_option maxHeartbeats 4000000 in
theorem plant_ExpandX_ok (N : Nat) (p0 : GUnit) (p1 : GStream) (r : (GStream × Int × Int)) (h : Qg8 N p0 p1 = some r) : Spec Try.prog 57 [(.agg (Qat p0)), (.agg (Qad p1))] [] (.tup [(.agg (Qad r.1)), (I r.2.1), (I r.2.2)]) [] := by
  refine Qae Try.func57 rfl 0 (nle rfl) (fun X φ0 w0 hφ0 => ?_)
  unfold Qg8 at h
  refine wrg [⟨[(.tmp 0, (.agg [I p0.Inlet, (Qi4 p0)]))], [(0, .unused)], .ref 0 2 0 0, [(0, (.own 2 [[I p0.Inlet, (Qi4 p0)]]))], false⟩, ⟨[(.tmp 1, (z89_2 p1))], [(1, .unused)], .ref 1 4 0 0, [(1, (z89_1 p1))], false⟩, ⟨[], [(2, .unused)], .ref 2 4 0 0, [(2, z89_3)], false⟩, mc (.int .i64 0), mc (.int .i64 0)] ?_ ?_
  ·exact ⟨Qa0 rfl (by rfl) rfl rfl, Qa0 rfl (by rfl) rfl rfl, Qa5 rfl tz60 rfl, aas rfl, aas rfl, trivial⟩
  obtain ⟨k1, hk_k1, h⟩ := jko h
  refine wjn (τ := Unit) (fun t => k1 t = some r) (fun _ => ⟨mk 41 [(2, .ref 0 2 0 0), (3, .ref 1 4 0 0), (4, .ref 2 4 0 0)], [(.own 2 [[I p0.Inlet, (Qi4 p0)]]), (z89_1 p1), z89_3]⟩) (fun t h => ?_) ?_
  ·subst hk_k1
   obtain ⟨x3, hf2, h⟩ := bno h
   refine wrg [rb [(.tmp 2, .ref 0 2 0 0)] [(0, (.own 2 [[I p0.Inlet, (Qi4 p0)]]))] (.agg [I p0.Inlet, (Qi4 p0)]), rb [(.tmp 3, .ref 1 4 0 0)] [(1, (z89_1 p1))] (.ref 1 4 0 0), rb [(.tmp 26, .ref 1 4 0 0)] [(1, (z89_1 p1))] (I p1.Mass), rp [fu 67, (.tmp 25, (.agg [I p0.Inlet, (Qi4 p0)])), (.tmp 27, I p1.Mass)] (I x3), mv 28 (I x3)] ?_ ?_
   ·exact ⟨ald rfl ti34 (by decide) rfl (nle rfl) rfl, afa rfl Try.underlying60 rfl rfl ti3 (by decide) rfl, ald rfl ti3 (by decide) rfl (nle rfl) rfl, apc (first := []) (cap := []) (vs := [(.agg [I p0.Inlet, (Qi4 p0)]), I p1.Mass]) rfl enter67 (Qgc N p0 p1.Mass _ hf2) rfl rfl (nlc (NLt.agg _ (nlc nll (nlc (nld Qa8 _) nl0))) (nlc nll nl0)) nll rfl, aas rfl, trivial⟩
   refine wsq ?_
   refine wrg [rb [(.tmp 3, .ref 1 4 0 0)] [(1, (z89_1 p1))] (.ref 1 4 0 1), rb [(.tmp 29, .ref 1 4 0 1)] [(1, (z89_1 p1))] (I p1.Heat), mv 5 (I x3), rp [(.tmp 30, I p1.Heat), (.tmp 31, I x3)] (B ((decide (p1.Heat < x3))))] ?_ ?_
   ·exact ⟨afa rfl Try.underlying60 rfl rfl ti3 (by decide) rfl, ald rfl ti3 (by decide) rfl (nle rfl) rfl, amv rfl, abn rfl rfl, trivial⟩
   rcases bft ((decide (p1.Heat < x3))) with hc4 | hc4
   ·replace h := Qa2 hc4 h
    refine wft hc4 (by kernel_rfl) ?_
    refine wrg [rp [] (.agg [I 0, I 0, I 0, I 0]), ⟨[(.tmp 4, .ref 2 4 0 0), (.tmp 33, (.agg [I 0, I 0, I 0, I 0]))], [(2, z89_3)], .any, [(2, z89_3)], false⟩, mc (.int .i64 0), mc (.int .i64 9)] ?_ ?_
    ·exact ⟨Qau (vs := []) rfl ts60 tz60 rfl (by rfl) rfl, ast rfl ti60 (by rfl) rfl (nle rfl) rfl, aas rfl, aas rfl, trivial⟩
    refine Qaf ?_
    refine Qa7 ?_
    obtain rfl := osi h
    exact ⟨⟨[(.agg [I 0, I 0, I 0, I 0]), I 0, I 9], ⟨Qbo (n := 2) (m := 4) (j := 0) (i := 0) (xs := [[I 0, I 0, I 0, I 0]]) (by kernel_rfl) (by kernel_rfl) ti60 (by decide) rfl (nle rfl) rfl, rot (by kernel_rfl), rot (by kernel_rfl), trivial⟩, rfl⟩, (NLt.tup _ (nlc (NLt.agg _ (nlc nll (nlc nll (nlc nll (nlc nll nl0))))) (nlc nll (nlc nll nl0)))), Nat.le_refl _, fun n hn => absurd hn (Nat.not_lt_zero n)⟩
   ·replace h := Qa3 hc4 h
    refine wfn hc4 (by kernel_rfl) ?_
    refine Qao ?_
    refine thn ?_
    refine wrg [rb [(.tmp 3, .ref 1 4 0 0)] [(1, (z89_1 p1))] (.ref 1 4 0 1), rb [(.tmp 34, .ref 1 4 0 1)] [(1, (z89_1 p1))] (I p1.Heat), mv 5 (I x3), rp [(.tmp 35, I p1.Heat), (.tmp 36, I x3)] (I (w64 (p1.Heat - x3))), rb [(.tmp 3, .ref 1 4 0 0)] [(1, (z89_1 p1))] (.ref 1 4 0 1), ⟨[(.tmp 38, .ref 1 4 0 1), (.tmp 37, (I (w64 (p1.Heat - x3))))], [(1, (z89_1 p1))], .any, [(1, (z89_5 p1 x3))], false⟩] ?_ ?_
    ·exact ⟨afa rfl Try.underlying60 rfl rfl ti3 (by decide) rfl, ald rfl ti3 (by decide) rfl (nle rfl) rfl, amv rfl, abn rfl rfl, afa rfl Try.underlying60 rfl rfl ti3 (by decide) rfl, ast rfl ti3 (by rfl) rfl (nle rfl) rfl, trivial⟩
    refine wrg [rb [(.tmp 3, .ref 1 4 0 0)] [(1, (z89_5 p1 x3))] (z89_6 p1 x3), mv 5 (I x3), ⟨[(.tmp 4, .ref 2 4 0 0), (.tmp 39, (z89_6 p1 x3))], [(2, z89_3)], .any, [(2, (z89_5 p1 x3))], false⟩, mv 40 (I x3), mc (.int .i64 0)] ?_ ?_
    ·exact ⟨ald rfl ti60 (by decide) rfl (nle rfl) rfl, amv rfl, ast rfl ti60 (by rfl) rfl (nle rfl) rfl, aas rfl, aas rfl, trivial⟩
    refine Qaf ?_
    obtain rfl := osi h
    exact ⟨⟨[(z89_6 p1 x3), I x3, I 0], ⟨Qbo (n := 2) (m := 4) (j := 0) (i := 0) (xs := [[I p1.Mass, (I (w64 (p1.Heat - x3))), I p1.Silica, I p1.Gas]]) (by kernel_rfl) (by kernel_rfl) ti60 (by decide) rfl (nle rfl) rfl, rot (by kernel_rfl), rot (by kernel_rfl), trivial⟩, rfl⟩, (NLt.tup _ (nlc (NLt.agg _ (nlc nll (nlc nll (nlc nll (nlc nll nl0))))) (nlc nll (nlc nll nl0)))), Nat.le_refl _, fun n hn => absurd hn (Nat.not_lt_zero n)⟩
  ·skip
   refine Qal ?_
   obtain ⟨x6, hf5, h⟩ := bno h
   rcases bft ((!x6)) with hb7 | hb7
   ·replace h := Qa2 hb7 h
    refine wrg [rb [(.tmp 2, .ref 0 2 0 0)] [(0, (.own 2 [[I p0.Inlet, (Qi4 p0)]]))] (.agg [I p0.Inlet, (Qi4 p0)]), rp [fu 64, (.tmp 8, (.agg [I p0.Inlet, (Qi4 p0)]))] (B x6), rp [(.tmp 9, B x6)] (B ((!x6))), rp [(.tmp 10, (B ((!x6))))] (B true), sk 11 (B true), sk 11 (B true), sk 11 (B true), sk 11 (B true), rp [(.tmp 11, B true), cb true, (.tmp 15, (.lit undef))] (B true), mv 16 (B true)] ?_ ?_
    ·exact ⟨ald rfl ti34 (by decide) rfl (nle rfl) rfl, apc (first := []) (cap := []) (vs := [(.agg [I p0.Inlet, (Qi4 p0)])]) rfl enter64 (Qee N p0 _ hf5) rfl rfl (nlc (NLt.agg _ (nlc nll (nlc (nld Qa8 _) nl0))) nl0) nll rfl, Qa6 rfl, asb hb7 (amv rfl), trivial, trivial, trivial, trivial, apk rfl rfl, aas rfl, trivial⟩
    refine Qeq (by kernel_rfl) ?_
    refine wrg [rp [] (.agg [I 0, I 0, I 0, I 0]), ⟨[(.tmp 4, .ref 2 4 0 0), (.tmp 17, (.agg [I 0, I 0, I 0, I 0]))], [(2, z89_3)], .any, [(2, z89_3)], false⟩, mc (.int .i64 0), mc (.int .i64 1)] ?_ ?_
    ·exact ⟨Qau (vs := []) rfl ts60 tz60 rfl (by rfl) rfl, ast rfl ti60 (by rfl) rfl (nle rfl) rfl, aas rfl, aas rfl, trivial⟩
    refine Qaf ?_
    refine Qcp ?_
    refine Qa7 ?_
    obtain rfl := osi h
    exact ⟨⟨[(.agg [I 0, I 0, I 0, I 0]), I 0, I 1], ⟨Qbo (n := 2) (m := 4) (j := 0) (i := 0) (xs := [[I 0, I 0, I 0, I 0]]) (by kernel_rfl) (by kernel_rfl) ti60 (by decide) rfl (nle rfl) rfl, rot (by kernel_rfl), rot (by kernel_rfl), trivial⟩, rfl⟩, (NLt.tup _ (nlc (NLt.agg _ (nlc nll (nlc nll (nlc nll (nlc nll nl0))))) (nlc nll (nlc nll nl0)))), Nat.le_refl _, fun n hn => absurd hn (Nat.not_lt_zero n)⟩
   ·replace h := Qa3 hb7 h
    obtain ⟨x9, hf8, h⟩ := bno h
    refine wrg [rb [(.tmp 2, .ref 0 2 0 0)] [(0, (.own 2 [[I p0.Inlet, (Qi4 p0)]]))] (.agg [I p0.Inlet, (Qi4 p0)]), rp [fu 64, (.tmp 8, (.agg [I p0.Inlet, (Qi4 p0)]))] (B x6), rp [(.tmp 9, B x6)] (B ((!x6))), rp [(.tmp 10, (B ((!x6))))] (B false), rb [(.tmp 11, B false), (.tmp 3, .ref 1 4 0 0)] [(1, (z89_1 p1))] (z89_2 p1), rp [(.tmp 11, B false), (.tmp 12, (z89_2 p1))] (z89_4 p1), rp [(.tmp 11, B false), fu 74, (.tmp 13, (z89_4 p1))] (B x9), rp [(.tmp 11, B false), (.tmp 14, B x9)] (B ((!x9))), rp [(.tmp 11, B false), cb true, (.tmp 15, (B ((!x9))))] (B ((!x9))), mv 16 (B ((!x9)))] ?_ ?_
    ·exact ⟨ald rfl ti34 (by decide) rfl (nle rfl) rfl, apc (first := []) (cap := []) (vs := [(.agg [I p0.Inlet, (Qi4 p0)])]) rfl enter64 (Qee N p0 _ hf5) rfl rfl (nlc (NLt.agg _ (nlc nll (nlc (nld Qa8 _) nl0))) nl0) nll rfl, Qa6 rfl, asb hb7 (amv rfl), ag_ (ald rfl ti60 (by decide) rfl (nle rfl) rfl), ag_ (Qcr (vs := [(z89_2 p1)]) rfl Try.underlying143 ti60 tz60 rfl (by decide) rfl (by decide) (by rfl) (by rfl) (by rfl) rfl), ag_ (apc (first := []) (cap := []) (vs := [(z89_4 p1)]) rfl enter74 (Qin N ([p1]) _ hf8) rfl rfl (nlc (nld Qc0 _) nl0) nll rfl), ag_ (Qa6 rfl), apk rfl rfl, aas rfl, trivial⟩
    rcases bft ((!x9)) with hc10 | hc10
    ·replace h := Qa2 hc10 h
     refine wft hc10 (by kernel_rfl) ?_
     refine wrg [rp [] (.agg [I 0, I 0, I 0, I 0]), ⟨[(.tmp 4, .ref 2 4 0 0), (.tmp 17, (.agg [I 0, I 0, I 0, I 0]))], [(2, z89_3)], .any, [(2, z89_3)], false⟩, mc (.int .i64 0), mc (.int .i64 1)] ?_ ?_
     ·exact ⟨Qau (vs := []) rfl ts60 tz60 rfl (by rfl) rfl, ast rfl ti60 (by rfl) rfl (nle rfl) rfl, aas rfl, aas rfl, trivial⟩
     refine Qaf ?_
     refine Qcp ?_
     refine Qa7 ?_
     obtain rfl := osi h
     exact ⟨⟨[(.agg [I 0, I 0, I 0, I 0]), I 0, I 1], ⟨Qbo (n := 2) (m := 4) (j := 0) (i := 0) (xs := [[I 0, I 0, I 0, I 0]]) (by kernel_rfl) (by kernel_rfl) ti60 (by decide) rfl (nle rfl) rfl, rot (by kernel_rfl), rot (by kernel_rfl), trivial⟩, rfl⟩, (NLt.tup _ (nlc (NLt.agg _ (nlc nll (nlc nll (nlc nll (nlc nll nl0))))) (nlc nll (nlc nll nl0)))), Nat.le_refl _, fun n hn => absurd hn (Nat.not_lt_zero n)⟩
    ·replace h := Qa3 hc10 h
     refine wfn hc10 (by kernel_rfl) ?_
     obtain ⟨x12, hf11, h⟩ := bno h
     refine Qcq [rb [(.tmp 3, .ref 1 4 0 0)] [(1, (z89_1 p1))] (.ref 1 4 0 0), rb [(.tmp 19, .ref 1 4 0 0)] [(1, (z89_1 p1))] (I p1.Mass), rb [(.tmp 2, .ref 0 2 0 0)] [(0, (.own 2 [[I p0.Inlet, (Qi4 p0)]]))] (.agg [I p0.Inlet, (Qi4 p0)]), rp [fu 66, (.tmp 21, (.agg [I p0.Inlet, (Qi4 p0)]))] (I x12), rp [(.tmp 20, I p1.Mass), (.tmp 22, I x12)] (B ((decide (p1.Mass > x12)))), mv 23 (B ((decide (p1.Mass > x12))))] ?_ ?_
     ·exact ⟨afa rfl Try.underlying60 rfl rfl ti3 (by decide) rfl, ald rfl ti3 (by decide) rfl (nle rfl) rfl, ald rfl ti34 (by decide) rfl (nle rfl) rfl, apc (first := []) (cap := []) (vs := [(.agg [I p0.Inlet, (Qi4 p0)])]) rfl enter66 (Qg5 N p0 _ hf11) rfl rfl (nlc (NLt.agg _ (nlc nll (nlc (nld Qa8 _) nl0))) nl0) nll rfl, abn rfl rfl, aas rfl, trivial⟩
     rcases bft ((decide (p1.Mass > x12))) with hc13 | hc13
     ·replace h := Qa2 hc13 h
      refine wft hc13 (by kernel_rfl) ?_
      refine wrg [rp [] (.agg [I 0, I 0, I 0, I 0]), ⟨[(.tmp 4, .ref 2 4 0 0), (.tmp 24, (.agg [I 0, I 0, I 0, I 0]))], [(2, z89_3)], .any, [(2, z89_3)], false⟩, mc (.int .i64 0), mc (.int .i64 2)] ?_ ?_
      ·exact ⟨Qau (vs := []) rfl ts60 tz60 rfl (by rfl) rfl, ast rfl ti60 (by rfl) rfl (nle rfl) rfl, aas rfl, aas rfl, trivial⟩
      refine Qaf ?_
      refine Qcp ?_
      refine Qa7 ?_
      obtain rfl := osi h
      exact ⟨⟨[(.agg [I 0, I 0, I 0, I 0]), I 0, I 2], ⟨Qbo (n := 2) (m := 4) (j := 0) (i := 0) (xs := [[I 0, I 0, I 0, I 0]]) (by kernel_rfl) (by kernel_rfl) ti60 (by decide) rfl (nle rfl) rfl, rot (by kernel_rfl), rot (by kernel_rfl), trivial⟩, rfl⟩, (NLt.tup _ (nlc (NLt.agg _ (nlc nll (nlc nll (nlc nll (nlc nll nl0))))) (nlc nll (nlc nll nl0)))), Nat.le_refl _, fun n hn => absurd hn (Nat.not_lt_zero n)⟩
     ·replace h := Qa3 hc13 h
      refine wfn hc13 (by kernel_rfl) ?_
      refine Qao ?_
      refine bln ?_
      refine thn ?_
      exact ⟨(), h, (mto (n := 41) [(2, .ref 0 2 0 0), (3, .ref 1 4 0 0), (4, .ref 2 4 0 0)] [0, 1, 2] [(.own 2 [[I p0.Inlet, (Qi4 p0)]]), (z89_1 p1), z89_3] hφ0 (pc (.rn (rqr rfl)) (pc (.rn (rqr rfl)) (pc (.rn (rqr rfl)) pn))) (qc (spb (lc rwl (lc (.rn (.plain _ (nld Qa8 _))) ln))) (qc (spb (lc rwl (lc rwl (lc rwl (lc rwl ln))))) (qc (spb (lc rwl (lc rwl (lc rwl (lc rwl ln))))) qn))))⟩

def Qdt (N : Nat) (p0 : GStream) : Option Bool :=
  (Qd0 N p0).bind fun x3 =>
  some (!x3)
def z96_1 (p0 : GStream) : AV := .agg [(I (p0.Mass)), (I (p0.Heat)), (I (p0.Silica)), (I (p0.Gas))]
def z96_0 (p0 : GStream) : Slot := .own 4 [[(I (p0.Mass)), (I (p0.Heat)), (I (p0.Silica)), (I (p0.Gas))]]
set_option maxRecDepth 100000 in
set_option maxHeartbeats 4000000 in
theorem Qhn (N : Nat) (p0 : GStream) (r : Bool) (h : Qdt N p0 = some r) : Spec Try.prog 134 [(z96_1 p0), (.ref 0 1 (0) 0)] [(.own 1 [[(.fn (.func 120) [] [])]])] (B (r)) [(.own 1 [[(.fn (.func 120) [] [])]])] := by
  refine Qae Try.func134 rfl 1 (nle rfl) (fun X φ0 w0 hφ0 => ?_)
  unfold Qdt at h
  refine Qbv ?_
  refine wrg [⟨[(.tmp 0, (z96_1 p0))], [(1, .unused)], .ref 1 4 0 0, [(1, (z96_0 p0))], false⟩, mc (.bool false)] ?_ ?_
  ·exact ⟨Qa0 rfl (by rfl) rfl rfl, aas rfl, trivial⟩
  obtain ⟨x3, hf2, h⟩ := bno h
  refine wrg [rb [(.tmp 1, .ref 0 1 0 0)] [(0, (.own 1 [[(.fn (.func 120) [] [])]]))] (.fn (.func 120) [] []), rb [(.tmp 2, .ref 1 4 0 0)] [(1, (z96_0 p0))] (z96_1 p0), rp [(.tmp 4, (.fn (.func 120) [] [])), (.tmp 5, (z96_1 p0))] (B x3), rp [(.tmp 6, B x3)] (B ((!x3))), mv 7 (B ((!x3)))] ?_ ?_
  ·exact ⟨ald rfl ti155 (by decide) rfl (nle rfl) rfl, ald rfl ti60 (by decide) rfl (nle rfl) rfl, apc (first := []) (cap := []) (vs := [(z96_1 p0)]) rfl enter120 (Qhc N p0 _ hf2) rfl rfl (nlc (NLt.agg _ (nlc nll (nlc nll (nlc nll (nlc nll nl0))))) nl0) nll rfl, Qa6 rfl, aas rfl, trivial⟩
  refine wmr (mto (n := 8) (l' := [(3, (B ((!x3))))]) (own' := [(.own 1 [[(.fn (.func 120) [] [])]])]) [(3, (B ((!x3))))] [0] [(.own 1 [[(.fn (.func 120) [] [])]])] hφ0 (pc rwl pn) (qc (spb (lc (.rn (Qaq rn0 rn0)) ln)) qn)) ?_
  refine Qaf ?_
  obtain rfl := osi h
  exact ⟨_, Mor.rfl, Qcd (vs := [(B ((!x3)))]) ⟨rot (by kernel_rfl), trivial⟩ rfl (NLt.of0 nll) (by kernel_rfl) (Qai (Qaz (nlc (NLt.of0 (NLt.fn _ _ _ nl0 nl0)) nl0)) Qbm)⟩

def Qa4 (N : Nat) (p0 : (List GStream)) (k2 : Unit → Option Int) : Nat → Int → Option Int
  | 0, _ => none
  | n5 + 1, y3 =>
    bif (decide (y3 < (p0.length : Int))) then
     (getI p0 y3).bind fun x7 =>
     (Qdt N x7).bind fun x12 =>
     bif x12 then
      some y3
     else
      Qa4 N p0 k2 n5 (w64 (y3 + 1))
    else
     k2 ()
def Qb4 (N : Nat) (p0 : (List GStream)) : Option Int :=
  Qc5 (fun _ =>
    some (-1)) fun k2 : Unit → Option Int =>
  Qa4 N p0 k2 N 0
def z95_5 (x7 : GStream) : AV := .agg [(I (x7.Mass)), (I (x7.Heat)), (I (x7.Silica)), (I (x7.Gas))]
set_option maxRecDepth 100000 in
set_option maxHeartbeats 4000000 in
theorem Qev (N : Nat) (p0 : (List GStream)) (r : Int) (h : Qb4 N p0 = some r) : Spec Try.prog 130 [(.dat 4 ((p0 : List GStream).map Qad)), (.fn (.func 134) [] [(.ref 0 1 (0) 0)])] [(.own 1 [[(.fn (.func 120) [] [])]])] (I (r)) [(.own 1 [[(.fn (.func 120) [] [])]])] := by
  refine Qae Try.func130 rfl 1 (nle rfl) (fun X φ0 w0 hφ0 => ?_)
  unfold Qb4 at h
  refine Qbv ?_
  refine wrg [mc (.int .i64 0)] ?_ ?_
  ·exact ⟨aas rfl, trivial⟩
  obtain ⟨k2, hk_k2, h⟩ := jko h
  refine wjn (τ := Unit) (fun t => k2 t = some r) (fun _ => ⟨mk 19 [], [(.own 1 [[(.fn (.func 120) [] [])]])]⟩) (fun t h => ?_) ?_
  ·subst hk_k2
   refine wrg [mc (.int .i64 (-1))] ?_ ?_
   ·exact ⟨aas rfl, trivial⟩
   refine wmr (mto (n := 19) (l' := [(4, (I ((-1))))]) (own' := [(.own 1 [[(.fn (.func 120) [] [])]])]) [(4, (I ((-1))))] [0] [(.own 1 [[(.fn (.func 120) [] [])]])] hφ0 (pc rwl pn) (qc (spb (lc (.rn (Qaq rn0 rn0)) ln)) qn)) ?_
   refine Qaf ?_
   obtain rfl := osi h
   exact ⟨_, Mor.rfl, Qcd (vs := [(I ((-1)))]) ⟨rot (by kernel_rfl), trivial⟩ rfl (NLt.of0 nll) (by kernel_rfl) (Qai (Qaz (nlc (NLt.of0 (NLt.fn _ _ _ nl0 nl0)) nl0)) Qbm)⟩
  ·skip
   refine wrg [mv 0 (.dat 4 ((p0 : List GStream).map Qad)), rp [(.tmp 6, (.dat 4 ((p0 : List GStream).map Qad)))] (I ((p0.length : Int))), mc (.int .i64 0)] ?_ ?_
   ·exact ⟨amv rfl, alm (c := Qad) (l := p0) (aln rfl Try.underlying143 rfl), amv rfl, trivial⟩
   refine Qal ?_
   refine wmr (mto (n := 19) (l' := [(0, (.dat 4 ((p0 : List GStream).map Qad))), (1, (.fn (.func 134) [] [.ref 0 1 0 0])), (7, (I ((p0.length : Int)))), (8, I 0)]) (own' := [(.own 1 [[(.fn (.func 120) [] [])]])]) [(0, (.dat 4 ((p0 : List GStream).map Qad))), (1, (.fn (.func 134) [] [.ref 0 1 0 0])), (7, (I ((p0.length : Int)))), (8, I 0)] [0] [(.own 1 [[(.fn (.func 120) [] [])]])] hφ0 (pc (.rn (.plain _ (nld Qc0 _))) (pc (.rn (Qaq rn0 (rnc (rqr rfl) rn0))) (pc rwl (pc rwl pn)))) (qc (spb (lc (.rn (Qaq rn0 rn0)) ln)) qn)) ?_
   refine Qci (τ := Int) (fun n t => Qa4 N p0 k2 n t = some r) (fun y3 => ⟨mk 19 [(0, (.dat 4 ((p0 : List GStream).map Qad))), (1, (.fn (.func 134) [] [.ref 0 1 0 0])), (7, (I ((p0.length : Int)))), (8, I y3)], [(.own 1 [[(.fn (.func 120) [] [])]])]⟩) (fun t h => by rw [Qa4] at h; cases h) (fun n5 ih y3 h => ?_) N (0) h
   rw [Qa4] at h
   skip
   refine wrg [rp [(.tmp 8, I y3), (.tmp 7, (I ((p0.length : Int))))] (B ((decide (y3 < (p0.length : Int)))))] ?_ ?_
   ·exact ⟨abn rfl rfl, trivial⟩
   refine wsq ?_
   rcases bft ((decide (y3 < (p0.length : Int)))) with hc6 | hc6
   ·replace h := Qa2 hc6 h
    refine wft hc6 (by kernel_rfl) ?_
    refine Qao ?_
    refine thn ?_
    refine wsq ?_
    refine Qal ?_
    refine wrg [mv 8 (I y3), mv 10 (I y3)] ?_ ?_
    ·exact ⟨amv rfl, aas rfl, trivial⟩
    obtain ⟨x7, hg8, h⟩ := bno h
    obtain ⟨hi9, hj10⟩ := gsm hg8
    obtain ⟨x12, hf11, h⟩ := bno h
    refine wrg [mv 1 (.fn (.func 134) [] [.ref 0 1 0 0]), mv 0 (.dat 4 ((p0 : List GStream).map Qad)), mv 5 (I y3), rp [(.tmp 12, (.dat 4 ((p0 : List GStream).map Qad))), (.tmp 13, I y3)] (.dptr (Qad (x7)) 0), rp [(.tmp 14, (.dptr (Qad (x7)) 0))] (z95_5 x7), ⟨[(.tmp 11, (.fn (.func 134) [] [.ref 0 1 0 0])), (.tmp 15, (z95_5 x7))], [(0, (.own 1 [[(.fn (.func 120) [] [])]]))], B x12, [(0, (.own 1 [[(.fn (.func 120) [] [])]]))], false⟩] ?_ ?_
    ·exact ⟨amv rfl, amv rfl, amv rfl, aid rfl Try.underlying143 ti60 rfl rfl hi9 (mgt Qad hj10) rfl, ald_ rfl ti60 (by decide) (nle rfl) rfl, Qan (first := []) (cap := [.ref 0 1 0 0]) (vs := [(z95_5 x7)]) (σr := [(.own 1 [[(.fn (.func 120) [] [])]])]) (σr' := [(.own 1 [[(.fn (.func 120) [] [])]])]) (res' := (B x12)) [0] rfl enter134 (Qhn N x7 _ hf11) rfl (Qb0 (rnc (.plain _ (NLt.agg _ (nlc nll (nlc nll (nlc nll (nlc nll nl0)))))) (rnc (Qa9 rfl) rn0))) (slc (Qak (rnc (.plain _ (NLt.fn _ _ _ nl0 nl0)) rn0)) Qam) (slc (Qak (rnc (.plain _ (NLt.fn _ _ _ nl0 nl0)) rn0)) Qam) (.plain _ nll) rfl rfl rfl, trivial⟩
    rcases bft (x12) with hc13 | hc13
    ·replace h := Qa2 hc13 h
     refine wft hc13 (by kernel_rfl) ?_
     refine wrg [mv 5 (I y3), mv 17 (I y3)] ?_ ?_
     ·exact ⟨amv rfl, aas rfl, trivial⟩
     refine wmr (mto (n := 19) (l' := [(4, I y3)]) (own' := [(.own 1 [[(.fn (.func 120) [] [])]])]) [(4, I y3)] [0] [(.own 1 [[(.fn (.func 120) [] [])]])] hφ0 (pc rwl pn) (qc (spb (lc (.rn (Qaq rn0 rn0)) ln)) qn)) ?_
     refine Qaf ?_
     refine Qcp ?_
     refine Qa7 ?_
     refine Qa7 ?_
     refine Qcp ?_
     refine Qa7 ?_
     obtain rfl := osi h
     exact ⟨_, Mor.rfl, Qcd (vs := [I y3]) ⟨rot (by kernel_rfl), trivial⟩ rfl (NLt.of0 nll) (by kernel_rfl) (Qai (Qaz (nlc (NLt.of0 (NLt.fn _ _ _ nl0 nl0)) nl0)) Qbm)⟩
    ·replace h := Qa3 hc13 h
     refine wfn hc13 (by kernel_rfl) ?_
     refine Qao ?_
     refine bln ?_
     refine thn ?_
     refine Qar [rp [(.tmp 8, I y3), ci 1] (I (w64 (y3 + 1))), mv 18 (I (w64 (y3 + 1)))] ?_ ?_
     ·exact ⟨abn rfl rfl, amv rfl, trivial⟩
     refine thn ?_
     exact arm (mto (n := 19) [(0, (.dat 4 ((p0 : List GStream).map Qad))), (1, (.fn (.func 134) [] [.ref 0 1 0 0])), (7, (I ((p0.length : Int)))), (8, (I (w64 (y3 + 1))))] [0] [(.own 1 [[(.fn (.func 120) [] [])]])] hφ0 (pc (.rn (.plain _ (nld Qc0 _))) (pc (.rn (Qaq rn0 (rnc (rqr rfl) rn0))) (pc rwl (pc rwl pn)))) (qc (spb (lc (.rn (Qaq rn0 rn0)) ln)) qn)) (ih (w64 (y3 + 1)) h)
   ·replace h := Qa3 hc6 h
    refine wfn hc6 (by kernel_rfl) ?_
    refine Qbq ?_
    refine Qaw ?_
    refine Qaw ?_
    refine Qbp rfl ?_
    refine thn ?_
    exact ⟨(), h, (mto (n := 19) [] [0] [(.own 1 [[(.fn (.func 120) [] [])]])] hφ0 pn (qc (spb (lc (.rn (Qaq rn0 rn0)) ln)) qn))⟩

def Qbz (N : Nat) (p0 : (List GStream)) : Option Bool :=
  (Qb4 N p0).bind fun x3 =>
  some (decide (x3 ≥ 0))
set_option maxRecDepth 100000 in
set_option maxHeartbeats 4000000 in
theorem Qel (N : Nat) (p0 : (List GStream)) (r : Bool) (h : Qbz N p0 = some r) : Spec Try.prog 118 [(.dat 4 ((p0 : List GStream).map Qad)), (.fn (.func 134) [] [(.ref 0 1 (0) 0)])] [(.own 1 [[(.fn (.func 120) [] [])]])] (B (r)) [(.own 1 [[(.fn (.func 120) [] [])]])] := by
  refine Qae Try.func118 rfl 1 (nle rfl) (fun X φ0 w0 hφ0 => ?_)
  unfold Qbz at h
  refine Qbv ?_
  refine wrg [mc (.bool false)] ?_ ?_
  ·exact ⟨aas rfl, trivial⟩
  obtain ⟨x3, hf2, h⟩ := bno h
  refine wrg [mv 0 (.dat 4 ((p0 : List GStream).map Qad)), mv 1 (.fn (.func 134) [] [.ref 0 1 0 0]), ⟨[fu 130, (.tmp 5, (.dat 4 ((p0 : List GStream).map Qad))), (.tmp 6, (.fn (.func 134) [] [.ref 0 1 0 0]))], [(0, (.own 1 [[(.fn (.func 120) [] [])]]))], I x3, [(0, (.own 1 [[(.fn (.func 120) [] [])]]))], false⟩, rp [(.tmp 7, I x3), ci 0] (B ((decide (x3 ≥ 0)))), mv 8 (B ((decide (x3 ≥ 0))))] ?_ ?_
  ·exact ⟨amv rfl, amv rfl, Qan (first := []) (cap := []) (vs := [(.dat 4 ((p0 : List GStream).map Qad)), (.fn (.func 134) [] [.ref 0 1 0 0])]) (σr := [(.own 1 [[(.fn (.func 120) [] [])]])]) (σr' := [(.own 1 [[(.fn (.func 120) [] [])]])]) (res' := (I x3)) [0] rfl enter130 (Qev N p0 _ hf2) rfl (Qb0 (rnc (.plain _ (nld Qc0 _)) (rnc (Qaq rn0 (rnc (Qa9 rfl) rn0)) rn0))) (slc (Qak (rnc (.plain _ (NLt.fn _ _ _ nl0 nl0)) rn0)) Qam) (slc (Qak (rnc (.plain _ (NLt.fn _ _ _ nl0 nl0)) rn0)) Qam) (.plain _ nll) rfl rfl rfl, abn rfl rfl, aas rfl, trivial⟩
  refine wmr (mto (n := 9) (l' := [(4, (B ((decide (x3 ≥ 0)))))]) (own' := [(.own 1 [[(.fn (.func 120) [] [])]])]) [(4, (B ((decide (x3 ≥ 0)))))] [0] [(.own 1 [[(.fn (.func 120) [] [])]])] hφ0 (pc rwl pn) (qc (spb (lc (.rn (Qaq rn0 rn0)) ln)) qn)) ?_
  refine Qaf ?_
  obtain rfl := osi h
  exact ⟨_, Mor.rfl, Qcd (vs := [(B ((decide (x3 ≥ 0))))]) ⟨rot (by kernel_rfl), trivial⟩ rfl (NLt.of0 nll) (by kernel_rfl) (Qai (Qaz (nlc (NLt.of0 (NLt.fn _ _ _ nl0 nl0)) nl0)) Qbm)⟩

def Qd8 (N : Nat) (p0 : (List GStream)) : Option Bool :=
  (Qbz N p0).bind fun x2 =>
  some (!x2)
set_option maxRecDepth 100000 in
set_option maxHeartbeats 4000000 in
theorem Qid (N : Nat) (p0 : (List GStream)) (r : Bool) (h : Qd8 N p0 = some r) : Spec Try.prog 125 [(.dat 4 ((p0 : List GStream).map Qad)), (.fn (.func 120) [] [])] [] (B (r)) [] := by
  refine Qae Try.func125 rfl 0 (nle rfl) (fun X φ0 w0 hφ0 => ?_)
  unfold Qd8 at h
  refine wrg [⟨[(.tmp 1, (.fn (.func 120) [] []))], [(0, .unused)], .ref 0 1 0 0, [(0, (.own 1 [[(.fn (.func 120) [] [])]]))], false⟩, mc (.bool false)] ?_ ?_
  ·exact ⟨Qa0 rfl (by rfl) rfl rfl, aas rfl, trivial⟩
  obtain ⟨x2, hf1, h⟩ := bno h
  refine wrg [mv 0 (.dat 4 ((p0 : List GStream).map Qad)), rp [(.tmp 3, .ref 0 1 0 0)] (.fn (.func 134) [] [.ref 0 1 0 0]), ⟨[fu 118, (.tmp 5, (.dat 4 ((p0 : List GStream).map Qad))), (.tmp 6, (.fn (.func 134) [] [.ref 0 1 0 0]))], [(0, (.own 1 [[(.fn (.func 120) [] [])]]))], B x2, [(0, (.own 1 [[(.fn (.func 120) [] [])]]))], false⟩, rp [(.tmp 7, B x2)] (B ((!x2))), mv 8 (B ((!x2)))] ?_ ?_
  ·exact ⟨amv rfl, Qd5 (fs := []) (cs := [.ref 0 1 0 0]) rfl rfl rfl rfl, Qan (first := []) (cap := []) (vs := [(.dat 4 ((p0 : List GStream).map Qad)), (.fn (.func 134) [] [.ref 0 1 0 0])]) (σr := [(.own 1 [[(.fn (.func 120) [] [])]])]) (σr' := [(.own 1 [[(.fn (.func 120) [] [])]])]) (res' := (B x2)) [0] rfl enter118 (Qel N p0 _ hf1) rfl (Qb0 (rnc (.plain _ (nld Qc0 _)) (rnc (Qaq rn0 (rnc (Qa9 rfl) rn0)) rn0))) (slc (Qak (rnc (.plain _ (NLt.fn _ _ _ nl0 nl0)) rn0)) Qam) (slc (Qak (rnc (.plain _ (NLt.fn _ _ _ nl0 nl0)) rn0)) Qam) (.plain _ nll) rfl rfl rfl, Qa6 rfl, aas rfl, trivial⟩
  refine Qaf ?_
  obtain rfl := osi h
  exact ⟨⟨[(B ((!x2)))], ⟨rot (by kernel_rfl), trivial⟩, rfl⟩, nll, Nat.le_refl _, fun n hn => absurd hn (Nat.not_lt_zero n)⟩

def Qgf (N : Nat) (p0 : (List GStream)) : Option Int :=
  bif (decide ((p0.length : Int) > 40)) then
   some 3
  else
   (Qd8 N p0).bind fun x3 =>
   bif (!x3) then
    some 1
   else
    some 0
set_option maxRecDepth 100000 in
set_option maxHeartbeats 4000000 in
theorem steam_checkedX_ok (N : Nat) (p0 : (List GStream)) (r : Int) (h : Qgf N p0 = some r) : Spec Try.prog 111 [(.dat 4 (p0.map Qad))] [] (I r) [] := by
  refine Qae Try.func111 rfl 0 (nle rfl) (fun X φ0 w0 hφ0 => ?_)
  unfold Qgf at h
  refine wrg [mc (.int .i64 0)] ?_ ?_
  ·exact ⟨aas rfl, trivial⟩
  refine wsq ?_
  refine Qal ?_
  refine wrg [mv 0 (.dat 4 ((p0 : List GStream).map Qad)), rp [(.tmp 4, (.dat 4 ((p0 : List GStream).map Qad)))] (I ((p0.length : Int))), rp [(.tmp 5, (I ((p0.length : Int)))), ci 40] (B ((decide ((p0.length : Int) > 40)))), mv 6 (B ((decide ((p0.length : Int) > 40))))] ?_ ?_
  ·exact ⟨amv rfl, alm (c := Qad) (l := p0) (aln rfl Try.underlying143 rfl), abn rfl rfl, aas rfl, trivial⟩
  rcases bft ((decide ((p0.length : Int) > 40))) with hc1 | hc1
  ·replace h := Qa2 hc1 h
   refine wft hc1 (by kernel_rfl) ?_
   refine wrg [mc (.int .i64 3)] ?_ ?_
   ·exact ⟨aas rfl, trivial⟩
   refine Qaf ?_
   refine Qcp ?_
   refine Qa7 ?_
   obtain rfl := osi h
   exact ⟨⟨[I 3], ⟨rot (by kernel_rfl), trivial⟩, rfl⟩, nll, Nat.le_refl _, fun n hn => absurd hn (Nat.not_lt_zero n)⟩
  ·replace h := Qa3 hc1 h
   refine wfn hc1 (by kernel_rfl) ?_
   obtain ⟨x3, hf2, h⟩ := bno h
   refine wrg [mv 0 (.dat 4 ((p0 : List GStream).map Qad)), rp [fu 125, (.tmp 8, (.dat 4 ((p0 : List GStream).map Qad))), fu 120] (B x3), rp [(.tmp 9, B x3)] (B ((!x3))), mv 10 (B ((!x3)))] ?_ ?_
   ·exact ⟨amv rfl, Qan (first := []) (cap := []) (vs := [(.dat 4 ((p0 : List GStream).map Qad)), (.fn (.func 120) [] [])]) (σr := []) (σr' := []) (res' := (B x3)) [] rfl enter125 (Qid N p0 _ hf2) rfl (Qb0 (rnc (.plain _ (nld Qc0 _)) (rnc (.plain _ (NLt.fn _ _ _ nl0 nl0)) rn0))) Qam Qam (.plain _ nll) rfl rfl rfl, Qa6 rfl, aas rfl, trivial⟩
   rcases bft ((!x3)) with hc4 | hc4
   ·replace h := Qa2 hc4 h
    refine wft hc4 (by kernel_rfl) ?_
    refine wrg [mc (.int .i64 1)] ?_ ?_
    ·exact ⟨aas rfl, trivial⟩
    refine Qaf ?_
    refine Qcp ?_
    refine Qa7 ?_
    obtain rfl := osi h
    exact ⟨⟨[I 1], ⟨rot (by kernel_rfl), trivial⟩, rfl⟩, nll, Nat.le_refl _, fun n hn => absurd hn (Nat.not_lt_zero n)⟩
   ·replace h := Qa3 hc4 h
    refine wfn hc4 (by kernel_rfl) ?_
    refine Qao ?_
    refine bln ?_
    refine thn ?_
    refine wrg [mc (.int .i64 0)] ?_ ?_
    ·exact ⟨aas rfl, trivial⟩
    refine Qaf ?_
    obtain rfl := osi h
    exact ⟨⟨[I 0], ⟨rot (by kernel_rfl), trivial⟩, rfl⟩, nll, Nat.le_refl _, fun n hn => absurd hn (Nat.not_lt_zero n)⟩

def Qck (_N : Nat) (_p0 : Int) (_p1 : Int) (_p2 : Int) (_p3 : Int) : Option Unit :=
  some ()
def z99_1 (p0 : Int) (p1 : Int) (p2 : Int) (p3 : Int) : Slot := .own 4 [[(I (p0)), (I (p1)), (I (p2)), (I (p3))]]
def z99_2 : AV := .agg [(.ref 0 4 (0) 0), (.ref 0 4 (0) 1), (.ref 0 4 (0) 2), (.ref 0 4 (0) 3)]
def z99_3 : Slot := .own 4 [[(.ref 0 4 (0) 0), (.ref 0 4 (0) 1), (.ref 0 4 (0) 2), (.ref 0 4 (0) 3)]]
def z99_0 : Slot := .own 4 [[(.lit (.pointer none)), (.lit (.pointer none)), (.lit (.pointer none)), (.lit (.pointer none))]]
set_option maxRecDepth 100000 in
set_option maxHeartbeats 4000000 in
theorem Qdc (N : Nat) (p0 : Int) (p1 : Int) (p2 : Int) (p3 : Int) (r : Unit) (h : Qck N p0 p1 p2 p3 = some r) : Spec Try.prog 127 [(.ref 0 4 (0) 0)] [(z99_1 p0 p1 p2 p3)] z99_2 [(z99_1 p0 p1 p2 p3), z99_3] := by
  refine Qae Try.func127 rfl 2 (nle rfl) (fun X φ0 w0 hφ0 => ?_)
  unfold Qck at h
  refine Qbv ?_
  refine wrg [⟨[], [(1, .unused)], .ref 1 4 0 0, [(1, z99_0)], false⟩] ?_ ?_
  ·exact ⟨Qa5 rfl tz169 rfl, trivial⟩
  refine Qcq [mv 0 (.ref 0 4 0 0), rb [(.tmp 3, .ref 0 4 0 0)] [(0, (z99_1 p0 p1 p2 p3))] (.ref 0 4 0 0), rb [(.tmp 4, .ref 0 4 0 0)] [(0, (z99_1 p0 p1 p2 p3))] (.ref 0 4 0 0), mv 0 (.ref 0 4 0 0), rb [(.tmp 6, .ref 0 4 0 0)] [(0, (z99_1 p0 p1 p2 p3))] (.ref 0 4 0 0), rb [(.tmp 7, .ref 0 4 0 0)] [(0, (z99_1 p0 p1 p2 p3))] (.ref 0 4 0 1), mv 0 (.ref 0 4 0 0), rb [(.tmp 9, .ref 0 4 0 0)] [(0, (z99_1 p0 p1 p2 p3))] (.ref 0 4 0 0), rb [(.tmp 10, .ref 0 4 0 0)] [(0, (z99_1 p0 p1 p2 p3))] (.ref 0 4 0 2), mv 0 (.ref 0 4 0 0), rb [(.tmp 12, .ref 0 4 0 0)] [(0, (z99_1 p0 p1 p2 p3))] (.ref 0 4 0 0), rb [(.tmp 13, .ref 0 4 0 0)] [(0, (z99_1 p0 p1 p2 p3))] (.ref 0 4 0 3), rp [(.tmp 5, .ref 0 4 0 0), (.tmp 8, .ref 0 4 0 1), (.tmp 11, .ref 0 4 0 2), (.tmp 14, .ref 0 4 0 3)] z99_2, ⟨[(.tmp 2, .ref 1 4 0 0), (.tmp 15, z99_2)], [(1, z99_0)], .any, [(1, z99_3)], false⟩] ?_ ?_
  ·exact ⟨amv rfl, Qdy rfl, afa rfl Try.underlying60 rfl rfl ti3 (by decide) rfl, amv rfl, Qdy rfl, afa rfl Try.underlying60 rfl rfl ti3 (by decide) rfl, amv rfl, Qdy rfl, afa rfl Try.underlying60 rfl rfl ti3 (by decide) rfl, amv rfl, Qdy rfl, afa rfl Try.underlying60 rfl rfl ti3 (by decide) rfl, astep_builda (vs := [.ref 0 4 0 0, .ref 0 4 0 1, .ref 0 4 0 2, .ref 0 4 0 3]) rfl Try.underlying169 ti168 tz169 rfl (by rfl) rfl, ast rfl ti169 (by rfl) rfl (nle rfl) rfl, trivial⟩
  refine wmr (mto (n := 16) (l' := [(2, .ref 1 4 0 0)]) (own' := [(z99_1 p0 p1 p2 p3), z99_3]) [(2, .ref 1 4 0 0)] [0, 1] [(z99_1 p0 p1 p2 p3), z99_3] hφ0 (pc (.rn (rqr rfl)) pn) (qc (spb (lc rwl (lc rwl (lc rwl (lc rwl ln))))) (qc (spb (lc (.rn (rqr rfl)) (lc (.rn (rqr rfl)) (lc (.rn (rqr rfl)) (lc (.rn (rqr rfl)) ln))))) qn))) ?_
  refine Qaf ?_
  obtain rfl := osi h
  exact ⟨_, Mor.rfl, Qcd (vs := [z99_2]) ⟨Qbo (n := 1) (m := 4) (j := 0) (i := 0) (xs := [[.ref 0 4 0 0, .ref 0 4 0 1, .ref 0 4 0 2, .ref 0 4 0 3]]) (by kernel_rfl) (by kernel_rfl) ti169 (by decide) rfl (nle rfl) rfl, trivial⟩ rfl (NLt.agg _ (nlc (NLt.ref _ _ _ _ (by decide)) (nlc (NLt.ref _ _ _ _ (by decide)) (nlc (NLt.ref _ _ _ _ (by decide)) (nlc (NLt.ref _ _ _ _ (by decide)) nl0))))) (by kernel_rfl) (Qai (Qaz (nlc (NLt.of0 nll) (nlc (NLt.of0 nll) (nlc (NLt.of0 nll) (nlc (NLt.of0 nll) nl0))))) (Qai (Qaz (nlc (NLt.ref _ _ _ _ (by decide)) (nlc (NLt.ref _ _ _ _ (by decide)) (nlc (NLt.ref _ _ _ _ (by decide)) (nlc (NLt.ref _ _ _ _ (by decide)) nl0))))) Qbm))⟩

def Qhi (N : Nat) (p0 : GStream) (p1 : Int) (p2 : Int) (p3 : Int) (p4 : Int) : Option Unit :=
  (Qck N p0.Mass p0.Heat p0.Silica p0.Gas).bind fun _ =>
  (Qck N p1 p2 p3 p4).bind fun _ =>
  (Qck N (w64 (p1 + p0.Mass)) p2 p3 p4).bind fun _ =>
  (Qck N (w64 (p1 + p0.Mass)) (w64 (p2 + p0.Heat)) p3 p4).bind fun _ =>
  (Qck N (w64 (p1 + p0.Mass)) (w64 (p2 + p0.Heat)) (w64 (p3 + p0.Silica)) p4).bind fun _ =>
  some ()
def z98_1 (p0 : GStream) : AV := .agg [(I (p0.Mass)), (I (p0.Heat)), (I (p0.Silica)), (I (p0.Gas))]
def z98_4 (p1 : Int) (p2 : Int) (p3 : Int) (p4 : Int) : Slot := .own 4 [[(I (p1)), (I (p2)), (I (p3)), (I (p4))]]
def z98_10 (p1 : Int) (p0 : GStream) (p2 : Int) (p3 : Int) (p4 : Int) : Slot := .own 4 [[(I (w64 (p1 + p0.Mass))), (I (w64 (p2 + p0.Heat))), (I (w64 (p3 + p0.Silica))), (I (w64 (p4 + p0.Gas)))]]
def z98_0 (p0 : GStream) : Slot := .own 4 [[(I (p0.Mass)), (I (p0.Heat)), (I (p0.Silica)), (I (p0.Gas))]]
def z98_3 : AV := .agg [(.ref 1 4 (0) 0), (.ref 1 4 (0) 1), (.ref 1 4 (0) 2), (.ref 1 4 (0) 3)]
def z98_2 : Slot := .own 4 [[(.ref 1 4 (0) 0), (.ref 1 4 (0) 1), (.ref 1 4 (0) 2), (.ref 1 4 (0) 3)]]
def z98_6 : AV := .agg [(.ref 0 4 (0) 0), (.ref 0 4 (0) 1), (.ref 0 4 (0) 2), (.ref 0 4 (0) 3)]
def z98_5 : Slot := .own 4 [[(.ref 0 4 (0) 0), (.ref 0 4 (0) 1), (.ref 0 4 (0) 2), (.ref 0 4 (0) 3)]]
def z98_7 (p1 : Int) (p0 : GStream) (p2 : Int) (p3 : Int) (p4 : Int) : Slot := .own 4 [[(I (w64 (p1 + p0.Mass))), (I (p2)), (I (p3)), (I (p4))]]
def z98_8 (p1 : Int) (p0 : GStream) (p2 : Int) (p3 : Int) (p4 : Int) : Slot := .own 4 [[(I (w64 (p1 + p0.Mass))), (I (w64 (p2 + p0.Heat))), (I (p3)), (I (p4))]]
def z98_9 (p1 : Int) (p0 : GStream) (p2 : Int) (p3 : Int) (p4 : Int) : Slot := .own 4 [[(I (w64 (p1 + p0.Mass))), (I (w64 (p2 + p0.Heat))), (I (w64 (p3 + p0.Silica))), (I (p4))]]
set_option maxRecDepth 100000 in
set_option maxHeartbeats 4000000 in
theorem steam_sum_1X_1_ok (N : Nat) (p0 : GStream) (p1 : Int) (p2 : Int) (p3 : Int) (p4 : Int) (r : Unit) (h : Qhi N p0 p1 p2 p3 p4 = some r) : Spec Try.prog 126 [(z98_1 p0), (.ref 0 4 (0) 0)] [(z98_4 p1 p2 p3 p4)] (.tup []) [(z98_10 p1 p0 p2 p3 p4)] := by
  refine Qae Try.func126 rfl 1 (nle rfl) (fun X φ0 w0 hφ0 => ?_)
  unfold Qhi at h
  refine Qbv ?_
  refine wrg [⟨[(.tmp 0, (z98_1 p0))], [(1, .unused)], .ref 1 4 0 0, [(1, (z98_0 p0))], false⟩] ?_ ?_
  ·exact ⟨Qa0 rfl (by rfl) rfl rfl, trivial⟩
  obtain ⟨x2, hf1, h⟩ := bno h
  refine wrg [⟨[fu 127, (.tmp 2, .ref 1 4 0 0)], [(1, (z98_0 p0)), (2, .unused)], z98_3, [(1, (z98_0 p0)), (2, z98_2)], false⟩, mc (.int .i64 0)] ?_ ?_
  ·exact ⟨Qan (first := []) (cap := []) (vs := [.ref 1 4 0 0]) (σr := [(z98_0 p0)]) (σr' := [(z98_0 p0), z98_2]) (res' := z98_3) [1, 2] rfl enter127 (Qdc N p0.Mass p0.Heat p0.Silica p0.Gas _ hf1) rfl (Qb0 (rnc (Qa9 rfl) rn0)) (slc (Qak (rnc (.plain _ nll) (rnc (.plain _ nll) (rnc (.plain _ nll) (rnc (.plain _ nll) rn0))))) Qam) (slc (Qak (rnc (.plain _ nll) (rnc (.plain _ nll) (rnc (.plain _ nll) (rnc (.plain _ nll) rn0))))) (slc (Qak (rnc (Qb1 rfl) (rnc (Qb1 rfl) (rnc (Qb1 rfl) (rnc (Qb1 rfl) rn0))))) Qam)) (Qb0 (rnc (Qb1 rfl) (rnc (Qb1 rfl) (rnc (Qb1 rfl) (rnc (Qb1 rfl) rn0))))) rfl rfl rfl, amv rfl, trivial⟩
  refine Qal ?_
  refine awp_loop 17 ?_
  refine around ?_
  refine wrg [rp [(.tmp 6, I 0), ci 4] (B true)] ?_ ?_
  ·exact ⟨abn rfl rfl, trivial⟩
  refine wsq ?_
  refine Qeq (by kernel_rfl) ?_
  refine Qao ?_
  refine thn ?_
  refine wsq ?_
  refine Qal ?_
  refine wrg [mv 6 (I 0), rp [(.tmp 5, z98_3), (.tmp 6, I 0)] (.ref 1 4 0 0), mv 8 (I 0), mv 9 (.ref 1 4 0 0)] ?_ ?_
  ·exact ⟨amv rfl, Qf6 rfl Try.underlying169 ti168 (by decide) (by decide) (nle rfl) (by decide) rfl, aas rfl, aas rfl, trivial⟩
  obtain ⟨x4, hf3, h⟩ := bno h
  refine Qe6 [⟨[fu 127, (.tmp 1, .ref 0 4 0 0)], [(0, (z98_4 p1 p2 p3 p4)), (3, .unused)], z98_6, [(0, (z98_4 p1 p2 p3 p4)), (3, z98_5)], false⟩, mv 3 (I 0), rp [(.tmp 10, z98_6), (.tmp 11, I 0)] (.ref 0 4 0 0), rb [(.tmp 12, .ref 0 4 0 0)] [(0, (z98_4 p1 p2 p3 p4))] (.ref 0 4 0 0), rb [(.tmp 13, .ref 0 4 0 0)] [(0, (z98_4 p1 p2 p3 p4))] (I p1), mv 4 (.ref 1 4 0 0), rb [(.tmp 15, .ref 1 4 0 0)] [(1, (z98_0 p0))] (.ref 1 4 0 0), rb [(.tmp 16, .ref 1 4 0 0)] [(1, (z98_0 p0))] (I p0.Mass), rp [(.tmp 14, I p1), (.tmp 17, I p0.Mass)] (I (w64 (p1 + p0.Mass))), rb [(.tmp 12, .ref 0 4 0 0)] [(0, (z98_4 p1 p2 p3 p4))] (.ref 0 4 0 0), ⟨[(.tmp 19, .ref 0 4 0 0), (.tmp 18, (I (w64 (p1 + p0.Mass))))], [(0, (z98_4 p1 p2 p3 p4))], .any, [(0, (z98_7 p1 p0 p2 p3 p4))], false⟩] ?_ ?_
  ·exact ⟨Qan (first := []) (cap := []) (vs := [.ref 0 4 0 0]) (σr := [(z98_4 p1 p2 p3 p4)]) (σr' := [(z98_4 p1 p2 p3 p4), z98_5]) (res' := z98_6) [0, 3] rfl enter127 (Qdc N p1 p2 p3 p4 _ hf3) rfl (Qb0 (rnc (Qa9 rfl) rn0)) (slc (Qak (rnc (.plain _ nll) (rnc (.plain _ nll) (rnc (.plain _ nll) (rnc (.plain _ nll) rn0))))) Qam) (slc (Qak (rnc (.plain _ nll) (rnc (.plain _ nll) (rnc (.plain _ nll) (rnc (.plain _ nll) rn0))))) (slc (Qak (rnc (Qb1 rfl) (rnc (Qb1 rfl) (rnc (Qb1 rfl) (rnc (Qb1 rfl) rn0))))) Qam)) (Qb0 (rnc (Qb1 rfl) (rnc (Qb1 rfl) (rnc (Qb1 rfl) (rnc (Qb1 rfl) rn0))))) rfl rfl rfl, amv rfl, Qf6 rfl Try.underlying169 ti168 (by decide) (by decide) (nle rfl) (by decide) rfl, Qdy rfl, ald rfl ti3 (by decide) rfl (nle rfl) rfl, amv rfl, Qdy rfl, ald rfl ti3 (by decide) rfl (nle rfl) rfl, abn rfl rfl, Qdy rfl, ast rfl ti3 (by rfl) rfl (nle rfl) rfl, trivial⟩
  refine bln ?_
  refine thn ?_
  refine Qar [rp [(.tmp 6, I 0), ci 1] (I 1), mv 20 (I 1)] ?_ ?_
  ·exact ⟨abn rfl rfl, amv rfl, trivial⟩
  refine thn ?_
  refine around ?_
  refine wrg [rp [(.tmp 6, I 1), ci 4] (B true)] ?_ ?_
  ·exact ⟨abn rfl rfl, trivial⟩
  refine wsq ?_
  refine Qeq (by kernel_rfl) ?_
  refine Qao ?_
  refine thn ?_
  refine wsq ?_
  refine Qal ?_
  refine wrg [mv 6 (I 1), rp [(.tmp 5, z98_3), (.tmp 6, I 1)] (.ref 1 4 0 1), mv 8 (I 1), mv 9 (.ref 1 4 0 1)] ?_ ?_
  ·exact ⟨amv rfl, Qf6 rfl Try.underlying169 ti168 (by decide) (by decide) (nle rfl) (by decide) rfl, aas rfl, aas rfl, trivial⟩
  obtain ⟨x6, hf5, h⟩ := bno h
  refine Qe6 [⟨[fu 127, (.tmp 1, .ref 0 4 0 0)], [(0, (z98_7 p1 p0 p2 p3 p4)), (4, .unused)], z98_6, [(0, (z98_7 p1 p0 p2 p3 p4)), (4, z98_5)], false⟩, mv 3 (I 1), rp [(.tmp 10, z98_6), (.tmp 11, I 1)] (.ref 0 4 0 1), rb [(.tmp 12, .ref 0 4 0 1)] [(0, (z98_7 p1 p0 p2 p3 p4))] (.ref 0 4 0 1), rb [(.tmp 13, .ref 0 4 0 1)] [(0, (z98_7 p1 p0 p2 p3 p4))] (I p2), mv 4 (.ref 1 4 0 1), rb [(.tmp 15, .ref 1 4 0 1)] [(1, (z98_0 p0))] (.ref 1 4 0 1), rb [(.tmp 16, .ref 1 4 0 1)] [(1, (z98_0 p0))] (I p0.Heat), rp [(.tmp 14, I p2), (.tmp 17, I p0.Heat)] (I (w64 (p2 + p0.Heat))), rb [(.tmp 12, .ref 0 4 0 1)] [(0, (z98_7 p1 p0 p2 p3 p4))] (.ref 0 4 0 1), ⟨[(.tmp 19, .ref 0 4 0 1), (.tmp 18, (I (w64 (p2 + p0.Heat))))], [(0, (z98_7 p1 p0 p2 p3 p4))], .any, [(0, (z98_8 p1 p0 p2 p3 p4))], false⟩] ?_ ?_
  ·exact ⟨Qan (first := []) (cap := []) (vs := [.ref 0 4 0 0]) (σr := [(z98_7 p1 p0 p2 p3 p4)]) (σr' := [(z98_7 p1 p0 p2 p3 p4), z98_5]) (res' := z98_6) [0, 4] rfl enter127 (Qdc N (w64 (p1 + p0.Mass)) p2 p3 p4 _ hf5) rfl (Qb0 (rnc (Qa9 rfl) rn0)) (slc (Qak (rnc (.plain _ nll) (rnc (.plain _ nll) (rnc (.plain _ nll) (rnc (.plain _ nll) rn0))))) Qam) (slc (Qak (rnc (.plain _ nll) (rnc (.plain _ nll) (rnc (.plain _ nll) (rnc (.plain _ nll) rn0))))) (slc (Qak (rnc (Qb1 rfl) (rnc (Qb1 rfl) (rnc (Qb1 rfl) (rnc (Qb1 rfl) rn0))))) Qam)) (Qb0 (rnc (Qb1 rfl) (rnc (Qb1 rfl) (rnc (Qb1 rfl) (rnc (Qb1 rfl) rn0))))) rfl rfl rfl, amv rfl, Qf6 rfl Try.underlying169 ti168 (by decide) (by decide) (nle rfl) (by decide) rfl, Qdy rfl, ald rfl ti3 (by decide) rfl (nle rfl) rfl, amv rfl, Qdy rfl, ald rfl ti3 (by decide) rfl (nle rfl) rfl, abn rfl rfl, Qdy rfl, ast rfl ti3 (by rfl) rfl (nle rfl) rfl, trivial⟩
  refine bln ?_
  refine thn ?_
  refine Qar [rp [(.tmp 6, I 1), ci 1] (I 2), mv 20 (I 2)] ?_ ?_
  ·exact ⟨abn rfl rfl, amv rfl, trivial⟩
  refine thn ?_
  refine around ?_
  refine wrg [rp [(.tmp 6, I 2), ci 4] (B true)] ?_ ?_
  ·exact ⟨abn rfl rfl, trivial⟩
  refine wsq ?_
  refine Qeq (by kernel_rfl) ?_
  refine Qao ?_
  refine thn ?_
  refine wsq ?_
  refine Qal ?_
  refine wrg [mv 6 (I 2), rp [(.tmp 5, z98_3), (.tmp 6, I 2)] (.ref 1 4 0 2), mv 8 (I 2), mv 9 (.ref 1 4 0 2)] ?_ ?_
  ·exact ⟨amv rfl, Qf6 rfl Try.underlying169 ti168 (by decide) (by decide) (nle rfl) (by decide) rfl, aas rfl, aas rfl, trivial⟩
  obtain ⟨x8, hf7, h⟩ := bno h
  refine Qe6 [⟨[fu 127, (.tmp 1, .ref 0 4 0 0)], [(0, (z98_8 p1 p0 p2 p3 p4)), (5, .unused)], z98_6, [(0, (z98_8 p1 p0 p2 p3 p4)), (5, z98_5)], false⟩, mv 3 (I 2), rp [(.tmp 10, z98_6), (.tmp 11, I 2)] (.ref 0 4 0 2), rb [(.tmp 12, .ref 0 4 0 2)] [(0, (z98_8 p1 p0 p2 p3 p4))] (.ref 0 4 0 2), rb [(.tmp 13, .ref 0 4 0 2)] [(0, (z98_8 p1 p0 p2 p3 p4))] (I p3), mv 4 (.ref 1 4 0 2), rb [(.tmp 15, .ref 1 4 0 2)] [(1, (z98_0 p0))] (.ref 1 4 0 2), rb [(.tmp 16, .ref 1 4 0 2)] [(1, (z98_0 p0))] (I p0.Silica), rp [(.tmp 14, I p3), (.tmp 17, I p0.Silica)] (I (w64 (p3 + p0.Silica))), rb [(.tmp 12, .ref 0 4 0 2)] [(0, (z98_8 p1 p0 p2 p3 p4))] (.ref 0 4 0 2), ⟨[(.tmp 19, .ref 0 4 0 2), (.tmp 18, (I (w64 (p3 + p0.Silica))))], [(0, (z98_8 p1 p0 p2 p3 p4))], .any, [(0, (z98_9 p1 p0 p2 p3 p4))], false⟩] ?_ ?_
  ·exact ⟨Qan (first := []) (cap := []) (vs := [.ref 0 4 0 0]) (σr := [(z98_8 p1 p0 p2 p3 p4)]) (σr' := [(z98_8 p1 p0 p2 p3 p4), z98_5]) (res' := z98_6) [0, 5] rfl enter127 (Qdc N (w64 (p1 + p0.Mass)) (w64 (p2 + p0.Heat)) p3 p4 _ hf7) rfl (Qb0 (rnc (Qa9 rfl) rn0)) (slc (Qak (rnc (.plain _ nll) (rnc (.plain _ nll) (rnc (.plain _ nll) (rnc (.plain _ nll) rn0))))) Qam) (slc (Qak (rnc (.plain _ nll) (rnc (.plain _ nll) (rnc (.plain _ nll) (rnc (.plain _ nll) rn0))))) (slc (Qak (rnc (Qb1 rfl) (rnc (Qb1 rfl) (rnc (Qb1 rfl) (rnc (Qb1 rfl) rn0))))) Qam)) (Qb0 (rnc (Qb1 rfl) (rnc (Qb1 rfl) (rnc (Qb1 rfl) (rnc (Qb1 rfl) rn0))))) rfl rfl rfl, amv rfl, Qf6 rfl Try.underlying169 ti168 (by decide) (by decide) (nle rfl) (by decide) rfl, Qdy rfl, ald rfl ti3 (by decide) rfl (nle rfl) rfl, amv rfl, Qdy rfl, ald rfl ti3 (by decide) rfl (nle rfl) rfl, abn rfl rfl, Qdy rfl, ast rfl ti3 (by rfl) rfl (nle rfl) rfl, trivial⟩
  refine bln ?_
  refine thn ?_
  refine Qar [rp [(.tmp 6, I 2), ci 1] (I 3), mv 20 (I 3)] ?_ ?_
  ·exact ⟨abn rfl rfl, amv rfl, trivial⟩
  refine thn ?_
  refine around ?_
  refine wrg [rp [(.tmp 6, I 3), ci 4] (B true)] ?_ ?_
  ·exact ⟨abn rfl rfl, trivial⟩
  refine wsq ?_
  refine Qeq (by kernel_rfl) ?_
  refine Qao ?_
  refine thn ?_
  refine wsq ?_
  refine Qal ?_
  refine wrg [mv 6 (I 3), rp [(.tmp 5, z98_3), (.tmp 6, I 3)] (.ref 1 4 0 3), mv 8 (I 3), mv 9 (.ref 1 4 0 3)] ?_ ?_
  ·exact ⟨amv rfl, Qf6 rfl Try.underlying169 ti168 (by decide) (by decide) (nle rfl) (by decide) rfl, aas rfl, aas rfl, trivial⟩
  obtain ⟨x10, hf9, h⟩ := bno h
  refine Qe6 [⟨[fu 127, (.tmp 1, .ref 0 4 0 0)], [(0, (z98_9 p1 p0 p2 p3 p4)), (6, .unused)], z98_6, [(0, (z98_9 p1 p0 p2 p3 p4)), (6, z98_5)], false⟩, mv 3 (I 3), rp [(.tmp 10, z98_6), (.tmp 11, I 3)] (.ref 0 4 0 3), rb [(.tmp 12, .ref 0 4 0 3)] [(0, (z98_9 p1 p0 p2 p3 p4))] (.ref 0 4 0 3), rb [(.tmp 13, .ref 0 4 0 3)] [(0, (z98_9 p1 p0 p2 p3 p4))] (I p4), mv 4 (.ref 1 4 0 3), rb [(.tmp 15, .ref 1 4 0 3)] [(1, (z98_0 p0))] (.ref 1 4 0 3), rb [(.tmp 16, .ref 1 4 0 3)] [(1, (z98_0 p0))] (I p0.Gas), rp [(.tmp 14, I p4), (.tmp 17, I p0.Gas)] (I (w64 (p4 + p0.Gas))), rb [(.tmp 12, .ref 0 4 0 3)] [(0, (z98_9 p1 p0 p2 p3 p4))] (.ref 0 4 0 3), ⟨[(.tmp 19, .ref 0 4 0 3), (.tmp 18, (I (w64 (p4 + p0.Gas))))], [(0, (z98_9 p1 p0 p2 p3 p4))], .any, [(0, (z98_10 p1 p0 p2 p3 p4))], false⟩] ?_ ?_
  ·exact ⟨Qan (first := []) (cap := []) (vs := [.ref 0 4 0 0]) (σr := [(z98_9 p1 p0 p2 p3 p4)]) (σr' := [(z98_9 p1 p0 p2 p3 p4), z98_5]) (res' := z98_6) [0, 6] rfl enter127 (Qdc N (w64 (p1 + p0.Mass)) (w64 (p2 + p0.Heat)) (w64 (p3 + p0.Silica)) p4 _ hf9) rfl (Qb0 (rnc (Qa9 rfl) rn0)) (slc (Qak (rnc (.plain _ nll) (rnc (.plain _ nll) (rnc (.plain _ nll) (rnc (.plain _ nll) rn0))))) Qam) (slc (Qak (rnc (.plain _ nll) (rnc (.plain _ nll) (rnc (.plain _ nll) (rnc (.plain _ nll) rn0))))) (slc (Qak (rnc (Qb1 rfl) (rnc (Qb1 rfl) (rnc (Qb1 rfl) (rnc (Qb1 rfl) rn0))))) Qam)) (Qb0 (rnc (Qb1 rfl) (rnc (Qb1 rfl) (rnc (Qb1 rfl) (rnc (Qb1 rfl) rn0))))) rfl rfl rfl, amv rfl, Qf6 rfl Try.underlying169 ti168 (by decide) (by decide) (nle rfl) (by decide) rfl, Qdy rfl, ald rfl ti3 (by decide) rfl (nle rfl) rfl, amv rfl, Qdy rfl, ald rfl ti3 (by decide) rfl (nle rfl) rfl, abn rfl rfl, Qdy rfl, ast rfl ti3 (by rfl) rfl (nle rfl) rfl, trivial⟩
  refine bln ?_
  refine thn ?_
  refine Qar [rp [(.tmp 6, I 3), ci 1] (I 4), mv 20 (I 4)] ?_ ?_
  ·exact ⟨abn rfl rfl, amv rfl, trivial⟩
  refine thn ?_
  refine around ?_
  refine wrg [rp [(.tmp 6, I 4), ci 4] (B false)] ?_ ?_
  ·exact ⟨abn rfl rfl, trivial⟩
  refine wsq ?_
  refine Qe7 (by kernel_rfl) ?_
  refine Qbq ?_
  refine Qaw ?_
  refine Qaw ?_
  refine Qbp rfl ?_
  obtain rfl := osi h
  exact ⟨_, (mto (n := 21) (l' := []) (own' := [(z98_10 p1 p0 p2 p3 p4)]) [] [0] [(z98_10 p1 p0 p2 p3 p4)] hφ0 pn (qc (spb (lc rwl (lc rwl (lc rwl (lc rwl ln))))) qn)), Qcd (vs := []) trivial rfl (NLt.tup _ nl0) (by kernel_rfl) (Qai (Qaz (nlc (NLt.of0 nll) (nlc (NLt.of0 nll) (nlc (NLt.of0 nll) (nlc (NLt.of0 nll) nl0))))) Qbm)⟩

def Qer (N : Nat) (p0 : (List GStream)) (k5 : Int × Int × Int × Int → Option GStream) : Nat → Int → Int → Int → Int → Int → Option GStream
  | 0, _, _, _, _, _ => none
  | n16 + 1, y6, y7, y8, y9, y10 =>
    bif (decide (y6 < (p0.length : Int))) then
     (getI p0 y6).bind fun x18 =>
     (Qhi N x18 y7 y8 y9 y10).bind fun _ =>
     Qer N p0 k5 n16 (w64 (y6 + 1)) (w64 (y7 + x18.Mass)) (w64 (y8 + x18.Heat)) (w64 (y9 + x18.Silica)) (w64 (y10 + x18.Gas))
    else
     k5 (y7, y8, y9, y10)
def Qi9 (N : Nat) (p0 : (List GStream)) : Option GStream :=
  Qc5 (fun ⟨y1, y2, y3, y4⟩ =>
    some (⟨y1, y2, y3, y4⟩ : GStream)) fun k5 : Int × Int × Int × Int → Option GStream =>
  Qer N p0 k5 N 0 0 0 0 0
def z97_0 : Slot := .own 4 [[(I (0)), (I (0)), (I (0)), (I (0))]]
def z97_12 (y1 : Int) (y2 : Int) (y3 : Int) (y4 : Int) : Slot := .own 4 [[(I (y1)), (I (y2)), (I (y3)), (I (y4))]]
def z97_13 (y1 : Int) (y2 : Int) (y3 : Int) (y4 : Int) : AV := .agg [(I (y1)), (I (y2)), (I (y3)), (I (y4))]
def z97_17 (y7 : Int) (y8 : Int) (y9 : Int) (y10 : Int) : Slot := .own 4 [[(I (y7)), (I (y8)), (I (y9)), (I (y10))]]
def z97_19 (x18 : GStream) : AV := .agg [(I (x18.Mass)), (I (x18.Heat)), (I (x18.Silica)), (I (x18.Gas))]
def z97_20 (x18 : GStream) : Slot := .own 4 [[(I (x18.Mass)), (I (x18.Heat)), (I (x18.Silica)), (I (x18.Gas))]]
def z97_21 (y7 : Int) (x18 : GStream) (y8 : Int) (y9 : Int) (y10 : Int) : Slot := .own 4 [[(I (w64 (y7 + x18.Mass))), (I (w64 (y8 + x18.Heat))), (I (w64 (y9 + x18.Silica))), (I (w64 (y10 + x18.Gas)))]]
set_option maxRecDepth 100000 in
set_option maxHeartbeats 4000000 in
theorem steam_sumX_ok (N : Nat) (p0 : (List GStream)) (r : GStream) (h : Qi9 N p0 = some r) : Spec Try.prog 112 [(.dat 4 (p0.map Qad))] [] (.agg (Qad r)) [] := by
  refine Qae Try.func112 rfl 0 (nle rfl) (fun X φ0 w0 hφ0 => ?_)
  unfold Qi9 at h
  refine wrg [⟨[], [(0, .unused)], .ref 0 4 0 0, [(0, z97_0)], false⟩] ?_ ?_
  ·exact ⟨Qa5 rfl tz60 rfl, trivial⟩
  refine wrg [rp [(.tmp 2, .ref 0 4 0 0)] (.fn (.func 126) [] [.ref 0 4 0 0]), mv 6 (.fn (.func 126) [] [.ref 0 4 0 0])] ?_ ?_
  ·exact ⟨Qd5 (fs := []) (cs := [.ref 0 4 0 0]) rfl rfl rfl rfl, aas rfl, trivial⟩
  obtain ⟨k5, hk_k5, h⟩ := jko h
  refine wjn (τ := Int × Int × Int × Int) (fun t => k5 t = some r) (fun ⟨y1, y2, y3, y4⟩ => ⟨mk 18 [(2, .ref 0 4 0 0)], [(z97_12 y1 y2 y3 y4)]⟩) (fun t h => ?_) ?_
  ·subst hk_k5
   obtain ⟨y1, y2, y3, y4⟩ := t
   refine wrg [rb [(.tmp 2, .ref 0 4 0 0)] [(0, (z97_12 y1 y2 y3 y4))] (z97_13 y1 y2 y3 y4), ⟨[(.tmp 2, .ref 0 4 0 0), (.tmp 17, (z97_13 y1 y2 y3 y4))], [(0, (z97_12 y1 y2 y3 y4))], .any, [(0, (z97_12 y1 y2 y3 y4))], false⟩] ?_ ?_
   ·exact ⟨ald rfl ti60 (by decide) rfl (nle rfl) rfl, ast rfl ti60 (by rfl) rfl (nle rfl) rfl, trivial⟩
   refine Qaf ?_
   obtain rfl := osi h
   exact ⟨⟨[(z97_13 y1 y2 y3 y4)], ⟨Qbo (n := 0) (m := 4) (j := 0) (i := 0) (xs := [[I y1, I y2, I y3, I y4]]) (by kernel_rfl) (by kernel_rfl) ti60 (by decide) rfl (nle rfl) rfl, trivial⟩, rfl⟩, (NLt.agg _ (nlc nll (nlc nll (nlc nll (nlc nll nl0))))), Nat.le_refl _, fun n hn => absurd hn (Nat.not_lt_zero n)⟩
  ·skip
   refine wrg [mv 0 (.dat 4 ((p0 : List GStream).map Qad)), rp [(.tmp 7, (.dat 4 ((p0 : List GStream).map Qad)))] (I ((p0.length : Int))), mc (.int .i64 0)] ?_ ?_
   ·exact ⟨amv rfl, alm (c := Qad) (l := p0) (aln rfl Try.underlying143 rfl), amv rfl, trivial⟩
   refine Qal ?_
   refine wmr (mto (n := 18) (l' := [(2, .ref 0 4 0 0), (3, (.fn (.func 126) [] [.ref 0 4 0 0])), (7, (.dat 4 ((p0 : List GStream).map Qad))), (8, (I ((p0.length : Int)))), (9, I 0)]) (own' := [z97_0]) [(2, .ref 0 4 0 0), (3, (.fn (.func 126) [] [.ref 0 4 0 0])), (7, (.dat 4 ((p0 : List GStream).map Qad))), (8, (I ((p0.length : Int)))), (9, I 0)] [0] [z97_0] hφ0 (pc (.rn (rqr rfl)) (pc (.rn (Qaq rn0 (rnc (rqr rfl) rn0))) (pc (.rn (.plain _ (nld Qc0 _))) (pc rwl (pc rwl pn))))) (qc (spb (lc rwl (lc rwl (lc rwl (lc rwl ln))))) qn)) ?_
   refine Qci (τ := Int × Int × Int × Int × Int) (fun n t => Qer N p0 k5 n t.1 t.2.1 t.2.2.1 t.2.2.2.1 t.2.2.2.2 = some r) (fun ⟨y6, y7, y8, y9, y10⟩ => ⟨mk 18 [(2, .ref 0 4 0 0), (3, (.fn (.func 126) [] [.ref 0 4 0 0])), (7, (.dat 4 ((p0 : List GStream).map Qad))), (8, (I ((p0.length : Int)))), (9, I y6)], [(z97_17 y7 y8 y9 y10)]⟩) (fun t h => by rw [Qer] at h; cases h) (fun n16 ih t h => ?_) N (0, 0, 0, 0, 0) h
   obtain ⟨y6, y7, y8, y9, y10⟩ := t
   rw [Qer] at h
   skip
   refine wrg [rp [(.tmp 9, I y6), (.tmp 8, (I ((p0.length : Int))))] (B ((decide (y6 < (p0.length : Int)))))] ?_ ?_
   ·exact ⟨abn rfl rfl, trivial⟩
   refine wsq ?_
   rcases bft ((decide (y6 < (p0.length : Int)))) with hc17 | hc17
   ·replace h := Qa2 hc17 h
    refine wft hc17 (by kernel_rfl) ?_
    refine Qao ?_
    refine thn ?_
    refine wsq ?_
    refine Qal ?_
    obtain ⟨x18, hg19, h⟩ := bno h
    obtain ⟨hi20, hj21⟩ := gsm hg19
    refine wrg [rp [(.tmp 7, (.dat 4 ((p0 : List GStream).map Qad))), (.tmp 9, I y6)] (.dptr (Qad (x18)) 0), rp [(.tmp 11, (.dptr (Qad (x18)) 0))] (z97_19 x18), ⟨[], [(1, .unused)], .ref 1 4 0 0, [(1, z97_0)], false⟩, ⟨[(.tmp 5, .ref 1 4 0 0), (.tmp 12, (z97_19 x18))], [(1, z97_0)], .any, [(1, (z97_20 x18))], false⟩] ?_ ?_
    ·exact ⟨aid rfl Try.underlying143 ti60 rfl rfl hi20 (mgt Qad hj21) rfl, ald_ rfl ti60 (by decide) (nle rfl) rfl, Qa5 rfl tz60 rfl, ast rfl ti60 (by rfl) rfl (nle rfl) rfl, trivial⟩
    obtain ⟨x23, hf22, h⟩ := bno h
    refine Qar [mv 3 (.fn (.func 126) [] [.ref 0 4 0 0]), rb [(.tmp 5, .ref 1 4 0 0)] [(1, (z97_20 x18))] (z97_19 x18), ⟨[(.tmp 13, (.fn (.func 126) [] [.ref 0 4 0 0])), (.tmp 14, (z97_19 x18))], [(0, (z97_17 y7 y8 y9 y10))], (.tup []), [(0, (z97_21 y7 x18 y8 y9 y10))], false⟩] ?_ ?_
    ·exact ⟨amv rfl, ald rfl ti60 (by decide) rfl (nle rfl) rfl, Qan (first := []) (cap := [.ref 0 4 0 0]) (vs := [(z97_19 x18)]) (σr := [(z97_17 y7 y8 y9 y10)]) (σr' := [(z97_21 y7 x18 y8 y9 y10)]) (res' := (.tup [])) [0] rfl enter126 (steam_sum_1X_1_ok N x18 y7 y8 y9 y10 _ hf22) rfl (Qb0 (rnc (.plain _ (NLt.agg _ (nlc nll (nlc nll (nlc nll (nlc nll nl0)))))) (rnc (Qa9 rfl) rn0))) (slc (Qak (rnc (.plain _ nll) (rnc (.plain _ nll) (rnc (.plain _ nll) (rnc (.plain _ nll) rn0))))) Qam) (slc (Qak (rnc (.plain _ nll) (rnc (.plain _ nll) (rnc (.plain _ nll) (rnc (.plain _ nll) rn0))))) Qam) (.plain _ (NLt.tup _ nl0)) rfl rfl rfl, trivial⟩
    refine bln ?_
    refine thn ?_
    refine Qar [rp [(.tmp 9, I y6), ci 1] (I (w64 (y6 + 1))), mv 16 (I (w64 (y6 + 1)))] ?_ ?_
    ·exact ⟨abn rfl rfl, amv rfl, trivial⟩
    refine thn ?_
    exact arm (mto (n := 18) [(2, .ref 0 4 0 0), (3, (.fn (.func 126) [] [.ref 0 4 0 0])), (7, (.dat 4 ((p0 : List GStream).map Qad))), (8, (I ((p0.length : Int)))), (9, (I (w64 (y6 + 1))))] [0] [(z97_21 y7 x18 y8 y9 y10)] hφ0 (pc (.rn (rqr rfl)) (pc (.rn (Qaq rn0 (rnc (rqr rfl) rn0))) (pc (.rn (.plain _ (nld Qc0 _))) (pc rwl (pc rwl pn))))) (qc (spb (lc rwl (lc rwl (lc rwl (lc rwl ln))))) qn)) (ih (w64 (y6 + 1), w64 (y7 + x18.Mass), w64 (y8 + x18.Heat), w64 (y9 + x18.Silica), w64 (y10 + x18.Gas)) h)
   ·replace h := Qa3 hc17 h
    refine wfn hc17 (by kernel_rfl) ?_
    refine Qbq ?_
    refine Qaw ?_
    refine Qaw ?_
    refine Qbp rfl ?_
    refine thn ?_
    exact ⟨(y7, y8, y9, y10), h, (mto (n := 18) [(2, .ref 0 4 0 0)] [0] [(z97_17 y7 y8 y9 y10)] hφ0 (pc (.rn (rqr rfl)) pn) (qc (spb (lc rwl (lc rwl (lc rwl (lc rwl ln))))) qn))⟩

def steam_MixX (N : Nat) (p0 : (List GStream)) : Option (GStream × Int) :=
  (Qgf N p0).bind fun x2 =>
  bif (x2 != 0) then
   some ((⟨0, 0, 0, 0⟩ : GStream), x2)
  else
   (Qi9 N p0).bind fun x5 =>
   bif (decide (x5.Mass > 1000000)) then
    some ((⟨0, 0, 0, 0⟩ : GStream), 3)
   else
    bif (decide (x5.Gas > 1000000000)) then
     some ((⟨0, 0, 0, 0⟩ : GStream), 3)
    else
     some (x5, 0)
def z91_0 : Slot := .own 4 [[(I (0)), (I (0)), (I (0)), (I (0))]]
def z91_1 (x5 : GStream) : AV := .agg [(I (x5.Mass)), (I (x5.Heat)), (I (x5.Silica)), (I (x5.Gas))]
def z91_2 (x5 : GStream) : Slot := .own 4 [[(I (x5.Mass)), (I (x5.Heat)), (I (x5.Silica)), (I (x5.Gas))]]
set_option maxRecDepth 100000 in
set_option maxHeartbeats 4000000 in
theorem steam_MixX_ok (N : Nat) (p0 : (List GStream)) (r : (GStream × Int)) (h : steam_MixX N p0 = some r) : Spec Try.prog 91 [(.dat 4 (p0.map Qad))] [] (.tup [(.agg (Qad r.1)), (I r.2)]) [] := by
  refine Qae Try.func91 rfl 0 (nle rfl) (fun X φ0 w0 hφ0 => ?_)
  unfold steam_MixX at h
  refine wrg [⟨[], [(0, .unused)], .ref 0 4 0 0, [(0, z91_0)], false⟩, mc (.int .i64 0)] ?_ ?_
  ·exact ⟨Qa5 rfl tz60 rfl, aas rfl, trivial⟩
  refine wsq ?_
  obtain ⟨x2, hf1, h⟩ := bno h
  refine wrg [mv 0 (.dat 4 ((p0 : List GStream).map Qad)), rp [fu 111, (.tmp 6, (.dat 4 ((p0 : List GStream).map Qad)))] (I x2), mv 7 (I x2)] ?_ ?_
  ·exact ⟨amv rfl, apc (first := []) (cap := []) (vs := [(.dat 4 ((p0 : List GStream).map Qad))]) rfl enter111 (steam_checkedX_ok N p0 _ hf1) rfl rfl (nlc (nld Qc0 _) nl0) nll rfl, aas rfl, trivial⟩
  refine wrg [mv 4 (I x2), rp [(.tmp 8, I x2), ci 0] (B ((x2 != 0)))] ?_ ?_
  ·exact ⟨amv rfl, abn rfl rfl, trivial⟩
  rcases bft ((x2 != 0)) with hc3 | hc3
  ·replace h := Qa2 hc3 h
   refine wft hc3 (by kernel_rfl) ?_
   refine wrg [rp [] (.agg [I 0, I 0, I 0, I 0]), mv 4 (I x2), ⟨[(.tmp 2, .ref 0 4 0 0), (.tmp 10, (.agg [I 0, I 0, I 0, I 0]))], [(0, z91_0)], .any, [(0, z91_0)], false⟩, mv 11 (I x2)] ?_ ?_
   ·exact ⟨Qau (vs := []) rfl ts60 tz60 rfl (by rfl) rfl, amv rfl, ast rfl ti60 (by rfl) rfl (nle rfl) rfl, aas rfl, trivial⟩
   refine Qaf ?_
   refine Qa7 ?_
   obtain rfl := osi h
   exact ⟨⟨[(.agg [I 0, I 0, I 0, I 0]), I x2], ⟨Qbo (n := 0) (m := 4) (j := 0) (i := 0) (xs := [[I 0, I 0, I 0, I 0]]) (by kernel_rfl) (by kernel_rfl) ti60 (by decide) rfl (nle rfl) rfl, rot (by kernel_rfl), trivial⟩, rfl⟩, (NLt.tup _ (nlc (NLt.agg _ (nlc nll (nlc nll (nlc nll (nlc nll nl0))))) (nlc nll nl0))), Nat.le_refl _, fun n hn => absurd hn (Nat.not_lt_zero n)⟩
  ·replace h := Qa3 hc3 h
   refine wfn hc3 (by kernel_rfl) ?_
   refine Qao ?_
   refine thn ?_
   obtain ⟨x5, hf4, h⟩ := bno h
   refine wrg [mv 0 (.dat 4 ((p0 : List GStream).map Qad)), rp [fu 112, (.tmp 12, (.dat 4 ((p0 : List GStream).map Qad)))] (z91_1 x5), ⟨[], [(1, .unused)], .ref 1 4 0 0, [(1, z91_0)], false⟩, ⟨[(.tmp 5, .ref 1 4 0 0), (.tmp 13, (z91_1 x5))], [(1, z91_0)], .any, [(1, (z91_2 x5))], false⟩] ?_ ?_
   ·exact ⟨amv rfl, apc (first := []) (cap := []) (vs := [(.dat 4 ((p0 : List GStream).map Qad))]) rfl enter112 (steam_sumX_ok N p0 _ hf4) rfl rfl (nlc (nld Qc0 _) nl0) (NLt.agg _ (nlc nll (nlc nll (nlc nll (nlc nll nl0))))) rfl, Qa5 rfl tz60 rfl, ast rfl ti60 (by rfl) rfl (nle rfl) rfl, trivial⟩
   refine wsq ?_
   rcases bft ((decide (x5.Mass > 1000000))) with hb6 | hb6
   ·replace h := Qa2 hb6 h
    refine wrg [rb [(.tmp 5, .ref 1 4 0 0)] [(1, (z91_2 x5))] (.ref 1 4 0 0), rb [(.tmp 14, .ref 1 4 0 0)] [(1, (z91_2 x5))] (I x5.Mass), rp [(.tmp 15, I x5.Mass), ci 1000000] (B ((decide (x5.Mass > 1000000)))), rp [(.tmp 16, (B ((decide (x5.Mass > 1000000)))))] (B true), sk 17 (B true), sk 17 (B true), sk 17 (B true), rp [(.tmp 17, B true), cb true, (.tmp 20, (.lit undef))] (B true)] ?_ ?_
    ·exact ⟨afa rfl Try.underlying60 rfl rfl ti3 (by decide) rfl, ald rfl ti3 (by decide) rfl (nle rfl) rfl, abn rfl rfl, asb hb6 (amv rfl), trivial, trivial, trivial, apk rfl rfl, trivial⟩
    refine Qeq (by kernel_rfl) ?_
    refine wrg [rp [] (.agg [I 0, I 0, I 0, I 0]), ⟨[(.tmp 2, .ref 0 4 0 0), (.tmp 22, (.agg [I 0, I 0, I 0, I 0]))], [(0, z91_0)], .any, [(0, z91_0)], false⟩, mc (.int .i64 3)] ?_ ?_
    ·exact ⟨Qau (vs := []) rfl ts60 tz60 rfl (by rfl) rfl, ast rfl ti60 (by rfl) rfl (nle rfl) rfl, aas rfl, trivial⟩
    refine Qaf ?_
    refine Qa7 ?_
    obtain rfl := osi h
    exact ⟨⟨[(.agg [I 0, I 0, I 0, I 0]), I 3], ⟨Qbo (n := 0) (m := 4) (j := 0) (i := 0) (xs := [[I 0, I 0, I 0, I 0]]) (by kernel_rfl) (by kernel_rfl) ti60 (by decide) rfl (nle rfl) rfl, rot (by kernel_rfl), trivial⟩, rfl⟩, (NLt.tup _ (nlc (NLt.agg _ (nlc nll (nlc nll (nlc nll (nlc nll nl0))))) (nlc nll nl0))), Nat.le_refl _, fun n hn => absurd hn (Nat.not_lt_zero n)⟩
   ·replace h := Qa3 hb6 h
    refine wrg [rb [(.tmp 5, .ref 1 4 0 0)] [(1, (z91_2 x5))] (.ref 1 4 0 0), rb [(.tmp 14, .ref 1 4 0 0)] [(1, (z91_2 x5))] (I x5.Mass), rp [(.tmp 15, I x5.Mass), ci 1000000] (B ((decide (x5.Mass > 1000000)))), rp [(.tmp 16, (B ((decide (x5.Mass > 1000000)))))] (B false), rb [(.tmp 17, B false), (.tmp 5, .ref 1 4 0 0)] [(1, (z91_2 x5))] (.ref 1 4 0 3), rb [(.tmp 17, B false), (.tmp 18, .ref 1 4 0 3)] [(1, (z91_2 x5))] (I x5.Gas), rp [(.tmp 17, B false), (.tmp 19, I x5.Gas), ci 1000000000] (B ((decide (x5.Gas > 1000000000)))), rp [(.tmp 17, B false), cb true, (.tmp 20, (B ((decide (x5.Gas > 1000000000)))))] (B ((decide (x5.Gas > 1000000000))))] ?_ ?_
    ·exact ⟨afa rfl Try.underlying60 rfl rfl ti3 (by decide) rfl, ald rfl ti3 (by decide) rfl (nle rfl) rfl, abn rfl rfl, asb hb6 (amv rfl), ag_ (afa rfl Try.underlying60 rfl rfl ti3 (by decide) rfl), ag_ (ald rfl ti3 (by decide) rfl (nle rfl) rfl), ag_ (abn rfl rfl), apk rfl rfl, trivial⟩
    rcases bft ((decide (x5.Gas > 1000000000))) with hc7 | hc7
    ·replace h := Qa2 hc7 h
     refine wft hc7 (by kernel_rfl) ?_
     refine wrg [rp [] (.agg [I 0, I 0, I 0, I 0]), ⟨[(.tmp 2, .ref 0 4 0 0), (.tmp 22, (.agg [I 0, I 0, I 0, I 0]))], [(0, z91_0)], .any, [(0, z91_0)], false⟩, mc (.int .i64 3)] ?_ ?_
     ·exact ⟨Qau (vs := []) rfl ts60 tz60 rfl (by rfl) rfl, ast rfl ti60 (by rfl) rfl (nle rfl) rfl, aas rfl, trivial⟩
     refine Qaf ?_
     refine Qa7 ?_
     obtain rfl := osi h
     exact ⟨⟨[(.agg [I 0, I 0, I 0, I 0]), I 3], ⟨Qbo (n := 0) (m := 4) (j := 0) (i := 0) (xs := [[I 0, I 0, I 0, I 0]]) (by kernel_rfl) (by kernel_rfl) ti60 (by decide) rfl (nle rfl) rfl, rot (by kernel_rfl), trivial⟩, rfl⟩, (NLt.tup _ (nlc (NLt.agg _ (nlc nll (nlc nll (nlc nll (nlc nll nl0))))) (nlc nll nl0))), Nat.le_refl _, fun n hn => absurd hn (Nat.not_lt_zero n)⟩
    ·replace h := Qa3 hc7 h
     refine wfn hc7 (by kernel_rfl) ?_
     refine Qao ?_
     refine thn ?_
     refine wrg [rb [(.tmp 5, .ref 1 4 0 0)] [(1, (z91_2 x5))] (z91_1 x5), ⟨[(.tmp 2, .ref 0 4 0 0), (.tmp 23, (z91_1 x5))], [(0, z91_0)], .any, [(0, (z91_2 x5))], false⟩, mc (.int .i64 0)] ?_ ?_
     ·exact ⟨ald rfl ti60 (by decide) rfl (nle rfl) rfl, ast rfl ti60 (by rfl) rfl (nle rfl) rfl, aas rfl, trivial⟩
     refine Qaf ?_
     obtain rfl := osi h
     exact ⟨⟨[(z91_1 x5), I 0], ⟨Qbo (n := 0) (m := 4) (j := 0) (i := 0) (xs := [[I x5.Mass, I x5.Heat, I x5.Silica, I x5.Gas]]) (by kernel_rfl) (by kernel_rfl) ti60 (by decide) rfl (nle rfl) rfl, rot (by kernel_rfl), trivial⟩, rfl⟩, (NLt.tup _ (nlc (NLt.agg _ (nlc nll (nlc nll (nlc nll (nlc nll nl0))))) (nlc nll nl0))), Nat.le_refl _, fun n hn => absurd hn (Nat.not_lt_zero n)⟩

def Qf5 (N : Nat) (p0 : GStream) (p1 : GStream) (p2 : Int) : Option (GStream × Int × Int) :=
  (Qey N ([p0, p1])).bind fun x2 =>
  bif (!x2) then
   some ((⟨0, 0, 0, 0⟩ : GStream), 0, 1)
  else
   (Qbl N p2 0 1000000000).bind fun x5 =>
   bif (!x5) then
    some ((⟨0, 0, 0, 0⟩ : GStream), 0, 2)
   else
    (steam_MixX N ([p0, p1])).bind fun x8 =>
    bif (x8.2 != 0) then
     some ((⟨0, 0, 0, 0⟩ : GStream), 0, x8.2)
    else
     bif (decide (x8.1.Gas > p2)) then
      some ((⟨0, 0, 0, 0⟩ : GStream), 0, 11)
     else
      some ((⟨x8.1.Mass, x8.1.Heat, x8.1.Silica, 0⟩ : GStream), x8.1.Gas, 0)
def z90_1 (p0 : GStream) : AV := .agg [(I (p0.Mass)), (I (p0.Heat)), (I (p0.Silica)), (I (p0.Gas))]
def z90_0 (p0 : GStream) : Slot := .own 4 [[(I (p0.Mass)), (I (p0.Heat)), (I (p0.Silica)), (I (p0.Gas))]]
def z90_3 (p1 : GStream) : AV := .agg [(I (p1.Mass)), (I (p1.Heat)), (I (p1.Silica)), (I (p1.Gas))]
def z90_2 (p1 : GStream) : Slot := .own 4 [[(I (p1.Mass)), (I (p1.Heat)), (I (p1.Silica)), (I (p1.Gas))]]
def z90_4 : Slot := .own 4 [[(I (0)), (I (0)), (I (0)), (I (0))]]
def z90_5 (p0 : GStream) (p1 : GStream) : AV := .dat 4 (([p0, p1] : List GStream).map Qad)
def z90_6 (x8 : (GStream × Int)) : AV := .agg [(I (x8.1.Mass)), (I (x8.1.Heat)), (I (x8.1.Silica)), (I (x8.1.Gas))]
def z90_7 (x8 : (GStream × Int)) : Slot := .own 4 [[(I (x8.1.Mass)), (I (x8.1.Heat)), (I (x8.1.Silica)), (I (x8.1.Gas))]]
def z90_8 (x8 : (GStream × Int)) : Slot := .own 4 [[(I (x8.1.Mass)), (I (x8.1.Heat)), (I (x8.1.Silica)), (I (0))]]
def z90_9 (x8 : (GStream × Int)) : AV := .agg [(I (x8.1.Mass)), (I (x8.1.Heat)), (I (x8.1.Silica)), (I (0))]
set_option maxRecDepth 100000 in
set_option maxHeartbeats 4000000 in
theorem plant_CondenseX_ok (N : Nat) (p0 : GStream) (p1 : GStream) (p2 : Int) (r : (GStream × Int × Int)) (h : Qf5 N p0 p1 p2 = some r) : Spec Try.prog 58 [(.agg (Qad p0)), (.agg (Qad p1)), (I p2)] [] (.tup [(.agg (Qad r.1)), (I r.2.1), (I r.2.2)]) [] := by
  refine Qae Try.func58 rfl 0 (nle rfl) (fun X φ0 w0 hφ0 => ?_)
  unfold Qf5 at h
  refine wrg [⟨[(.tmp 0, (z90_1 p0))], [(0, .unused)], .ref 0 4 0 0, [(0, (z90_0 p0))], false⟩, ⟨[(.tmp 1, (z90_3 p1))], [(1, .unused)], .ref 1 4 0 0, [(1, (z90_2 p1))], false⟩, ⟨[], [(2, .unused)], .ref 2 4 0 0, [(2, z90_4)], false⟩, mc (.int .i64 0), mc (.int .i64 0)] ?_ ?_
  ·exact ⟨Qa0 rfl (by rfl) rfl rfl, Qa0 rfl (by rfl) rfl rfl, Qa5 rfl tz60 rfl, aas rfl, aas rfl, trivial⟩
  refine wsq ?_
  refine Qal ?_
  obtain ⟨x2, hf1, h⟩ := bno h
  refine wrg [rb [(.tmp 3, .ref 0 4 0 0)] [(0, (z90_0 p0))] (z90_1 p0), rb [(.tmp 4, .ref 1 4 0 0)] [(1, (z90_2 p1))] (z90_3 p1), rp [(.tmp 10, (z90_1 p0)), (.tmp 11, (z90_3 p1))] (z90_5 p0 p1), rp [fu 74, (.tmp 12, (z90_5 p0 p1))] (B x2), rp [(.tmp 13, B x2)] (B ((!x2))), mv 14 (B ((!x2)))] ?_ ?_
  ·exact ⟨ald rfl ti60 (by decide) rfl (nle rfl) rfl, ald rfl ti60 (by decide) rfl (nle rfl) rfl, Qcr (vs := [(z90_1 p0), (z90_3 p1)]) rfl Try.underlying143 ti60 tz60 rfl (by decide) rfl (by decide) (by rfl) (by rfl) (by rfl) rfl, apc (first := []) (cap := []) (vs := [(z90_5 p0 p1)]) rfl enter74 (Qin N ([p0, p1]) _ hf1) rfl rfl (nlc (nld Qc0 _) nl0) nll rfl, Qa6 rfl, aas rfl, trivial⟩
  rcases bft ((!x2)) with hc3 | hc3
  ·replace h := Qa2 hc3 h
   refine wft hc3 (by kernel_rfl) ?_
   refine wrg [rp [] (.agg [I 0, I 0, I 0, I 0]), ⟨[(.tmp 6, .ref 2 4 0 0), (.tmp 15, (.agg [I 0, I 0, I 0, I 0]))], [(2, z90_4)], .any, [(2, z90_4)], false⟩, mc (.int .i64 0), mc (.int .i64 1)] ?_ ?_
   ·exact ⟨Qau (vs := []) rfl ts60 tz60 rfl (by rfl) rfl, ast rfl ti60 (by rfl) rfl (nle rfl) rfl, aas rfl, aas rfl, trivial⟩
   refine Qaf ?_
   refine Qcp ?_
   refine Qa7 ?_
   obtain rfl := osi h
   exact ⟨⟨[(.agg [I 0, I 0, I 0, I 0]), I 0, I 1], ⟨Qbo (n := 2) (m := 4) (j := 0) (i := 0) (xs := [[I 0, I 0, I 0, I 0]]) (by kernel_rfl) (by kernel_rfl) ti60 (by decide) rfl (nle rfl) rfl, rot (by kernel_rfl), rot (by kernel_rfl), trivial⟩, rfl⟩, (NLt.tup _ (nlc (NLt.agg _ (nlc nll (nlc nll (nlc nll (nlc nll nl0))))) (nlc nll (nlc nll nl0)))), Nat.le_refl _, fun n hn => absurd hn (Nat.not_lt_zero n)⟩
  ·replace h := Qa3 hc3 h
   refine wfn hc3 (by kernel_rfl) ?_
   obtain ⟨x5, hf4, h⟩ := bno h
   refine wrg [mv 2 (I p2), rp [fu 65, (.tmp 17, I p2), ci 0, ci 1000000000] (B x5), rp [(.tmp 18, B x5)] (B ((!x5))), mv 19 (B ((!x5)))] ?_ ?_
   ·exact ⟨amv rfl, apc (first := []) (cap := []) (vs := [I p2, I 0, I 1000000000]) rfl Qb2 (Qag N p2 0 1000000000 _ hf4) rfl rfl (nlc nll (nlc nll (nlc nll nl0))) nll rfl, Qa6 rfl, aas rfl, trivial⟩
   rcases bft ((!x5)) with hc6 | hc6
   ·replace h := Qa2 hc6 h
    refine wft hc6 (by kernel_rfl) ?_
    refine wrg [rp [] (.agg [I 0, I 0, I 0, I 0]), ⟨[(.tmp 6, .ref 2 4 0 0), (.tmp 20, (.agg [I 0, I 0, I 0, I 0]))], [(2, z90_4)], .any, [(2, z90_4)], false⟩, mc (.int .i64 0), mc (.int .i64 2)] ?_ ?_
    ·exact ⟨Qau (vs := []) rfl ts60 tz60 rfl (by rfl) rfl, ast rfl ti60 (by rfl) rfl (nle rfl) rfl, aas rfl, aas rfl, trivial⟩
    refine Qaf ?_
    refine Qcp ?_
    refine Qa7 ?_
    obtain rfl := osi h
    exact ⟨⟨[(.agg [I 0, I 0, I 0, I 0]), I 0, I 2], ⟨Qbo (n := 2) (m := 4) (j := 0) (i := 0) (xs := [[I 0, I 0, I 0, I 0]]) (by kernel_rfl) (by kernel_rfl) ti60 (by decide) rfl (nle rfl) rfl, rot (by kernel_rfl), rot (by kernel_rfl), trivial⟩, rfl⟩, (NLt.tup _ (nlc (NLt.agg _ (nlc nll (nlc nll (nlc nll (nlc nll nl0))))) (nlc nll (nlc nll nl0)))), Nat.le_refl _, fun n hn => absurd hn (Nat.not_lt_zero n)⟩
   ·replace h := Qa3 hc6 h
    refine wfn hc6 (by kernel_rfl) ?_
    refine Qao ?_
    refine bln ?_
    refine thn ?_
    obtain ⟨x8, hf7, h⟩ := bno h
    refine wrg [rb [(.tmp 3, .ref 0 4 0 0)] [(0, (z90_0 p0))] (z90_1 p0), rb [(.tmp 4, .ref 1 4 0 0)] [(1, (z90_2 p1))] (z90_3 p1), rp [(.tmp 22, (z90_1 p0)), (.tmp 23, (z90_3 p1))] (z90_5 p0 p1), rp [fu 91, (.tmp 24, (z90_5 p0 p1))] (.tup [(z90_6 x8), I x8.2]), mv 25 (.tup [(z90_6 x8), I x8.2]), rp [(.tmp 21, (.tup [(z90_6 x8), I x8.2]))] (z90_6 x8), rp [(.tmp 21, (.tup [(z90_6 x8), I x8.2]))] (I x8.2), ⟨[(.tmp 6, .ref 2 4 0 0), (.tmp 26, (z90_6 x8))], [(2, z90_4)], .any, [(2, (z90_7 x8))], false⟩, mv 27 (I x8.2)] ?_ ?_
    ·exact ⟨ald rfl ti60 (by decide) rfl (nle rfl) rfl, ald rfl ti60 (by decide) rfl (nle rfl) rfl, Qcr (vs := [(z90_1 p0), (z90_3 p1)]) rfl Try.underlying143 ti60 tz60 rfl (by decide) rfl (by decide) (by rfl) (by rfl) (by rfl) rfl, apc (first := []) (cap := []) (vs := [(z90_5 p0 p1)]) rfl enter91 (steam_MixX_ok N ([p0, p1]) _ hf7) rfl rfl (nlc (nld Qc0 _) nl0) (NLt.tup _ (nlc (NLt.agg _ (nlc nll (nlc nll (nlc nll (nlc nll nl0))))) (nlc nll nl0))) rfl, amv rfl, Qay rfl rfl, Qay rfl rfl, ast rfl ti60 (by rfl) rfl (nle rfl) rfl, aas rfl, trivial⟩
    refine wsq ?_
    refine wrg [mv 8 (I x8.2), rp [(.tmp 28, I x8.2), ci 0] (B ((x8.2 != 0)))] ?_ ?_
    ·exact ⟨amv rfl, abn rfl rfl, trivial⟩
    rcases bft ((x8.2 != 0)) with hc9 | hc9
    ·replace h := Qa2 hc9 h
     refine wft hc9 (by kernel_rfl) ?_
     refine wrg [rp [] (.agg [I 0, I 0, I 0, I 0]), mv 8 (I x8.2), ⟨[(.tmp 6, .ref 2 4 0 0), (.tmp 30, (.agg [I 0, I 0, I 0, I 0]))], [(2, (z90_7 x8))], .any, [(2, z90_4)], false⟩, mc (.int .i64 0), mv 31 (I x8.2)] ?_ ?_
     ·exact ⟨Qau (vs := []) rfl ts60 tz60 rfl (by rfl) rfl, amv rfl, ast rfl ti60 (by rfl) rfl (nle rfl) rfl, aas rfl, aas rfl, trivial⟩
     refine Qaf ?_
     refine Qa7 ?_
     obtain rfl := osi h
     exact ⟨⟨[(.agg [I 0, I 0, I 0, I 0]), I 0, I x8.2], ⟨Qbo (n := 2) (m := 4) (j := 0) (i := 0) (xs := [[I 0, I 0, I 0, I 0]]) (by kernel_rfl) (by kernel_rfl) ti60 (by decide) rfl (nle rfl) rfl, rot (by kernel_rfl), rot (by kernel_rfl), trivial⟩, rfl⟩, (NLt.tup _ (nlc (NLt.agg _ (nlc nll (nlc nll (nlc nll (nlc nll nl0))))) (nlc nll (nlc nll nl0)))), Nat.le_refl _, fun n hn => absurd hn (Nat.not_lt_zero n)⟩
    ·replace h := Qa3 hc9 h
     refine wfn hc9 (by kernel_rfl) ?_
     refine Qao ?_
     refine thn ?_
     refine wsq ?_
     refine wrg [rb [(.tmp 6, .ref 2 4 0 0)] [(2, (z90_7 x8))] (.ref 2 4 0 3), rb [(.tmp 32, .ref 2 4 0 3)] [(2, (z90_7 x8))] (I x8.1.Gas), mv 2 (I p2), rp [(.tmp 33, I x8.1.Gas), (.tmp 34, I p2)] (B ((decide (x8.1.Gas > p2))))] ?_ ?_
     ·exact ⟨afa rfl Try.underlying60 rfl rfl ti3 (by decide) rfl, ald rfl ti3 (by decide) rfl (nle rfl) rfl, amv rfl, abn rfl rfl, trivial⟩
     rcases bft ((decide (x8.1.Gas > p2))) with hc10 | hc10
     ·replace h := Qa2 hc10 h
      refine wft hc10 (by kernel_rfl) ?_
      refine wrg [rp [] (.agg [I 0, I 0, I 0, I 0]), ⟨[(.tmp 6, .ref 2 4 0 0), (.tmp 36, (.agg [I 0, I 0, I 0, I 0]))], [(2, (z90_7 x8))], .any, [(2, z90_4)], false⟩, mc (.int .i64 0), mc (.int .i64 11)] ?_ ?_
      ·exact ⟨Qau (vs := []) rfl ts60 tz60 rfl (by rfl) rfl, ast rfl ti60 (by rfl) rfl (nle rfl) rfl, aas rfl, aas rfl, trivial⟩
      refine Qaf ?_
      refine Qa7 ?_
      obtain rfl := osi h
      exact ⟨⟨[(.agg [I 0, I 0, I 0, I 0]), I 0, I 11], ⟨Qbo (n := 2) (m := 4) (j := 0) (i := 0) (xs := [[I 0, I 0, I 0, I 0]]) (by kernel_rfl) (by kernel_rfl) ti60 (by decide) rfl (nle rfl) rfl, rot (by kernel_rfl), rot (by kernel_rfl), trivial⟩, rfl⟩, (NLt.tup _ (nlc (NLt.agg _ (nlc nll (nlc nll (nlc nll (nlc nll nl0))))) (nlc nll (nlc nll nl0)))), Nat.le_refl _, fun n hn => absurd hn (Nat.not_lt_zero n)⟩
     ·replace h := Qa3 hc10 h
      refine wfn hc10 (by kernel_rfl) ?_
      refine Qao ?_
      refine thn ?_
      refine wrg [rb [(.tmp 6, .ref 2 4 0 0)] [(2, (z90_7 x8))] (.ref 2 4 0 3), rb [(.tmp 37, .ref 2 4 0 3)] [(2, (z90_7 x8))] (I x8.1.Gas), mv 38 (I x8.1.Gas), rb [(.tmp 6, .ref 2 4 0 0)] [(2, (z90_7 x8))] (.ref 2 4 0 3), ⟨[(.tmp 39, .ref 2 4 0 3), ci 0], [(2, (z90_7 x8))], .any, [(2, (z90_8 x8))], false⟩] ?_ ?_
      ·exact ⟨afa rfl Try.underlying60 rfl rfl ti3 (by decide) rfl, ald rfl ti3 (by decide) rfl (nle rfl) rfl, aas rfl, afa rfl Try.underlying60 rfl rfl ti3 (by decide) rfl, ast rfl ti3 (by rfl) rfl (nle rfl) rfl, trivial⟩
      refine wrg [rb [(.tmp 6, .ref 2 4 0 0)] [(2, (z90_8 x8))] (z90_9 x8), mv 7 (I x8.1.Gas), ⟨[(.tmp 6, .ref 2 4 0 0), (.tmp 40, (z90_9 x8))], [(2, (z90_8 x8))], .any, [(2, (z90_8 x8))], false⟩, mv 41 (I x8.1.Gas), mc (.int .i64 0)] ?_ ?_
      ·exact ⟨ald rfl ti60 (by decide) rfl (nle rfl) rfl, amv rfl, ast rfl ti60 (by rfl) rfl (nle rfl) rfl, aas rfl, aas rfl, trivial⟩
      refine Qaf ?_
      obtain rfl := osi h
      exact ⟨⟨[(z90_9 x8), I x8.1.Gas, I 0], ⟨Qbo (n := 2) (m := 4) (j := 0) (i := 0) (xs := [[I x8.1.Mass, I x8.1.Heat, I x8.1.Silica, I 0]]) (by kernel_rfl) (by kernel_rfl) ti60 (by decide) rfl (nle rfl) rfl, rot (by kernel_rfl), rot (by kernel_rfl), trivial⟩, rfl⟩, (NLt.tup _ (nlc (NLt.agg _ (nlc nll (nlc nll (nlc nll (nlc nll nl0))))) (nlc nll (nlc nll nl0)))), Nat.le_refl _, fun n hn => absurd hn (Nat.not_lt_zero n)⟩

def Qgz (N : Nat) (p0 : GUnit) (p1 : GStream) : Option (GStream × Int × Int) :=
  (Qf3 N p0).bind fun x2 =>
  bif (decide (p1.Mass > x2)) then
   some ((⟨0, 0, 0, 0⟩ : GStream), 0, 2)
  else
   (Qhs N p0 p1.Mass).bind fun x5 =>
   bif (decide (p1.Heat < x5)) then
    some ((⟨0, 0, 0, 0⟩ : GStream), 0, 9)
   else
    some ((⟨p1.Mass, w64 (p1.Heat - x5), p1.Silica, p1.Gas⟩ : GStream), x5, 0)
def z101_0 (p0 : GUnit) : AV := .dat 2 ((p0.Parts : List GPart).map Qap)
def z101_2 (p1 : GStream) : AV := .agg [(I (p1.Mass)), (I (p1.Heat)), (I (p1.Silica)), (I (p1.Gas))]
def z101_1 (p1 : GStream) : Slot := .own 4 [[(I (p1.Mass)), (I (p1.Heat)), (I (p1.Silica)), (I (p1.Gas))]]
def z101_3 : Slot := .own 4 [[(I (0)), (I (0)), (I (0)), (I (0))]]
def z101_4 (p1 : GStream) (x5 : Int) : Slot := .own 4 [[(I (p1.Mass)), (I (w64 (p1.Heat - x5))), (I (p1.Silica)), (I (p1.Gas))]]
def z101_5 (p1 : GStream) (x5 : Int) : AV := .agg [(I (p1.Mass)), (I (w64 (p1.Heat - x5))), (I (p1.Silica)), (I (p1.Gas))]
set_option maxRecDepth 100000 in
set_option maxHeartbeats 4000000 in
theorem ref07_ExpandX_ok (N : Nat) (p0 : GUnit) (p1 : GStream) (r : (GStream × Int × Int)) (h : Qgz N p0 p1 = some r) : Spec Try.prog 59 [(.agg (Qat p0)), (.agg (Qad p1))] [] (.tup [(.agg (Qad r.1)), (I r.2.1), (I r.2.2)]) [] := by
  refine Qae Try.func59 rfl 0 (nle rfl) (fun X φ0 w0 hφ0 => ?_)
  unfold Qgz at h
  refine wrg [⟨[(.tmp 0, (.agg [I p0.Inlet, (z101_0 p0)]))], [(0, .unused)], .ref 0 2 0 0, [(0, (.own 2 [[I p0.Inlet, (z101_0 p0)]]))], false⟩, ⟨[(.tmp 1, (z101_2 p1))], [(1, .unused)], .ref 1 4 0 0, [(1, (z101_1 p1))], false⟩, ⟨[], [(2, .unused)], .ref 2 4 0 0, [(2, z101_3)], false⟩, mc (.int .i64 0), mc (.int .i64 0)] ?_ ?_
  ·exact ⟨Qa0 rfl (by rfl) rfl rfl, Qa0 rfl (by rfl) rfl rfl, Qa5 rfl tz57 rfl, aas rfl, aas rfl, trivial⟩
  refine wsq ?_
  obtain ⟨x2, hf1, h⟩ := bno h
  refine Qcq [rb [(.tmp 3, .ref 1 4 0 0)] [(1, (z101_1 p1))] (.ref 1 4 0 0), rb [(.tmp 8, .ref 1 4 0 0)] [(1, (z101_1 p1))] (I p1.Mass), rb [(.tmp 2, .ref 0 2 0 0)] [(0, (.own 2 [[I p0.Inlet, (z101_0 p0)]]))] (.agg [I p0.Inlet, (z101_0 p0)]), rp [fu 16, (.tmp 10, (.agg [I p0.Inlet, (z101_0 p0)]))] (I x2), rp [(.tmp 9, I p1.Mass), (.tmp 11, I x2)] (B ((decide (p1.Mass > x2))))] ?_ ?_
  ·exact ⟨afa rfl Try.underlying57 rfl rfl ti3 (by decide) rfl, ald rfl ti3 (by decide) rfl (nle rfl) rfl, ald rfl ti24 (by decide) rfl (nle rfl) rfl, apc (first := []) (cap := []) (vs := [(.agg [I p0.Inlet, (z101_0 p0)])]) rfl enter16 (ref07_CapacityX_ok N p0 _ hf1) rfl rfl (nlc (NLt.agg _ (nlc nll (nlc (nld Qa8 _) nl0))) nl0) nll rfl, abn rfl rfl, trivial⟩
  rcases bft ((decide (p1.Mass > x2))) with hc3 | hc3
  ·replace h := Qa2 hc3 h
   refine wft hc3 (by kernel_rfl) ?_
   refine wrg [rp [] (.agg [I 0, I 0, I 0, I 0]), ⟨[(.tmp 4, .ref 2 4 0 0), (.tmp 13, (.agg [I 0, I 0, I 0, I 0]))], [(2, z101_3)], .any, [(2, z101_3)], false⟩, mc (.int .i64 0), mc (.int .i64 2)] ?_ ?_
   ·exact ⟨Qau (vs := []) rfl ts57 tz57 rfl (by rfl) rfl, ast rfl ti57 (by rfl) rfl (nle rfl) rfl, aas rfl, aas rfl, trivial⟩
   refine Qaf ?_
   refine Qa7 ?_
   obtain rfl := osi h
   exact ⟨⟨[(.agg [I 0, I 0, I 0, I 0]), I 0, I 2], ⟨Qbo (n := 2) (m := 4) (j := 0) (i := 0) (xs := [[I 0, I 0, I 0, I 0]]) (by kernel_rfl) (by kernel_rfl) ti57 (by decide) rfl (nle rfl) rfl, rot (by kernel_rfl), rot (by kernel_rfl), trivial⟩, rfl⟩, (NLt.tup _ (nlc (NLt.agg _ (nlc nll (nlc nll (nlc nll (nlc nll nl0))))) (nlc nll (nlc nll nl0)))), Nat.le_refl _, fun n hn => absurd hn (Nat.not_lt_zero n)⟩
  ·replace h := Qa3 hc3 h
   refine wfn hc3 (by kernel_rfl) ?_
   refine Qao ?_
   refine thn ?_
   obtain ⟨x5, hf4, h⟩ := bno h
   refine wrg [rb [(.tmp 2, .ref 0 2 0 0)] [(0, (.own 2 [[I p0.Inlet, (z101_0 p0)]]))] (.agg [I p0.Inlet, (z101_0 p0)]), rb [(.tmp 3, .ref 1 4 0 0)] [(1, (z101_1 p1))] (.ref 1 4 0 0), rb [(.tmp 15, .ref 1 4 0 0)] [(1, (z101_1 p1))] (I p1.Mass), rp [fu 26, (.tmp 14, (.agg [I p0.Inlet, (z101_0 p0)])), (.tmp 16, I p1.Mass)] (I x5), mv 17 (I x5)] ?_ ?_
   ·exact ⟨ald rfl ti24 (by decide) rfl (nle rfl) rfl, afa rfl Try.underlying57 rfl rfl ti3 (by decide) rfl, ald rfl ti3 (by decide) rfl (nle rfl) rfl, apc (first := []) (cap := []) (vs := [(.agg [I p0.Inlet, (z101_0 p0)]), I p1.Mass]) rfl enter26 (ref07_PowerX_ok N p0 p1.Mass _ hf4) rfl rfl (nlc (NLt.agg _ (nlc nll (nlc (nld Qa8 _) nl0))) (nlc nll nl0)) nll rfl, aas rfl, trivial⟩
   refine wsq ?_
   refine wrg [rb [(.tmp 3, .ref 1 4 0 0)] [(1, (z101_1 p1))] (.ref 1 4 0 1), rb [(.tmp 18, .ref 1 4 0 1)] [(1, (z101_1 p1))] (I p1.Heat), mv 7 (I x5), rp [(.tmp 19, I p1.Heat), (.tmp 20, I x5)] (B ((decide (p1.Heat < x5))))] ?_ ?_
   ·exact ⟨afa rfl Try.underlying57 rfl rfl ti3 (by decide) rfl, ald rfl ti3 (by decide) rfl (nle rfl) rfl, amv rfl, abn rfl rfl, trivial⟩
   rcases bft ((decide (p1.Heat < x5))) with hc6 | hc6
   ·replace h := Qa2 hc6 h
    refine wft hc6 (by kernel_rfl) ?_
    refine wrg [rp [] (.agg [I 0, I 0, I 0, I 0]), ⟨[(.tmp 4, .ref 2 4 0 0), (.tmp 22, (.agg [I 0, I 0, I 0, I 0]))], [(2, z101_3)], .any, [(2, z101_3)], false⟩, mc (.int .i64 0), mc (.int .i64 9)] ?_ ?_
    ·exact ⟨Qau (vs := []) rfl ts57 tz57 rfl (by rfl) rfl, ast rfl ti57 (by rfl) rfl (nle rfl) rfl, aas rfl, aas rfl, trivial⟩
    refine Qaf ?_
    refine Qa7 ?_
    obtain rfl := osi h
    exact ⟨⟨[(.agg [I 0, I 0, I 0, I 0]), I 0, I 9], ⟨Qbo (n := 2) (m := 4) (j := 0) (i := 0) (xs := [[I 0, I 0, I 0, I 0]]) (by kernel_rfl) (by kernel_rfl) ti57 (by decide) rfl (nle rfl) rfl, rot (by kernel_rfl), rot (by kernel_rfl), trivial⟩, rfl⟩, (NLt.tup _ (nlc (NLt.agg _ (nlc nll (nlc nll (nlc nll (nlc nll nl0))))) (nlc nll (nlc nll nl0)))), Nat.le_refl _, fun n hn => absurd hn (Nat.not_lt_zero n)⟩
   ·replace h := Qa3 hc6 h
    refine wfn hc6 (by kernel_rfl) ?_
    refine Qao ?_
    refine thn ?_
    refine wrg [rb [(.tmp 3, .ref 1 4 0 0)] [(1, (z101_1 p1))] (.ref 1 4 0 1), rb [(.tmp 23, .ref 1 4 0 1)] [(1, (z101_1 p1))] (I p1.Heat), mv 7 (I x5), rp [(.tmp 24, I p1.Heat), (.tmp 25, I x5)] (I (w64 (p1.Heat - x5))), rb [(.tmp 3, .ref 1 4 0 0)] [(1, (z101_1 p1))] (.ref 1 4 0 1), ⟨[(.tmp 27, .ref 1 4 0 1), (.tmp 26, (I (w64 (p1.Heat - x5))))], [(1, (z101_1 p1))], .any, [(1, (z101_4 p1 x5))], false⟩] ?_ ?_
    ·exact ⟨afa rfl Try.underlying57 rfl rfl ti3 (by decide) rfl, ald rfl ti3 (by decide) rfl (nle rfl) rfl, amv rfl, abn rfl rfl, afa rfl Try.underlying57 rfl rfl ti3 (by decide) rfl, ast rfl ti3 (by rfl) rfl (nle rfl) rfl, trivial⟩
    refine wrg [rb [(.tmp 3, .ref 1 4 0 0)] [(1, (z101_4 p1 x5))] (z101_5 p1 x5), mv 7 (I x5), ⟨[(.tmp 4, .ref 2 4 0 0), (.tmp 28, (z101_5 p1 x5))], [(2, z101_3)], .any, [(2, (z101_4 p1 x5))], false⟩, mv 29 (I x5), mc (.int .i64 0)] ?_ ?_
    ·exact ⟨ald rfl ti57 (by decide) rfl (nle rfl) rfl, amv rfl, ast rfl ti57 (by rfl) rfl (nle rfl) rfl, aas rfl, aas rfl, trivial⟩
    refine Qaf ?_
    obtain rfl := osi h
    exact ⟨⟨[(z101_5 p1 x5), I x5, I 0], ⟨Qbo (n := 2) (m := 4) (j := 0) (i := 0) (xs := [[I p1.Mass, (I (w64 (p1.Heat - x5))), I p1.Silica, I p1.Gas]]) (by kernel_rfl) (by kernel_rfl) ti57 (by decide) rfl (nle rfl) rfl, rot (by kernel_rfl), rot (by kernel_rfl), trivial⟩, rfl⟩, (NLt.tup _ (nlc (NLt.agg _ (nlc nll (nlc nll (nlc nll (nlc nll nl0))))) (nlc nll (nlc nll nl0)))), Nat.le_refl _, fun n hn => absurd hn (Nat.not_lt_zero n)⟩

def Qes (N : Nat) (p0 : (List GStream)) (k5 : Int × Int × Int × Int → Option GStream) : Nat → Int → Int → Int → Int → Int → Option GStream
  | 0, _, _, _, _, _ => none
  | n16 + 1, y6, y7, y8, y9, y10 =>
    bif (decide (y6 < (p0.length : Int))) then
     (getI p0 y6).bind fun x18 =>
     Qes N p0 k5 n16 (w64 (y6 + 1)) (w64 (y7 + x18.Mass)) (w64 (y8 + x18.Heat)) (w64 (y9 + x18.Silica)) (w64 (y10 + x18.Gas))
    else
     k5 (y7, y8, y9, y10)
def Qje (N : Nat) (p0 : (List GStream)) : Option GStream :=
  Qc5 (fun ⟨y1, y2, y3, y4⟩ =>
    some (⟨y1, y2, y3, y4⟩ : GStream)) fun k5 : Int × Int × Int × Int → Option GStream =>
  Qes N p0 k5 N 0 0 0 0 0
def z103_0 : Slot := .own 4 [[(I (0)), (I (0)), (I (0)), (I (0))]]
def z103_9 (y1 : Int) (y2 : Int) (y3 : Int) (y4 : Int) : Slot := .own 4 [[(I (y1)), (I (y2)), (I (y3)), (I (y4))]]
def z103_10 (y1 : Int) (y2 : Int) (y3 : Int) (y4 : Int) : AV := .agg [(I (y1)), (I (y2)), (I (y3)), (I (y4))]
def Qik (y7 : Int) (y8 : Int) (y9 : Int) (y10 : Int) : Slot := .own 4 [[(I (y7)), (I (y8)), (I (y9)), (I (y10))]]
def z103_16 (y7 : Int) (x18 : GStream) (y8 : Int) (y9 : Int) (y10 : Int) : AV := .agg [(I (w64 (y7 + x18.Mass))), (I (w64 (y8 + x18.Heat))), (I (w64 (y9 + x18.Silica))), (I (w64 (y10 + x18.Gas)))]
def z103_17 (y7 : Int) (x18 : GStream) (y8 : Int) (y9 : Int) (y10 : Int) : Slot := .own 4 [[(I (w64 (y7 + x18.Mass))), (I (w64 (y8 + x18.Heat))), (I (w64 (y9 + x18.Silica))), (I (w64 (y10 + x18.Gas)))]]
set_option maxRecDepth 100000 in
set_option maxHeartbeats 4000000 in
theorem ref01_SumX_ok (N : Nat) (p0 : (List GStream)) (r : GStream) (h : Qje N p0 = some r) : Spec Try.prog 92 [(.dat 4 (p0.map Qad))] [] (.agg (Qad r)) [] := by
  refine Qae Try.func92 rfl 0 (nle rfl) (fun X φ0 w0 hφ0 => ?_)
  unfold Qje at h
  refine wrg [⟨[], [(0, .unused)], .ref 0 4 0 0, [(0, z103_0)], false⟩] ?_ ?_
  ·exact ⟨Qa5 rfl tz57 rfl, trivial⟩
  refine wrg [⟨[], [(1, .unused)], .ref 1 4 0 0, [(1, z103_0)], false⟩] ?_ ?_
  ·exact ⟨Qa5 rfl tz57 rfl, trivial⟩
  obtain ⟨k5, hk_k5, h⟩ := jko h
  refine wjn (τ := Int × Int × Int × Int) (fun t => k5 t = some r) (fun ⟨y1, y2, y3, y4⟩ => ⟨mk 45 [(2, .ref 0 4 0 0), (3, .ref 1 4 0 0)], [z103_0, (z103_9 y1 y2 y3 y4)]⟩) (fun t h => ?_) ?_
  ·subst hk_k5
   obtain ⟨y1, y2, y3, y4⟩ := t
   refine wrg [rb [(.tmp 3, .ref 1 4 0 0)] [(1, (z103_9 y1 y2 y3 y4))] (z103_10 y1 y2 y3 y4), ⟨[(.tmp 2, .ref 0 4 0 0), (.tmp 44, (z103_10 y1 y2 y3 y4))], [(0, z103_0)], .any, [(0, (z103_9 y1 y2 y3 y4))], false⟩] ?_ ?_
   ·exact ⟨ald rfl ti57 (by decide) rfl (nle rfl) rfl, ast rfl ti57 (by rfl) rfl (nle rfl) rfl, trivial⟩
   refine Qaf ?_
   obtain rfl := osi h
   exact ⟨⟨[(z103_10 y1 y2 y3 y4)], ⟨Qbo (n := 0) (m := 4) (j := 0) (i := 0) (xs := [[I y1, I y2, I y3, I y4]]) (by kernel_rfl) (by kernel_rfl) ti57 (by decide) rfl (nle rfl) rfl, trivial⟩, rfl⟩, (NLt.agg _ (nlc nll (nlc nll (nlc nll (nlc nll nl0))))), Nat.le_refl _, fun n hn => absurd hn (Nat.not_lt_zero n)⟩
  ·skip
   refine wrg [mc (.int .i64 0)] ?_ ?_
   ·exact ⟨aas rfl, trivial⟩
   refine Qal ?_
   refine wmr (mto (n := 45) (l' := [(0, (.dat 4 ((p0 : List GStream).map Qad))), (2, .ref 0 4 0 0), (3, .ref 1 4 0 0), (4, I 0)]) (own' := [z103_0, z103_0]) [(0, (.dat 4 ((p0 : List GStream).map Qad))), (2, .ref 0 4 0 0), (3, .ref 1 4 0 0), (4, I 0)] [0, 1] [z103_0, z103_0] hφ0 (pc (.rn (.plain _ (nld Qc0 _))) (pc (.rn (rqr rfl)) (pc (.rn (rqr rfl)) (pc rwl pn)))) (qc (spb (lc rwl (lc rwl (lc rwl (lc rwl ln))))) (qc (spb (lc rwl (lc rwl (lc rwl (lc rwl ln))))) qn))) ?_
   refine Qci (τ := Int × Int × Int × Int × Int) (fun n t => Qes N p0 k5 n t.1 t.2.1 t.2.2.1 t.2.2.2.1 t.2.2.2.2 = some r) (fun ⟨y6, y7, y8, y9, y10⟩ => ⟨mk 45 [(0, (.dat 4 ((p0 : List GStream).map Qad))), (2, .ref 0 4 0 0), (3, .ref 1 4 0 0), (4, I y6)], [z103_0, (Qik y7 y8 y9 y10)]⟩) (fun t h => by rw [Qes] at h; cases h) (fun n16 ih t h => ?_) N (0, 0, 0, 0, 0) h
   obtain ⟨y6, y7, y8, y9, y10⟩ := t
   rw [Qes] at h
   skip
   refine wsq ?_
   refine wrg [mv 4 (I y6), mv 0 (.dat 4 ((p0 : List GStream).map Qad)), rp [(.tmp 6, (.dat 4 ((p0 : List GStream).map Qad)))] (I ((p0.length : Int))), rp [(.tmp 5, I y6), (.tmp 7, (I ((p0.length : Int))))] (B ((decide (y6 < (p0.length : Int)))))] ?_ ?_
   ·exact ⟨amv rfl, amv rfl, alm (c := Qad) (l := p0) (aln rfl Try.underlying145 rfl), abn rfl rfl, trivial⟩
   rcases bft ((decide (y6 < (p0.length : Int)))) with hc17 | hc17
   ·replace h := Qa2 hc17 h
    refine wft hc17 (by kernel_rfl) ?_
    refine Qao ?_
    refine thn ?_
    refine wsq ?_
    refine Qal ?_
    obtain ⟨x18, hg19, h⟩ := bno h
    obtain ⟨hi20, hj21⟩ := gsm hg19
    refine Qe6 [rb [(.tmp 3, .ref 1 4 0 0)] [(1, (Qik y7 y8 y9 y10))] (.ref 1 4 0 0), rb [(.tmp 11, .ref 1 4 0 0)] [(1, (Qik y7 y8 y9 y10))] (I y7), mv 0 (.dat 4 ((p0 : List GStream).map Qad)), mv 4 (I y6), rp [(.tmp 13, (.dat 4 ((p0 : List GStream).map Qad))), (.tmp 14, I y6)] (.dptr (Qad (x18)) 0), mv 15 (.dptr (Qad (x18)) 0), rp [(.tmp 16, (.dptr (Qad (x18)) 0))] (I x18.Mass), rp [(.tmp 12, I y7), (.tmp 17, I x18.Mass)] (I (w64 (y7 + x18.Mass))), rb [(.tmp 3, .ref 1 4 0 0)] [(1, (Qik y7 y8 y9 y10))] (.ref 1 4 0 1), rb [(.tmp 19, .ref 1 4 0 1)] [(1, (Qik y7 y8 y9 y10))] (I y8), mv 0 (.dat 4 ((p0 : List GStream).map Qad)), mv 4 (I y6), rp [(.tmp 21, (.dat 4 ((p0 : List GStream).map Qad))), (.tmp 22, I y6)] (.dptr (Qad (x18)) 0), rp [(.tmp 23, (.dptr (Qad (x18)) 0))] (.dptr (Qad (x18)) 1), rp [(.tmp 24, (.dptr (Qad (x18)) 1))] (I x18.Heat), rp [(.tmp 20, I y8), (.tmp 25, I x18.Heat)] (I (w64 (y8 + x18.Heat))), rb [(.tmp 3, .ref 1 4 0 0)] [(1, (Qik y7 y8 y9 y10))] (.ref 1 4 0 2), rb [(.tmp 27, .ref 1 4 0 2)] [(1, (Qik y7 y8 y9 y10))] (I y9), mv 0 (.dat 4 ((p0 : List GStream).map Qad)), mv 4 (I y6), rp [(.tmp 29, (.dat 4 ((p0 : List GStream).map Qad))), (.tmp 30, I y6)] (.dptr (Qad (x18)) 0), rp [(.tmp 31, (.dptr (Qad (x18)) 0))] (.dptr (Qad (x18)) 2), rp [(.tmp 32, (.dptr (Qad (x18)) 2))] (I x18.Silica), rp [(.tmp 28, I y9), (.tmp 33, I x18.Silica)] (I (w64 (y9 + x18.Silica))), rb [(.tmp 3, .ref 1 4 0 0)] [(1, (Qik y7 y8 y9 y10))] (.ref 1 4 0 3), rb [(.tmp 35, .ref 1 4 0 3)] [(1, (Qik y7 y8 y9 y10))] (I y10), mv 0 (.dat 4 ((p0 : List GStream).map Qad)), mv 4 (I y6), rp [(.tmp 37, (.dat 4 ((p0 : List GStream).map Qad))), (.tmp 38, I y6)] (.dptr (Qad (x18)) 0), rp [(.tmp 39, (.dptr (Qad (x18)) 0))] (.dptr (Qad (x18)) 3), rp [(.tmp 40, (.dptr (Qad (x18)) 3))] (I x18.Gas), rp [(.tmp 36, I y10), (.tmp 41, I x18.Gas)] (I (w64 (y10 + x18.Gas))), rp [(.tmp 18, (I (w64 (y7 + x18.Mass)))), (.tmp 26, (I (w64 (y8 + x18.Heat)))), (.tmp 34, (I (w64 (y9 + x18.Silica)))), (.tmp 42, (I (w64 (y10 + x18.Gas))))] (z103_16 y7 x18 y8 y9 y10), ⟨[(.tmp 3, .ref 1 4 0 0), (.tmp 43, (z103_16 y7 x18 y8 y9 y10))], [(1, (Qik y7 y8 y9 y10))], .any, [(1, (z103_17 y7 x18 y8 y9 y10))], false⟩] ?_ ?_
    ·exact ⟨afa rfl Try.underlying57 rfl rfl ti3 (by decide) rfl, ald rfl ti3 (by decide) rfl (nle rfl) rfl, amv rfl, amv rfl, aid rfl Try.underlying145 ti57 rfl rfl hi20 (mgt Qad hj21) rfl, afd rfl Try.underlying57 rfl rfl ti3 (by decide) rfl, ald_ rfl ti3 (by decide) (nle rfl) rfl, abn rfl rfl, afa rfl Try.underlying57 rfl rfl ti3 (by decide) rfl, ald rfl ti3 (by decide) rfl (nle rfl) rfl, amv rfl, amv rfl, aid rfl Try.underlying145 ti57 rfl rfl hi20 (mgt Qad hj21) rfl, afd rfl Try.underlying57 rfl rfl ti3 (by decide) rfl, ald_ rfl ti3 (by decide) (nle rfl) rfl, abn rfl rfl, afa rfl Try.underlying57 rfl rfl ti3 (by decide) rfl, ald rfl ti3 (by decide) rfl (nle rfl) rfl, amv rfl, amv rfl, aid rfl Try.underlying145 ti57 rfl rfl hi20 (mgt Qad hj21) rfl, afd rfl Try.underlying57 rfl rfl ti3 (by decide) rfl, ald_ rfl ti3 (by decide) (nle rfl) rfl, abn rfl rfl, afa rfl Try.underlying57 rfl rfl ti3 (by decide) rfl, ald rfl ti3 (by decide) rfl (nle rfl) rfl, amv rfl, amv rfl, aid rfl Try.underlying145 ti57 rfl rfl hi20 (mgt Qad hj21) rfl, afd rfl Try.underlying57 rfl rfl ti3 (by decide) rfl, ald_ rfl ti3 (by decide) (nle rfl) rfl, abn rfl rfl, Qau (vs := [(I (w64 (y7 + x18.Mass))), (I (w64 (y8 + x18.Heat))), (I (w64 (y9 + x18.Silica))), (I (w64 (y10 + x18.Gas)))]) rfl ts57 tz57 rfl (by rfl) rfl, ast rfl ti57 (by rfl) rfl (nle rfl) rfl, trivial⟩
    refine bln ?_
    refine thn ?_
    refine Qar [mv 4 (I y6), rp [(.tmp 9, I y6), ci 1] (I (w64 (y6 + 1))), mv 10 (I (w64 (y6 + 1)))] ?_ ?_
    ·exact ⟨amv rfl, abn rfl rfl, aas rfl, trivial⟩
    refine thn ?_
    exact arm (mto (n := 45) [(0, (.dat 4 ((p0 : List GStream).map Qad))), (2, .ref 0 4 0 0), (3, .ref 1 4 0 0), (4, (I (w64 (y6 + 1))))] [0, 1] [z103_0, (z103_17 y7 x18 y8 y9 y10)] hφ0 (pc (.rn (.plain _ (nld Qc0 _))) (pc (.rn (rqr rfl)) (pc (.rn (rqr rfl)) (pc rwl pn)))) (qc (spb (lc rwl (lc rwl (lc rwl (lc rwl ln))))) (qc (spb (lc rwl (lc rwl (lc rwl (lc rwl ln))))) qn))) (ih (w64 (y6 + 1), w64 (y7 + x18.Mass), w64 (y8 + x18.Heat), w64 (y9 + x18.Silica), w64 (y10 + x18.Gas)) h)
   ·replace h := Qa3 hc17 h
    refine wfn hc17 (by kernel_rfl) ?_
    refine Qbq ?_
    refine Qaw ?_
    refine Qaw ?_
    refine Qbp rfl ?_
    refine thn ?_
    exact ⟨(y7, y8, y9, y10), h, (mto (n := 45) [(2, .ref 0 4 0 0), (3, .ref 1 4 0 0)] [0, 1] [z103_0, (Qik y7 y8 y9 y10)] hφ0 (pc (.rn (rqr rfl)) (pc (.rn (rqr rfl)) pn)) (qc (spb (lc rwl (lc rwl (lc rwl (lc rwl ln))))) (qc (spb (lc rwl (lc rwl (lc rwl (lc rwl ln))))) qn)))⟩

def Qf2 (N : Nat) (p0 : GStream) (p1 : GStream) (p2 : Int) : Option (GStream × Int × Int) :=
  (Qje N ([p0, p1])).bind fun x2 =>
  Qc5 (fun _ =>
    bif (decide (x2.Gas > p2)) then
     some ((⟨0, 0, 0, 0⟩ : GStream), 0, 11)
    else
     some ((⟨x2.Mass, x2.Heat, x2.Silica, 0⟩ : GStream), x2.Gas, 0)) fun k3 : Unit → Option (GStream × Int × Int) =>
  bif (decide (x2.Mass > 1000000)) then
   some ((⟨0, 0, 0, 0⟩ : GStream), 0, 3)
  else
   bif (decide (x2.Gas > 1000000000)) then
    some ((⟨0, 0, 0, 0⟩ : GStream), 0, 3)
   else
    k3 ()
def z102_1 (p0 : GStream) : AV := .agg [(I (p0.Mass)), (I (p0.Heat)), (I (p0.Silica)), (I (p0.Gas))]
def z102_0 (p0 : GStream) : Slot := .own 4 [[(I (p0.Mass)), (I (p0.Heat)), (I (p0.Silica)), (I (p0.Gas))]]
def z102_3 (p1 : GStream) : AV := .agg [(I (p1.Mass)), (I (p1.Heat)), (I (p1.Silica)), (I (p1.Gas))]
def z102_2 (p1 : GStream) : Slot := .own 4 [[(I (p1.Mass)), (I (p1.Heat)), (I (p1.Silica)), (I (p1.Gas))]]
def z102_4 : Slot := .own 4 [[(I (0)), (I (0)), (I (0)), (I (0))]]
def z102_5 (p0 : GStream) (p1 : GStream) : AV := .dat 4 (([p0, p1] : List GStream).map Qad)
def z102_6 (x2 : GStream) : AV := .agg [(I (x2.Mass)), (I (x2.Heat)), (I (x2.Silica)), (I (x2.Gas))]
def Qi7 (x2 : GStream) : Slot := .own 4 [[(I (x2.Mass)), (I (x2.Heat)), (I (x2.Silica)), (I (x2.Gas))]]
def z102_8 (x2 : GStream) : Slot := .own 4 [[(I (x2.Mass)), (I (x2.Heat)), (I (x2.Silica)), (I (0))]]
def z102_9 (x2 : GStream) : AV := .agg [(I (x2.Mass)), (I (x2.Heat)), (I (x2.Silica)), (I (0))]
set_option maxRecDepth 100000 in
set_option maxHeartbeats 4000000 in
theorem ref07_CondenseX_ok (N : Nat) (p0 : GStream) (p1 : GStream) (p2 : Int) (r : (GStream × Int × Int)) (h : Qf2 N p0 p1 p2 = some r) : Spec Try.prog 60 [(.agg (Qad p0)), (.agg (Qad p1)), (I p2)] [] (.tup [(.agg (Qad r.1)), (I r.2.1), (I r.2.2)]) [] := by
  refine Qae Try.func60 rfl 0 (nle rfl) (fun X φ0 w0 hφ0 => ?_)
  unfold Qf2 at h
  refine wrg [⟨[(.tmp 0, (z102_1 p0))], [(0, .unused)], .ref 0 4 0 0, [(0, (z102_0 p0))], false⟩, ⟨[(.tmp 1, (z102_3 p1))], [(1, .unused)], .ref 1 4 0 0, [(1, (z102_2 p1))], false⟩, ⟨[], [(2, .unused)], .ref 2 4 0 0, [(2, z102_4)], false⟩, mc (.int .i64 0), mc (.int .i64 0)] ?_ ?_
  ·exact ⟨Qa0 rfl (by rfl) rfl rfl, Qa0 rfl (by rfl) rfl rfl, Qa5 rfl tz57 rfl, aas rfl, aas rfl, trivial⟩
  obtain ⟨x2, hf1, h⟩ := bno h
  refine wrg [rb [(.tmp 3, .ref 0 4 0 0)] [(0, (z102_0 p0))] (z102_1 p0), rb [(.tmp 4, .ref 1 4 0 0)] [(1, (z102_2 p1))] (z102_3 p1), rp [(.tmp 11, (z102_1 p0)), (.tmp 12, (z102_3 p1))] (z102_5 p0 p1), rp [fu 92, (.tmp 13, (z102_5 p0 p1))] (z102_6 x2), ⟨[], [(3, .unused)], .ref 3 4 0 0, [(3, z102_4)], false⟩, ⟨[(.tmp 9, .ref 3 4 0 0), (.tmp 14, (z102_6 x2))], [(3, z102_4)], .any, [(3, (Qi7 x2))], false⟩] ?_ ?_
  ·exact ⟨ald rfl ti57 (by decide) rfl (nle rfl) rfl, ald rfl ti57 (by decide) rfl (nle rfl) rfl, Qcr (vs := [(z102_1 p0), (z102_3 p1)]) rfl Try.underlying145 ti57 tz57 rfl (by decide) rfl (by decide) (by rfl) (by rfl) (by rfl) rfl, apc (first := []) (cap := []) (vs := [(z102_5 p0 p1)]) rfl enter92 (ref01_SumX_ok N ([p0, p1]) _ hf1) rfl rfl (nlc (nld Qc0 _) nl0) (NLt.agg _ (nlc nll (nlc nll (nlc nll (nlc nll nl0))))) rfl, Qa5 rfl tz57 rfl, ast rfl ti57 (by rfl) rfl (nle rfl) rfl, trivial⟩
  obtain ⟨k3, hk_k3, h⟩ := jko h
  refine wjn (τ := Unit) (fun t => k3 t = some r) (fun _ => ⟨mk 33 [(2, I p2), (6, .ref 0 4 0 0), (9, .ref 1 4 0 0)], [z102_4, (Qi7 x2)]⟩) (fun t h => ?_) ?_
  ·subst hk_k3
   refine wrg [rb [(.tmp 9, .ref 1 4 0 0)] [(1, (Qi7 x2))] (.ref 1 4 0 3), rb [(.tmp 24, .ref 1 4 0 3)] [(1, (Qi7 x2))] (I x2.Gas), mv 25 (I x2.Gas)] ?_ ?_
   ·exact ⟨afa rfl Try.underlying57 rfl rfl ti3 (by decide) rfl, ald rfl ti3 (by decide) rfl (nle rfl) rfl, aas rfl, trivial⟩
   refine wsq ?_
   refine wrg [mv 10 (I x2.Gas), mv 2 (I p2), rp [(.tmp 26, I x2.Gas), (.tmp 27, I p2)] (B ((decide (x2.Gas > p2))))] ?_ ?_
   ·exact ⟨amv rfl, amv rfl, abn rfl rfl, trivial⟩
   rcases bft ((decide (x2.Gas > p2))) with hc4 | hc4
   ·replace h := Qa2 hc4 h
    refine wft hc4 (by kernel_rfl) ?_
    refine wrg [rp [] (.agg [I 0, I 0, I 0, I 0]), ⟨[(.tmp 6, .ref 0 4 0 0), (.tmp 29, (.agg [I 0, I 0, I 0, I 0]))], [(0, z102_4)], .any, [(0, z102_4)], false⟩, mc (.int .i64 0), mc (.int .i64 11)] ?_ ?_
    ·exact ⟨Qau (vs := []) rfl ts57 tz57 rfl (by rfl) rfl, ast rfl ti57 (by rfl) rfl (nle rfl) rfl, aas rfl, aas rfl, trivial⟩
    refine Qaf ?_
    refine Qa7 ?_
    obtain rfl := osi h
    exact ⟨⟨[(.agg [I 0, I 0, I 0, I 0]), I 0, I 11], ⟨Qbo (n := 0) (m := 4) (j := 0) (i := 0) (xs := [[I 0, I 0, I 0, I 0]]) (by kernel_rfl) (by kernel_rfl) ti57 (by decide) rfl (nle rfl) rfl, rot (by kernel_rfl), rot (by kernel_rfl), trivial⟩, rfl⟩, (NLt.tup _ (nlc (NLt.agg _ (nlc nll (nlc nll (nlc nll (nlc nll nl0))))) (nlc nll (nlc nll nl0)))), Nat.le_refl _, fun n hn => absurd hn (Nat.not_lt_zero n)⟩
   ·replace h := Qa3 hc4 h
    refine wfn hc4 (by kernel_rfl) ?_
    refine Qao ?_
    refine thn ?_
    refine wrg [rb [(.tmp 9, .ref 1 4 0 0)] [(1, (Qi7 x2))] (.ref 1 4 0 3), ⟨[(.tmp 30, .ref 1 4 0 3), ci 0], [(1, (Qi7 x2))], .any, [(1, (z102_8 x2))], false⟩] ?_ ?_
    ·exact ⟨afa rfl Try.underlying57 rfl rfl ti3 (by decide) rfl, ast rfl ti3 (by rfl) rfl (nle rfl) rfl, trivial⟩
    refine wrg [rb [(.tmp 9, .ref 1 4 0 0)] [(1, (z102_8 x2))] (z102_9 x2), mv 10 (I x2.Gas), ⟨[(.tmp 6, .ref 0 4 0 0), (.tmp 31, (z102_9 x2))], [(0, z102_4)], .any, [(0, (z102_8 x2))], false⟩, mv 32 (I x2.Gas), mc (.int .i64 0)] ?_ ?_
    ·exact ⟨ald rfl ti57 (by decide) rfl (nle rfl) rfl, amv rfl, ast rfl ti57 (by rfl) rfl (nle rfl) rfl, aas rfl, aas rfl, trivial⟩
    refine Qaf ?_
    obtain rfl := osi h
    exact ⟨⟨[(z102_9 x2), I x2.Gas, I 0], ⟨Qbo (n := 0) (m := 4) (j := 0) (i := 0) (xs := [[I x2.Mass, I x2.Heat, I x2.Silica, I 0]]) (by kernel_rfl) (by kernel_rfl) ti57 (by decide) rfl (nle rfl) rfl, rot (by kernel_rfl), rot (by kernel_rfl), trivial⟩, rfl⟩, (NLt.tup _ (nlc (NLt.agg _ (nlc nll (nlc nll (nlc nll (nlc nll nl0))))) (nlc nll (nlc nll nl0)))), Nat.le_refl _, fun n hn => absurd hn (Nat.not_lt_zero n)⟩
  ·skip
   rcases bft ((decide (x2.Mass > 1000000))) with hb5 | hb5
   ·replace h := Qa2 hb5 h
    refine wrg [rb [(.tmp 9, .ref 3 4 0 0)] [(3, (Qi7 x2))] (.ref 3 4 0 0), rb [(.tmp 15, .ref 3 4 0 0)] [(3, (Qi7 x2))] (I x2.Mass), rp [(.tmp 16, I x2.Mass), ci 1000000] (B ((decide (x2.Mass > 1000000)))), rp [(.tmp 17, (B ((decide (x2.Mass > 1000000)))))] (B true), sk 18 (B true), sk 18 (B true), sk 18 (B true), rp [(.tmp 18, B true), cb true, (.tmp 21, (.lit undef))] (B true)] ?_ ?_
    ·exact ⟨afa rfl Try.underlying57 rfl rfl ti3 (by decide) rfl, ald rfl ti3 (by decide) rfl (nle rfl) rfl, abn rfl rfl, asb hb5 (amv rfl), trivial, trivial, trivial, apk rfl rfl, trivial⟩
    refine Qeq (by kernel_rfl) ?_
    refine wrg [rp [] (.agg [I 0, I 0, I 0, I 0]), ⟨[(.tmp 6, .ref 2 4 0 0), (.tmp 23, (.agg [I 0, I 0, I 0, I 0]))], [(2, z102_4)], .any, [(2, z102_4)], false⟩, mc (.int .i64 0), mc (.int .i64 3)] ?_ ?_
    ·exact ⟨Qau (vs := []) rfl ts57 tz57 rfl (by rfl) rfl, ast rfl ti57 (by rfl) rfl (nle rfl) rfl, aas rfl, aas rfl, trivial⟩
    refine Qaf ?_
    refine Qa7 ?_
    obtain rfl := osi h
    exact ⟨⟨[(.agg [I 0, I 0, I 0, I 0]), I 0, I 3], ⟨Qbo (n := 2) (m := 4) (j := 0) (i := 0) (xs := [[I 0, I 0, I 0, I 0]]) (by kernel_rfl) (by kernel_rfl) ti57 (by decide) rfl (nle rfl) rfl, rot (by kernel_rfl), rot (by kernel_rfl), trivial⟩, rfl⟩, (NLt.tup _ (nlc (NLt.agg _ (nlc nll (nlc nll (nlc nll (nlc nll nl0))))) (nlc nll (nlc nll nl0)))), Nat.le_refl _, fun n hn => absurd hn (Nat.not_lt_zero n)⟩
   ·replace h := Qa3 hb5 h
    refine wrg [rb [(.tmp 9, .ref 3 4 0 0)] [(3, (Qi7 x2))] (.ref 3 4 0 0), rb [(.tmp 15, .ref 3 4 0 0)] [(3, (Qi7 x2))] (I x2.Mass), rp [(.tmp 16, I x2.Mass), ci 1000000] (B ((decide (x2.Mass > 1000000)))), rp [(.tmp 17, (B ((decide (x2.Mass > 1000000)))))] (B false), rb [(.tmp 18, B false), (.tmp 9, .ref 3 4 0 0)] [(3, (Qi7 x2))] (.ref 3 4 0 3), rb [(.tmp 18, B false), (.tmp 19, .ref 3 4 0 3)] [(3, (Qi7 x2))] (I x2.Gas), rp [(.tmp 18, B false), (.tmp 20, I x2.Gas), ci 1000000000] (B ((decide (x2.Gas > 1000000000)))), rp [(.tmp 18, B false), cb true, (.tmp 21, (B ((decide (x2.Gas > 1000000000)))))] (B ((decide (x2.Gas > 1000000000))))] ?_ ?_
    ·exact ⟨afa rfl Try.underlying57 rfl rfl ti3 (by decide) rfl, ald rfl ti3 (by decide) rfl (nle rfl) rfl, abn rfl rfl, asb hb5 (amv rfl), ag_ (afa rfl Try.underlying57 rfl rfl ti3 (by decide) rfl), ag_ (ald rfl ti3 (by decide) rfl (nle rfl) rfl), ag_ (abn rfl rfl), apk rfl rfl, trivial⟩
    rcases bft ((decide (x2.Gas > 1000000000))) with hc6 | hc6
    ·replace h := Qa2 hc6 h
     refine wft hc6 (by kernel_rfl) ?_
     refine wrg [rp [] (.agg [I 0, I 0, I 0, I 0]), ⟨[(.tmp 6, .ref 2 4 0 0), (.tmp 23, (.agg [I 0, I 0, I 0, I 0]))], [(2, z102_4)], .any, [(2, z102_4)], false⟩, mc (.int .i64 0), mc (.int .i64 3)] ?_ ?_
     ·exact ⟨Qau (vs := []) rfl ts57 tz57 rfl (by rfl) rfl, ast rfl ti57 (by rfl) rfl (nle rfl) rfl, aas rfl, aas rfl, trivial⟩
     refine Qaf ?_
     refine Qa7 ?_
     obtain rfl := osi h
     exact ⟨⟨[(.agg [I 0, I 0, I 0, I 0]), I 0, I 3], ⟨Qbo (n := 2) (m := 4) (j := 0) (i := 0) (xs := [[I 0, I 0, I 0, I 0]]) (by kernel_rfl) (by kernel_rfl) ti57 (by decide) rfl (nle rfl) rfl, rot (by kernel_rfl), rot (by kernel_rfl), trivial⟩, rfl⟩, (NLt.tup _ (nlc (NLt.agg _ (nlc nll (nlc nll (nlc nll (nlc nll nl0))))) (nlc nll (nlc nll nl0)))), Nat.le_refl _, fun n hn => absurd hn (Nat.not_lt_zero n)⟩
    ·replace h := Qa3 hc6 h
     refine wfn hc6 (by kernel_rfl) ?_
     refine Qao ?_
     refine thn ?_
     exact ⟨(), h, (mto (n := 33) [(2, I p2), (6, .ref 2 4 0 0), (9, .ref 3 4 0 0)] [2, 3] [z102_4, (Qi7 x2)] hφ0 (pc rwl (pc (.rn (rqr rfl)) (pc (.rn (rqr rfl)) pn))) (qc (spb (lc rwl (lc rwl (lc rwl (lc rwl ln))))) (qc (spb (lc rwl (lc rwl (lc rwl (lc rwl ln))))) qn)))⟩

def Qfs (N : Nat) (p0 : GUnit) (p1 : GStream) (p2 : GStream) (p3 : Int) : Option Bool :=
  (Qi3 N p0).bind fun x2 =>
  bif (!x2) then
   (Qgs 2000 ).bind fun x5 =>
   some x5
  else
   (Qiq N p0).bind fun x7 =>
   (Qe4 N p1).bind fun x9 =>
   (Qg8 N x7 x9).bind fun x11 =>
   (Qe4 N p1).bind fun x13 =>
   (Qe4 N p2).bind fun x15 =>
   (Qf5 N x13 x15 p3).bind fun x17 =>
   Qc5 (fun y18 =>
     Qc5 (fun _ =>
       Qc5 (fun y21 =>
         bif (x17.2.2 == y21) then
          bif (y21 == 0) then
           (Qgs 2000 ).bind fun x26 =>
           some x26
          else
           bif (([x17.1.Mass, x17.1.Heat, x17.1.Silica, x17.1.Gas] : List Int) == [0, 0, 0, 0]) then
            bif (x17.2.1 == 0) then
             (Qgs 2000 ).bind fun x30 =>
             some x30
            else
             some false
           else
            some false
         else
          some false) fun k22 : Int → Option Bool =>
       Qc5 (fun y31 =>
         bif y31 then
          k22 (1)
         else
          (Qfh N p3 0 1000000000).bind fun x35 =>
          bif (!x35) then
           k22 (2)
          else
           (Qf2 N p1 p2 p3).bind fun x38 =>
           bif (x38.2.2 == 0) then
            (Qe4 N (⟨x38.1.Mass, x38.1.Heat, x38.1.Silica, x38.1.Gas⟩ : GStream)).bind fun x41 =>
            bif (!(([x17.1.Mass, x17.1.Heat, x17.1.Silica, x17.1.Gas] : List Int) == [x41.Mass, x41.Heat, x41.Silica, x41.Gas])) then
             some false
            else
             bif (x17.2.1 != x38.2.1) then
              some false
             else
              k22 (x38.2.2)
           else
            k22 (x38.2.2)) fun k32 : Bool → Option Bool =>
       (Qdv N p1).bind fun x45 =>
       bif (!x45) then
        k32 (true)
       else
        (Qdv N p2).bind fun x48 =>
        k32 ((!x48))) fun k20 : Unit → Option Bool =>
     bif (x11.2.2 != y18) then
      some false
     else
      bif (y18 != 0) then
       bif (!(([x11.1.Mass, x11.1.Heat, x11.1.Silica, x11.1.Gas] : List Int) == [0, 0, 0, 0])) then
        some false
       else
        bif (x11.2.1 != 0) then
         some false
        else
         k20 ()
      else
       k20 ()) fun k19 : Int → Option Bool =>
   Qc5 (fun y53 =>
     bif y53 then
      k19 (1)
     else
      (Qgz N p0 p1).bind fun x57 =>
      bif (x57.2.2 == 0) then
       (Qe4 N (⟨x57.1.Mass, x57.1.Heat, x57.1.Silica, x57.1.Gas⟩ : GStream)).bind fun x60 =>
       bif (!(([x11.1.Mass, x11.1.Heat, x11.1.Silica, x11.1.Gas] : List Int) == [x60.Mass, x60.Heat, x60.Silica, x60.Gas])) then
        some false
       else
        bif (x11.2.1 != x57.2.1) then
         some false
        else
         k19 (x57.2.2)
      else
       k19 (x57.2.2)) fun k54 : Bool → Option Bool =>
   (Qhr N p0).bind fun x64 =>
   bif (!x64) then
    k54 (true)
   else
    (Qdv N p1).bind fun x67 =>
    k54 ((!x67))
def Qft (p0 : GUnit) : AV := .dat 2 ((p0.Parts : List GPart).map Qap)
def Qga (p1 : GStream) : AV := .agg [(I (p1.Mass)), (I (p1.Heat)), (I (p1.Silica)), (I (p1.Gas))]
def Qge (p1 : GStream) : Slot := .own 4 [[(I (p1.Mass)), (I (p1.Heat)), (I (p1.Silica)), (I (p1.Gas))]]
def z100_4 (p2 : GStream) : AV := .agg [(I (p2.Mass)), (I (p2.Heat)), (I (p2.Silica)), (I (p2.Gas))]
def Qhm (p2 : GStream) : Slot := .own 4 [[(I (p2.Mass)), (I (p2.Heat)), (I (p2.Silica)), (I (p2.Gas))]]
def z100_5 (x7 : GUnit) : AV := .dat 2 ((x7.Parts : List GPart).map Qap)
def z100_6 (x9 : GStream) : AV := .agg [(I (x9.Mass)), (I (x9.Heat)), (I (x9.Silica)), (I (x9.Gas))]
def Qil (x11 : (GStream × Int × Int)) : AV := .agg [(I (x11.1.Mass)), (I (x11.1.Heat)), (I (x11.1.Silica)), (I (x11.1.Gas))]
def z100_8 : Slot := .own 4 [[(I (0)), (I (0)), (I (0)), (I (0))]]
def z100_9 (x11 : (GStream × Int × Int)) : Slot := .own 4 [[(I (x11.1.Mass)), (I (x11.1.Heat)), (I (x11.1.Silica)), (I (x11.1.Gas))]]
def z100_10 (x13 : GStream) : AV := .agg [(I (x13.Mass)), (I (x13.Heat)), (I (x13.Silica)), (I (x13.Gas))]
def z100_11 (x15 : GStream) : AV := .agg [(I (x15.Mass)), (I (x15.Heat)), (I (x15.Silica)), (I (x15.Gas))]
def Qf0 (x17 : (GStream × Int × Int)) : AV := .agg [(I (x17.1.Mass)), (I (x17.1.Heat)), (I (x17.1.Silica)), (I (x17.1.Gas))]
def Qef (x17 : (GStream × Int × Int)) : Slot := .own 4 [[(I (x17.1.Mass)), (I (x17.1.Heat)), (I (x17.1.Silica)), (I (x17.1.Gas))]]
def Qhf (x38 : (GStream × Int × Int)) : AV := .agg [(I (x38.1.Mass)), (I (x38.1.Heat)), (I (x38.1.Silica)), (I (x38.1.Gas))]
def z100_21 (x38 : (GStream × Int × Int)) : Slot := .own 4 [[(I (x38.1.Mass)), (I (x38.1.Heat)), (I (x38.1.Silica)), (I (x38.1.Gas))]]
def z100_22 (x41 : GStream) : AV := .agg [(I (x41.Mass)), (I (x41.Heat)), (I (x41.Silica)), (I (x41.Gas))]
def Qhe (x57 : (GStream × Int × Int)) : AV := .agg [(I (x57.1.Mass)), (I (x57.1.Heat)), (I (x57.1.Silica)), (I (x57.1.Gas))]
def z100_24 (x57 : (GStream × Int × Int)) : Slot := .own 4 [[(I (x57.1.Mass)), (I (x57.1.Heat)), (I (x57.1.Silica)), (I (x57.1.Gas))]]
def z100_25 (x60 : GStream) : AV := .agg [(I (x60.Mass)), (I (x60.Heat)), (I (x60.Silica)), (I (x60.Gas))]
set_option maxRecDepth 100000 in
set_option maxHeartbeats 4000000 in
theorem law07_PlantExpandsX_ok (N : Nat) (p0 : GUnit) (p1 : GStream) (p2 : GStream) (p3 : Int) (r : Bool) (h : Qfs N p0 p1 p2 p3 = some r) : Spec Try.prog 13 [(.agg (Qat p0)), (.agg (Qad p1)), (.agg (Qad p2)), (I p3)] [] (B r) [] := by
  refine Qae Try.func13 rfl 0 (nle rfl) (fun X φ0 w0 hφ0 => ?_)
  unfold Qfs at h
  refine wrg [⟨[(.tmp 0, (.agg [I p0.Inlet, (Qft p0)]))], [(0, .unused)], .ref 0 2 0 0, [(0, (.own 2 [[I p0.Inlet, (Qft p0)]]))], false⟩, ⟨[(.tmp 1, (Qga p1))], [(1, .unused)], .ref 1 4 0 0, [(1, (Qge p1))], false⟩, ⟨[(.tmp 2, (z100_4 p2))], [(2, .unused)], .ref 2 4 0 0, [(2, (Qhm p2))], false⟩, mc (.bool false)] ?_ ?_
  ·exact ⟨Qa0 rfl (by rfl) rfl rfl, Qa0 rfl (by rfl) rfl rfl, Qa0 rfl (by rfl) rfl rfl, aas rfl, trivial⟩
  refine wsq ?_
  obtain ⟨x2, hf1, h⟩ := bno h
  refine wrg [rb [(.tmp 4, .ref 0 2 0 0)] [(0, (.own 2 [[I p0.Inlet, (Qft p0)]]))] (.agg [I p0.Inlet, (Qft p0)]), rp [fu 23, (.tmp 22, (.agg [I p0.Inlet, (Qft p0)]))] (B x2), rp [(.tmp 23, B x2)] (B ((!x2)))] ?_ ?_
  ·exact ⟨ald rfl ti24 (by decide) rfl (nle rfl) rfl, apc (first := []) (cap := []) (vs := [(.agg [I p0.Inlet, (Qft p0)])]) rfl enter23 (law07_smallX_ok N p0 _ hf1) rfl rfl (nlc (NLt.agg _ (nlc nll (nlc (nld Qa8 _) nl0))) nl0) nll rfl, Qa6 rfl, trivial⟩
  rcases bft ((!x2)) with hc3 | hc3
  ·replace h := Qa2 hc3 h
   refine wft hc3 (by kernel_rfl) ?_
   obtain ⟨x5, hf4, h⟩ := bno h
   refine wrg [rp [fu 17] (B x5), mv 25 (B x5)] ?_ ?_
   ·exact ⟨apc (first := []) (cap := []) (vs := []) rfl enter17 (Qip 2000  _ hf4) rfl rfl nl0 nll rfl, aas rfl, trivial⟩
   refine Qaf ?_
   refine Qa7 ?_
   obtain rfl := osi h
   exact ⟨⟨[B x5], ⟨rot (by kernel_rfl), trivial⟩, rfl⟩, nll, Nat.le_refl _, fun n hn => absurd hn (Nat.not_lt_zero n)⟩
  ·replace h := Qa3 hc3 h
   refine wfn hc3 (by kernel_rfl) ?_
   refine Qao ?_
   refine thn ?_
   obtain ⟨x7, hf6, h⟩ := bno h
   obtain ⟨x9, hf8, h⟩ := bno h
   obtain ⟨x11, hf10, h⟩ := bno h
   refine Qcq [rb [(.tmp 4, .ref 0 2 0 0)] [(0, (.own 2 [[I p0.Inlet, (Qft p0)]]))] (.agg [I p0.Inlet, (Qft p0)]), rp [fu 19, (.tmp 27, (.agg [I p0.Inlet, (Qft p0)]))] (.agg [I x7.Inlet, (z100_5 x7)]), rb [(.tmp 5, .ref 1 4 0 0)] [(1, (Qge p1))] (Qga p1), rp [fu 28, (.tmp 29, (Qga p1))] (z100_6 x9), rp [fu 57, (.tmp 28, (.agg [I x7.Inlet, (z100_5 x7)])), (.tmp 30, (z100_6 x9))] (.tup [(Qil x11), I x11.2.1, I x11.2.2]), mv 31 (.tup [(Qil x11), I x11.2.1, I x11.2.2]), rp [(.tmp 26, (.tup [(Qil x11), I x11.2.1, I x11.2.2]))] (Qil x11), rp [(.tmp 26, (.tup [(Qil x11), I x11.2.1, I x11.2.2]))] (I x11.2.1), rp [(.tmp 26, (.tup [(Qil x11), I x11.2.1, I x11.2.2]))] (I x11.2.2), ⟨[], [(3, .unused)], .ref 3 4 0 0, [(3, z100_8)], false⟩, ⟨[(.tmp 9, .ref 3 4 0 0), (.tmp 32, (Qil x11))], [(3, z100_8)], .any, [(3, (z100_9 x11))], false⟩, mv 33 (I x11.2.1), mv 34 (I x11.2.2)] ?_ ?_
   ·exact ⟨ald rfl ti24 (by decide) rfl (nle rfl) rfl, apc (first := []) (cap := []) (vs := [(.agg [I p0.Inlet, (Qft p0)])]) rfl enter19 (law07_UnitX_ok N p0 _ hf6) rfl rfl (nlc (NLt.agg _ (nlc nll (nlc (nld Qa8 _) nl0))) nl0) (NLt.agg _ (nlc nll (nlc (nld Qa8 _) nl0))) rfl, ald rfl ti57 (by decide) rfl (nle rfl) rfl, apc (first := []) (cap := []) (vs := [(Qga p1)]) rfl enter28 (Qed N p1 _ hf8) rfl rfl (nlc (NLt.agg _ (nlc nll (nlc nll (nlc nll (nlc nll nl0))))) nl0) (NLt.agg _ (nlc nll (nlc nll (nlc nll (nlc nll nl0))))) rfl, apc (first := []) (cap := []) (vs := [(.agg [I x7.Inlet, (z100_5 x7)]), (z100_6 x9)]) rfl enter57 (plant_ExpandX_ok N x7 x9 _ hf10) rfl rfl (nlc (NLt.agg _ (nlc nll (nlc (nld Qa8 _) nl0))) (nlc (NLt.agg _ (nlc nll (nlc nll (nlc nll (nlc nll nl0))))) nl0)) (NLt.tup _ (nlc (NLt.agg _ (nlc nll (nlc nll (nlc nll (nlc nll nl0))))) (nlc nll (nlc nll nl0)))) rfl, amv rfl, Qay rfl rfl, Qay rfl rfl, Qay rfl rfl, Qa5 rfl tz60 rfl, ast rfl ti60 (by rfl) rfl (nle rfl) rfl, aas rfl, aas rfl, trivial⟩
   obtain ⟨x13, hf12, h⟩ := bno h
   obtain ⟨x15, hf14, h⟩ := bno h
   obtain ⟨x17, hf16, h⟩ := bno h
   refine Qcq [rb [(.tmp 5, .ref 1 4 0 0)] [(1, (Qge p1))] (Qga p1), rp [fu 28, (.tmp 36, (Qga p1))] (z100_10 x13), rb [(.tmp 6, .ref 2 4 0 0)] [(2, (Qhm p2))] (z100_4 p2), rp [fu 28, (.tmp 38, (z100_4 p2))] (z100_11 x15), mv 3 (I p3), rp [fu 58, (.tmp 37, (z100_10 x13)), (.tmp 39, (z100_11 x15)), (.tmp 40, I p3)] (.tup [(Qf0 x17), I x17.2.1, I x17.2.2]), mv 41 (.tup [(Qf0 x17), I x17.2.1, I x17.2.2]), rp [(.tmp 35, (.tup [(Qf0 x17), I x17.2.1, I x17.2.2]))] (Qf0 x17), rp [(.tmp 35, (.tup [(Qf0 x17), I x17.2.1, I x17.2.2]))] (I x17.2.1), rp [(.tmp 35, (.tup [(Qf0 x17), I x17.2.1, I x17.2.2]))] (I x17.2.2), ⟨[], [(4, .unused)], .ref 4 4 0 0, [(4, z100_8)], false⟩, ⟨[(.tmp 12, .ref 4 4 0 0), (.tmp 42, (Qf0 x17))], [(4, z100_8)], .any, [(4, (Qef x17))], false⟩, mv 43 (I x17.2.1), mv 44 (I x17.2.2)] ?_ ?_
   ·exact ⟨ald rfl ti57 (by decide) rfl (nle rfl) rfl, apc (first := []) (cap := []) (vs := [(Qga p1)]) rfl enter28 (Qed N p1 _ hf12) rfl rfl (nlc (NLt.agg _ (nlc nll (nlc nll (nlc nll (nlc nll nl0))))) nl0) (NLt.agg _ (nlc nll (nlc nll (nlc nll (nlc nll nl0))))) rfl, ald rfl ti57 (by decide) rfl (nle rfl) rfl, apc (first := []) (cap := []) (vs := [(z100_4 p2)]) rfl enter28 (Qed N p2 _ hf14) rfl rfl (nlc (NLt.agg _ (nlc nll (nlc nll (nlc nll (nlc nll nl0))))) nl0) (NLt.agg _ (nlc nll (nlc nll (nlc nll (nlc nll nl0))))) rfl, amv rfl, apc (first := []) (cap := []) (vs := [(z100_10 x13), (z100_11 x15), I p3]) rfl enter58 (plant_CondenseX_ok N x13 x15 p3 _ hf16) rfl rfl (nlc (NLt.agg _ (nlc nll (nlc nll (nlc nll (nlc nll nl0))))) (nlc (NLt.agg _ (nlc nll (nlc nll (nlc nll (nlc nll nl0))))) (nlc nll nl0))) (NLt.tup _ (nlc (NLt.agg _ (nlc nll (nlc nll (nlc nll (nlc nll nl0))))) (nlc nll (nlc nll nl0)))) rfl, amv rfl, Qay rfl rfl, Qay rfl rfl, Qay rfl rfl, Qa5 rfl tz60 rfl, ast rfl ti60 (by rfl) rfl (nle rfl) rfl, aas rfl, aas rfl, trivial⟩
   refine wrg [mc (.int .i64 0)] ?_ ?_
   ·exact ⟨aas rfl, trivial⟩
   obtain ⟨k19, hk_k19, h⟩ := jko h
   refine wjn (τ := Int) (fun t => k19 t = some r) (fun y18 => ⟨mk 142 [(3, I p3), (5, .ref 0 4 0 0), (6, .ref 1 4 0 0), (9, .ref 2 4 0 0), (10, I x11.2.1), (11, I x11.2.2), (12, .ref 3 4 0 0), (13, I x17.2.1), (14, I x17.2.2), (15, I y18)], [(Qge p1), (Qhm p2), (z100_9 x11), (Qef x17)]⟩) (fun y18 h => ?_) ?_
   ·subst hk_k19
    obtain ⟨k20, hk_k20, h⟩ := jko h
    refine wjn (τ := Unit) (fun t => k20 t = some r) (fun _ => ⟨mk 142 [(3, I p3), (5, .ref 0 4 0 0), (6, .ref 1 4 0 0), (12, .ref 2 4 0 0), (13, I x17.2.1), (14, I x17.2.2)], [(Qge p1), (Qhm p2), (Qef x17)]⟩) (fun t h => ?_) ?_
    ·subst hk_k20
     refine wrg [mc (.int .i64 0)] ?_ ?_
     ·exact ⟨aas rfl, trivial⟩
     obtain ⟨k22, hk_k22, h⟩ := jko h
     refine wjn (τ := Int) (fun t => k22 t = some r) (fun y21 => ⟨mk 142 [(12, .ref 0 4 0 0), (13, I x17.2.1), (14, I x17.2.2), (15, I y21)], [(Qef x17)]⟩) (fun y21 h => ?_) ?_
     ·subst hk_k22
      rcases bft ((x17.2.2 == y21)) with hb23 | hb23
      ·replace h := Qa2 hb23 h
       rcases bft ((y21 == 0)) with hb24 | hb24
       ·replace h := Qa2 hb24 h
        obtain ⟨x26, hf25, h⟩ := bno h
        refine wrg [mv 14 (I x17.2.2), mv 15 (I y21), rp [(.tmp 123, I x17.2.2), (.tmp 124, I y21)] (B ((x17.2.2 == y21))), rp [(.tmp 125, (B ((x17.2.2 == y21))))] (B true), rp [(.tmp 126, B true), (.tmp 15, I y21)] (I y21), rp [(.tmp 126, B true), (.tmp 127, I y21), ci 0] (B ((y21 == 0))), rp [(.tmp 126, B true), (.tmp 128, (B ((y21 == 0))))] (B true), sk 129 (B true), sk 129 (B true), sk 129 (B true), sk 129 (B true), sk 133 (.lit undef), sk 133 (.lit undef), sk 129 (B true), rp [(.tmp 126, B true), (.tmp 129, B true), cb true, (.tmp 136, (.lit undef))] (B true), rp [(.tmp 126, B true), (.tmp 137, B true), cb false] (B true), mv 138 (B true), rp [(.tmp 139, B true), fu 17] (B x26), rp [(.tmp 139, B true), (.tmp 140, B x26), cb false] (B x26), mv 141 (B x26)] ?_ ?_
        ·exact ⟨amv rfl, amv rfl, abn rfl rfl, asb hb23 (amv rfl), ag_ (amv rfl), ag_ (abn rfl rfl), asb hb24 (ag_ (amv rfl)), trivial, trivial, trivial, trivial, trivial, trivial, trivial, ag_ (apk rfl rfl), apk rfl rfl, amv rfl, ag_ (apc (first := []) (cap := []) (vs := []) rfl enter17 (Qip 2000  _ hf25) rfl rfl nl0 nll rfl), apk rfl rfl, aas rfl, trivial⟩
        refine Qaf ?_
        obtain rfl := osi h
        exact ⟨⟨[B x26], ⟨rot (by kernel_rfl), trivial⟩, rfl⟩, nll, Nat.le_refl _, fun n hn => absurd hn (Nat.not_lt_zero n)⟩
       ·replace h := Qa3 hb24 h
        rcases bft ((([x17.1.Mass, x17.1.Heat, x17.1.Silica, x17.1.Gas] : List Int) == [0, 0, 0, 0])) with hb27 | hb27
        ·replace h := Qa2 hb27 h
         rcases bft ((x17.2.1 == 0)) with hb28 | hb28
         ·replace h := Qa2 hb28 h
          obtain ⟨x30, hf29, h⟩ := bno h
          refine wrg [mv 14 (I x17.2.2), mv 15 (I y21), rp [(.tmp 123, I x17.2.2), (.tmp 124, I y21)] (B ((x17.2.2 == y21))), rp [(.tmp 125, (B ((x17.2.2 == y21))))] (B true), rp [(.tmp 126, B true), (.tmp 15, I y21)] (I y21), rp [(.tmp 126, B true), (.tmp 127, I y21), ci 0] (B ((y21 == 0))), rp [(.tmp 126, B true), (.tmp 128, (B ((y21 == 0))))] (B false), rb [(.tmp 129, B false), (.tmp 12, .ref 0 4 0 0)] [(0, (Qef x17))] (Qf0 x17), rp [(.tmp 129, B false)] (.agg [I 0, I 0, I 0, I 0]), rp [(.tmp 129, B false), (.tmp 130, (Qf0 x17)), (.tmp 131, (.agg [I 0, I 0, I 0, I 0]))] (B ((([x17.1.Mass, x17.1.Heat, x17.1.Silica, x17.1.Gas] : List Int) == [0, 0, 0, 0]))), rp [(.tmp 129, B false), (.tmp 132, (B ((([x17.1.Mass, x17.1.Heat, x17.1.Silica, x17.1.Gas] : List Int) == [0, 0, 0, 0]))))] (B true), rp [(.tmp 133, B true), (.tmp 13, I x17.2.1)] (I x17.2.1), rp [(.tmp 133, B true), (.tmp 134, I x17.2.1), ci 0] (B ((x17.2.1 == 0))), rp [(.tmp 129, B false), (.tmp 133, B true), (.tmp 135, (B ((x17.2.1 == 0)))), cb false] (B ((x17.2.1 == 0))), rp [(.tmp 126, B true), (.tmp 129, B false), cb true, (.tmp 136, (B ((x17.2.1 == 0))))] (B ((x17.2.1 == 0))), rp [(.tmp 126, B true), (.tmp 137, (B ((x17.2.1 == 0)))), cb false] (B ((x17.2.1 == 0))), rp [(.tmp 138, (B ((x17.2.1 == 0))))] (B true), rp [(.tmp 139, B true), fu 17] (B x30), rp [(.tmp 139, B true), (.tmp 140, B x30), cb false] (B x30), mv 141 (B x30)] ?_ ?_
          ·exact ⟨amv rfl, amv rfl, abn rfl rfl, asb hb23 (amv rfl), ag_ (amv rfl), ag_ (abn rfl rfl), asb hb24 (ag_ (amv rfl)), ag_ (ald rfl ti60 (by decide) rfl (nle rfl) rfl), ag_ (Qau (vs := []) rfl ts60 tz60 rfl (by rfl) rfl), ag_ (Qfu (ls := [x17.1.Mass, x17.1.Heat, x17.1.Silica, x17.1.Gas]) (ks := [0, 0, 0, 0]) rfl rfl eqt60 (by kernel_rfl) rfl rfl), asb hb27 (ag_ (amv rfl)), ag_ (amv rfl), ag_ (abn rfl rfl), ag_ (apk rfl rfl), ag_ (apk rfl rfl), apk rfl rfl, asb hb28 (amv rfl), ag_ (apc (first := []) (cap := []) (vs := []) rfl enter17 (Qip 2000  _ hf29) rfl rfl nl0 nll rfl), apk rfl rfl, aas rfl, trivial⟩
          refine Qaf ?_
          obtain rfl := osi h
          exact ⟨⟨[B x30], ⟨rot (by kernel_rfl), trivial⟩, rfl⟩, nll, Nat.le_refl _, fun n hn => absurd hn (Nat.not_lt_zero n)⟩
         ·replace h := Qa3 hb28 h
          refine wrg [mv 14 (I x17.2.2), mv 15 (I y21), rp [(.tmp 123, I x17.2.2), (.tmp 124, I y21)] (B ((x17.2.2 == y21))), rp [(.tmp 125, (B ((x17.2.2 == y21))))] (B true), rp [(.tmp 126, B true), (.tmp 15, I y21)] (I y21), rp [(.tmp 126, B true), (.tmp 127, I y21), ci 0] (B ((y21 == 0))), rp [(.tmp 126, B true), (.tmp 128, (B ((y21 == 0))))] (B false), rb [(.tmp 129, B false), (.tmp 12, .ref 0 4 0 0)] [(0, (Qef x17))] (Qf0 x17), rp [(.tmp 129, B false)] (.agg [I 0, I 0, I 0, I 0]), rp [(.tmp 129, B false), (.tmp 130, (Qf0 x17)), (.tmp 131, (.agg [I 0, I 0, I 0, I 0]))] (B ((([x17.1.Mass, x17.1.Heat, x17.1.Silica, x17.1.Gas] : List Int) == [0, 0, 0, 0]))), rp [(.tmp 129, B false), (.tmp 132, (B ((([x17.1.Mass, x17.1.Heat, x17.1.Silica, x17.1.Gas] : List Int) == [0, 0, 0, 0]))))] (B true), rp [(.tmp 133, B true), (.tmp 13, I x17.2.1)] (I x17.2.1), rp [(.tmp 133, B true), (.tmp 134, I x17.2.1), ci 0] (B ((x17.2.1 == 0))), rp [(.tmp 129, B false), (.tmp 133, B true), (.tmp 135, (B ((x17.2.1 == 0)))), cb false] (B ((x17.2.1 == 0))), rp [(.tmp 126, B true), (.tmp 129, B false), cb true, (.tmp 136, (B ((x17.2.1 == 0))))] (B ((x17.2.1 == 0))), rp [(.tmp 126, B true), (.tmp 137, (B ((x17.2.1 == 0)))), cb false] (B ((x17.2.1 == 0))), rp [(.tmp 138, (B ((x17.2.1 == 0))))] (B false), sk 139 (B false), rp [(.tmp 139, B false), (.tmp 140, (.lit undef)), cb false] (B false), mv 141 (B false)] ?_ ?_
          ·exact ⟨amv rfl, amv rfl, abn rfl rfl, asb hb23 (amv rfl), ag_ (amv rfl), ag_ (abn rfl rfl), asb hb24 (ag_ (amv rfl)), ag_ (ald rfl ti60 (by decide) rfl (nle rfl) rfl), ag_ (Qau (vs := []) rfl ts60 tz60 rfl (by rfl) rfl), ag_ (Qfu (ls := [x17.1.Mass, x17.1.Heat, x17.1.Silica, x17.1.Gas]) (ks := [0, 0, 0, 0]) rfl rfl eqt60 (by kernel_rfl) rfl rfl), asb hb27 (ag_ (amv rfl)), ag_ (amv rfl), ag_ (abn rfl rfl), ag_ (apk rfl rfl), ag_ (apk rfl rfl), apk rfl rfl, asb hb28 (amv rfl), trivial, apk rfl rfl, aas rfl, trivial⟩
          refine Qaf ?_
          obtain rfl := osi h
          exact ⟨⟨[B false], ⟨rot (by kernel_rfl), trivial⟩, rfl⟩, nll, Nat.le_refl _, fun n hn => absurd hn (Nat.not_lt_zero n)⟩
        ·replace h := Qa3 hb27 h
         refine wrg [mv 14 (I x17.2.2), mv 15 (I y21), rp [(.tmp 123, I x17.2.2), (.tmp 124, I y21)] (B ((x17.2.2 == y21))), rp [(.tmp 125, (B ((x17.2.2 == y21))))] (B true), rp [(.tmp 126, B true), (.tmp 15, I y21)] (I y21), rp [(.tmp 126, B true), (.tmp 127, I y21), ci 0] (B ((y21 == 0))), rp [(.tmp 126, B true), (.tmp 128, (B ((y21 == 0))))] (B false), rb [(.tmp 129, B false), (.tmp 12, .ref 0 4 0 0)] [(0, (Qef x17))] (Qf0 x17), rp [(.tmp 129, B false)] (.agg [I 0, I 0, I 0, I 0]), rp [(.tmp 129, B false), (.tmp 130, (Qf0 x17)), (.tmp 131, (.agg [I 0, I 0, I 0, I 0]))] (B ((([x17.1.Mass, x17.1.Heat, x17.1.Silica, x17.1.Gas] : List Int) == [0, 0, 0, 0]))), rp [(.tmp 129, B false), (.tmp 132, (B ((([x17.1.Mass, x17.1.Heat, x17.1.Silica, x17.1.Gas] : List Int) == [0, 0, 0, 0]))))] (B false), sk 133 (B false), sk 133 (B false), rp [(.tmp 129, B false), (.tmp 133, B false), (.tmp 135, (.lit undef)), cb false] (B false), rp [(.tmp 126, B true), (.tmp 129, B false), cb true, (.tmp 136, B false)] (B false), rp [(.tmp 126, B true), (.tmp 137, B false), cb false] (B false), mv 138 (B false), sk 139 (B false), rp [(.tmp 139, B false), (.tmp 140, (.lit undef)), cb false] (B false), mv 141 (B false)] ?_ ?_
         ·exact ⟨amv rfl, amv rfl, abn rfl rfl, asb hb23 (amv rfl), ag_ (amv rfl), ag_ (abn rfl rfl), asb hb24 (ag_ (amv rfl)), ag_ (ald rfl ti60 (by decide) rfl (nle rfl) rfl), ag_ (Qau (vs := []) rfl ts60 tz60 rfl (by rfl) rfl), ag_ (Qfu (ls := [x17.1.Mass, x17.1.Heat, x17.1.Silica, x17.1.Gas]) (ks := [0, 0, 0, 0]) rfl rfl eqt60 (by kernel_rfl) rfl rfl), asb hb27 (ag_ (amv rfl)), trivial, trivial, ag_ (apk rfl rfl), ag_ (apk rfl rfl), apk rfl rfl, amv rfl, trivial, apk rfl rfl, aas rfl, trivial⟩
         refine Qaf ?_
         obtain rfl := osi h
         exact ⟨⟨[B false], ⟨rot (by kernel_rfl), trivial⟩, rfl⟩, nll, Nat.le_refl _, fun n hn => absurd hn (Nat.not_lt_zero n)⟩
      ·replace h := Qa3 hb23 h
       refine wrg [mv 14 (I x17.2.2), mv 15 (I y21), rp [(.tmp 123, I x17.2.2), (.tmp 124, I y21)] (B ((x17.2.2 == y21))), rp [(.tmp 125, (B ((x17.2.2 == y21))))] (B false), sk 126 (B false), sk 126 (B false), sk 126 (B false), sk 129 (.lit undef), sk 129 (.lit undef), sk 129 (.lit undef), sk 129 (.lit undef), sk 133 (.lit undef), sk 133 (.lit undef), sk 129 (.lit undef), sk 126 (B false), rp [(.tmp 126, B false), (.tmp 137, (.lit undef)), cb false] (B false), mv 138 (B false), sk 139 (B false), rp [(.tmp 139, B false), (.tmp 140, (.lit undef)), cb false] (B false), mv 141 (B false)] ?_ ?_
       ·exact ⟨amv rfl, amv rfl, abn rfl rfl, asb hb23 (amv rfl), trivial, trivial, trivial, trivial, trivial, trivial, trivial, trivial, trivial, trivial, trivial, apk rfl rfl, amv rfl, trivial, apk rfl rfl, aas rfl, trivial⟩
       refine Qaf ?_
       obtain rfl := osi h
       exact ⟨⟨[B false], ⟨rot (by kernel_rfl), trivial⟩, rfl⟩, nll, Nat.le_refl _, fun n hn => absurd hn (Nat.not_lt_zero n)⟩
     ·skip
      obtain ⟨k32, hk_k32, h⟩ := jko h
      refine wjn (τ := Bool) (fun t => k32 t = some r) (fun y31 => ⟨mk 142 [(3, I p3), (5, .ref 0 4 0 0), (6, .ref 1 4 0 0), (12, .ref 2 4 0 0), (13, I x17.2.1), (14, I x17.2.2), (97, B y31)], [(Qge p1), (Qhm p2), (Qef x17)]⟩) (fun y31 h => ?_) ?_
      ·subst hk_k32
       rcases bft (y31) with hc33 | hc33
       ·replace h := Qa2 hc33 h
        refine wft hc33 (by kernel_rfl) ?_
        refine Qar [mc (.int .i64 1)] ?_ ?_
        ·exact ⟨aas rfl, trivial⟩
        refine thn ?_
        exact ⟨(1), h, (mto (n := 142) [(12, .ref 2 4 0 0), (13, I x17.2.1), (14, I x17.2.2), (15, I 1)] [2] [(Qef x17)] hφ0 (pc (.rn (rqr rfl)) (pc rwl (pc rwl (pc rwl pn)))) (qc (spb (lc rwl (lc rwl (lc rwl (lc rwl ln))))) qn))⟩
       ·replace h := Qa3 hc33 h
        refine wfn hc33 (by kernel_rfl) ?_
        obtain ⟨x35, hf34, h⟩ := bno h
        refine wrg [mv 3 (I p3), rp [fu 25, (.tmp 98, I p3), ci 0, ci 1000000000] (B x35), rp [(.tmp 99, B x35)] (B ((!x35)))] ?_ ?_
        ·exact ⟨amv rfl, apc (first := []) (cap := []) (vs := [I p3, I 0, I 1000000000]) rfl Qfd (Qb7 N p3 0 1000000000 _ hf34) rfl rfl (nlc nll (nlc nll (nlc nll nl0))) nll rfl, Qa6 rfl, trivial⟩
        rcases bft ((!x35)) with hc36 | hc36
        ·replace h := Qa2 hc36 h
         refine wft hc36 (by kernel_rfl) ?_
         refine Qar [mc (.int .i64 2)] ?_ ?_
         ·exact ⟨aas rfl, trivial⟩
         refine thn ?_
         exact ⟨(2), h, (mto (n := 142) [(12, .ref 2 4 0 0), (13, I x17.2.1), (14, I x17.2.2), (15, I 2)] [2] [(Qef x17)] hφ0 (pc (.rn (rqr rfl)) (pc rwl (pc rwl (pc rwl pn)))) (qc (spb (lc rwl (lc rwl (lc rwl (lc rwl ln))))) qn))⟩
        ·replace h := Qa3 hc36 h
         refine wfn hc36 (by kernel_rfl) ?_
         obtain ⟨x38, hf37, h⟩ := bno h
         refine wrg [rb [(.tmp 5, .ref 0 4 0 0)] [(0, (Qge p1))] (Qga p1), rb [(.tmp 6, .ref 1 4 0 0)] [(1, (Qhm p2))] (z100_4 p2), mv 3 (I p3), rp [fu 60, (.tmp 102, (Qga p1)), (.tmp 103, (z100_4 p2)), (.tmp 104, I p3)] (.tup [(Qhf x38), I x38.2.1, I x38.2.2]), mv 105 (.tup [(Qhf x38), I x38.2.1, I x38.2.2]), rp [(.tmp 101, (.tup [(Qhf x38), I x38.2.1, I x38.2.2]))] (Qhf x38), rp [(.tmp 101, (.tup [(Qhf x38), I x38.2.1, I x38.2.2]))] (I x38.2.1), rp [(.tmp 101, (.tup [(Qhf x38), I x38.2.1, I x38.2.2]))] (I x38.2.2), ⟨[], [(3, .unused)], .ref 3 4 0 0, [(3, z100_8)], false⟩, ⟨[(.tmp 19, .ref 3 4 0 0), (.tmp 106, (Qhf x38))], [(3, z100_8)], .any, [(3, (z100_21 x38))], false⟩, mv 107 (I x38.2.1), mv 108 (I x38.2.2)] ?_ ?_
         ·exact ⟨ald rfl ti57 (by decide) rfl (nle rfl) rfl, ald rfl ti57 (by decide) rfl (nle rfl) rfl, amv rfl, apc (first := []) (cap := []) (vs := [(Qga p1), (z100_4 p2), I p3]) rfl enter60 (ref07_CondenseX_ok N p1 p2 p3 _ hf37) rfl rfl (nlc (NLt.agg _ (nlc nll (nlc nll (nlc nll (nlc nll nl0))))) (nlc (NLt.agg _ (nlc nll (nlc nll (nlc nll (nlc nll nl0))))) (nlc nll nl0))) (NLt.tup _ (nlc (NLt.agg _ (nlc nll (nlc nll (nlc nll (nlc nll nl0))))) (nlc nll (nlc nll nl0)))) rfl, amv rfl, Qay rfl rfl, Qay rfl rfl, Qay rfl rfl, Qa5 rfl tz57 rfl, ast rfl ti57 (by rfl) rfl (nle rfl) rfl, aas rfl, aas rfl, trivial⟩
         refine wrg [mv 21 (I x38.2.2), mv 109 (I x38.2.2)] ?_ ?_
         ·exact ⟨amv rfl, aas rfl, trivial⟩
         rcases bft ((x38.2.2 == 0)) with hb39 | hb39
         ·replace h := Qa2 hb39 h
          obtain ⟨x41, hf40, h⟩ := bno h
          rcases bft ((!(([x17.1.Mass, x17.1.Heat, x17.1.Silica, x17.1.Gas] : List Int) == [x41.Mass, x41.Heat, x41.Silica, x41.Gas]))) with hb42 | hb42
          ·replace h := Qa2 hb42 h
           refine Qcq [mv 21 (I x38.2.2), rp [(.tmp 110, I x38.2.2), ci 0] (B ((x38.2.2 == 0))), rp [(.tmp 111, (B ((x38.2.2 == 0))))] (B true), rb [(.tmp 112, B true), (.tmp 12, .ref 2 4 0 0)] [(2, (Qef x17))] (Qf0 x17), rb [(.tmp 112, B true), (.tmp 19, .ref 3 4 0 0)] [(3, (z100_21 x38))] (Qhf x38), rp [(.tmp 112, B true), fu 28, (.tmp 114, (Qhf x38))] (z100_22 x41), rp [(.tmp 112, B true), (.tmp 113, (Qf0 x17)), (.tmp 115, (z100_22 x41))] (B ((!(([x17.1.Mass, x17.1.Heat, x17.1.Silica, x17.1.Gas] : List Int) == [x41.Mass, x41.Heat, x41.Silica, x41.Gas])))), rp [(.tmp 112, B true), (.tmp 116, (B ((!(([x17.1.Mass, x17.1.Heat, x17.1.Silica, x17.1.Gas] : List Int) == [x41.Mass, x41.Heat, x41.Silica, x41.Gas])))))] (B true), sk 117 (B true), sk 117 (B true), sk 117 (B true), rp [(.tmp 112, B true), (.tmp 117, B true), cb true, (.tmp 120, (.lit undef))] (B true), rp [(.tmp 112, B true), (.tmp 121, B true), cb false] (B true)] ?_ ?_
           ·exact ⟨amv rfl, abn rfl rfl, asb hb39 (amv rfl), ag_ (ald rfl ti60 (by decide) rfl (nle rfl) rfl), ag_ (ald rfl ti57 (by decide) rfl (nle rfl) rfl), ag_ (apc (first := []) (cap := []) (vs := [(Qhf x38)]) rfl enter28 (Qed N (⟨x38.1.Mass, x38.1.Heat, x38.1.Silica, x38.1.Gas⟩ : GStream) _ hf40) rfl rfl (nlc (NLt.agg _ (nlc nll (nlc nll (nlc nll (nlc nll nl0))))) nl0) (NLt.agg _ (nlc nll (nlc nll (nlc nll (nlc nll nl0))))) rfl), ag_ (astep_nes (ls := [x17.1.Mass, x17.1.Heat, x17.1.Silica, x17.1.Gas]) (ks := [x41.Mass, x41.Heat, x41.Silica, x41.Gas]) rfl rfl eqt60 (by kernel_rfl) rfl rfl), asb hb42 (ag_ (amv rfl)), trivial, trivial, trivial, ag_ (apk rfl rfl), apk rfl rfl, trivial⟩
           refine Qeq (by kernel_rfl) ?_
           refine wrg [mc (.bool false)] ?_ ?_
           ·exact ⟨aas rfl, trivial⟩
           refine Qaf ?_
           refine Qa7 ?_
           obtain rfl := osi h
           exact ⟨⟨[B false], ⟨rot (by kernel_rfl), trivial⟩, rfl⟩, nll, Nat.le_refl _, fun n hn => absurd hn (Nat.not_lt_zero n)⟩
          ·replace h := Qa3 hb42 h
           refine Qcq [mv 21 (I x38.2.2), rp [(.tmp 110, I x38.2.2), ci 0] (B ((x38.2.2 == 0))), rp [(.tmp 111, (B ((x38.2.2 == 0))))] (B true), rb [(.tmp 112, B true), (.tmp 12, .ref 2 4 0 0)] [(2, (Qef x17))] (Qf0 x17), rb [(.tmp 112, B true), (.tmp 19, .ref 3 4 0 0)] [(3, (z100_21 x38))] (Qhf x38), rp [(.tmp 112, B true), fu 28, (.tmp 114, (Qhf x38))] (z100_22 x41), rp [(.tmp 112, B true), (.tmp 113, (Qf0 x17)), (.tmp 115, (z100_22 x41))] (B ((!(([x17.1.Mass, x17.1.Heat, x17.1.Silica, x17.1.Gas] : List Int) == [x41.Mass, x41.Heat, x41.Silica, x41.Gas])))), rp [(.tmp 112, B true), (.tmp 116, (B ((!(([x17.1.Mass, x17.1.Heat, x17.1.Silica, x17.1.Gas] : List Int) == [x41.Mass, x41.Heat, x41.Silica, x41.Gas])))))] (B false), rp [(.tmp 117, B false), (.tmp 13, I x17.2.1)] (I x17.2.1), rp [(.tmp 117, B false), (.tmp 20, I x38.2.1)] (I x38.2.1), rp [(.tmp 117, B false), (.tmp 118, I x17.2.1), (.tmp 119, I x38.2.1)] (B ((x17.2.1 != x38.2.1))), rp [(.tmp 112, B true), (.tmp 117, B false), cb true, (.tmp 120, (B ((x17.2.1 != x38.2.1))))] (B ((x17.2.1 != x38.2.1))), rp [(.tmp 112, B true), (.tmp 121, (B ((x17.2.1 != x38.2.1)))), cb false] (B ((x17.2.1 != x38.2.1)))] ?_ ?_
           ·exact ⟨amv rfl, abn rfl rfl, asb hb39 (amv rfl), ag_ (ald rfl ti60 (by decide) rfl (nle rfl) rfl), ag_ (ald rfl ti57 (by decide) rfl (nle rfl) rfl), ag_ (apc (first := []) (cap := []) (vs := [(Qhf x38)]) rfl enter28 (Qed N (⟨x38.1.Mass, x38.1.Heat, x38.1.Silica, x38.1.Gas⟩ : GStream) _ hf40) rfl rfl (nlc (NLt.agg _ (nlc nll (nlc nll (nlc nll (nlc nll nl0))))) nl0) (NLt.agg _ (nlc nll (nlc nll (nlc nll (nlc nll nl0))))) rfl), ag_ (astep_nes (ls := [x17.1.Mass, x17.1.Heat, x17.1.Silica, x17.1.Gas]) (ks := [x41.Mass, x41.Heat, x41.Silica, x41.Gas]) rfl rfl eqt60 (by kernel_rfl) rfl rfl), asb hb42 (ag_ (amv rfl)), ag_ (amv rfl), ag_ (amv rfl), ag_ (abn rfl rfl), ag_ (apk rfl rfl), apk rfl rfl, trivial⟩
           rcases bft ((x17.2.1 != x38.2.1)) with hc43 | hc43
           ·replace h := Qa2 hc43 h
            refine wft hc43 (by kernel_rfl) ?_
            refine wrg [mc (.bool false)] ?_ ?_
            ·exact ⟨aas rfl, trivial⟩
            refine Qaf ?_
            refine Qa7 ?_
            obtain rfl := osi h
            exact ⟨⟨[B false], ⟨rot (by kernel_rfl), trivial⟩, rfl⟩, nll, Nat.le_refl _, fun n hn => absurd hn (Nat.not_lt_zero n)⟩
           ·replace h := Qa3 hc43 h
            refine wfn hc43 (by kernel_rfl) ?_
            refine Qao ?_
            refine thn ?_
            exact ⟨(x38.2.2), h, (mto (n := 142) [(12, .ref 2 4 0 0), (13, I x17.2.1), (14, I x17.2.2), (15, I x38.2.2)] [2] [(Qef x17)] hφ0 (pc (.rn (rqr rfl)) (pc rwl (pc rwl (pc rwl pn)))) (qc (spb (lc rwl (lc rwl (lc rwl (lc rwl ln))))) qn))⟩
         ·replace h := Qa3 hb39 h
          refine Qcq [mv 21 (I x38.2.2), rp [(.tmp 110, I x38.2.2), ci 0] (B ((x38.2.2 == 0))), rp [(.tmp 111, (B ((x38.2.2 == 0))))] (B false), sk 112 (B false), sk 112 (B false), sk 112 (B false), sk 112 (B false), sk 112 (B false), sk 117 (.lit undef), sk 117 (.lit undef), sk 117 (.lit undef), sk 112 (B false), rp [(.tmp 112, B false), (.tmp 121, (.lit undef)), cb false] (B false)] ?_ ?_
          ·exact ⟨amv rfl, abn rfl rfl, asb hb39 (amv rfl), trivial, trivial, trivial, trivial, trivial, trivial, trivial, trivial, trivial, apk rfl rfl, trivial⟩
          refine Qe7 (by kernel_rfl) ?_
          refine Qao ?_
          refine thn ?_
          exact ⟨(x38.2.2), h, (mto (n := 142) [(12, .ref 2 4 0 0), (13, I x17.2.1), (14, I x17.2.2), (15, I x38.2.2)] [2] [(Qef x17)] hφ0 (pc (.rn (rqr rfl)) (pc rwl (pc rwl (pc rwl pn)))) (qc (spb (lc rwl (lc rwl (lc rwl (lc rwl ln))))) qn))⟩
      ·skip
       obtain ⟨x45, hf44, h⟩ := bno h
       rcases bft ((!x45)) with hb46 | hb46
       ·replace h := Qa2 hb46 h
        refine Qar [rb [(.tmp 5, .ref 0 4 0 0)] [(0, (Qge p1))] (Qga p1), rp [fu 31, (.tmp 90, (Qga p1))] (B x45), rp [(.tmp 91, B x45)] (B ((!x45))), rp [(.tmp 92, (B ((!x45))))] (B true), sk 93 (B true), sk 93 (B true), sk 93 (B true), rp [(.tmp 93, B true), cb true, (.tmp 96, (.lit undef))] (B true)] ?_ ?_
        ·exact ⟨ald rfl ti57 (by decide) rfl (nle rfl) rfl, apc (first := []) (cap := []) (vs := [(Qga p1)]) rfl enter31 (Qex N p1 _ hf44) rfl rfl (nlc (NLt.agg _ (nlc nll (nlc nll (nlc nll (nlc nll nl0))))) nl0) nll rfl, Qa6 rfl, asb hb46 (amv rfl), trivial, trivial, trivial, apk rfl rfl, trivial⟩
        refine thn ?_
        exact ⟨(true), h, (mto (n := 142) [(3, I p3), (5, .ref 0 4 0 0), (6, .ref 1 4 0 0), (12, .ref 2 4 0 0), (13, I x17.2.1), (14, I x17.2.2), (97, B true)] [0, 1, 2] [(Qge p1), (Qhm p2), (Qef x17)] hφ0 (pc rwl (pc (.rn (rqr rfl)) (pc (.rn (rqr rfl)) (pc (.rn (rqr rfl)) (pc rwl (pc rwl (pc rwl pn))))))) (qc (spb (lc rwl (lc rwl (lc rwl (lc rwl ln))))) (qc (spb (lc rwl (lc rwl (lc rwl (lc rwl ln))))) (qc (spb (lc rwl (lc rwl (lc rwl (lc rwl ln))))) qn))))⟩
       ·replace h := Qa3 hb46 h
        obtain ⟨x48, hf47, h⟩ := bno h
        refine Qar [rb [(.tmp 5, .ref 0 4 0 0)] [(0, (Qge p1))] (Qga p1), rp [fu 31, (.tmp 90, (Qga p1))] (B x45), rp [(.tmp 91, B x45)] (B ((!x45))), rp [(.tmp 92, (B ((!x45))))] (B false), rb [(.tmp 93, B false), (.tmp 6, .ref 1 4 0 0)] [(1, (Qhm p2))] (z100_4 p2), rp [(.tmp 93, B false), fu 31, (.tmp 94, (z100_4 p2))] (B x48), rp [(.tmp 93, B false), (.tmp 95, B x48)] (B ((!x48))), rp [(.tmp 93, B false), cb true, (.tmp 96, (B ((!x48))))] (B ((!x48)))] ?_ ?_
        ·exact ⟨ald rfl ti57 (by decide) rfl (nle rfl) rfl, apc (first := []) (cap := []) (vs := [(Qga p1)]) rfl enter31 (Qex N p1 _ hf44) rfl rfl (nlc (NLt.agg _ (nlc nll (nlc nll (nlc nll (nlc nll nl0))))) nl0) nll rfl, Qa6 rfl, asb hb46 (amv rfl), ag_ (ald rfl ti57 (by decide) rfl (nle rfl) rfl), ag_ (apc (first := []) (cap := []) (vs := [(z100_4 p2)]) rfl enter31 (Qex N p2 _ hf47) rfl rfl (nlc (NLt.agg _ (nlc nll (nlc nll (nlc nll (nlc nll nl0))))) nl0) nll rfl), ag_ (Qa6 rfl), apk rfl rfl, trivial⟩
        refine thn ?_
        exact ⟨((!x48)), h, (mto (n := 142) [(3, I p3), (5, .ref 0 4 0 0), (6, .ref 1 4 0 0), (12, .ref 2 4 0 0), (13, I x17.2.1), (14, I x17.2.2), (97, (B ((!x48))))] [0, 1, 2] [(Qge p1), (Qhm p2), (Qef x17)] hφ0 (pc rwl (pc (.rn (rqr rfl)) (pc (.rn (rqr rfl)) (pc (.rn (rqr rfl)) (pc rwl (pc rwl (pc rwl pn))))))) (qc (spb (lc rwl (lc rwl (lc rwl (lc rwl ln))))) (qc (spb (lc rwl (lc rwl (lc rwl (lc rwl ln))))) (qc (spb (lc rwl (lc rwl (lc rwl (lc rwl ln))))) qn))))⟩
    ·skip
     rcases bft ((x11.2.2 != y18)) with hb49 | hb49
     ·replace h := Qa2 hb49 h
      refine wrg [mv 11 (I x11.2.2), mv 15 (I y18), rp [(.tmp 74, I x11.2.2), (.tmp 75, I y18)] (B ((x11.2.2 != y18))), rp [(.tmp 76, (B ((x11.2.2 != y18))))] (B true), sk 77 (B true), sk 77 (B true), sk 77 (B true), sk 80 (.lit undef), sk 80 (.lit undef), sk 80 (.lit undef), sk 80 (.lit undef), sk 84 (.lit undef), sk 84 (.lit undef), sk 80 (.lit undef), sk 77 (B true), rp [(.tmp 77, B true), cb true, (.tmp 88, (.lit undef))] (B true)] ?_ ?_
      ·exact ⟨amv rfl, amv rfl, abn rfl rfl, asb hb49 (amv rfl), trivial, trivial, trivial, trivial, trivial, trivial, trivial, trivial, trivial, trivial, trivial, apk rfl rfl, trivial⟩
      refine Qeq (by kernel_rfl) ?_
      refine wrg [mc (.bool false)] ?_ ?_
      ·exact ⟨aas rfl, trivial⟩
      refine Qaf ?_
      refine Qa7 ?_
      obtain rfl := osi h
      exact ⟨⟨[B false], ⟨rot (by kernel_rfl), trivial⟩, rfl⟩, nll, Nat.le_refl _, fun n hn => absurd hn (Nat.not_lt_zero n)⟩
     ·replace h := Qa3 hb49 h
      rcases bft ((y18 != 0)) with hb50 | hb50
      ·replace h := Qa2 hb50 h
       rcases bft ((!(([x11.1.Mass, x11.1.Heat, x11.1.Silica, x11.1.Gas] : List Int) == [0, 0, 0, 0]))) with hb51 | hb51
       ·replace h := Qa2 hb51 h
        refine wrg [mv 11 (I x11.2.2), mv 15 (I y18), rp [(.tmp 74, I x11.2.2), (.tmp 75, I y18)] (B ((x11.2.2 != y18))), rp [(.tmp 76, (B ((x11.2.2 != y18))))] (B false), rp [(.tmp 77, B false), (.tmp 15, I y18)] (I y18), rp [(.tmp 77, B false), (.tmp 78, I y18), ci 0] (B ((y18 != 0))), rp [(.tmp 77, B false), (.tmp 79, (B ((y18 != 0))))] (B true), rb [(.tmp 80, B true), (.tmp 9, .ref 2 4 0 0)] [(2, (z100_9 x11))] (Qil x11), rp [(.tmp 80, B true)] (.agg [I 0, I 0, I 0, I 0]), rp [(.tmp 80, B true), (.tmp 81, (Qil x11)), (.tmp 82, (.agg [I 0, I 0, I 0, I 0]))] (B ((!(([x11.1.Mass, x11.1.Heat, x11.1.Silica, x11.1.Gas] : List Int) == [0, 0, 0, 0])))), rp [(.tmp 80, B true), (.tmp 83, (B ((!(([x11.1.Mass, x11.1.Heat, x11.1.Silica, x11.1.Gas] : List Int) == [0, 0, 0, 0])))))] (B true), sk 84 (B true), sk 84 (B true), rp [(.tmp 80, B true), (.tmp 84, B true), cb true, (.tmp 86, (.lit undef))] (B true), rp [(.tmp 77, B false), (.tmp 80, B true), (.tmp 87, B true), cb false] (B true), rp [(.tmp 77, B false), cb true, (.tmp 88, B true)] (B true)] ?_ ?_
        ·exact ⟨amv rfl, amv rfl, abn rfl rfl, asb hb49 (amv rfl), ag_ (amv rfl), ag_ (abn rfl rfl), asb hb50 (ag_ (amv rfl)), ag_ (ald rfl ti60 (by decide) rfl (nle rfl) rfl), ag_ (Qau (vs := []) rfl ts60 tz60 rfl (by rfl) rfl), ag_ (astep_nes (ls := [x11.1.Mass, x11.1.Heat, x11.1.Silica, x11.1.Gas]) (ks := [0, 0, 0, 0]) rfl rfl eqt60 (by kernel_rfl) rfl rfl), asb hb51 (ag_ (amv rfl)), trivial, trivial, ag_ (apk rfl rfl), ag_ (apk rfl rfl), apk rfl rfl, trivial⟩
        refine Qeq (by kernel_rfl) ?_
        refine wrg [mc (.bool false)] ?_ ?_
        ·exact ⟨aas rfl, trivial⟩
        refine Qaf ?_
        refine Qa7 ?_
        obtain rfl := osi h
        exact ⟨⟨[B false], ⟨rot (by kernel_rfl), trivial⟩, rfl⟩, nll, Nat.le_refl _, fun n hn => absurd hn (Nat.not_lt_zero n)⟩
       ·replace h := Qa3 hb51 h
        refine wrg [mv 11 (I x11.2.2), mv 15 (I y18), rp [(.tmp 74, I x11.2.2), (.tmp 75, I y18)] (B ((x11.2.2 != y18))), rp [(.tmp 76, (B ((x11.2.2 != y18))))] (B false), rp [(.tmp 77, B false), (.tmp 15, I y18)] (I y18), rp [(.tmp 77, B false), (.tmp 78, I y18), ci 0] (B ((y18 != 0))), rp [(.tmp 77, B false), (.tmp 79, (B ((y18 != 0))))] (B true), rb [(.tmp 80, B true), (.tmp 9, .ref 2 4 0 0)] [(2, (z100_9 x11))] (Qil x11), rp [(.tmp 80, B true)] (.agg [I 0, I 0, I 0, I 0]), rp [(.tmp 80, B true), (.tmp 81, (Qil x11)), (.tmp 82, (.agg [I 0, I 0, I 0, I 0]))] (B ((!(([x11.1.Mass, x11.1.Heat, x11.1.Silica, x11.1.Gas] : List Int) == [0, 0, 0, 0])))), rp [(.tmp 80, B true), (.tmp 83, (B ((!(([x11.1.Mass, x11.1.Heat, x11.1.Silica, x11.1.Gas] : List Int) == [0, 0, 0, 0])))))] (B false), rp [(.tmp 84, B false), (.tmp 10, I x11.2.1)] (I x11.2.1), rp [(.tmp 84, B false), (.tmp 85, I x11.2.1), ci 0] (B ((x11.2.1 != 0))), rp [(.tmp 80, B true), (.tmp 84, B false), cb true, (.tmp 86, (B ((x11.2.1 != 0))))] (B ((x11.2.1 != 0))), rp [(.tmp 77, B false), (.tmp 80, B true), (.tmp 87, (B ((x11.2.1 != 0)))), cb false] (B ((x11.2.1 != 0))), rp [(.tmp 77, B false), cb true, (.tmp 88, (B ((x11.2.1 != 0))))] (B ((x11.2.1 != 0)))] ?_ ?_
        ·exact ⟨amv rfl, amv rfl, abn rfl rfl, asb hb49 (amv rfl), ag_ (amv rfl), ag_ (abn rfl rfl), asb hb50 (ag_ (amv rfl)), ag_ (ald rfl ti60 (by decide) rfl (nle rfl) rfl), ag_ (Qau (vs := []) rfl ts60 tz60 rfl (by rfl) rfl), ag_ (astep_nes (ls := [x11.1.Mass, x11.1.Heat, x11.1.Silica, x11.1.Gas]) (ks := [0, 0, 0, 0]) rfl rfl eqt60 (by kernel_rfl) rfl rfl), asb hb51 (ag_ (amv rfl)), ag_ (amv rfl), ag_ (abn rfl rfl), ag_ (apk rfl rfl), ag_ (apk rfl rfl), apk rfl rfl, trivial⟩
        rcases bft ((x11.2.1 != 0)) with hc52 | hc52
        ·replace h := Qa2 hc52 h
         refine wft hc52 (by kernel_rfl) ?_
         refine wrg [mc (.bool false)] ?_ ?_
         ·exact ⟨aas rfl, trivial⟩
         refine Qaf ?_
         refine Qa7 ?_
         obtain rfl := osi h
         exact ⟨⟨[B false], ⟨rot (by kernel_rfl), trivial⟩, rfl⟩, nll, Nat.le_refl _, fun n hn => absurd hn (Nat.not_lt_zero n)⟩
        ·replace h := Qa3 hc52 h
         refine wfn hc52 (by kernel_rfl) ?_
         refine Qao ?_
         refine thn ?_
         exact ⟨(), h, (mto (n := 142) [(3, I p3), (5, .ref 0 4 0 0), (6, .ref 1 4 0 0), (12, .ref 3 4 0 0), (13, I x17.2.1), (14, I x17.2.2)] [0, 1, 3] [(Qge p1), (Qhm p2), (Qef x17)] hφ0 (pc rwl (pc (.rn (rqr rfl)) (pc (.rn (rqr rfl)) (pc (.rn (rqr rfl)) (pc rwl (pc rwl pn)))))) (qc (spb (lc rwl (lc rwl (lc rwl (lc rwl ln))))) (qc (spb (lc rwl (lc rwl (lc rwl (lc rwl ln))))) (qc (spb (lc rwl (lc rwl (lc rwl (lc rwl ln))))) qn))))⟩
      ·replace h := Qa3 hb50 h
       refine wrg [mv 11 (I x11.2.2), mv 15 (I y18), rp [(.tmp 74, I x11.2.2), (.tmp 75, I y18)] (B ((x11.2.2 != y18))), rp [(.tmp 76, (B ((x11.2.2 != y18))))] (B false), rp [(.tmp 77, B false), (.tmp 15, I y18)] (I y18), rp [(.tmp 77, B false), (.tmp 78, I y18), ci 0] (B ((y18 != 0))), rp [(.tmp 77, B false), (.tmp 79, (B ((y18 != 0))))] (B false), sk 80 (B false), sk 80 (B false), sk 80 (B false), sk 80 (B false), sk 84 (.lit undef), sk 84 (.lit undef), sk 80 (B false), rp [(.tmp 77, B false), (.tmp 80, B false), (.tmp 87, (.lit undef)), cb false] (B false), rp [(.tmp 77, B false), cb true, (.tmp 88, B false)] (B false)] ?_ ?_
       ·exact ⟨amv rfl, amv rfl, abn rfl rfl, asb hb49 (amv rfl), ag_ (amv rfl), ag_ (abn rfl rfl), asb hb50 (ag_ (amv rfl)), trivial, trivial, trivial, trivial, trivial, trivial, trivial, ag_ (apk rfl rfl), apk rfl rfl, trivial⟩
       refine Qe7 (by kernel_rfl) ?_
       refine Qao ?_
       refine thn ?_
       exact ⟨(), h, (mto (n := 142) [(3, I p3), (5, .ref 0 4 0 0), (6, .ref 1 4 0 0), (12, .ref 3 4 0 0), (13, I x17.2.1), (14, I x17.2.2)] [0, 1, 3] [(Qge p1), (Qhm p2), (Qef x17)] hφ0 (pc rwl (pc (.rn (rqr rfl)) (pc (.rn (rqr rfl)) (pc (.rn (rqr rfl)) (pc rwl (pc rwl pn)))))) (qc (spb (lc rwl (lc rwl (lc rwl (lc rwl ln))))) (qc (spb (lc rwl (lc rwl (lc rwl (lc rwl ln))))) (qc (spb (lc rwl (lc rwl (lc rwl (lc rwl ln))))) qn))))⟩
   ·skip
    obtain ⟨k54, hk_k54, h⟩ := jko h
    refine wjn (τ := Bool) (fun t => k54 t = some r) (fun y53 => ⟨mk 142 [(3, I p3), (4, .ref 0 2 0 0), (5, .ref 1 4 0 0), (6, .ref 2 4 0 0), (9, .ref 3 4 0 0), (10, I x11.2.1), (11, I x11.2.2), (12, .ref 4 4 0 0), (13, I x17.2.1), (14, I x17.2.2), (52, B y53)], [(.own 2 [[I p0.Inlet, (Qft p0)]]), (Qge p1), (Qhm p2), (z100_9 x11), (Qef x17)]⟩) (fun y53 h => ?_) ?_
    ·subst hk_k54
     rcases bft (y53) with hc55 | hc55
     ·replace h := Qa2 hc55 h
      refine wft hc55 (by kernel_rfl) ?_
      refine Qar [mc (.int .i64 1)] ?_ ?_
      ·exact ⟨aas rfl, trivial⟩
      refine thn ?_
      exact ⟨(1), h, (mto (n := 142) [(3, I p3), (5, .ref 1 4 0 0), (6, .ref 2 4 0 0), (9, .ref 3 4 0 0), (10, I x11.2.1), (11, I x11.2.2), (12, .ref 4 4 0 0), (13, I x17.2.1), (14, I x17.2.2), (15, I 1)] [1, 2, 3, 4] [(Qge p1), (Qhm p2), (z100_9 x11), (Qef x17)] hφ0 (pc rwl (pc (.rn (rqr rfl)) (pc (.rn (rqr rfl)) (pc (.rn (rqr rfl)) (pc rwl (pc rwl (pc (.rn (rqr rfl)) (pc rwl (pc rwl (pc rwl pn)))))))))) (qc (spb (lc rwl (lc rwl (lc rwl (lc rwl ln))))) (qc (spb (lc rwl (lc rwl (lc rwl (lc rwl ln))))) (qc (spb (lc rwl (lc rwl (lc rwl (lc rwl ln))))) (qc (spb (lc rwl (lc rwl (lc rwl (lc rwl ln))))) qn)))))⟩
     ·replace h := Qa3 hc55 h
      refine wfn hc55 (by kernel_rfl) ?_
      obtain ⟨x57, hf56, h⟩ := bno h
      refine wrg [rb [(.tmp 4, .ref 0 2 0 0)] [(0, (.own 2 [[I p0.Inlet, (Qft p0)]]))] (.agg [I p0.Inlet, (Qft p0)]), rb [(.tmp 5, .ref 1 4 0 0)] [(1, (Qge p1))] (Qga p1), rp [fu 59, (.tmp 54, (.agg [I p0.Inlet, (Qft p0)])), (.tmp 55, (Qga p1))] (.tup [(Qhe x57), I x57.2.1, I x57.2.2]), mv 56 (.tup [(Qhe x57), I x57.2.1, I x57.2.2]), rp [(.tmp 53, (.tup [(Qhe x57), I x57.2.1, I x57.2.2]))] (Qhe x57), rp [(.tmp 53, (.tup [(Qhe x57), I x57.2.1, I x57.2.2]))] (I x57.2.1), rp [(.tmp 53, (.tup [(Qhe x57), I x57.2.1, I x57.2.2]))] (I x57.2.2), ⟨[], [(5, .unused)], .ref 5 4 0 0, [(5, z100_8)], false⟩, ⟨[(.tmp 16, .ref 5 4 0 0), (.tmp 57, (Qhe x57))], [(5, z100_8)], .any, [(5, (z100_24 x57))], false⟩, mv 58 (I x57.2.1), mv 59 (I x57.2.2)] ?_ ?_
      ·exact ⟨ald rfl ti24 (by decide) rfl (nle rfl) rfl, ald rfl ti57 (by decide) rfl (nle rfl) rfl, apc (first := []) (cap := []) (vs := [(.agg [I p0.Inlet, (Qft p0)]), (Qga p1)]) rfl enter59 (ref07_ExpandX_ok N p0 p1 _ hf56) rfl rfl (nlc (NLt.agg _ (nlc nll (nlc (nld Qa8 _) nl0))) (nlc (NLt.agg _ (nlc nll (nlc nll (nlc nll (nlc nll nl0))))) nl0)) (NLt.tup _ (nlc (NLt.agg _ (nlc nll (nlc nll (nlc nll (nlc nll nl0))))) (nlc nll (nlc nll nl0)))) rfl, amv rfl, Qay rfl rfl, Qay rfl rfl, Qay rfl rfl, Qa5 rfl tz57 rfl, ast rfl ti57 (by rfl) rfl (nle rfl) rfl, aas rfl, aas rfl, trivial⟩
      refine wrg [mv 18 (I x57.2.2), mv 60 (I x57.2.2)] ?_ ?_
      ·exact ⟨amv rfl, aas rfl, trivial⟩
      rcases bft ((x57.2.2 == 0)) with hb58 | hb58
      ·replace h := Qa2 hb58 h
       obtain ⟨x60, hf59, h⟩ := bno h
       rcases bft ((!(([x11.1.Mass, x11.1.Heat, x11.1.Silica, x11.1.Gas] : List Int) == [x60.Mass, x60.Heat, x60.Silica, x60.Gas]))) with hb61 | hb61
       ·replace h := Qa2 hb61 h
        refine Qcq [mv 18 (I x57.2.2), rp [(.tmp 61, I x57.2.2), ci 0] (B ((x57.2.2 == 0))), rp [(.tmp 62, (B ((x57.2.2 == 0))))] (B true), rb [(.tmp 63, B true), (.tmp 9, .ref 3 4 0 0)] [(3, (z100_9 x11))] (Qil x11), rb [(.tmp 63, B true), (.tmp 16, .ref 5 4 0 0)] [(5, (z100_24 x57))] (Qhe x57), rp [(.tmp 63, B true), fu 28, (.tmp 65, (Qhe x57))] (z100_25 x60), rp [(.tmp 63, B true), (.tmp 64, (Qil x11)), (.tmp 66, (z100_25 x60))] (B ((!(([x11.1.Mass, x11.1.Heat, x11.1.Silica, x11.1.Gas] : List Int) == [x60.Mass, x60.Heat, x60.Silica, x60.Gas])))), rp [(.tmp 63, B true), (.tmp 67, (B ((!(([x11.1.Mass, x11.1.Heat, x11.1.Silica, x11.1.Gas] : List Int) == [x60.Mass, x60.Heat, x60.Silica, x60.Gas])))))] (B true), sk 68 (B true), sk 68 (B true), sk 68 (B true), rp [(.tmp 63, B true), (.tmp 68, B true), cb true, (.tmp 71, (.lit undef))] (B true), rp [(.tmp 63, B true), (.tmp 72, B true), cb false] (B true)] ?_ ?_
        ·exact ⟨amv rfl, abn rfl rfl, asb hb58 (amv rfl), ag_ (ald rfl ti60 (by decide) rfl (nle rfl) rfl), ag_ (ald rfl ti57 (by decide) rfl (nle rfl) rfl), ag_ (apc (first := []) (cap := []) (vs := [(Qhe x57)]) rfl enter28 (Qed N (⟨x57.1.Mass, x57.1.Heat, x57.1.Silica, x57.1.Gas⟩ : GStream) _ hf59) rfl rfl (nlc (NLt.agg _ (nlc nll (nlc nll (nlc nll (nlc nll nl0))))) nl0) (NLt.agg _ (nlc nll (nlc nll (nlc nll (nlc nll nl0))))) rfl), ag_ (astep_nes (ls := [x11.1.Mass, x11.1.Heat, x11.1.Silica, x11.1.Gas]) (ks := [x60.Mass, x60.Heat, x60.Silica, x60.Gas]) rfl rfl eqt60 (by kernel_rfl) rfl rfl), asb hb61 (ag_ (amv rfl)), trivial, trivial, trivial, ag_ (apk rfl rfl), apk rfl rfl, trivial⟩
        refine Qeq (by kernel_rfl) ?_
        refine wrg [mc (.bool false)] ?_ ?_
        ·exact ⟨aas rfl, trivial⟩
        refine Qaf ?_
        refine Qa7 ?_
        obtain rfl := osi h
        exact ⟨⟨[B false], ⟨rot (by kernel_rfl), trivial⟩, rfl⟩, nll, Nat.le_refl _, fun n hn => absurd hn (Nat.not_lt_zero n)⟩
       ·replace h := Qa3 hb61 h
        refine Qcq [mv 18 (I x57.2.2), rp [(.tmp 61, I x57.2.2), ci 0] (B ((x57.2.2 == 0))), rp [(.tmp 62, (B ((x57.2.2 == 0))))] (B true), rb [(.tmp 63, B true), (.tmp 9, .ref 3 4 0 0)] [(3, (z100_9 x11))] (Qil x11), rb [(.tmp 63, B true), (.tmp 16, .ref 5 4 0 0)] [(5, (z100_24 x57))] (Qhe x57), rp [(.tmp 63, B true), fu 28, (.tmp 65, (Qhe x57))] (z100_25 x60), rp [(.tmp 63, B true), (.tmp 64, (Qil x11)), (.tmp 66, (z100_25 x60))] (B ((!(([x11.1.Mass, x11.1.Heat, x11.1.Silica, x11.1.Gas] : List Int) == [x60.Mass, x60.Heat, x60.Silica, x60.Gas])))), rp [(.tmp 63, B true), (.tmp 67, (B ((!(([x11.1.Mass, x11.1.Heat, x11.1.Silica, x11.1.Gas] : List Int) == [x60.Mass, x60.Heat, x60.Silica, x60.Gas])))))] (B false), rp [(.tmp 68, B false), (.tmp 10, I x11.2.1)] (I x11.2.1), rp [(.tmp 68, B false), (.tmp 17, I x57.2.1)] (I x57.2.1), rp [(.tmp 68, B false), (.tmp 69, I x11.2.1), (.tmp 70, I x57.2.1)] (B ((x11.2.1 != x57.2.1))), rp [(.tmp 63, B true), (.tmp 68, B false), cb true, (.tmp 71, (B ((x11.2.1 != x57.2.1))))] (B ((x11.2.1 != x57.2.1))), rp [(.tmp 63, B true), (.tmp 72, (B ((x11.2.1 != x57.2.1)))), cb false] (B ((x11.2.1 != x57.2.1)))] ?_ ?_
        ·exact ⟨amv rfl, abn rfl rfl, asb hb58 (amv rfl), ag_ (ald rfl ti60 (by decide) rfl (nle rfl) rfl), ag_ (ald rfl ti57 (by decide) rfl (nle rfl) rfl), ag_ (apc (first := []) (cap := []) (vs := [(Qhe x57)]) rfl enter28 (Qed N (⟨x57.1.Mass, x57.1.Heat, x57.1.Silica, x57.1.Gas⟩ : GStream) _ hf59) rfl rfl (nlc (NLt.agg _ (nlc nll (nlc nll (nlc nll (nlc nll nl0))))) nl0) (NLt.agg _ (nlc nll (nlc nll (nlc nll (nlc nll nl0))))) rfl), ag_ (astep_nes (ls := [x11.1.Mass, x11.1.Heat, x11.1.Silica, x11.1.Gas]) (ks := [x60.Mass, x60.Heat, x60.Silica, x60.Gas]) rfl rfl eqt60 (by kernel_rfl) rfl rfl), asb hb61 (ag_ (amv rfl)), ag_ (amv rfl), ag_ (amv rfl), ag_ (abn rfl rfl), ag_ (apk rfl rfl), apk rfl rfl, trivial⟩
        rcases bft ((x11.2.1 != x57.2.1)) with hc62 | hc62
        ·replace h := Qa2 hc62 h
         refine wft hc62 (by kernel_rfl) ?_
         refine wrg [mc (.bool false)] ?_ ?_
         ·exact ⟨aas rfl, trivial⟩
         refine Qaf ?_
         refine Qa7 ?_
         obtain rfl := osi h
         exact ⟨⟨[B false], ⟨rot (by kernel_rfl), trivial⟩, rfl⟩, nll, Nat.le_refl _, fun n hn => absurd hn (Nat.not_lt_zero n)⟩
        ·replace h := Qa3 hc62 h
         refine wfn hc62 (by kernel_rfl) ?_
         refine Qao ?_
         refine thn ?_
         exact ⟨(x57.2.2), h, (mto (n := 142) [(3, I p3), (5, .ref 1 4 0 0), (6, .ref 2 4 0 0), (9, .ref 3 4 0 0), (10, I x11.2.1), (11, I x11.2.2), (12, .ref 4 4 0 0), (13, I x17.2.1), (14, I x17.2.2), (15, I x57.2.2)] [1, 2, 3, 4] [(Qge p1), (Qhm p2), (z100_9 x11), (Qef x17)] hφ0 (pc rwl (pc (.rn (rqr rfl)) (pc (.rn (rqr rfl)) (pc (.rn (rqr rfl)) (pc rwl (pc rwl (pc (.rn (rqr rfl)) (pc rwl (pc rwl (pc rwl pn)))))))))) (qc (spb (lc rwl (lc rwl (lc rwl (lc rwl ln))))) (qc (spb (lc rwl (lc rwl (lc rwl (lc rwl ln))))) (qc (spb (lc rwl (lc rwl (lc rwl (lc rwl ln))))) (qc (spb (lc rwl (lc rwl (lc rwl (lc rwl ln))))) qn)))))⟩
      ·replace h := Qa3 hb58 h
       refine Qcq [mv 18 (I x57.2.2), rp [(.tmp 61, I x57.2.2), ci 0] (B ((x57.2.2 == 0))), rp [(.tmp 62, (B ((x57.2.2 == 0))))] (B false), sk 63 (B false), sk 63 (B false), sk 63 (B false), sk 63 (B false), sk 63 (B false), sk 68 (.lit undef), sk 68 (.lit undef), sk 68 (.lit undef), sk 63 (B false), rp [(.tmp 63, B false), (.tmp 72, (.lit undef)), cb false] (B false)] ?_ ?_
       ·exact ⟨amv rfl, abn rfl rfl, asb hb58 (amv rfl), trivial, trivial, trivial, trivial, trivial, trivial, trivial, trivial, trivial, apk rfl rfl, trivial⟩
       refine Qe7 (by kernel_rfl) ?_
       refine Qao ?_
       refine thn ?_
       exact ⟨(x57.2.2), h, (mto (n := 142) [(3, I p3), (5, .ref 1 4 0 0), (6, .ref 2 4 0 0), (9, .ref 3 4 0 0), (10, I x11.2.1), (11, I x11.2.2), (12, .ref 4 4 0 0), (13, I x17.2.1), (14, I x17.2.2), (15, I x57.2.2)] [1, 2, 3, 4] [(Qge p1), (Qhm p2), (z100_9 x11), (Qef x17)] hφ0 (pc rwl (pc (.rn (rqr rfl)) (pc (.rn (rqr rfl)) (pc (.rn (rqr rfl)) (pc rwl (pc rwl (pc (.rn (rqr rfl)) (pc rwl (pc rwl (pc rwl pn)))))))))) (qc (spb (lc rwl (lc rwl (lc rwl (lc rwl ln))))) (qc (spb (lc rwl (lc rwl (lc rwl (lc rwl ln))))) (qc (spb (lc rwl (lc rwl (lc rwl (lc rwl ln))))) (qc (spb (lc rwl (lc rwl (lc rwl (lc rwl ln))))) qn)))))⟩
    ·skip
     obtain ⟨x64, hf63, h⟩ := bno h
     rcases bft ((!x64)) with hb65 | hb65
     ·replace h := Qa2 hb65 h
      refine Qar [rb [(.tmp 4, .ref 0 2 0 0)] [(0, (.own 2 [[I p0.Inlet, (Qft p0)]]))] (.agg [I p0.Inlet, (Qft p0)]), rp [fu 15, (.tmp 45, (.agg [I p0.Inlet, (Qft p0)]))] (B x64), rp [(.tmp 46, B x64)] (B ((!x64))), rp [(.tmp 47, (B ((!x64))))] (B true), sk 48 (B true), sk 48 (B true), sk 48 (B true), rp [(.tmp 48, B true), cb true, (.tmp 51, (.lit undef))] (B true)] ?_ ?_
      ·exact ⟨ald rfl ti24 (by decide) rfl (nle rfl) rfl, apc (first := []) (cap := []) (vs := [(.agg [I p0.Inlet, (Qft p0)])]) rfl enter15 (ref07_RightX_ok N p0 _ hf63) rfl rfl (nlc (NLt.agg _ (nlc nll (nlc (nld Qa8 _) nl0))) nl0) nll rfl, Qa6 rfl, asb hb65 (amv rfl), trivial, trivial, trivial, apk rfl rfl, trivial⟩
      refine thn ?_
      exact ⟨(true), h, (mto (n := 142) [(3, I p3), (4, .ref 0 2 0 0), (5, .ref 1 4 0 0), (6, .ref 2 4 0 0), (9, .ref 3 4 0 0), (10, I x11.2.1), (11, I x11.2.2), (12, .ref 4 4 0 0), (13, I x17.2.1), (14, I x17.2.2), (52, B true)] [0, 1, 2, 3, 4] [(.own 2 [[I p0.Inlet, (Qft p0)]]), (Qge p1), (Qhm p2), (z100_9 x11), (Qef x17)] hφ0 (pc rwl (pc (.rn (rqr rfl)) (pc (.rn (rqr rfl)) (pc (.rn (rqr rfl)) (pc (.rn (rqr rfl)) (pc rwl (pc rwl (pc (.rn (rqr rfl)) (pc rwl (pc rwl (pc rwl pn))))))))))) (qc (spb (lc rwl (lc (.rn (.plain _ (nld Qa8 _))) ln))) (qc (spb (lc rwl (lc rwl (lc rwl (lc rwl ln))))) (qc (spb (lc rwl (lc rwl (lc rwl (lc rwl ln))))) (qc (spb (lc rwl (lc rwl (lc rwl (lc rwl ln))))) (qc (spb (lc rwl (lc rwl (lc rwl (lc rwl ln))))) qn))))))⟩
     ·replace h := Qa3 hb65 h
      obtain ⟨x67, hf66, h⟩ := bno h
      refine Qar [rb [(.tmp 4, .ref 0 2 0 0)] [(0, (.own 2 [[I p0.Inlet, (Qft p0)]]))] (.agg [I p0.Inlet, (Qft p0)]), rp [fu 15, (.tmp 45, (.agg [I p0.Inlet, (Qft p0)]))] (B x64), rp [(.tmp 46, B x64)] (B ((!x64))), rp [(.tmp 47, (B ((!x64))))] (B false), rb [(.tmp 48, B false), (.tmp 5, .ref 1 4 0 0)] [(1, (Qge p1))] (Qga p1), rp [(.tmp 48, B false), fu 31, (.tmp 49, (Qga p1))] (B x67), rp [(.tmp 48, B false), (.tmp 50, B x67)] (B ((!x67))), rp [(.tmp 48, B false), cb true, (.tmp 51, (B ((!x67))))] (B ((!x67)))] ?_ ?_
      ·exact ⟨ald rfl ti24 (by decide) rfl (nle rfl) rfl, apc (first := []) (cap := []) (vs := [(.agg [I p0.Inlet, (Qft p0)])]) rfl enter15 (ref07_RightX_ok N p0 _ hf63) rfl rfl (nlc (NLt.agg _ (nlc nll (nlc (nld Qa8 _) nl0))) nl0) nll rfl, Qa6 rfl, asb hb65 (amv rfl), ag_ (ald rfl ti57 (by decide) rfl (nle rfl) rfl), ag_ (apc (first := []) (cap := []) (vs := [(Qga p1)]) rfl enter31 (Qex N p1 _ hf66) rfl rfl (nlc (NLt.agg _ (nlc nll (nlc nll (nlc nll (nlc nll nl0))))) nl0) nll rfl), ag_ (Qa6 rfl), apk rfl rfl, trivial⟩
      refine thn ?_
      exact ⟨((!x67)), h, (mto (n := 142) [(3, I p3), (4, .ref 0 2 0 0), (5, .ref 1 4 0 0), (6, .ref 2 4 0 0), (9, .ref 3 4 0 0), (10, I x11.2.1), (11, I x11.2.2), (12, .ref 4 4 0 0), (13, I x17.2.1), (14, I x17.2.2), (52, (B ((!x67))))] [0, 1, 2, 3, 4] [(.own 2 [[I p0.Inlet, (Qft p0)]]), (Qge p1), (Qhm p2), (z100_9 x11), (Qef x17)] hφ0 (pc rwl (pc (.rn (rqr rfl)) (pc (.rn (rqr rfl)) (pc (.rn (rqr rfl)) (pc (.rn (rqr rfl)) (pc rwl (pc rwl (pc (.rn (rqr rfl)) (pc rwl (pc rwl (pc rwl pn))))))))))) (qc (spb (lc rwl (lc (.rn (.plain _ (nld Qa8 _))) ln))) (qc (spb (lc rwl (lc rwl (lc rwl (lc rwl ln))))) (qc (spb (lc rwl (lc rwl (lc rwl (lc rwl ln))))) (qc (spb (lc rwl (lc rwl (lc rwl (lc rwl ln))))) (qc (spb (lc rwl (lc rwl (lc rwl (lc rwl ln))))) qn))))))⟩

end Go.Proofs.Ytlhakkkjgdbdpaa
