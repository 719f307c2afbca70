/-
  Functions of the program: what they compute, as plain functions, and that they do. No conditions.
-/
import Derived.Test.YtlhakkkjgdbdpaaX9
namespace Go.Proofs.Ytlhakkkjgdbdpaa
open Go.RowKit

def plant_TowerX (N : Nat) (p0 : GStream) (p1 : Int) : Option (GStream × Int × Int) :=
  (plant_rightX N ([p0])).bind fun x2 =>
  bif (!x2) then
   some ((⟨0, 0, 0, 0⟩ : GStream), 0, 1)
  else
   (plant_withinX N p1 0 4000).bind fun x5 =>
   bif (!x5) then
    some ((⟨0, 0, 0, 0⟩ : GStream), 0, 2)
   else
    (some (if (w64 (p0.Heat - (w64 (p1 * p0.Mass)))) > 0 then w64 (p0.Heat - (w64 (p1 * p0.Mass))) else 0)).bind fun x7 =>
    some ((⟨p0.Mass, w64 (p0.Heat - x7), p0.Silica, p0.Gas⟩ : GStream), x7, 0)
def z83_1 (p0 : GStream) : AV := .agg [(I (p0.Mass)), (I (p0.Heat)), (I (p0.Silica)), (I (p0.Gas))]
def z83_0 (p0 : GStream) : Slot := .own 4 [[(I (p0.Mass)), (I (p0.Heat)), (I (p0.Silica)), (I (p0.Gas))]]
def z83_2 : Slot := .own 4 [[(I (0)), (I (0)), (I (0)), (I (0))]]
def z83_3 (p0 : GStream) : AV := .dat 4 (([p0] : List GStream).map c_GStream)
def z83_4 (p0 : GStream) (x7 : Int) : Slot := .own 4 [[(I (p0.Mass)), (I (w64 (p0.Heat - x7))), (I (p0.Silica)), (I (p0.Gas))]]
def z83_5 (p0 : GStream) (x7 : Int) : AV := .agg [(I (p0.Mass)), (I (w64 (p0.Heat - x7))), (I (p0.Silica)), (I (p0.Gas))]
set_option maxRecDepth 100000 in
set_option maxHeartbeats 4000000 in
theorem plant_TowerX_ok (N : Nat) (p0 : GStream) (p1 : Int) (r : (GStream × Int × Int)) (h : plant_TowerX N p0 p1 = some r) : Spec Try.prog 27 [(.agg (c_GStream p0)), (I p1)] [] (.tup [(.agg (c_GStream r.1)), (I r.2.1), (I r.2.2)]) [] := by
  refine spec_of_awp Try.func27 rfl 0 (nle rfl) (fun X φ0 w0 hφ0 => ?_)
  unfold plant_TowerX at h
  refine wrg [⟨[(.tmp 0, (z83_1 p0))], [(0, .unused)], .ref 0 4 0 0, [(0, (z83_0 p0))], false⟩, ⟨[], [(1, .unused)], .ref 1 4 0 0, [(1, z83_2)], false⟩, mc (.int .i64 0), mc (.int .i64 0)] ?_ ?_
  ·exact ⟨astep_box rfl (by rfl) rfl rfl, astep_alloc rfl tz60 rfl, aas rfl, aas rfl, trivial⟩
  refine wsq ?_
  refine awp_block ?_
  obtain ⟨x2, hf1, h⟩ := bno h
  refine wrg [rb [(.tmp 2, .ref 0 4 0 0)] [(0, (z83_0 p0))] (z83_1 p0), rp [(.tmp 8, (z83_1 p0))] (z83_3 p0), rp [fu 74, (.tmp 9, (z83_3 p0))] (B x2), rp [(.tmp 10, B x2)] (B ((!x2))), mv 11 (B ((!x2)))] ?_ ?_
  ·exact ⟨ald rfl ti60 (by decide) rfl (nle rfl) rfl, astep_bslice (vs := [(z83_1 p0)]) rfl Try.underlying143 ti60 tz60 rfl (by decide) rfl (by decide) (by rfl) (by rfl) (by rfl) rfl, apc (first := []) (cap := []) (vs := [(z83_3 p0)]) rfl enter74 (plant_rightX_ok N ([p0]) _ hf1) rfl rfl (nlc (nld nl_GStream _) nl0) nll rfl, astep_not rfl, aas rfl, trivial⟩
  rcases bft ((!x2)) with hc3 | hc3
  ·replace h := bif_t hc3 h
   refine wft hc3 (by kernel_rfl) ?_
   refine wrg [rp [] (.agg [I 0, I 0, I 0, I 0]), ⟨[(.tmp 4, .ref 1 4 0 0), (.tmp 12, (.agg [I 0, I 0, I 0, I 0]))], [(1, z83_2)], .any, [(1, z83_2)], false⟩, mc (.int .i64 0), mc (.int .i64 1)] ?_ ?_
   ·exact ⟨astep_build (vs := []) rfl ts60 tz60 rfl (by rfl) rfl, ast rfl ti60 (by rfl) rfl (nle rfl) rfl, aas rfl, aas rfl, trivial⟩
   refine awp_ret ?_
   refine blockA_r ?_
   refine thenA_r ?_
   obtain rfl := osi h
   exact ⟨⟨[(.agg [I 0, I 0, I 0, I 0]), I 0, I 1], ⟨resOK_cell (n := 1) (m := 4) (j := 0) (i := 0) (xs := [[I 0, I 0, I 0, I 0]]) (by kernel_rfl) (by kernel_rfl) ti60 (by decide) rfl (nle rfl) rfl, rot (by kernel_rfl), rot (by kernel_rfl), trivial⟩, rfl⟩, (NLt.tup _ (nlc (NLt.agg _ (nlc nll (nlc nll (nlc nll (nlc nll nl0))))) (nlc nll (nlc nll nl0)))), Nat.le_refl _, fun n hn => absurd hn (Nat.not_lt_zero n)⟩
  ·replace h := bif_f hc3 h
   refine wfn hc3 (by kernel_rfl) ?_
   obtain ⟨x5, hf4, h⟩ := bno h
   refine wrg [mv 1 (I p1), rp [fu 65, (.tmp 14, I p1), ci 0, ci 4000] (B x5), rp [(.tmp 15, B x5)] (B ((!x5))), mv 16 (B ((!x5)))] ?_ ?_
   ·exact ⟨amv rfl, apc (first := []) (cap := []) (vs := [I p1, I 0, I 4000]) rfl enter65 (plant_withinX_ok N p1 0 4000 _ hf4) rfl rfl (nlc nll (nlc nll (nlc nll nl0))) nll rfl, astep_not rfl, aas rfl, trivial⟩
   rcases bft ((!x5)) with hc6 | hc6
   ·replace h := bif_t hc6 h
    refine wft hc6 (by kernel_rfl) ?_
    refine wrg [rp [] (.agg [I 0, I 0, I 0, I 0]), ⟨[(.tmp 4, .ref 1 4 0 0), (.tmp 17, (.agg [I 0, I 0, I 0, I 0]))], [(1, z83_2)], .any, [(1, z83_2)], false⟩, mc (.int .i64 0), mc (.int .i64 2)] ?_ ?_
    ·exact ⟨astep_build (vs := []) rfl ts60 tz60 rfl (by rfl) rfl, ast rfl ti60 (by rfl) rfl (nle rfl) rfl, aas rfl, aas rfl, trivial⟩
    refine awp_ret ?_
    refine blockA_r ?_
    refine thenA_r ?_
    obtain rfl := osi h
    exact ⟨⟨[(.agg [I 0, I 0, I 0, I 0]), I 0, I 2], ⟨resOK_cell (n := 1) (m := 4) (j := 0) (i := 0) (xs := [[I 0, I 0, I 0, I 0]]) (by kernel_rfl) (by kernel_rfl) ti60 (by decide) rfl (nle rfl) rfl, rot (by kernel_rfl), rot (by kernel_rfl), trivial⟩, rfl⟩, (NLt.tup _ (nlc (NLt.agg _ (nlc nll (nlc nll (nlc nll (nlc nll nl0))))) (nlc nll (nlc nll nl0)))), Nat.le_refl _, fun n hn => absurd hn (Nat.not_lt_zero n)⟩
   ·replace h := bif_f hc6 h
    refine wfn hc6 (by kernel_rfl) ?_
    refine awp_skip ?_
    refine bln ?_
    refine thn ?_
    obtain ⟨x7, hl8, h⟩ := bno h
    refine wrg [rb [(.tmp 2, .ref 0 4 0 0)] [(0, (z83_0 p0))] (.ref 0 4 0 1), rb [(.tmp 18, .ref 0 4 0 1)] [(0, (z83_0 p0))] (I p0.Heat), mv 1 (I p1), rb [(.tmp 2, .ref 0 4 0 0)] [(0, (z83_0 p0))] (.ref 0 4 0 0), rb [(.tmp 21, .ref 0 4 0 0)] [(0, (z83_0 p0))] (I p0.Mass), rp [(.tmp 20, I p1), (.tmp 22, I p0.Mass)] (I (w64 (p1 * p0.Mass))), rp [(.tmp 19, I p0.Heat), (.tmp 23, (I (w64 (p1 * p0.Mass))))] (I (w64 (p0.Heat - (w64 (p1 * p0.Mass))))), rp [ci 0, (.tmp 24, (I (w64 (p0.Heat - (w64 (p1 * p0.Mass))))))] (I x7), mv 25 (I x7)] ?_ ?_
    ·exact ⟨afa rfl Try.underlying60 rfl rfl ti3 (by decide) rfl, ald rfl ti3 (by decide) rfl (nle rfl) rfl, amv rfl, afa rfl Try.underlying60 rfl rfl ti3 (by decide) rfl, ald rfl ti3 (by decide) rfl (nle rfl) rfl, abn rfl rfl, abn rfl rfl, astep_i hl8 (astep_max rfl), aas rfl, trivial⟩
    refine wrg [rb [(.tmp 2, .ref 0 4 0 0)] [(0, (z83_0 p0))] (.ref 0 4 0 1), rb [(.tmp 26, .ref 0 4 0 1)] [(0, (z83_0 p0))] (I p0.Heat), mv 5 (I x7), rp [(.tmp 27, I p0.Heat), (.tmp 28, I x7)] (I (w64 (p0.Heat - x7))), rb [(.tmp 2, .ref 0 4 0 0)] [(0, (z83_0 p0))] (.ref 0 4 0 1), ⟨[(.tmp 30, .ref 0 4 0 1), (.tmp 29, (I (w64 (p0.Heat - x7))))], [(0, (z83_0 p0))], .any, [(0, (z83_4 p0 x7))], false⟩] ?_ ?_
    ·exact ⟨afa rfl Try.underlying60 rfl rfl ti3 (by decide) rfl, ald rfl ti3 (by decide) rfl (nle rfl) rfl, amv rfl, abn rfl rfl, afa rfl Try.underlying60 rfl rfl ti3 (by decide) rfl, ast rfl ti3 (by rfl) rfl (nle rfl) rfl, trivial⟩
    refine wrg [rb [(.tmp 2, .ref 0 4 0 0)] [(0, (z83_4 p0 x7))] (z83_5 p0 x7), mv 5 (I x7), ⟨[(.tmp 4, .ref 1 4 0 0), (.tmp 31, (z83_5 p0 x7))], [(1, z83_2)], .any, [(1, (z83_4 p0 x7))], false⟩, mv 32 (I x7), mc (.int .i64 0)] ?_ ?_
    ·exact ⟨ald rfl ti60 (by decide) rfl (nle rfl) rfl, amv rfl, ast rfl ti60 (by rfl) rfl (nle rfl) rfl, aas rfl, aas rfl, trivial⟩
    refine awp_ret ?_
    obtain rfl := osi h
    exact ⟨⟨[(z83_5 p0 x7), I x7, I 0], ⟨resOK_cell (n := 1) (m := 4) (j := 0) (i := 0) (xs := [[I p0.Mass, (I (w64 (p0.Heat - x7))), I p0.Silica, I p0.Gas]]) (by kernel_rfl) (by kernel_rfl) ti60 (by decide) rfl (nle rfl) rfl, rot (by kernel_rfl), rot (by kernel_rfl), trivial⟩, rfl⟩, (NLt.tup _ (nlc (NLt.agg _ (nlc nll (nlc nll (nlc nll (nlc nll nl0))))) (nlc nll (nlc nll nl0)))), Nat.le_refl _, fun n hn => absurd hn (Nat.not_lt_zero n)⟩

def law07_CycleX (_N : Nat) (p0 : GCycle) : Option GCycle :=
  some p0
def z84_1 (p0 : GCycle) : AV := .agg [(I (p0.Out)), (I (p0.Yield)), (I (p0.Most))]
def z84_0 (p0 : GCycle) : Slot := .own 3 [[(I (p0.Out)), (I (p0.Yield)), (I (p0.Most))]]
set_option maxRecDepth 100000 in
set_option maxHeartbeats 4000000 in
theorem law07_CycleX_ok (N : Nat) (p0 : GCycle) (r : GCycle) (h : law07_CycleX N p0 = some r) : Spec Try.prog 30 [(.agg (c_GCycle p0))] [] (.agg (c_GCycle r)) [] := by
  refine spec_of_awp Try.func30 rfl 0 (nle rfl) (fun X φ0 w0 hφ0 => ?_)
  unfold law07_CycleX at h
  refine wrg [⟨[(.tmp 0, (z84_1 p0))], [(0, .unused)], .ref 0 3 0 0, [(0, (z84_0 p0))], false⟩, ⟨[], [(1, .unused)], .ref 1 3 0 0, [(1, .own 3 [[I 0, I 0, I 0]])], false⟩] ?_ ?_
  ·exact ⟨astep_box rfl (by rfl) rfl rfl, astep_alloc rfl tz66 rfl, trivial⟩
  refine wrg [rb [(.tmp 1, .ref 0 3 0 0)] [(0, (z84_0 p0))] (.ref 0 3 0 0), rb [(.tmp 3, .ref 0 3 0 0)] [(0, (z84_0 p0))] (I p0.Out), rb [(.tmp 1, .ref 0 3 0 0)] [(0, (z84_0 p0))] (.ref 0 3 0 1), rb [(.tmp 5, .ref 0 3 0 1)] [(0, (z84_0 p0))] (I p0.Yield), rb [(.tmp 1, .ref 0 3 0 0)] [(0, (z84_0 p0))] (.ref 0 3 0 2), rb [(.tmp 7, .ref 0 3 0 2)] [(0, (z84_0 p0))] (I p0.Most), rp [(.tmp 4, I p0.Out), (.tmp 6, I p0.Yield), (.tmp 8, I p0.Most)] (z84_1 p0), ⟨[(.tmp 2, .ref 1 3 0 0), (.tmp 9, (z84_1 p0))], [(1, .own 3 [[I 0, I 0, I 0]])], .any, [(1, (z84_0 p0))], false⟩] ?_ ?_
  ·exact ⟨afa rfl Try.underlying59 rfl rfl ti3 (by decide) rfl, ald rfl ti3 (by decide) rfl (nle rfl) rfl, afa rfl Try.underlying59 rfl rfl ti3 (by decide) rfl, ald rfl ti3 (by decide) rfl (nle rfl) rfl, afa rfl Try.underlying59 rfl rfl ti3 (by decide) rfl, ald rfl ti3 (by decide) rfl (nle rfl) rfl, astep_build (vs := [I p0.Out, I p0.Yield, I p0.Most]) rfl ts66 tz66 rfl (by rfl) rfl, ast rfl ti66 (by rfl) rfl (nle rfl) rfl, trivial⟩
  refine awp_ret ?_
  obtain rfl := osi h
  exact ⟨⟨[(z84_1 p0)], ⟨resOK_cell (n := 1) (m := 3) (j := 0) (i := 0) (xs := [[I p0.Out, I p0.Yield, I p0.Most]]) (by kernel_rfl) (by kernel_rfl) ti66 (by decide) rfl (nle rfl) rfl, trivial⟩, rfl⟩, (NLt.agg _ (nlc nll (nlc nll (nlc nll nl0)))), Nat.le_refl _, fun n hn => absurd hn (Nat.not_lt_zero n)⟩

def ref07_TowerX (_N : Nat) (p0 : GStream) (p1 : Int) : Option (GStream × Int) :=
  (some (if (w64 (p0.Heat - (w64 (p1 * p0.Mass)))) > 0 then w64 (p0.Heat - (w64 (p1 * p0.Mass))) else 0)).bind fun x1 =>
  some ((⟨p0.Mass, w64 (p0.Heat - x1), p0.Silica, p0.Gas⟩ : GStream), x1)
def z85_1 (p0 : GStream) : AV := .agg [(I (p0.Mass)), (I (p0.Heat)), (I (p0.Silica)), (I (p0.Gas))]
def z85_0 (p0 : GStream) : Slot := .own 4 [[(I (p0.Mass)), (I (p0.Heat)), (I (p0.Silica)), (I (p0.Gas))]]
def z85_2 : Slot := .own 4 [[(I (0)), (I (0)), (I (0)), (I (0))]]
def z85_3 (p0 : GStream) (x1 : Int) : Slot := .own 4 [[(I (p0.Mass)), (I (w64 (p0.Heat - x1))), (I (p0.Silica)), (I (p0.Gas))]]
def z85_4 (p0 : GStream) (x1 : Int) : AV := .agg [(I (p0.Mass)), (I (w64 (p0.Heat - x1))), (I (p0.Silica)), (I (p0.Gas))]
set_option maxRecDepth 100000 in
set_option maxHeartbeats 4000000 in
theorem ref07_TowerX_ok (N : Nat) (p0 : GStream) (p1 : Int) (r : (GStream × Int)) (h : ref07_TowerX N p0 p1 = some r) : Spec Try.prog 32 [(.agg (c_GStream p0)), (I p1)] [] (.tup [(.agg (c_GStream r.1)), (I r.2)]) [] := by
  refine spec_of_awp Try.func32 rfl 0 (nle rfl) (fun X φ0 w0 hφ0 => ?_)
  unfold ref07_TowerX at h
  refine wrg [⟨[(.tmp 0, (z85_1 p0))], [(0, .unused)], .ref 0 4 0 0, [(0, (z85_0 p0))], false⟩, ⟨[], [(1, .unused)], .ref 1 4 0 0, [(1, z85_2)], false⟩, mc (.int .i64 0)] ?_ ?_
  ·exact ⟨astep_box rfl (by rfl) rfl rfl, astep_alloc rfl tz57 rfl, aas rfl, trivial⟩
  obtain ⟨x1, hl2, h⟩ := bno h
  refine wrg [rb [(.tmp 2, .ref 0 4 0 0)] [(0, (z85_0 p0))] (.ref 0 4 0 1), rb [(.tmp 7, .ref 0 4 0 1)] [(0, (z85_0 p0))] (I p0.Heat), mv 1 (I p1), rb [(.tmp 2, .ref 0 4 0 0)] [(0, (z85_0 p0))] (.ref 0 4 0 0), rb [(.tmp 10, .ref 0 4 0 0)] [(0, (z85_0 p0))] (I p0.Mass), rp [(.tmp 9, I p1), (.tmp 11, I p0.Mass)] (I (w64 (p1 * p0.Mass))), rp [(.tmp 8, I p0.Heat), (.tmp 12, (I (w64 (p1 * p0.Mass))))] (I (w64 (p0.Heat - (w64 (p1 * p0.Mass))))), rp [ci 0, (.tmp 13, (I (w64 (p0.Heat - (w64 (p1 * p0.Mass))))))] (I x1), mv 14 (I x1)] ?_ ?_
  ·exact ⟨afa rfl Try.underlying57 rfl rfl ti3 (by decide) rfl, ald rfl ti3 (by decide) rfl (nle rfl) rfl, amv rfl, afa rfl Try.underlying57 rfl rfl ti3 (by decide) rfl, ald rfl ti3 (by decide) rfl (nle rfl) rfl, abn rfl rfl, abn rfl rfl, astep_i hl2 (astep_max rfl), aas rfl, trivial⟩
  refine wrg [rb [(.tmp 2, .ref 0 4 0 0)] [(0, (z85_0 p0))] (.ref 0 4 0 1), rb [(.tmp 15, .ref 0 4 0 1)] [(0, (z85_0 p0))] (I p0.Heat), mv 6 (I x1), rp [(.tmp 16, I p0.Heat), (.tmp 17, I x1)] (I (w64 (p0.Heat - x1))), rb [(.tmp 2, .ref 0 4 0 0)] [(0, (z85_0 p0))] (.ref 0 4 0 1), ⟨[(.tmp 19, .ref 0 4 0 1), (.tmp 18, (I (w64 (p0.Heat - x1))))], [(0, (z85_0 p0))], .any, [(0, (z85_3 p0 x1))], false⟩] ?_ ?_
  ·exact ⟨afa rfl Try.underlying57 rfl rfl ti3 (by decide) rfl, ald rfl ti3 (by decide) rfl (nle rfl) rfl, amv rfl, abn rfl rfl, afa rfl Try.underlying57 rfl rfl ti3 (by decide) rfl, ast rfl ti3 (by rfl) rfl (nle rfl) rfl, trivial⟩
  refine wrg [rb [(.tmp 2, .ref 0 4 0 0)] [(0, (z85_3 p0 x1))] (z85_4 p0 x1), mv 6 (I x1), ⟨[(.tmp 4, .ref 1 4 0 0), (.tmp 20, (z85_4 p0 x1))], [(1, z85_2)], .any, [(1, (z85_3 p0 x1))], false⟩, mv 21 (I x1)] ?_ ?_
  ·exact ⟨ald rfl ti57 (by decide) rfl (nle rfl) rfl, amv rfl, ast rfl ti57 (by rfl) rfl (nle rfl) rfl, aas rfl, trivial⟩
  refine awp_ret ?_
  obtain rfl := osi h
  exact ⟨⟨[(z85_4 p0 x1), I x1], ⟨resOK_cell (n := 1) (m := 4) (j := 0) (i := 0) (xs := [[I p0.Mass, (I (w64 (p0.Heat - x1))), I p0.Silica, I p0.Gas]]) (by kernel_rfl) (by kernel_rfl) ti57 (by decide) rfl (nle rfl) rfl, rot (by kernel_rfl), trivial⟩, rfl⟩, (NLt.tup _ (nlc (NLt.agg _ (nlc nll (nlc nll (nlc nll (nlc nll nl0))))) (nlc nll nl0))), Nat.le_refl _, fun n hn => absurd hn (Nat.not_lt_zero n)⟩

def ref07_RightCycleX (N : Nat) (p0 : GCycle) : Option Bool :=
  (ref01_InX N p0.Out 0 4000).bind fun x2 =>
  bif x2 then
   (ref01_InX N p0.Yield 0 1000).bind fun x5 =>
   bif x5 then
    (ref01_InX N p0.Most 0 4000000000).bind fun x8 =>
    some x8
   else
    some false
  else
   some false
def z86_1 (p0 : GCycle) : AV := .agg [(I (p0.Out)), (I (p0.Yield)), (I (p0.Most))]
def z86_0 (p0 : GCycle) : Slot := .own 3 [[(I (p0.Out)), (I (p0.Yield)), (I (p0.Most))]]
set_option maxRecDepth 100000 in
set_option maxHeartbeats 4000000 in
theorem ref07_RightCycleX_ok (N : Nat) (p0 : GCycle) (r : Bool) (h : ref07_RightCycleX N p0 = some r) : Spec Try.prog 33 [(.agg (c_GCycle p0))] [] (B r) [] := by
  refine spec_of_awp Try.func33 rfl 0 (nle rfl) (fun X φ0 w0 hφ0 => ?_)
  unfold ref07_RightCycleX at h
  refine wrg [⟨[(.tmp 0, (z86_1 p0))], [(0, .unused)], .ref 0 3 0 0, [(0, (z86_0 p0))], false⟩, mc (.bool false)] ?_ ?_
  ·exact ⟨astep_box rfl (by rfl) rfl rfl, aas rfl, trivial⟩
  obtain ⟨x2, hf1, h⟩ := bno h
  rcases bft (x2) with hb3 | hb3
  ·replace h := bif_t hb3 h
   obtain ⟨x5, hf4, h⟩ := bno h
   rcases bft (x5) with hb6 | hb6
   ·replace h := bif_t hb6 h
    obtain ⟨x8, hf7, h⟩ := bno h
    refine wrg [rb [(.tmp 1, .ref 0 3 0 0)] [(0, (z86_0 p0))] (.ref 0 3 0 0), rb [(.tmp 3, .ref 0 3 0 0)] [(0, (z86_0 p0))] (I p0.Out), rp [fu 25, (.tmp 4, I p0.Out), ci 0, ci 4000] (B x2), rp [(.tmp 5, B x2)] (B true), rb [(.tmp 6, B true), (.tmp 1, .ref 0 3 0 0)] [(0, (z86_0 p0))] (.ref 0 3 0 1), rb [(.tmp 6, B true), (.tmp 7, .ref 0 3 0 1)] [(0, (z86_0 p0))] (I p0.Yield), rp [(.tmp 6, B true), fu 25, (.tmp 8, I p0.Yield), ci 0, ci 1000] (B x5), rp [(.tmp 6, B true), (.tmp 9, B x5), cb false] (B x5), rp [(.tmp 10, B x5)] (B true), rb [(.tmp 11, B true), (.tmp 1, .ref 0 3 0 0)] [(0, (z86_0 p0))] (.ref 0 3 0 2), rb [(.tmp 11, B true), (.tmp 12, .ref 0 3 0 2)] [(0, (z86_0 p0))] (I p0.Most), rp [(.tmp 11, B true), fu 25, (.tmp 13, I p0.Most), ci 0, ci 4000000000] (B x8), rp [(.tmp 11, B true), (.tmp 14, B x8), cb false] (B x8), mv 15 (B x8)] ?_ ?_
    ·exact ⟨afa rfl Try.underlying59 rfl rfl ti3 (by decide) rfl, ald rfl ti3 (by decide) rfl (nle rfl) rfl, apc (first := []) (cap := []) (vs := [I p0.Out, I 0, I 4000]) rfl enter25 (ref01_InX_ok N p0.Out 0 4000 _ hf1) rfl rfl (nlc nll (nlc nll (nlc nll nl0))) nll rfl, asb hb3 (amv rfl), ag_ (afa rfl Try.underlying59 rfl rfl ti3 (by decide) rfl), ag_ (ald rfl ti3 (by decide) rfl (nle rfl) rfl), ag_ (apc (first := []) (cap := []) (vs := [I p0.Yield, I 0, I 1000]) rfl enter25 (ref01_InX_ok N p0.Yield 0 1000 _ hf4) rfl rfl (nlc nll (nlc nll (nlc nll nl0))) nll rfl), apk rfl rfl, asb hb6 (amv rfl), ag_ (afa rfl Try.underlying59 rfl rfl ti3 (by decide) rfl), ag_ (ald rfl ti3 (by decide) rfl (nle rfl) rfl), ag_ (apc (first := []) (cap := []) (vs := [I p0.Most, I 0, I 4000000000]) rfl enter25 (ref01_InX_ok N p0.Most 0 4000000000 _ hf7) rfl rfl (nlc nll (nlc nll (nlc nll nl0))) nll rfl), apk rfl rfl, aas rfl, trivial⟩
    refine awp_ret ?_
    obtain rfl := osi h
    exact ⟨⟨[B x8], ⟨rot (by kernel_rfl), trivial⟩, rfl⟩, nll, Nat.le_refl _, fun n hn => absurd hn (Nat.not_lt_zero n)⟩
   ·replace h := bif_f hb6 h
    refine wrg [rb [(.tmp 1, .ref 0 3 0 0)] [(0, (z86_0 p0))] (.ref 0 3 0 0), rb [(.tmp 3, .ref 0 3 0 0)] [(0, (z86_0 p0))] (I p0.Out), rp [fu 25, (.tmp 4, I p0.Out), ci 0, ci 4000] (B x2), rp [(.tmp 5, B x2)] (B true), rb [(.tmp 6, B true), (.tmp 1, .ref 0 3 0 0)] [(0, (z86_0 p0))] (.ref 0 3 0 1), rb [(.tmp 6, B true), (.tmp 7, .ref 0 3 0 1)] [(0, (z86_0 p0))] (I p0.Yield), rp [(.tmp 6, B true), fu 25, (.tmp 8, I p0.Yield), ci 0, ci 1000] (B x5), rp [(.tmp 6, B true), (.tmp 9, B x5), cb false] (B x5), rp [(.tmp 10, B x5)] (B false), sk 11 (B false), sk 11 (B false), sk 11 (B false), rp [(.tmp 11, B false), (.tmp 14, (.lit undef)), cb false] (B false), mv 15 (B false)] ?_ ?_
    ·exact ⟨afa rfl Try.underlying59 rfl rfl ti3 (by decide) rfl, ald rfl ti3 (by decide) rfl (nle rfl) rfl, apc (first := []) (cap := []) (vs := [I p0.Out, I 0, I 4000]) rfl enter25 (ref01_InX_ok N p0.Out 0 4000 _ hf1) rfl rfl (nlc nll (nlc nll (nlc nll nl0))) nll rfl, asb hb3 (amv rfl), ag_ (afa rfl Try.underlying59 rfl rfl ti3 (by decide) rfl), ag_ (ald rfl ti3 (by decide) rfl (nle rfl) rfl), ag_ (apc (first := []) (cap := []) (vs := [I p0.Yield, I 0, I 1000]) rfl enter25 (ref01_InX_ok N p0.Yield 0 1000 _ hf4) rfl rfl (nlc nll (nlc nll (nlc nll nl0))) nll rfl), apk rfl rfl, asb hb6 (amv rfl), trivial, trivial, trivial, apk rfl rfl, aas rfl, trivial⟩
    refine awp_ret ?_
    obtain rfl := osi h
    exact ⟨⟨[B false], ⟨rot (by kernel_rfl), trivial⟩, rfl⟩, nll, Nat.le_refl _, fun n hn => absurd hn (Nat.not_lt_zero n)⟩
  ·replace h := bif_f hb3 h
   refine wrg [rb [(.tmp 1, .ref 0 3 0 0)] [(0, (z86_0 p0))] (.ref 0 3 0 0), rb [(.tmp 3, .ref 0 3 0 0)] [(0, (z86_0 p0))] (I p0.Out), rp [fu 25, (.tmp 4, I p0.Out), ci 0, ci 4000] (B x2), rp [(.tmp 5, B x2)] (B false), sk 6 (B false), sk 6 (B false), sk 6 (B false), rp [(.tmp 6, B false), (.tmp 9, (.lit undef)), cb false] (B false), mv 10 (B false), sk 11 (B false), sk 11 (B false), sk 11 (B false), rp [(.tmp 11, B false), (.tmp 14, (.lit undef)), cb false] (B false), mv 15 (B false)] ?_ ?_
   ·exact ⟨afa rfl Try.underlying59 rfl rfl ti3 (by decide) rfl, ald rfl ti3 (by decide) rfl (nle rfl) rfl, apc (first := []) (cap := []) (vs := [I p0.Out, I 0, I 4000]) rfl enter25 (ref01_InX_ok N p0.Out 0 4000 _ hf1) rfl rfl (nlc nll (nlc nll (nlc nll nl0))) nll rfl, asb hb3 (amv rfl), trivial, trivial, trivial, apk rfl rfl, amv rfl, trivial, trivial, trivial, apk rfl rfl, aas rfl, trivial⟩
   refine awp_ret ?_
   obtain rfl := osi h
   exact ⟨⟨[B false], ⟨rot (by kernel_rfl), trivial⟩, rfl⟩, nll, Nat.le_refl _, fun n hn => absurd hn (Nat.not_lt_zero n)⟩

def ref07_RunX (_N : Nat) (p0 : GCycle) (p1 : GStream) : Option (GStream × Int × Int) :=
  (some (if (w64 (p1.Heat - (w64 (p0.Out * p1.Mass)))) > 0 then w64 (p1.Heat - (w64 (p0.Out * p1.Mass))) else 0)).bind fun x1 =>
  (some (if x1 < p0.Most then x1 else p0.Most)).bind fun x3 =>
  (some (w64 ((w64 (x3 * p0.Yield)).tdiv 1000))).bind fun x5 =>
  some ((⟨p1.Mass, w64 (p1.Heat - x3), p1.Silica, p1.Gas⟩ : GStream), x5, w64 (x3 - x5))
def z87_1 (p0 : GCycle) : AV := .agg [(I (p0.Out)), (I (p0.Yield)), (I (p0.Most))]
def z87_0 (p0 : GCycle) : Slot := .own 3 [[(I (p0.Out)), (I (p0.Yield)), (I (p0.Most))]]
def z87_3 (p1 : GStream) : AV := .agg [(I (p1.Mass)), (I (p1.Heat)), (I (p1.Silica)), (I (p1.Gas))]
def z87_2 (p1 : GStream) : Slot := .own 4 [[(I (p1.Mass)), (I (p1.Heat)), (I (p1.Silica)), (I (p1.Gas))]]
def z87_4 : Slot := .own 4 [[(I (0)), (I (0)), (I (0)), (I (0))]]
def z87_5 (p1 : GStream) (x3 : Int) : Slot := .own 4 [[(I (p1.Mass)), (I (w64 (p1.Heat - x3))), (I (p1.Silica)), (I (p1.Gas))]]
def z87_6 (p1 : GStream) (x3 : Int) : AV := .agg [(I (p1.Mass)), (I (w64 (p1.Heat - x3))), (I (p1.Silica)), (I (p1.Gas))]
set_option maxRecDepth 100000 in
set_option maxHeartbeats 4000000 in
theorem ref07_RunX_ok (N : Nat) (p0 : GCycle) (p1 : GStream) (r : (GStream × Int × Int)) (h : ref07_RunX N p0 p1 = some r) : Spec Try.prog 34 [(.agg (c_GCycle p0)), (.agg (c_GStream p1))] [] (.tup [(.agg (c_GStream r.1)), (I r.2.1), (I r.2.2)]) [] := by
  refine spec_of_awp Try.func34 rfl 0 (nle rfl) (fun X φ0 w0 hφ0 => ?_)
  unfold ref07_RunX at h
  refine wrg [⟨[(.tmp 0, (z87_1 p0))], [(0, .unused)], .ref 0 3 0 0, [(0, (z87_0 p0))], false⟩, ⟨[(.tmp 1, (z87_3 p1))], [(1, .unused)], .ref 1 4 0 0, [(1, (z87_2 p1))], false⟩, ⟨[], [(2, .unused)], .ref 2 4 0 0, [(2, z87_4)], false⟩, mc (.int .i64 0), mc (.int .i64 0)] ?_ ?_
  ·exact ⟨astep_box rfl (by rfl) rfl rfl, astep_box rfl (by rfl) rfl rfl, astep_alloc rfl tz57 rfl, aas rfl, aas rfl, trivial⟩
  obtain ⟨x1, hl2, h⟩ := bno h
  obtain ⟨x3, hl4, h⟩ := bno h
  refine wrg [rb [(.tmp 2, .ref 0 3 0 0)] [(0, (z87_0 p0))] (.ref 0 3 0 2), rb [(.tmp 9, .ref 0 3 0 2)] [(0, (z87_0 p0))] (I p0.Most), rb [(.tmp 3, .ref 1 4 0 0)] [(1, (z87_2 p1))] (.ref 1 4 0 1), rb [(.tmp 11, .ref 1 4 0 1)] [(1, (z87_2 p1))] (I p1.Heat), rb [(.tmp 2, .ref 0 3 0 0)] [(0, (z87_0 p0))] (.ref 0 3 0 0), rb [(.tmp 13, .ref 0 3 0 0)] [(0, (z87_0 p0))] (I p0.Out), rb [(.tmp 3, .ref 1 4 0 0)] [(1, (z87_2 p1))] (.ref 1 4 0 0), rb [(.tmp 15, .ref 1 4 0 0)] [(1, (z87_2 p1))] (I p1.Mass), rp [(.tmp 14, I p0.Out), (.tmp 16, I p1.Mass)] (I (w64 (p0.Out * p1.Mass))), rp [(.tmp 12, I p1.Heat), (.tmp 17, (I (w64 (p0.Out * p1.Mass))))] (I (w64 (p1.Heat - (w64 (p0.Out * p1.Mass))))), rp [ci 0, (.tmp 18, (I (w64 (p1.Heat - (w64 (p0.Out * p1.Mass))))))] (I x1), rp [(.tmp 10, I p0.Most), (.tmp 19, I x1)] (I ((if x1 < p0.Most then x1 else p0.Most))), rp [(.tmp 20, (I ((if x1 < p0.Most then x1 else p0.Most))))] (I x3)] ?_ ?_
  ·exact ⟨afa rfl Try.underlying59 rfl rfl ti3 (by decide) rfl, ald rfl ti3 (by decide) rfl (nle rfl) rfl, afa rfl Try.underlying57 rfl rfl ti3 (by decide) rfl, ald rfl ti3 (by decide) rfl (nle rfl) rfl, afa rfl Try.underlying59 rfl rfl ti3 (by decide) rfl, ald rfl ti3 (by decide) rfl (nle rfl) rfl, afa rfl Try.underlying57 rfl rfl ti3 (by decide) rfl, ald rfl ti3 (by decide) rfl (nle rfl) rfl, abn rfl rfl, abn rfl rfl, astep_i hl2 (astep_max rfl), astep_min rfl, astep_i hl4 (aas rfl), trivial⟩
  obtain ⟨x5, hl6, h⟩ := bno h
  refine wrg [mv 7 (I x3), rb [(.tmp 2, .ref 0 3 0 0)] [(0, (z87_0 p0))] (.ref 0 3 0 1), rb [(.tmp 22, .ref 0 3 0 1)] [(0, (z87_0 p0))] (I p0.Yield), rp [(.tmp 21, I x3), (.tmp 23, I p0.Yield)] (I (w64 (x3 * p0.Yield))), rp [(.tmp 24, (I (w64 (x3 * p0.Yield)))), ci 1000] (I (w64 ((w64 (x3 * p0.Yield)).tdiv 1000))), rp [(.tmp 25, (I (w64 ((w64 (x3 * p0.Yield)).tdiv 1000))))] (I x5)] ?_ ?_
  ·exact ⟨amv rfl, afa rfl Try.underlying59 rfl rfl ti3 (by decide) rfl, ald rfl ti3 (by decide) rfl (nle rfl) rfl, abn rfl rfl, astep_quo rfl (by decide), astep_i hl6 (aas rfl), trivial⟩
  refine wrg [rb [(.tmp 3, .ref 1 4 0 0)] [(1, (z87_2 p1))] (.ref 1 4 0 1), rb [(.tmp 26, .ref 1 4 0 1)] [(1, (z87_2 p1))] (I p1.Heat), mv 7 (I x3), rp [(.tmp 27, I p1.Heat), (.tmp 28, I x3)] (I (w64 (p1.Heat - x3))), rb [(.tmp 3, .ref 1 4 0 0)] [(1, (z87_2 p1))] (.ref 1 4 0 1), ⟨[(.tmp 30, .ref 1 4 0 1), (.tmp 29, (I (w64 (p1.Heat - x3))))], [(1, (z87_2 p1))], .any, [(1, (z87_5 p1 x3))], false⟩] ?_ ?_
  ·exact ⟨afa rfl Try.underlying57 rfl rfl ti3 (by decide) rfl, ald rfl ti3 (by decide) rfl (nle rfl) rfl, amv rfl, abn rfl rfl, afa rfl Try.underlying57 rfl rfl ti3 (by decide) rfl, ast rfl ti3 (by rfl) rfl (nle rfl) rfl, trivial⟩
  refine wrg [rb [(.tmp 3, .ref 1 4 0 0)] [(1, (z87_5 p1 x3))] (z87_6 p1 x3), mv 8 (I x5), mv 7 (I x3), mv 8 (I x5), rp [(.tmp 33, I x3), (.tmp 34, I x5)] (I (w64 (x3 - x5))), ⟨[(.tmp 4, .ref 2 4 0 0), (.tmp 31, (z87_6 p1 x3))], [(2, z87_4)], .any, [(2, (z87_5 p1 x3))], false⟩, mv 32 (I x5), mv 35 (I (w64 (x3 - x5)))] ?_ ?_
  ·exact ⟨ald rfl ti57 (by decide) rfl (nle rfl) rfl, amv rfl, amv rfl, amv rfl, abn rfl rfl, ast rfl ti57 (by rfl) rfl (nle rfl) rfl, aas rfl, aas rfl, trivial⟩
  refine awp_ret ?_
  obtain rfl := osi h
  exact ⟨⟨[(z87_6 p1 x3), I x5, (I (w64 (x3 - x5)))], ⟨resOK_cell (n := 2) (m := 4) (j := 0) (i := 0) (xs := [[I p1.Mass, (I (w64 (p1.Heat - x3))), I p1.Silica, I p1.Gas]]) (by kernel_rfl) (by kernel_rfl) ti57 (by decide) rfl (nle rfl) rfl, rot (by kernel_rfl), rot (by kernel_rfl), trivial⟩, rfl⟩, (NLt.tup _ (nlc (NLt.agg _ (nlc nll (nlc nll (nlc nll (nlc nll nl0))))) (nlc nll (nlc nll nl0)))), Nat.le_refl _, fun n hn => absurd hn (Nat.not_lt_zero n)⟩

def law07_PlantCoolsX (N : Nat) (p0 : GStream) (p1 : Int) (p2 : GCycle) : Option Bool :=
  (law01_StreamX N p0).bind fun x2 =>
  (plant_TowerX N x2 p1).bind fun x4 =>
  (law07_CycleX N p2).bind fun x6 =>
  (law01_StreamX N p0).bind fun x8 =>
  (plant_RunX N x6 x8).bind fun x10 =>
  joinK (fun y11 =>
    joinK (fun _ =>
      joinK (fun _ =>
        (ref07_RunX N p2 p0).bind fun x16 =>
        bif (x10.2.2.2 == 0) then
         (law01_StreamX N (⟨x16.1.Mass, x16.1.Heat, x16.1.Silica, x16.1.Gas⟩ : GStream)).bind fun x19 =>
         bif (([x10.1.Mass, x10.1.Heat, x10.1.Silica, x10.1.Gas] : List Int) == [x19.Mass, x19.Heat, x19.Silica, x19.Gas]) then
          bif (x10.2.1 == x16.2.1) then
           bif (x10.2.2.1 == x16.2.2) then
            (law07_awakeX 2000 ).bind fun x24 =>
            some x24
           else
            some false
          else
           some false
         else
          some false
        else
         some false) fun k14 : Unit → Option Bool =>
      (ref01_RightStreamX N p0).bind fun x26 =>
      bif (!x26) then
       bif (x10.2.2.2 == 1) then
        bif (([x10.1.Mass, x10.1.Heat, x10.1.Silica, x10.1.Gas] : List Int) == [0, 0, 0, 0]) then
         bif (x10.2.1 == 0) then
          bif (x10.2.2.1 == 0) then
           (law07_awakeX 2000 ).bind fun x33 =>
           some x33
          else
           some false
         else
          some false
        else
         some false
       else
        some false
      else
       (ref07_RightCycleX N p2).bind fun x35 =>
       bif (!x35) then
        bif (x10.2.2.2 == 1) then
         bif (([x10.1.Mass, x10.1.Heat, x10.1.Silica, x10.1.Gas] : List Int) == [0, 0, 0, 0]) then
          bif (x10.2.1 == 0) then
           bif (x10.2.2.1 == 0) then
            (law07_awakeX 2000 ).bind fun x42 =>
            some x42
           else
            some false
          else
           some false
         else
          some false
        else
         some false
       else
        k14 ()) fun k13 : Unit → Option Bool =>
    bif (y11 == 0) then
     (ref07_TowerX N p0 p1).bind fun x45 =>
     bif (x4.2.2 != 0) then
      some false
     else
      (law01_StreamX N (⟨x45.1.Mass, x45.1.Heat, x45.1.Silica, x45.1.Gas⟩ : GStream)).bind fun x48 =>
      bif (!(([x4.1.Mass, x4.1.Heat, x4.1.Silica, x4.1.Gas] : List Int) == [x48.Mass, x48.Heat, x48.Silica, x48.Gas])) then
       some false
      else
       bif (x4.2.1 != x45.2) then
        some false
       else
        k13 ()
    else
     bif (x4.2.2 != y11) then
      some false
     else
      bif (!(([x4.1.Mass, x4.1.Heat, x4.1.Silica, x4.1.Gas] : List Int) == [0, 0, 0, 0])) then
       some false
      else
       bif (x4.2.1 != 0) then
        some false
       else
        k13 ()) fun k12 : Int → Option Bool =>
  (ref01_RightStreamX N p0).bind fun x55 =>
  bif (!x55) then
   k12 (1)
  else
   (ref01_InX N p1 0 4000).bind fun x58 =>
   bif (!x58) then
    k12 (2)
   else
    k12 (0)
def z88_1 (p0 : GStream) : AV := .agg [(I (p0.Mass)), (I (p0.Heat)), (I (p0.Silica)), (I (p0.Gas))]
def z88_0 (p0 : GStream) : Slot := .own 4 [[(I (p0.Mass)), (I (p0.Heat)), (I (p0.Silica)), (I (p0.Gas))]]
def z88_3 (p2 : GCycle) : AV := .agg [(I (p2.Out)), (I (p2.Yield)), (I (p2.Most))]
def z88_2 (p2 : GCycle) : Slot := .own 3 [[(I (p2.Out)), (I (p2.Yield)), (I (p2.Most))]]
def z88_4 (x2 : GStream) : AV := .agg [(I (x2.Mass)), (I (x2.Heat)), (I (x2.Silica)), (I (x2.Gas))]
def z88_5 (x4 : (GStream × Int × Int)) : AV := .agg [(I (x4.1.Mass)), (I (x4.1.Heat)), (I (x4.1.Silica)), (I (x4.1.Gas))]
def z88_6 : Slot := .own 4 [[(I (0)), (I (0)), (I (0)), (I (0))]]
def z88_7 (x4 : (GStream × Int × Int)) : Slot := .own 4 [[(I (x4.1.Mass)), (I (x4.1.Heat)), (I (x4.1.Silica)), (I (x4.1.Gas))]]
def z88_8 (x6 : GCycle) : AV := .agg [(I (x6.Out)), (I (x6.Yield)), (I (x6.Most))]
def z88_9 (x8 : GStream) : AV := .agg [(I (x8.Mass)), (I (x8.Heat)), (I (x8.Silica)), (I (x8.Gas))]
def z88_10 (x10 : (GStream × Int × Int × Int)) : AV := .agg [(I (x10.1.Mass)), (I (x10.1.Heat)), (I (x10.1.Silica)), (I (x10.1.Gas))]
def z88_11 (x10 : (GStream × Int × Int × Int)) : Slot := .own 4 [[(I (x10.1.Mass)), (I (x10.1.Heat)), (I (x10.1.Silica)), (I (x10.1.Gas))]]
def z88_15 (x16 : (GStream × Int × Int)) : AV := .agg [(I (x16.1.Mass)), (I (x16.1.Heat)), (I (x16.1.Silica)), (I (x16.1.Gas))]
def z88_16 (x16 : (GStream × Int × Int)) : Slot := .own 4 [[(I (x16.1.Mass)), (I (x16.1.Heat)), (I (x16.1.Silica)), (I (x16.1.Gas))]]
def z88_17 (x19 : GStream) : AV := .agg [(I (x19.Mass)), (I (x19.Heat)), (I (x19.Silica)), (I (x19.Gas))]
def z88_18 (x45 : (GStream × Int)) : AV := .agg [(I (x45.1.Mass)), (I (x45.1.Heat)), (I (x45.1.Silica)), (I (x45.1.Gas))]
def z88_19 (x45 : (GStream × Int)) : Slot := .own 4 [[(I (x45.1.Mass)), (I (x45.1.Heat)), (I (x45.1.Silica)), (I (x45.1.Gas))]]
def z88_20 (x48 : GStream) : AV := .agg [(I (x48.Mass)), (I (x48.Heat)), (I (x48.Silica)), (I (x48.Gas))]
set_option maxRecDepth 100000 in
set_option maxHeartbeats 4000000 in
theorem law07_PlantCoolsX_ok (N : Nat) (p0 : GStream) (p1 : Int) (p2 : GCycle) (r : Bool) (h : law07_PlantCoolsX N p0 p1 p2 = some r) : Spec Try.prog 6 [(.agg (c_GStream p0)), (I p1), (.agg (c_GCycle p2))] [] (B r) [] := by
  refine spec_of_awp Try.func6 rfl 0 (nle rfl) (fun X φ0 w0 hφ0 => ?_)
  unfold law07_PlantCoolsX at h
  refine wrg [⟨[(.tmp 0, (z88_1 p0))], [(0, .unused)], .ref 0 4 0 0, [(0, (z88_0 p0))], false⟩, ⟨[(.tmp 2, (z88_3 p2))], [(1, .unused)], .ref 1 3 0 0, [(1, (z88_2 p2))], false⟩, mc (.bool false)] ?_ ?_
  ·exact ⟨astep_box rfl (by rfl) rfl rfl, astep_box rfl (by rfl) rfl rfl, aas rfl, trivial⟩
  obtain ⟨x2, hf1, h⟩ := bno h
  obtain ⟨x4, hf3, h⟩ := bno h
  refine wrg [rb [(.tmp 3, .ref 0 4 0 0)] [(0, (z88_0 p0))] (z88_1 p0), rp [fu 28, (.tmp 21, (z88_1 p0))] (z88_4 x2), mv 1 (I p1), rp [fu 27, (.tmp 22, (z88_4 x2)), (.tmp 23, I p1)] (.tup [(z88_5 x4), I x4.2.1, I x4.2.2]), mv 24 (.tup [(z88_5 x4), I x4.2.1, I x4.2.2]), rp [(.tmp 20, (.tup [(z88_5 x4), I x4.2.1, I x4.2.2]))] (z88_5 x4), rp [(.tmp 20, (.tup [(z88_5 x4), I x4.2.1, I x4.2.2]))] (I x4.2.1), rp [(.tmp 20, (.tup [(z88_5 x4), I x4.2.1, I x4.2.2]))] (I x4.2.2), ⟨[], [(2, .unused)], .ref 2 4 0 0, [(2, z88_6)], false⟩, ⟨[(.tmp 7, .ref 2 4 0 0), (.tmp 25, (z88_5 x4))], [(2, z88_6)], .any, [(2, (z88_7 x4))], false⟩, mv 26 (I x4.2.1), mv 27 (I x4.2.2)] ?_ ?_
  ·exact ⟨ald rfl ti57 (by decide) rfl (nle rfl) rfl, apc (first := []) (cap := []) (vs := [(z88_1 p0)]) rfl enter28 (law01_StreamX_ok N p0 _ hf1) rfl rfl (nlc (NLt.agg _ (nlc nll (nlc nll (nlc nll (nlc nll nl0))))) nl0) (NLt.agg _ (nlc nll (nlc nll (nlc nll (nlc nll nl0))))) rfl, amv rfl, apc (first := []) (cap := []) (vs := [(z88_4 x2), I p1]) rfl enter27 (plant_TowerX_ok N x2 p1 _ hf3) rfl rfl (nlc (NLt.agg _ (nlc nll (nlc nll (nlc nll (nlc nll nl0))))) (nlc nll nl0)) (NLt.tup _ (nlc (NLt.agg _ (nlc nll (nlc nll (nlc nll (nlc nll nl0))))) (nlc nll (nlc nll nl0)))) rfl, amv rfl, astep_extract rfl rfl, astep_extract rfl rfl, astep_extract rfl rfl, astep_alloc rfl tz60 rfl, ast rfl ti60 (by rfl) rfl (nle rfl) rfl, aas rfl, aas rfl, trivial⟩
  obtain ⟨x6, hf5, h⟩ := bno h
  obtain ⟨x8, hf7, h⟩ := bno h
  obtain ⟨x10, hf9, h⟩ := bno h
  refine awp_regd [rb [(.tmp 5, .ref 1 3 0 0)] [(1, (z88_2 p2))] (z88_3 p2), rp [fu 30, (.tmp 29, (z88_3 p2))] (z88_8 x6), rb [(.tmp 3, .ref 0 4 0 0)] [(0, (z88_0 p0))] (z88_1 p0), rp [fu 28, (.tmp 31, (z88_1 p0))] (z88_9 x8), rp [fu 29, (.tmp 30, (z88_8 x6)), (.tmp 32, (z88_9 x8))] (.tup [(z88_10 x10), I x10.2.1, I x10.2.2.1, I x10.2.2.2]), mv 33 (.tup [(z88_10 x10), I x10.2.1, I x10.2.2.1, I x10.2.2.2]), rp [(.tmp 28, (.tup [(z88_10 x10), I x10.2.1, I x10.2.2.1, I x10.2.2.2]))] (z88_10 x10), rp [(.tmp 28, (.tup [(z88_10 x10), I x10.2.1, I x10.2.2.1, I x10.2.2.2]))] (I x10.2.1), rp [(.tmp 28, (.tup [(z88_10 x10), I x10.2.1, I x10.2.2.1, I x10.2.2.2]))] (I x10.2.2.1), rp [(.tmp 28, (.tup [(z88_10 x10), I x10.2.1, I x10.2.2.1, I x10.2.2.2]))] (I x10.2.2.2), ⟨[], [(3, .unused)], .ref 3 4 0 0, [(3, z88_6)], false⟩, ⟨[(.tmp 10, .ref 3 4 0 0), (.tmp 34, (z88_10 x10))], [(3, z88_6)], .any, [(3, (z88_11 x10))], false⟩, mv 35 (I x10.2.1), mv 36 (I x10.2.2.1), mv 37 (I x10.2.2.2)] ?_ ?_
  ·exact ⟨ald rfl ti59 (by decide) rfl (nle rfl) rfl, apc (first := []) (cap := []) (vs := [(z88_3 p2)]) rfl enter30 (law07_CycleX_ok N p2 _ hf5) rfl rfl (nlc (NLt.agg _ (nlc nll (nlc nll (nlc nll nl0)))) nl0) (NLt.agg _ (nlc nll (nlc nll (nlc nll nl0)))) rfl, ald rfl ti57 (by decide) rfl (nle rfl) rfl, apc (first := []) (cap := []) (vs := [(z88_1 p0)]) rfl enter28 (law01_StreamX_ok N p0 _ hf7) rfl rfl (nlc (NLt.agg _ (nlc nll (nlc nll (nlc nll (nlc nll nl0))))) nl0) (NLt.agg _ (nlc nll (nlc nll (nlc nll (nlc nll nl0))))) rfl, apc (first := []) (cap := []) (vs := [(z88_8 x6), (z88_9 x8)]) rfl enter29 (plant_RunX_ok N x6 x8 _ hf9) rfl rfl (nlc (NLt.agg _ (nlc nll (nlc nll (nlc nll nl0)))) (nlc (NLt.agg _ (nlc nll (nlc nll (nlc nll (nlc nll nl0))))) nl0)) (NLt.tup _ (nlc (NLt.agg _ (nlc nll (nlc nll (nlc nll (nlc nll nl0))))) (nlc nll (nlc nll (nlc nll nl0))))) rfl, amv rfl, astep_extract rfl rfl, astep_extract rfl rfl, astep_extract rfl rfl, astep_extract rfl rfl, astep_alloc rfl tz60 rfl, ast rfl ti60 (by rfl) rfl (nle rfl) rfl, aas rfl, aas rfl, aas rfl, trivial⟩
  refine wrg [mc (.int .i64 0)] ?_ ?_
  ·exact ⟨aas rfl, trivial⟩
  obtain ⟨k12, hk_k12, h⟩ := jko h
  refine wjn (τ := Int) (fun t => k12 t = some r) (fun y11 => ⟨mk 131 [(1, I p1), (3, .ref 0 4 0 0), (5, .ref 1 3 0 0), (7, .ref 2 4 0 0), (8, I x4.2.1), (9, I x4.2.2), (10, .ref 3 4 0 0), (11, I x10.2.1), (12, I x10.2.2.1), (13, I x10.2.2.2), (14, I y11)], [(z88_0 p0), (z88_2 p2), (z88_7 x4), (z88_11 x10)]⟩) (fun y11 h => ?_) ?_
  ·subst hk_k12
   obtain ⟨k13, hk_k13, h⟩ := jko h
   refine wjn (τ := Unit) (fun t => k13 t = some r) (fun _ => ⟨mk 131 [(3, .ref 0 4 0 0), (5, .ref 1 3 0 0), (10, .ref 2 4 0 0), (11, I x10.2.1), (12, I x10.2.2.1), (13, I x10.2.2.2)], [(z88_0 p0), (z88_2 p2), (z88_11 x10)]⟩) (fun t h => ?_) ?_
   ·subst hk_k13
    obtain ⟨k14, hk_k14, h⟩ := jko h
    refine wjn (τ := Unit) (fun t => k14 t = some r) (fun _ => ⟨mk 131 [(3, .ref 0 4 0 0), (5, .ref 1 3 0 0), (10, .ref 2 4 0 0), (11, I x10.2.1), (12, I x10.2.2.1), (13, I x10.2.2.2)], [(z88_0 p0), (z88_2 p2), (z88_11 x10)]⟩) (fun t h => ?_) ?_
    ·subst hk_k14
     obtain ⟨x16, hf15, h⟩ := bno h
     refine wrg [rb [(.tmp 5, .ref 1 3 0 0)] [(1, (z88_2 p2))] (z88_3 p2), rb [(.tmp 3, .ref 0 4 0 0)] [(0, (z88_0 p0))] (z88_1 p0), rp [fu 34, (.tmp 104, (z88_3 p2)), (.tmp 105, (z88_1 p0))] (.tup [(z88_15 x16), I x16.2.1, I x16.2.2]), mv 106 (.tup [(z88_15 x16), I x16.2.1, I x16.2.2]), rp [(.tmp 103, (.tup [(z88_15 x16), I x16.2.1, I x16.2.2]))] (z88_15 x16), rp [(.tmp 103, (.tup [(z88_15 x16), I x16.2.1, I x16.2.2]))] (I x16.2.1), rp [(.tmp 103, (.tup [(z88_15 x16), I x16.2.1, I x16.2.2]))] (I x16.2.2), ⟨[], [(3, .unused)], .ref 3 4 0 0, [(3, z88_6)], false⟩, ⟨[(.tmp 17, .ref 3 4 0 0), (.tmp 107, (z88_15 x16))], [(3, z88_6)], .any, [(3, (z88_16 x16))], false⟩, mv 108 (I x16.2.1), mv 109 (I x16.2.2)] ?_ ?_
     ·exact ⟨ald rfl ti59 (by decide) rfl (nle rfl) rfl, ald rfl ti57 (by decide) rfl (nle rfl) rfl, apc (first := []) (cap := []) (vs := [(z88_3 p2), (z88_1 p0)]) rfl enter34 (ref07_RunX_ok N p2 p0 _ hf15) rfl rfl (nlc (NLt.agg _ (nlc nll (nlc nll (nlc nll nl0)))) (nlc (NLt.agg _ (nlc nll (nlc nll (nlc nll (nlc nll nl0))))) nl0)) (NLt.tup _ (nlc (NLt.agg _ (nlc nll (nlc nll (nlc nll (nlc nll nl0))))) (nlc nll (nlc nll nl0)))) rfl, amv rfl, astep_extract rfl rfl, astep_extract rfl rfl, astep_extract rfl rfl, astep_alloc rfl tz57 rfl, ast rfl ti57 (by rfl) rfl (nle rfl) rfl, aas rfl, aas rfl, trivial⟩
     rcases bft ((x10.2.2.2 == 0)) with hb17 | hb17
     ·replace h := bif_t hb17 h
      obtain ⟨x19, hf18, h⟩ := bno h
      rcases bft ((([x10.1.Mass, x10.1.Heat, x10.1.Silica, x10.1.Gas] : List Int) == [x19.Mass, x19.Heat, x19.Silica, x19.Gas])) with hb20 | hb20
      ·replace h := bif_t hb20 h
       rcases bft ((x10.2.1 == x16.2.1)) with hb21 | hb21
       ·replace h := bif_t hb21 h
        rcases bft ((x10.2.2.1 == x16.2.2)) with hb22 | hb22
        ·replace h := bif_t hb22 h
         obtain ⟨x24, hf23, h⟩ := bno h
         refine awp_regd [mv 13 (I x10.2.2.2), rp [(.tmp 110, I x10.2.2.2), ci 0] (B ((x10.2.2.2 == 0))), rp [(.tmp 111, (B ((x10.2.2.2 == 0))))] (B true), rb [(.tmp 112, B true), (.tmp 10, .ref 2 4 0 0)] [(2, (z88_11 x10))] (z88_10 x10), rb [(.tmp 112, B true), (.tmp 17, .ref 3 4 0 0)] [(3, (z88_16 x16))] (z88_15 x16), rp [(.tmp 112, B true), fu 28, (.tmp 114, (z88_15 x16))] (z88_17 x19), rp [(.tmp 112, B true), (.tmp 113, (z88_10 x10)), (.tmp 115, (z88_17 x19))] (B ((([x10.1.Mass, x10.1.Heat, x10.1.Silica, x10.1.Gas] : List Int) == [x19.Mass, x19.Heat, x19.Silica, x19.Gas]))), rp [(.tmp 112, B true), (.tmp 116, (B ((([x10.1.Mass, x10.1.Heat, x10.1.Silica, x10.1.Gas] : List Int) == [x19.Mass, x19.Heat, x19.Silica, x19.Gas])))), cb false] (B ((([x10.1.Mass, x10.1.Heat, x10.1.Silica, x10.1.Gas] : List Int) == [x19.Mass, x19.Heat, x19.Silica, x19.Gas]))), rp [(.tmp 117, (B ((([x10.1.Mass, x10.1.Heat, x10.1.Silica, x10.1.Gas] : List Int) == [x19.Mass, x19.Heat, x19.Silica, x19.Gas]))))] (B true), rp [(.tmp 118, B true), (.tmp 11, I x10.2.1)] (I x10.2.1), rp [(.tmp 118, B true), (.tmp 18, I x16.2.1)] (I x16.2.1), rp [(.tmp 118, B true), (.tmp 119, I x10.2.1), (.tmp 120, I x16.2.1)] (B ((x10.2.1 == x16.2.1))), rp [(.tmp 118, B true), (.tmp 121, (B ((x10.2.1 == x16.2.1)))), cb false] (B ((x10.2.1 == x16.2.1))), rp [(.tmp 122, (B ((x10.2.1 == x16.2.1))))] (B true), rp [(.tmp 123, B true), (.tmp 12, I x10.2.2.1)] (I x10.2.2.1), rp [(.tmp 123, B true), (.tmp 19, I x16.2.2)] (I x16.2.2), rp [(.tmp 123, B true), (.tmp 124, I x10.2.2.1), (.tmp 125, I x16.2.2)] (B ((x10.2.2.1 == x16.2.2))), rp [(.tmp 123, B true), (.tmp 126, (B ((x10.2.2.1 == x16.2.2)))), cb false] (B ((x10.2.2.1 == x16.2.2))), rp [(.tmp 127, (B ((x10.2.2.1 == x16.2.2))))] (B true), rp [(.tmp 128, B true), fu 17] (B x24), rp [(.tmp 128, B true), (.tmp 129, B x24), cb false] (B x24), mv 130 (B x24)] ?_ ?_
         ·exact ⟨amv rfl, abn rfl rfl, asb hb17 (amv rfl), ag_ (ald rfl ti60 (by decide) rfl (nle rfl) rfl), ag_ (ald rfl ti57 (by decide) rfl (nle rfl) rfl), ag_ (apc (first := []) (cap := []) (vs := [(z88_15 x16)]) rfl enter28 (law01_StreamX_ok N (⟨x16.1.Mass, x16.1.Heat, x16.1.Silica, x16.1.Gas⟩ : GStream) _ hf18) rfl rfl (nlc (NLt.agg _ (nlc nll (nlc nll (nlc nll (nlc nll nl0))))) nl0) (NLt.agg _ (nlc nll (nlc nll (nlc nll (nlc nll nl0))))) rfl), ag_ (astep_eqs (ls := [x10.1.Mass, x10.1.Heat, x10.1.Silica, x10.1.Gas]) (ks := [x19.Mass, x19.Heat, x19.Silica, x19.Gas]) rfl rfl eqt60 (by kernel_rfl) rfl rfl), apk rfl rfl, asb hb20 (amv rfl), ag_ (amv rfl), ag_ (amv rfl), ag_ (abn rfl rfl), apk rfl rfl, asb hb21 (amv rfl), ag_ (amv rfl), ag_ (amv rfl), ag_ (abn rfl rfl), apk rfl rfl, asb hb22 (amv rfl), ag_ (apc (first := []) (cap := []) (vs := []) rfl enter17 (law07_awakeX_ok 2000  _ hf23) rfl rfl nl0 nll rfl), apk rfl rfl, aas rfl, trivial⟩
         refine awp_ret ?_
         obtain rfl := osi h
         exact ⟨⟨[B x24], ⟨rot (by kernel_rfl), trivial⟩, rfl⟩, nll, Nat.le_refl _, fun n hn => absurd hn (Nat.not_lt_zero n)⟩
        ·replace h := bif_f hb22 h
         refine awp_regd [mv 13 (I x10.2.2.2), rp [(.tmp 110, I x10.2.2.2), ci 0] (B ((x10.2.2.2 == 0))), rp [(.tmp 111, (B ((x10.2.2.2 == 0))))] (B true), rb [(.tmp 112, B true), (.tmp 10, .ref 2 4 0 0)] [(2, (z88_11 x10))] (z88_10 x10), rb [(.tmp 112, B true), (.tmp 17, .ref 3 4 0 0)] [(3, (z88_16 x16))] (z88_15 x16), rp [(.tmp 112, B true), fu 28, (.tmp 114, (z88_15 x16))] (z88_17 x19), rp [(.tmp 112, B true), (.tmp 113, (z88_10 x10)), (.tmp 115, (z88_17 x19))] (B ((([x10.1.Mass, x10.1.Heat, x10.1.Silica, x10.1.Gas] : List Int) == [x19.Mass, x19.Heat, x19.Silica, x19.Gas]))), rp [(.tmp 112, B true), (.tmp 116, (B ((([x10.1.Mass, x10.1.Heat, x10.1.Silica, x10.1.Gas] : List Int) == [x19.Mass, x19.Heat, x19.Silica, x19.Gas])))), cb false] (B ((([x10.1.Mass, x10.1.Heat, x10.1.Silica, x10.1.Gas] : List Int) == [x19.Mass, x19.Heat, x19.Silica, x19.Gas]))), rp [(.tmp 117, (B ((([x10.1.Mass, x10.1.Heat, x10.1.Silica, x10.1.Gas] : List Int) == [x19.Mass, x19.Heat, x19.Silica, x19.Gas]))))] (B true), rp [(.tmp 118, B true), (.tmp 11, I x10.2.1)] (I x10.2.1), rp [(.tmp 118, B true), (.tmp 18, I x16.2.1)] (I x16.2.1), rp [(.tmp 118, B true), (.tmp 119, I x10.2.1), (.tmp 120, I x16.2.1)] (B ((x10.2.1 == x16.2.1))), rp [(.tmp 118, B true), (.tmp 121, (B ((x10.2.1 == x16.2.1)))), cb false] (B ((x10.2.1 == x16.2.1))), rp [(.tmp 122, (B ((x10.2.1 == x16.2.1))))] (B true), rp [(.tmp 123, B true), (.tmp 12, I x10.2.2.1)] (I x10.2.2.1), rp [(.tmp 123, B true), (.tmp 19, I x16.2.2)] (I x16.2.2), rp [(.tmp 123, B true), (.tmp 124, I x10.2.2.1), (.tmp 125, I x16.2.2)] (B ((x10.2.2.1 == x16.2.2))), rp [(.tmp 123, B true), (.tmp 126, (B ((x10.2.2.1 == x16.2.2)))), cb false] (B ((x10.2.2.1 == x16.2.2))), rp [(.tmp 127, (B ((x10.2.2.1 == x16.2.2))))] (B false), sk 128 (B false), rp [(.tmp 128, B false), (.tmp 129, (.lit undef)), cb false] (B false), mv 130 (B false)] ?_ ?_
         ·exact ⟨amv rfl, abn rfl rfl, asb hb17 (amv rfl), ag_ (ald rfl ti60 (by decide) rfl (nle rfl) rfl), ag_ (ald rfl ti57 (by decide) rfl (nle rfl) rfl), ag_ (apc (first := []) (cap := []) (vs := [(z88_15 x16)]) rfl enter28 (law01_StreamX_ok N (⟨x16.1.Mass, x16.1.Heat, x16.1.Silica, x16.1.Gas⟩ : GStream) _ hf18) rfl rfl (nlc (NLt.agg _ (nlc nll (nlc nll (nlc nll (nlc nll nl0))))) nl0) (NLt.agg _ (nlc nll (nlc nll (nlc nll (nlc nll nl0))))) rfl), ag_ (astep_eqs (ls := [x10.1.Mass, x10.1.Heat, x10.1.Silica, x10.1.Gas]) (ks := [x19.Mass, x19.Heat, x19.Silica, x19.Gas]) rfl rfl eqt60 (by kernel_rfl) rfl rfl), apk rfl rfl, asb hb20 (amv rfl), ag_ (amv rfl), ag_ (amv rfl), ag_ (abn rfl rfl), apk rfl rfl, asb hb21 (amv rfl), ag_ (amv rfl), ag_ (amv rfl), ag_ (abn rfl rfl), apk rfl rfl, asb hb22 (amv rfl), trivial, apk rfl rfl, aas rfl, trivial⟩
         refine awp_ret ?_
         obtain rfl := osi h
         exact ⟨⟨[B false], ⟨rot (by kernel_rfl), trivial⟩, rfl⟩, nll, Nat.le_refl _, fun n hn => absurd hn (Nat.not_lt_zero n)⟩
       ·replace h := bif_f hb21 h
        refine awp_regd [mv 13 (I x10.2.2.2), rp [(.tmp 110, I x10.2.2.2), ci 0] (B ((x10.2.2.2 == 0))), rp [(.tmp 111, (B ((x10.2.2.2 == 0))))] (B true), rb [(.tmp 112, B true), (.tmp 10, .ref 2 4 0 0)] [(2, (z88_11 x10))] (z88_10 x10), rb [(.tmp 112, B true), (.tmp 17, .ref 3 4 0 0)] [(3, (z88_16 x16))] (z88_15 x16), rp [(.tmp 112, B true), fu 28, (.tmp 114, (z88_15 x16))] (z88_17 x19), rp [(.tmp 112, B true), (.tmp 113, (z88_10 x10)), (.tmp 115, (z88_17 x19))] (B ((([x10.1.Mass, x10.1.Heat, x10.1.Silica, x10.1.Gas] : List Int) == [x19.Mass, x19.Heat, x19.Silica, x19.Gas]))), rp [(.tmp 112, B true), (.tmp 116, (B ((([x10.1.Mass, x10.1.Heat, x10.1.Silica, x10.1.Gas] : List Int) == [x19.Mass, x19.Heat, x19.Silica, x19.Gas])))), cb false] (B ((([x10.1.Mass, x10.1.Heat, x10.1.Silica, x10.1.Gas] : List Int) == [x19.Mass, x19.Heat, x19.Silica, x19.Gas]))), rp [(.tmp 117, (B ((([x10.1.Mass, x10.1.Heat, x10.1.Silica, x10.1.Gas] : List Int) == [x19.Mass, x19.Heat, x19.Silica, x19.Gas]))))] (B true), rp [(.tmp 118, B true), (.tmp 11, I x10.2.1)] (I x10.2.1), rp [(.tmp 118, B true), (.tmp 18, I x16.2.1)] (I x16.2.1), rp [(.tmp 118, B true), (.tmp 119, I x10.2.1), (.tmp 120, I x16.2.1)] (B ((x10.2.1 == x16.2.1))), rp [(.tmp 118, B true), (.tmp 121, (B ((x10.2.1 == x16.2.1)))), cb false] (B ((x10.2.1 == x16.2.1))), rp [(.tmp 122, (B ((x10.2.1 == x16.2.1))))] (B false), sk 123 (B false), sk 123 (B false), sk 123 (B false), rp [(.tmp 123, B false), (.tmp 126, (.lit undef)), cb false] (B false), mv 127 (B false), sk 128 (B false), rp [(.tmp 128, B false), (.tmp 129, (.lit undef)), cb false] (B false), mv 130 (B false)] ?_ ?_
        ·exact ⟨amv rfl, abn rfl rfl, asb hb17 (amv rfl), ag_ (ald rfl ti60 (by decide) rfl (nle rfl) rfl), ag_ (ald rfl ti57 (by decide) rfl (nle rfl) rfl), ag_ (apc (first := []) (cap := []) (vs := [(z88_15 x16)]) rfl enter28 (law01_StreamX_ok N (⟨x16.1.Mass, x16.1.Heat, x16.1.Silica, x16.1.Gas⟩ : GStream) _ hf18) rfl rfl (nlc (NLt.agg _ (nlc nll (nlc nll (nlc nll (nlc nll nl0))))) nl0) (NLt.agg _ (nlc nll (nlc nll (nlc nll (nlc nll nl0))))) rfl), ag_ (astep_eqs (ls := [x10.1.Mass, x10.1.Heat, x10.1.Silica, x10.1.Gas]) (ks := [x19.Mass, x19.Heat, x19.Silica, x19.Gas]) rfl rfl eqt60 (by kernel_rfl) rfl rfl), apk rfl rfl, asb hb20 (amv rfl), ag_ (amv rfl), ag_ (amv rfl), ag_ (abn rfl rfl), apk rfl rfl, asb hb21 (amv rfl), trivial, trivial, trivial, apk rfl rfl, amv rfl, trivial, apk rfl rfl, aas rfl, trivial⟩
        refine awp_ret ?_
        obtain rfl := osi h
        exact ⟨⟨[B false], ⟨rot (by kernel_rfl), trivial⟩, rfl⟩, nll, Nat.le_refl _, fun n hn => absurd hn (Nat.not_lt_zero n)⟩
      ·replace h := bif_f hb20 h
       refine awp_regd [mv 13 (I x10.2.2.2), rp [(.tmp 110, I x10.2.2.2), ci 0] (B ((x10.2.2.2 == 0))), rp [(.tmp 111, (B ((x10.2.2.2 == 0))))] (B true), rb [(.tmp 112, B true), (.tmp 10, .ref 2 4 0 0)] [(2, (z88_11 x10))] (z88_10 x10), rb [(.tmp 112, B true), (.tmp 17, .ref 3 4 0 0)] [(3, (z88_16 x16))] (z88_15 x16), rp [(.tmp 112, B true), fu 28, (.tmp 114, (z88_15 x16))] (z88_17 x19), rp [(.tmp 112, B true), (.tmp 113, (z88_10 x10)), (.tmp 115, (z88_17 x19))] (B ((([x10.1.Mass, x10.1.Heat, x10.1.Silica, x10.1.Gas] : List Int) == [x19.Mass, x19.Heat, x19.Silica, x19.Gas]))), rp [(.tmp 112, B true), (.tmp 116, (B ((([x10.1.Mass, x10.1.Heat, x10.1.Silica, x10.1.Gas] : List Int) == [x19.Mass, x19.Heat, x19.Silica, x19.Gas])))), cb false] (B ((([x10.1.Mass, x10.1.Heat, x10.1.Silica, x10.1.Gas] : List Int) == [x19.Mass, x19.Heat, x19.Silica, x19.Gas]))), rp [(.tmp 117, (B ((([x10.1.Mass, x10.1.Heat, x10.1.Silica, x10.1.Gas] : List Int) == [x19.Mass, x19.Heat, x19.Silica, x19.Gas]))))] (B false), sk 118 (B false), sk 118 (B false), sk 118 (B false), rp [(.tmp 118, B false), (.tmp 121, (.lit undef)), cb false] (B false), mv 122 (B false), sk 123 (B false), sk 123 (B false), sk 123 (B false), rp [(.tmp 123, B false), (.tmp 126, (.lit undef)), cb false] (B false), mv 127 (B false), sk 128 (B false), rp [(.tmp 128, B false), (.tmp 129, (.lit undef)), cb false] (B false), mv 130 (B false)] ?_ ?_
       ·exact ⟨amv rfl, abn rfl rfl, asb hb17 (amv rfl), ag_ (ald rfl ti60 (by decide) rfl (nle rfl) rfl), ag_ (ald rfl ti57 (by decide) rfl (nle rfl) rfl), ag_ (apc (first := []) (cap := []) (vs := [(z88_15 x16)]) rfl enter28 (law01_StreamX_ok N (⟨x16.1.Mass, x16.1.Heat, x16.1.Silica, x16.1.Gas⟩ : GStream) _ hf18) rfl rfl (nlc (NLt.agg _ (nlc nll (nlc nll (nlc nll (nlc nll nl0))))) nl0) (NLt.agg _ (nlc nll (nlc nll (nlc nll (nlc nll nl0))))) rfl), ag_ (astep_eqs (ls := [x10.1.Mass, x10.1.Heat, x10.1.Silica, x10.1.Gas]) (ks := [x19.Mass, x19.Heat, x19.Silica, x19.Gas]) rfl rfl eqt60 (by kernel_rfl) rfl rfl), apk rfl rfl, asb hb20 (amv rfl), trivial, trivial, trivial, apk rfl rfl, amv rfl, trivial, trivial, trivial, apk rfl rfl, amv rfl, trivial, apk rfl rfl, aas rfl, trivial⟩
       refine awp_ret ?_
       obtain rfl := osi h
       exact ⟨⟨[B false], ⟨rot (by kernel_rfl), trivial⟩, rfl⟩, nll, Nat.le_refl _, fun n hn => absurd hn (Nat.not_lt_zero n)⟩
     ·replace h := bif_f hb17 h
      refine awp_regd [mv 13 (I x10.2.2.2), rp [(.tmp 110, I x10.2.2.2), ci 0] (B ((x10.2.2.2 == 0))), rp [(.tmp 111, (B ((x10.2.2.2 == 0))))] (B false), sk 112 (B false), sk 112 (B false), sk 112 (B false), sk 112 (B false), rp [(.tmp 112, B false), (.tmp 116, (.lit undef)), cb false] (B false), mv 117 (B false), sk 118 (B false), sk 118 (B false), sk 118 (B false), rp [(.tmp 118, B false), (.tmp 121, (.lit undef)), cb false] (B false), mv 122 (B false), sk 123 (B false), sk 123 (B false), sk 123 (B false), rp [(.tmp 123, B false), (.tmp 126, (.lit undef)), cb false] (B false), mv 127 (B false), sk 128 (B false), rp [(.tmp 128, B false), (.tmp 129, (.lit undef)), cb false] (B false), mv 130 (B false)] ?_ ?_
      ·exact ⟨amv rfl, abn rfl rfl, asb hb17 (amv rfl), trivial, trivial, trivial, trivial, apk rfl rfl, amv rfl, trivial, trivial, trivial, apk rfl rfl, amv rfl, trivial, trivial, trivial, apk rfl rfl, amv rfl, trivial, apk rfl rfl, aas rfl, trivial⟩
      refine awp_ret ?_
      obtain rfl := osi h
      exact ⟨⟨[B false], ⟨rot (by kernel_rfl), trivial⟩, rfl⟩, nll, Nat.le_refl _, fun n hn => absurd hn (Nat.not_lt_zero n)⟩
    ·skip
     obtain ⟨x26, hf25, h⟩ := bno h
     rcases bft ((!x26)) with hb27 | hb27
     ·replace h := bif_t hb27 h
      refine wrg [rb [(.tmp 3, .ref 0 4 0 0)] [(0, (z88_0 p0))] (z88_1 p0), rp [fu 31, (.tmp 77, (z88_1 p0))] (B x26), rp [(.tmp 78, B x26)] (B ((!x26))), rp [(.tmp 79, (B ((!x26))))] (B true), sk 80 (B true), sk 80 (B true), sk 80 (B true), rp [(.tmp 80, B true), cb true, (.tmp 83, (.lit undef))] (B true)] ?_ ?_
      ·exact ⟨ald rfl ti57 (by decide) rfl (nle rfl) rfl, apc (first := []) (cap := []) (vs := [(z88_1 p0)]) rfl enter31 (ref01_RightStreamX_ok N p0 _ hf25) rfl rfl (nlc (NLt.agg _ (nlc nll (nlc nll (nlc nll (nlc nll nl0))))) nl0) nll rfl, astep_not rfl, asb hb27 (amv rfl), trivial, trivial, trivial, apk rfl rfl, trivial⟩
      refine awp_true (by kernel_rfl) ?_
      rcases bft ((x10.2.2.2 == 1)) with hb28 | hb28
      ·replace h := bif_t hb28 h
       rcases bft ((([x10.1.Mass, x10.1.Heat, x10.1.Silica, x10.1.Gas] : List Int) == [0, 0, 0, 0])) with hb29 | hb29
       ·replace h := bif_t hb29 h
        rcases bft ((x10.2.1 == 0)) with hb30 | hb30
        ·replace h := bif_t hb30 h
         rcases bft ((x10.2.2.1 == 0)) with hb31 | hb31
         ·replace h := bif_t hb31 h
          obtain ⟨x33, hf32, h⟩ := bno h
          refine wrg [mv 13 (I x10.2.2.2), rp [(.tmp 85, I x10.2.2.2), ci 1] (B ((x10.2.2.2 == 1))), rp [(.tmp 86, (B ((x10.2.2.2 == 1))))] (B true), rb [(.tmp 87, B true), (.tmp 10, .ref 2 4 0 0)] [(2, (z88_11 x10))] (z88_10 x10), rp [(.tmp 87, B true)] (.agg [I 0, I 0, I 0, I 0]), rp [(.tmp 87, B true), (.tmp 88, (z88_10 x10)), (.tmp 89, (.agg [I 0, I 0, I 0, I 0]))] (B ((([x10.1.Mass, x10.1.Heat, x10.1.Silica, x10.1.Gas] : List Int) == [0, 0, 0, 0]))), rp [(.tmp 87, B true), (.tmp 90, (B ((([x10.1.Mass, x10.1.Heat, x10.1.Silica, x10.1.Gas] : List Int) == [0, 0, 0, 0])))), cb false] (B ((([x10.1.Mass, x10.1.Heat, x10.1.Silica, x10.1.Gas] : List Int) == [0, 0, 0, 0]))), rp [(.tmp 91, (B ((([x10.1.Mass, x10.1.Heat, x10.1.Silica, x10.1.Gas] : List Int) == [0, 0, 0, 0]))))] (B true), rp [(.tmp 92, B true), (.tmp 11, I x10.2.1)] (I x10.2.1), rp [(.tmp 92, B true), (.tmp 93, I x10.2.1), ci 0] (B ((x10.2.1 == 0))), rp [(.tmp 92, B true), (.tmp 94, (B ((x10.2.1 == 0)))), cb false] (B ((x10.2.1 == 0))), rp [(.tmp 95, (B ((x10.2.1 == 0))))] (B true), rp [(.tmp 96, B true), (.tmp 12, I x10.2.2.1)] (I x10.2.2.1), rp [(.tmp 96, B true), (.tmp 97, I x10.2.2.1), ci 0] (B ((x10.2.2.1 == 0))), rp [(.tmp 96, B true), (.tmp 98, (B ((x10.2.2.1 == 0)))), cb false] (B ((x10.2.2.1 == 0))), rp [(.tmp 99, (B ((x10.2.2.1 == 0))))] (B true), rp [(.tmp 100, B true), fu 17] (B x33), rp [(.tmp 100, B true), (.tmp 101, B x33), cb false] (B x33), mv 102 (B x33)] ?_ ?_
          ·exact ⟨amv rfl, abn rfl rfl, asb hb28 (amv rfl), ag_ (ald rfl ti60 (by decide) rfl (nle rfl) rfl), ag_ (astep_build (vs := []) rfl ts60 tz60 rfl (by rfl) rfl), ag_ (astep_eqs (ls := [x10.1.Mass, x10.1.Heat, x10.1.Silica, x10.1.Gas]) (ks := [0, 0, 0, 0]) rfl rfl eqt60 (by kernel_rfl) rfl rfl), apk rfl rfl, asb hb29 (amv rfl), ag_ (amv rfl), ag_ (abn rfl rfl), apk rfl rfl, asb hb30 (amv rfl), ag_ (amv rfl), ag_ (abn rfl rfl), apk rfl rfl, asb hb31 (amv rfl), ag_ (apc (first := []) (cap := []) (vs := []) rfl enter17 (law07_awakeX_ok 2000  _ hf32) rfl rfl nl0 nll rfl), apk rfl rfl, aas rfl, trivial⟩
          refine awp_ret ?_
          refine thenA_r ?_
          obtain rfl := osi h
          exact ⟨⟨[B x33], ⟨rot (by kernel_rfl), trivial⟩, rfl⟩, nll, Nat.le_refl _, fun n hn => absurd hn (Nat.not_lt_zero n)⟩
         ·replace h := bif_f hb31 h
          refine wrg [mv 13 (I x10.2.2.2), rp [(.tmp 85, I x10.2.2.2), ci 1] (B ((x10.2.2.2 == 1))), rp [(.tmp 86, (B ((x10.2.2.2 == 1))))] (B true), rb [(.tmp 87, B true), (.tmp 10, .ref 2 4 0 0)] [(2, (z88_11 x10))] (z88_10 x10), rp [(.tmp 87, B true)] (.agg [I 0, I 0, I 0, I 0]), rp [(.tmp 87, B true), (.tmp 88, (z88_10 x10)), (.tmp 89, (.agg [I 0, I 0, I 0, I 0]))] (B ((([x10.1.Mass, x10.1.Heat, x10.1.Silica, x10.1.Gas] : List Int) == [0, 0, 0, 0]))), rp [(.tmp 87, B true), (.tmp 90, (B ((([x10.1.Mass, x10.1.Heat, x10.1.Silica, x10.1.Gas] : List Int) == [0, 0, 0, 0])))), cb false] (B ((([x10.1.Mass, x10.1.Heat, x10.1.Silica, x10.1.Gas] : List Int) == [0, 0, 0, 0]))), rp [(.tmp 91, (B ((([x10.1.Mass, x10.1.Heat, x10.1.Silica, x10.1.Gas] : List Int) == [0, 0, 0, 0]))))] (B true), rp [(.tmp 92, B true), (.tmp 11, I x10.2.1)] (I x10.2.1), rp [(.tmp 92, B true), (.tmp 93, I x10.2.1), ci 0] (B ((x10.2.1 == 0))), rp [(.tmp 92, B true), (.tmp 94, (B ((x10.2.1 == 0)))), cb false] (B ((x10.2.1 == 0))), rp [(.tmp 95, (B ((x10.2.1 == 0))))] (B true), rp [(.tmp 96, B true), (.tmp 12, I x10.2.2.1)] (I x10.2.2.1), rp [(.tmp 96, B true), (.tmp 97, I x10.2.2.1), ci 0] (B ((x10.2.2.1 == 0))), rp [(.tmp 96, B true), (.tmp 98, (B ((x10.2.2.1 == 0)))), cb false] (B ((x10.2.2.1 == 0))), rp [(.tmp 99, (B ((x10.2.2.1 == 0))))] (B false), sk 100 (B false), rp [(.tmp 100, B false), (.tmp 101, (.lit undef)), cb false] (B false), mv 102 (B false)] ?_ ?_
          ·exact ⟨amv rfl, abn rfl rfl, asb hb28 (amv rfl), ag_ (ald rfl ti60 (by decide) rfl (nle rfl) rfl), ag_ (astep_build (vs := []) rfl ts60 tz60 rfl (by rfl) rfl), ag_ (astep_eqs (ls := [x10.1.Mass, x10.1.Heat, x10.1.Silica, x10.1.Gas]) (ks := [0, 0, 0, 0]) rfl rfl eqt60 (by kernel_rfl) rfl rfl), apk rfl rfl, asb hb29 (amv rfl), ag_ (amv rfl), ag_ (abn rfl rfl), apk rfl rfl, asb hb30 (amv rfl), ag_ (amv rfl), ag_ (abn rfl rfl), apk rfl rfl, asb hb31 (amv rfl), trivial, apk rfl rfl, aas rfl, trivial⟩
          refine awp_ret ?_
          refine thenA_r ?_
          obtain rfl := osi h
          exact ⟨⟨[B false], ⟨rot (by kernel_rfl), trivial⟩, rfl⟩, nll, Nat.le_refl _, fun n hn => absurd hn (Nat.not_lt_zero n)⟩
        ·replace h := bif_f hb30 h
         refine wrg [mv 13 (I x10.2.2.2), rp [(.tmp 85, I x10.2.2.2), ci 1] (B ((x10.2.2.2 == 1))), rp [(.tmp 86, (B ((x10.2.2.2 == 1))))] (B true), rb [(.tmp 87, B true), (.tmp 10, .ref 2 4 0 0)] [(2, (z88_11 x10))] (z88_10 x10), rp [(.tmp 87, B true)] (.agg [I 0, I 0, I 0, I 0]), rp [(.tmp 87, B true), (.tmp 88, (z88_10 x10)), (.tmp 89, (.agg [I 0, I 0, I 0, I 0]))] (B ((([x10.1.Mass, x10.1.Heat, x10.1.Silica, x10.1.Gas] : List Int) == [0, 0, 0, 0]))), rp [(.tmp 87, B true), (.tmp 90, (B ((([x10.1.Mass, x10.1.Heat, x10.1.Silica, x10.1.Gas] : List Int) == [0, 0, 0, 0])))), cb false] (B ((([x10.1.Mass, x10.1.Heat, x10.1.Silica, x10.1.Gas] : List Int) == [0, 0, 0, 0]))), rp [(.tmp 91, (B ((([x10.1.Mass, x10.1.Heat, x10.1.Silica, x10.1.Gas] : List Int) == [0, 0, 0, 0]))))] (B true), rp [(.tmp 92, B true), (.tmp 11, I x10.2.1)] (I x10.2.1), rp [(.tmp 92, B true), (.tmp 93, I x10.2.1), ci 0] (B ((x10.2.1 == 0))), rp [(.tmp 92, B true), (.tmp 94, (B ((x10.2.1 == 0)))), cb false] (B ((x10.2.1 == 0))), rp [(.tmp 95, (B ((x10.2.1 == 0))))] (B false), sk 96 (B false), sk 96 (B false), rp [(.tmp 96, B false), (.tmp 98, (.lit undef)), cb false] (B false), mv 99 (B false), sk 100 (B false), rp [(.tmp 100, B false), (.tmp 101, (.lit undef)), cb false] (B false), mv 102 (B false)] ?_ ?_
         ·exact ⟨amv rfl, abn rfl rfl, asb hb28 (amv rfl), ag_ (ald rfl ti60 (by decide) rfl (nle rfl) rfl), ag_ (astep_build (vs := []) rfl ts60 tz60 rfl (by rfl) rfl), ag_ (astep_eqs (ls := [x10.1.Mass, x10.1.Heat, x10.1.Silica, x10.1.Gas]) (ks := [0, 0, 0, 0]) rfl rfl eqt60 (by kernel_rfl) rfl rfl), apk rfl rfl, asb hb29 (amv rfl), ag_ (amv rfl), ag_ (abn rfl rfl), apk rfl rfl, asb hb30 (amv rfl), trivial, trivial, apk rfl rfl, amv rfl, trivial, apk rfl rfl, aas rfl, trivial⟩
         refine awp_ret ?_
         refine thenA_r ?_
         obtain rfl := osi h
         exact ⟨⟨[B false], ⟨rot (by kernel_rfl), trivial⟩, rfl⟩, nll, Nat.le_refl _, fun n hn => absurd hn (Nat.not_lt_zero n)⟩
       ·replace h := bif_f hb29 h
        refine wrg [mv 13 (I x10.2.2.2), rp [(.tmp 85, I x10.2.2.2), ci 1] (B ((x10.2.2.2 == 1))), rp [(.tmp 86, (B ((x10.2.2.2 == 1))))] (B true), rb [(.tmp 87, B true), (.tmp 10, .ref 2 4 0 0)] [(2, (z88_11 x10))] (z88_10 x10), rp [(.tmp 87, B true)] (.agg [I 0, I 0, I 0, I 0]), rp [(.tmp 87, B true), (.tmp 88, (z88_10 x10)), (.tmp 89, (.agg [I 0, I 0, I 0, I 0]))] (B ((([x10.1.Mass, x10.1.Heat, x10.1.Silica, x10.1.Gas] : List Int) == [0, 0, 0, 0]))), rp [(.tmp 87, B true), (.tmp 90, (B ((([x10.1.Mass, x10.1.Heat, x10.1.Silica, x10.1.Gas] : List Int) == [0, 0, 0, 0])))), cb false] (B ((([x10.1.Mass, x10.1.Heat, x10.1.Silica, x10.1.Gas] : List Int) == [0, 0, 0, 0]))), rp [(.tmp 91, (B ((([x10.1.Mass, x10.1.Heat, x10.1.Silica, x10.1.Gas] : List Int) == [0, 0, 0, 0]))))] (B false), sk 92 (B false), sk 92 (B false), rp [(.tmp 92, B false), (.tmp 94, (.lit undef)), cb false] (B false), mv 95 (B false), sk 96 (B false), sk 96 (B false), rp [(.tmp 96, B false), (.tmp 98, (.lit undef)), cb false] (B false), mv 99 (B false), sk 100 (B false), rp [(.tmp 100, B false), (.tmp 101, (.lit undef)), cb false] (B false), mv 102 (B false)] ?_ ?_
        ·exact ⟨amv rfl, abn rfl rfl, asb hb28 (amv rfl), ag_ (ald rfl ti60 (by decide) rfl (nle rfl) rfl), ag_ (astep_build (vs := []) rfl ts60 tz60 rfl (by rfl) rfl), ag_ (astep_eqs (ls := [x10.1.Mass, x10.1.Heat, x10.1.Silica, x10.1.Gas]) (ks := [0, 0, 0, 0]) rfl rfl eqt60 (by kernel_rfl) rfl rfl), apk rfl rfl, asb hb29 (amv rfl), trivial, trivial, apk rfl rfl, amv rfl, trivial, trivial, apk rfl rfl, amv rfl, trivial, apk rfl rfl, aas rfl, trivial⟩
        refine awp_ret ?_
        refine thenA_r ?_
        obtain rfl := osi h
        exact ⟨⟨[B false], ⟨rot (by kernel_rfl), trivial⟩, rfl⟩, nll, Nat.le_refl _, fun n hn => absurd hn (Nat.not_lt_zero n)⟩
      ·replace h := bif_f hb28 h
       refine wrg [mv 13 (I x10.2.2.2), rp [(.tmp 85, I x10.2.2.2), ci 1] (B ((x10.2.2.2 == 1))), rp [(.tmp 86, (B ((x10.2.2.2 == 1))))] (B false), sk 87 (B false), sk 87 (B false), sk 87 (B false), rp [(.tmp 87, B false), (.tmp 90, (.lit undef)), cb false] (B false), mv 91 (B false), sk 92 (B false), sk 92 (B false), rp [(.tmp 92, B false), (.tmp 94, (.lit undef)), cb false] (B false), mv 95 (B false), sk 96 (B false), sk 96 (B false), rp [(.tmp 96, B false), (.tmp 98, (.lit undef)), cb false] (B false), mv 99 (B false), sk 100 (B false), rp [(.tmp 100, B false), (.tmp 101, (.lit undef)), cb false] (B false), mv 102 (B false)] ?_ ?_
       ·exact ⟨amv rfl, abn rfl rfl, asb hb28 (amv rfl), trivial, trivial, trivial, apk rfl rfl, amv rfl, trivial, trivial, apk rfl rfl, amv rfl, trivial, trivial, apk rfl rfl, amv rfl, trivial, apk rfl rfl, aas rfl, trivial⟩
       refine awp_ret ?_
       refine thenA_r ?_
       obtain rfl := osi h
       exact ⟨⟨[B false], ⟨rot (by kernel_rfl), trivial⟩, rfl⟩, nll, Nat.le_refl _, fun n hn => absurd hn (Nat.not_lt_zero n)⟩
     ·replace h := bif_f hb27 h
      obtain ⟨x35, hf34, h⟩ := bno h
      refine wrg [rb [(.tmp 3, .ref 0 4 0 0)] [(0, (z88_0 p0))] (z88_1 p0), rp [fu 31, (.tmp 77, (z88_1 p0))] (B x26), rp [(.tmp 78, B x26)] (B ((!x26))), rp [(.tmp 79, (B ((!x26))))] (B false), rb [(.tmp 80, B false), (.tmp 5, .ref 1 3 0 0)] [(1, (z88_2 p2))] (z88_3 p2), rp [(.tmp 80, B false), fu 33, (.tmp 81, (z88_3 p2))] (B x35), rp [(.tmp 80, B false), (.tmp 82, B x35)] (B ((!x35))), rp [(.tmp 80, B false), cb true, (.tmp 83, (B ((!x35))))] (B ((!x35)))] ?_ ?_
      ·exact ⟨ald rfl ti57 (by decide) rfl (nle rfl) rfl, apc (first := []) (cap := []) (vs := [(z88_1 p0)]) rfl enter31 (ref01_RightStreamX_ok N p0 _ hf25) rfl rfl (nlc (NLt.agg _ (nlc nll (nlc nll (nlc nll (nlc nll nl0))))) nl0) nll rfl, astep_not rfl, asb hb27 (amv rfl), ag_ (ald rfl ti59 (by decide) rfl (nle rfl) rfl), ag_ (apc (first := []) (cap := []) (vs := [(z88_3 p2)]) rfl enter33 (ref07_RightCycleX_ok N p2 _ hf34) rfl rfl (nlc (NLt.agg _ (nlc nll (nlc nll (nlc nll nl0)))) nl0) nll rfl), ag_ (astep_not rfl), apk rfl rfl, trivial⟩
      rcases bft ((!x35)) with hc36 | hc36
      ·replace h := bif_t hc36 h
       refine wft hc36 (by kernel_rfl) ?_
       rcases bft ((x10.2.2.2 == 1)) with hb37 | hb37
       ·replace h := bif_t hb37 h
        rcases bft ((([x10.1.Mass, x10.1.Heat, x10.1.Silica, x10.1.Gas] : List Int) == [0, 0, 0, 0])) with hb38 | hb38
        ·replace h := bif_t hb38 h
         rcases bft ((x10.2.1 == 0)) with hb39 | hb39
         ·replace h := bif_t hb39 h
          rcases bft ((x10.2.2.1 == 0)) with hb40 | hb40
          ·replace h := bif_t hb40 h
           obtain ⟨x42, hf41, h⟩ := bno h
           refine wrg [mv 13 (I x10.2.2.2), rp [(.tmp 85, I x10.2.2.2), ci 1] (B ((x10.2.2.2 == 1))), rp [(.tmp 86, (B ((x10.2.2.2 == 1))))] (B true), rb [(.tmp 87, B true), (.tmp 10, .ref 2 4 0 0)] [(2, (z88_11 x10))] (z88_10 x10), rp [(.tmp 87, B true)] (.agg [I 0, I 0, I 0, I 0]), rp [(.tmp 87, B true), (.tmp 88, (z88_10 x10)), (.tmp 89, (.agg [I 0, I 0, I 0, I 0]))] (B ((([x10.1.Mass, x10.1.Heat, x10.1.Silica, x10.1.Gas] : List Int) == [0, 0, 0, 0]))), rp [(.tmp 87, B true), (.tmp 90, (B ((([x10.1.Mass, x10.1.Heat, x10.1.Silica, x10.1.Gas] : List Int) == [0, 0, 0, 0])))), cb false] (B ((([x10.1.Mass, x10.1.Heat, x10.1.Silica, x10.1.Gas] : List Int) == [0, 0, 0, 0]))), rp [(.tmp 91, (B ((([x10.1.Mass, x10.1.Heat, x10.1.Silica, x10.1.Gas] : List Int) == [0, 0, 0, 0]))))] (B true), rp [(.tmp 92, B true), (.tmp 11, I x10.2.1)] (I x10.2.1), rp [(.tmp 92, B true), (.tmp 93, I x10.2.1), ci 0] (B ((x10.2.1 == 0))), rp [(.tmp 92, B true), (.tmp 94, (B ((x10.2.1 == 0)))), cb false] (B ((x10.2.1 == 0))), rp [(.tmp 95, (B ((x10.2.1 == 0))))] (B true), rp [(.tmp 96, B true), (.tmp 12, I x10.2.2.1)] (I x10.2.2.1), rp [(.tmp 96, B true), (.tmp 97, I x10.2.2.1), ci 0] (B ((x10.2.2.1 == 0))), rp [(.tmp 96, B true), (.tmp 98, (B ((x10.2.2.1 == 0)))), cb false] (B ((x10.2.2.1 == 0))), rp [(.tmp 99, (B ((x10.2.2.1 == 0))))] (B true), rp [(.tmp 100, B true), fu 17] (B x42), rp [(.tmp 100, B true), (.tmp 101, B x42), cb false] (B x42), mv 102 (B x42)] ?_ ?_
           ·exact ⟨amv rfl, abn rfl rfl, asb hb37 (amv rfl), ag_ (ald rfl ti60 (by decide) rfl (nle rfl) rfl), ag_ (astep_build (vs := []) rfl ts60 tz60 rfl (by rfl) rfl), ag_ (astep_eqs (ls := [x10.1.Mass, x10.1.Heat, x10.1.Silica, x10.1.Gas]) (ks := [0, 0, 0, 0]) rfl rfl eqt60 (by kernel_rfl) rfl rfl), apk rfl rfl, asb hb38 (amv rfl), ag_ (amv rfl), ag_ (abn rfl rfl), apk rfl rfl, asb hb39 (amv rfl), ag_ (amv rfl), ag_ (abn rfl rfl), apk rfl rfl, asb hb40 (amv rfl), ag_ (apc (first := []) (cap := []) (vs := []) rfl enter17 (law07_awakeX_ok 2000  _ hf41) rfl rfl nl0 nll rfl), apk rfl rfl, aas rfl, trivial⟩
           refine awp_ret ?_
           refine thenA_r ?_
           obtain rfl := osi h
           exact ⟨⟨[B x42], ⟨rot (by kernel_rfl), trivial⟩, rfl⟩, nll, Nat.le_refl _, fun n hn => absurd hn (Nat.not_lt_zero n)⟩
          ·replace h := bif_f hb40 h
           refine wrg [mv 13 (I x10.2.2.2), rp [(.tmp 85, I x10.2.2.2), ci 1] (B ((x10.2.2.2 == 1))), rp [(.tmp 86, (B ((x10.2.2.2 == 1))))] (B true), rb [(.tmp 87, B true), (.tmp 10, .ref 2 4 0 0)] [(2, (z88_11 x10))] (z88_10 x10), rp [(.tmp 87, B true)] (.agg [I 0, I 0, I 0, I 0]), rp [(.tmp 87, B true), (.tmp 88, (z88_10 x10)), (.tmp 89, (.agg [I 0, I 0, I 0, I 0]))] (B ((([x10.1.Mass, x10.1.Heat, x10.1.Silica, x10.1.Gas] : List Int) == [0, 0, 0, 0]))), rp [(.tmp 87, B true), (.tmp 90, (B ((([x10.1.Mass, x10.1.Heat, x10.1.Silica, x10.1.Gas] : List Int) == [0, 0, 0, 0])))), cb false] (B ((([x10.1.Mass, x10.1.Heat, x10.1.Silica, x10.1.Gas] : List Int) == [0, 0, 0, 0]))), rp [(.tmp 91, (B ((([x10.1.Mass, x10.1.Heat, x10.1.Silica, x10.1.Gas] : List Int) == [0, 0, 0, 0]))))] (B true), rp [(.tmp 92, B true), (.tmp 11, I x10.2.1)] (I x10.2.1), rp [(.tmp 92, B true), (.tmp 93, I x10.2.1), ci 0] (B ((x10.2.1 == 0))), rp [(.tmp 92, B true), (.tmp 94, (B ((x10.2.1 == 0)))), cb false] (B ((x10.2.1 == 0))), rp [(.tmp 95, (B ((x10.2.1 == 0))))] (B true), rp [(.tmp 96, B true), (.tmp 12, I x10.2.2.1)] (I x10.2.2.1), rp [(.tmp 96, B true), (.tmp 97, I x10.2.2.1), ci 0] (B ((x10.2.2.1 == 0))), rp [(.tmp 96, B true), (.tmp 98, (B ((x10.2.2.1 == 0)))), cb false] (B ((x10.2.2.1 == 0))), rp [(.tmp 99, (B ((x10.2.2.1 == 0))))] (B false), sk 100 (B false), rp [(.tmp 100, B false), (.tmp 101, (.lit undef)), cb false] (B false), mv 102 (B false)] ?_ ?_
           ·exact ⟨amv rfl, abn rfl rfl, asb hb37 (amv rfl), ag_ (ald rfl ti60 (by decide) rfl (nle rfl) rfl), ag_ (astep_build (vs := []) rfl ts60 tz60 rfl (by rfl) rfl), ag_ (astep_eqs (ls := [x10.1.Mass, x10.1.Heat, x10.1.Silica, x10.1.Gas]) (ks := [0, 0, 0, 0]) rfl rfl eqt60 (by kernel_rfl) rfl rfl), apk rfl rfl, asb hb38 (amv rfl), ag_ (amv rfl), ag_ (abn rfl rfl), apk rfl rfl, asb hb39 (amv rfl), ag_ (amv rfl), ag_ (abn rfl rfl), apk rfl rfl, asb hb40 (amv rfl), trivial, apk rfl rfl, aas rfl, trivial⟩
           refine awp_ret ?_
           refine thenA_r ?_
           obtain rfl := osi h
           exact ⟨⟨[B false], ⟨rot (by kernel_rfl), trivial⟩, rfl⟩, nll, Nat.le_refl _, fun n hn => absurd hn (Nat.not_lt_zero n)⟩
         ·replace h := bif_f hb39 h
          refine wrg [mv 13 (I x10.2.2.2), rp [(.tmp 85, I x10.2.2.2), ci 1] (B ((x10.2.2.2 == 1))), rp [(.tmp 86, (B ((x10.2.2.2 == 1))))] (B true), rb [(.tmp 87, B true), (.tmp 10, .ref 2 4 0 0)] [(2, (z88_11 x10))] (z88_10 x10), rp [(.tmp 87, B true)] (.agg [I 0, I 0, I 0, I 0]), rp [(.tmp 87, B true), (.tmp 88, (z88_10 x10)), (.tmp 89, (.agg [I 0, I 0, I 0, I 0]))] (B ((([x10.1.Mass, x10.1.Heat, x10.1.Silica, x10.1.Gas] : List Int) == [0, 0, 0, 0]))), rp [(.tmp 87, B true), (.tmp 90, (B ((([x10.1.Mass, x10.1.Heat, x10.1.Silica, x10.1.Gas] : List Int) == [0, 0, 0, 0])))), cb false] (B ((([x10.1.Mass, x10.1.Heat, x10.1.Silica, x10.1.Gas] : List Int) == [0, 0, 0, 0]))), rp [(.tmp 91, (B ((([x10.1.Mass, x10.1.Heat, x10.1.Silica, x10.1.Gas] : List Int) == [0, 0, 0, 0]))))] (B true), rp [(.tmp 92, B true), (.tmp 11, I x10.2.1)] (I x10.2.1), rp [(.tmp 92, B true), (.tmp 93, I x10.2.1), ci 0] (B ((x10.2.1 == 0))), rp [(.tmp 92, B true), (.tmp 94, (B ((x10.2.1 == 0)))), cb false] (B ((x10.2.1 == 0))), rp [(.tmp 95, (B ((x10.2.1 == 0))))] (B false), sk 96 (B false), sk 96 (B false), rp [(.tmp 96, B false), (.tmp 98, (.lit undef)), cb false] (B false), mv 99 (B false), sk 100 (B false), rp [(.tmp 100, B false), (.tmp 101, (.lit undef)), cb false] (B false), mv 102 (B false)] ?_ ?_
          ·exact ⟨amv rfl, abn rfl rfl, asb hb37 (amv rfl), ag_ (ald rfl ti60 (by decide) rfl (nle rfl) rfl), ag_ (astep_build (vs := []) rfl ts60 tz60 rfl (by rfl) rfl), ag_ (astep_eqs (ls := [x10.1.Mass, x10.1.Heat, x10.1.Silica, x10.1.Gas]) (ks := [0, 0, 0, 0]) rfl rfl eqt60 (by kernel_rfl) rfl rfl), apk rfl rfl, asb hb38 (amv rfl), ag_ (amv rfl), ag_ (abn rfl rfl), apk rfl rfl, asb hb39 (amv rfl), trivial, trivial, apk rfl rfl, amv rfl, trivial, apk rfl rfl, aas rfl, trivial⟩
          refine awp_ret ?_
          refine thenA_r ?_
          obtain rfl := osi h
          exact ⟨⟨[B false], ⟨rot (by kernel_rfl), trivial⟩, rfl⟩, nll, Nat.le_refl _, fun n hn => absurd hn (Nat.not_lt_zero n)⟩
        ·replace h := bif_f hb38 h
         refine wrg [mv 13 (I x10.2.2.2), rp [(.tmp 85, I x10.2.2.2), ci 1] (B ((x10.2.2.2 == 1))), rp [(.tmp 86, (B ((x10.2.2.2 == 1))))] (B true), rb [(.tmp 87, B true), (.tmp 10, .ref 2 4 0 0)] [(2, (z88_11 x10))] (z88_10 x10), rp [(.tmp 87, B true)] (.agg [I 0, I 0, I 0, I 0]), rp [(.tmp 87, B true), (.tmp 88, (z88_10 x10)), (.tmp 89, (.agg [I 0, I 0, I 0, I 0]))] (B ((([x10.1.Mass, x10.1.Heat, x10.1.Silica, x10.1.Gas] : List Int) == [0, 0, 0, 0]))), rp [(.tmp 87, B true), (.tmp 90, (B ((([x10.1.Mass, x10.1.Heat, x10.1.Silica, x10.1.Gas] : List Int) == [0, 0, 0, 0])))), cb false] (B ((([x10.1.Mass, x10.1.Heat, x10.1.Silica, x10.1.Gas] : List Int) == [0, 0, 0, 0]))), rp [(.tmp 91, (B ((([x10.1.Mass, x10.1.Heat, x10.1.Silica, x10.1.Gas] : List Int) == [0, 0, 0, 0]))))] (B false), sk 92 (B false), sk 92 (B false), rp [(.tmp 92, B false), (.tmp 94, (.lit undef)), cb false] (B false), mv 95 (B false), sk 96 (B false), sk 96 (B false), rp [(.tmp 96, B false), (.tmp 98, (.lit undef)), cb false] (B false), mv 99 (B false), sk 100 (B false), rp [(.tmp 100, B false), (.tmp 101, (.lit undef)), cb false] (B false), mv 102 (B false)] ?_ ?_
         ·exact ⟨amv rfl, abn rfl rfl, asb hb37 (amv rfl), ag_ (ald rfl ti60 (by decide) rfl (nle rfl) rfl), ag_ (astep_build (vs := []) rfl ts60 tz60 rfl (by rfl) rfl), ag_ (astep_eqs (ls := [x10.1.Mass, x10.1.Heat, x10.1.Silica, x10.1.Gas]) (ks := [0, 0, 0, 0]) rfl rfl eqt60 (by kernel_rfl) rfl rfl), apk rfl rfl, asb hb38 (amv rfl), trivial, trivial, apk rfl rfl, amv rfl, trivial, trivial, apk rfl rfl, amv rfl, trivial, apk rfl rfl, aas rfl, trivial⟩
         refine awp_ret ?_
         refine thenA_r ?_
         obtain rfl := osi h
         exact ⟨⟨[B false], ⟨rot (by kernel_rfl), trivial⟩, rfl⟩, nll, Nat.le_refl _, fun n hn => absurd hn (Nat.not_lt_zero n)⟩
       ·replace h := bif_f hb37 h
        refine wrg [mv 13 (I x10.2.2.2), rp [(.tmp 85, I x10.2.2.2), ci 1] (B ((x10.2.2.2 == 1))), rp [(.tmp 86, (B ((x10.2.2.2 == 1))))] (B false), sk 87 (B false), sk 87 (B false), sk 87 (B false), rp [(.tmp 87, B false), (.tmp 90, (.lit undef)), cb false] (B false), mv 91 (B false), sk 92 (B false), sk 92 (B false), rp [(.tmp 92, B false), (.tmp 94, (.lit undef)), cb false] (B false), mv 95 (B false), sk 96 (B false), sk 96 (B false), rp [(.tmp 96, B false), (.tmp 98, (.lit undef)), cb false] (B false), mv 99 (B false), sk 100 (B false), rp [(.tmp 100, B false), (.tmp 101, (.lit undef)), cb false] (B false), mv 102 (B false)] ?_ ?_
        ·exact ⟨amv rfl, abn rfl rfl, asb hb37 (amv rfl), trivial, trivial, trivial, apk rfl rfl, amv rfl, trivial, trivial, apk rfl rfl, amv rfl, trivial, trivial, apk rfl rfl, amv rfl, trivial, apk rfl rfl, aas rfl, trivial⟩
        refine awp_ret ?_
        refine thenA_r ?_
        obtain rfl := osi h
        exact ⟨⟨[B false], ⟨rot (by kernel_rfl), trivial⟩, rfl⟩, nll, Nat.le_refl _, fun n hn => absurd hn (Nat.not_lt_zero n)⟩
      ·replace h := bif_f hc36 h
       refine wfn hc36 (by kernel_rfl) ?_
       refine awp_skip ?_
       refine thn ?_
       exact ⟨(), h, (mto (n := 131) [(3, .ref 0 4 0 0), (5, .ref 1 3 0 0), (10, .ref 2 4 0 0), (11, I x10.2.1), (12, I x10.2.2.1), (13, I x10.2.2.2)] [0, 1, 2] [(z88_0 p0), (z88_2 p2), (z88_11 x10)] hφ0 (pc (.rn (rqr rfl)) (pc (.rn (rqr rfl)) (pc (.rn (rqr rfl)) (pc rwl (pc rwl (pc rwl pn)))))) (qc (spb (lc rwl (lc rwl (lc rwl (lc rwl ln))))) (qc (spb (lc rwl (lc rwl (lc rwl ln)))) (qc (spb (lc rwl (lc rwl (lc rwl (lc rwl ln))))) qn))))⟩
   ·skip
    refine wrg [mv 14 (I y11), rp [(.tmp 44, I y11), ci 0] (B ((y11 == 0)))] ?_ ?_
    ·exact ⟨amv rfl, abn rfl rfl, trivial⟩
    rcases bft ((y11 == 0)) with hc43 | hc43
    ·replace h := bif_t hc43 h
     refine wft hc43 (by kernel_rfl) ?_
     obtain ⟨x45, hf44, h⟩ := bno h
     refine wrg [rb [(.tmp 3, .ref 0 4 0 0)] [(0, (z88_0 p0))] (z88_1 p0), mv 1 (I p1), rp [fu 32, (.tmp 47, (z88_1 p0)), (.tmp 48, I p1)] (.tup [(z88_18 x45), I x45.2]), mv 49 (.tup [(z88_18 x45), I x45.2]), rp [(.tmp 46, (.tup [(z88_18 x45), I x45.2]))] (z88_18 x45), rp [(.tmp 46, (.tup [(z88_18 x45), I x45.2]))] (I x45.2), ⟨[], [(4, .unused)], .ref 4 4 0 0, [(4, z88_6)], false⟩, ⟨[(.tmp 15, .ref 4 4 0 0), (.tmp 50, (z88_18 x45))], [(4, z88_6)], .any, [(4, (z88_19 x45))], false⟩, mv 51 (I x45.2)] ?_ ?_
     ·exact ⟨ald rfl ti57 (by decide) rfl (nle rfl) rfl, amv rfl, apc (first := []) (cap := []) (vs := [(z88_1 p0), I p1]) rfl enter32 (ref07_TowerX_ok N p0 p1 _ hf44) rfl rfl (nlc (NLt.agg _ (nlc nll (nlc nll (nlc nll (nlc nll nl0))))) (nlc nll nl0)) (NLt.tup _ (nlc (NLt.agg _ (nlc nll (nlc nll (nlc nll (nlc nll nl0))))) (nlc nll nl0))) rfl, amv rfl, astep_extract rfl rfl, astep_extract rfl rfl, astep_alloc rfl tz57 rfl, ast rfl ti57 (by rfl) rfl (nle rfl) rfl, aas rfl, trivial⟩
     rcases bft ((x4.2.2 != 0)) with hb46 | hb46
     ·replace h := bif_t hb46 h
      refine awp_regd [mv 9 (I x4.2.2), rp [(.tmp 52, I x4.2.2), ci 0] (B ((x4.2.2 != 0))), rp [(.tmp 53, (B ((x4.2.2 != 0))))] (B true), sk 54 (B true), sk 54 (B true), sk 54 (B true), sk 54 (B true), rp [(.tmp 54, B true), cb true, (.tmp 58, (.lit undef))] (B true), mv 59 (B true), sk 60 (B true), sk 60 (B true), sk 60 (B true), rp [(.tmp 60, B true), cb true, (.tmp 63, (.lit undef))] (B true)] ?_ ?_
      ·exact ⟨amv rfl, abn rfl rfl, asb hb46 (amv rfl), trivial, trivial, trivial, trivial, apk rfl rfl, amv rfl, trivial, trivial, trivial, apk rfl rfl, trivial⟩
      refine awp_true (by kernel_rfl) ?_
      refine wrg [mc (.bool false)] ?_ ?_
      ·exact ⟨aas rfl, trivial⟩
      refine awp_ret ?_
      refine thenA_r ?_
      obtain rfl := osi h
      exact ⟨⟨[B false], ⟨rot (by kernel_rfl), trivial⟩, rfl⟩, nll, Nat.le_refl _, fun n hn => absurd hn (Nat.not_lt_zero n)⟩
     ·replace h := bif_f hb46 h
      obtain ⟨x48, hf47, h⟩ := bno h
      rcases bft ((!(([x4.1.Mass, x4.1.Heat, x4.1.Silica, x4.1.Gas] : List Int) == [x48.Mass, x48.Heat, x48.Silica, x48.Gas]))) with hb49 | hb49
      ·replace h := bif_t hb49 h
       refine awp_regd [mv 9 (I x4.2.2), rp [(.tmp 52, I x4.2.2), ci 0] (B ((x4.2.2 != 0))), rp [(.tmp 53, (B ((x4.2.2 != 0))))] (B false), rb [(.tmp 54, B false), (.tmp 7, .ref 2 4 0 0)] [(2, (z88_7 x4))] (z88_5 x4), rb [(.tmp 54, B false), (.tmp 15, .ref 4 4 0 0)] [(4, (z88_19 x45))] (z88_18 x45), rp [(.tmp 54, B false), fu 28, (.tmp 56, (z88_18 x45))] (z88_20 x48), rp [(.tmp 54, B false), (.tmp 55, (z88_5 x4)), (.tmp 57, (z88_20 x48))] (B ((!(([x4.1.Mass, x4.1.Heat, x4.1.Silica, x4.1.Gas] : List Int) == [x48.Mass, x48.Heat, x48.Silica, x48.Gas])))), rp [(.tmp 54, B false), cb true, (.tmp 58, (B ((!(([x4.1.Mass, x4.1.Heat, x4.1.Silica, x4.1.Gas] : List Int) == [x48.Mass, x48.Heat, x48.Silica, x48.Gas])))))] (B ((!(([x4.1.Mass, x4.1.Heat, x4.1.Silica, x4.1.Gas] : List Int) == [x48.Mass, x48.Heat, x48.Silica, x48.Gas])))), rp [(.tmp 59, (B ((!(([x4.1.Mass, x4.1.Heat, x4.1.Silica, x4.1.Gas] : List Int) == [x48.Mass, x48.Heat, x48.Silica, x48.Gas])))))] (B true), sk 60 (B true), sk 60 (B true), sk 60 (B true), rp [(.tmp 60, B true), cb true, (.tmp 63, (.lit undef))] (B true)] ?_ ?_
       ·exact ⟨amv rfl, abn rfl rfl, asb hb46 (amv rfl), ag_ (ald rfl ti60 (by decide) rfl (nle rfl) rfl), ag_ (ald rfl ti57 (by decide) rfl (nle rfl) rfl), ag_ (apc (first := []) (cap := []) (vs := [(z88_18 x45)]) rfl enter28 (law01_StreamX_ok N (⟨x45.1.Mass, x45.1.Heat, x45.1.Silica, x45.1.Gas⟩ : GStream) _ hf47) rfl rfl (nlc (NLt.agg _ (nlc nll (nlc nll (nlc nll (nlc nll nl0))))) nl0) (NLt.agg _ (nlc nll (nlc nll (nlc nll (nlc nll nl0))))) rfl), ag_ (astep_nes (ls := [x4.1.Mass, x4.1.Heat, x4.1.Silica, x4.1.Gas]) (ks := [x48.Mass, x48.Heat, x48.Silica, x48.Gas]) rfl rfl eqt60 (by kernel_rfl) rfl rfl), apk rfl rfl, asb hb49 (amv rfl), trivial, trivial, trivial, apk rfl rfl, trivial⟩
       refine awp_true (by kernel_rfl) ?_
       refine wrg [mc (.bool false)] ?_ ?_
       ·exact ⟨aas rfl, trivial⟩
       refine awp_ret ?_
       refine thenA_r ?_
       obtain rfl := osi h
       exact ⟨⟨[B false], ⟨rot (by kernel_rfl), trivial⟩, rfl⟩, nll, Nat.le_refl _, fun n hn => absurd hn (Nat.not_lt_zero n)⟩
      ·replace h := bif_f hb49 h
       refine awp_regd [mv 9 (I x4.2.2), rp [(.tmp 52, I x4.2.2), ci 0] (B ((x4.2.2 != 0))), rp [(.tmp 53, (B ((x4.2.2 != 0))))] (B false), rb [(.tmp 54, B false), (.tmp 7, .ref 2 4 0 0)] [(2, (z88_7 x4))] (z88_5 x4), rb [(.tmp 54, B false), (.tmp 15, .ref 4 4 0 0)] [(4, (z88_19 x45))] (z88_18 x45), rp [(.tmp 54, B false), fu 28, (.tmp 56, (z88_18 x45))] (z88_20 x48), rp [(.tmp 54, B false), (.tmp 55, (z88_5 x4)), (.tmp 57, (z88_20 x48))] (B ((!(([x4.1.Mass, x4.1.Heat, x4.1.Silica, x4.1.Gas] : List Int) == [x48.Mass, x48.Heat, x48.Silica, x48.Gas])))), rp [(.tmp 54, B false), cb true, (.tmp 58, (B ((!(([x4.1.Mass, x4.1.Heat, x4.1.Silica, x4.1.Gas] : List Int) == [x48.Mass, x48.Heat, x48.Silica, x48.Gas])))))] (B ((!(([x4.1.Mass, x4.1.Heat, x4.1.Silica, x4.1.Gas] : List Int) == [x48.Mass, x48.Heat, x48.Silica, x48.Gas])))), rp [(.tmp 59, (B ((!(([x4.1.Mass, x4.1.Heat, x4.1.Silica, x4.1.Gas] : List Int) == [x48.Mass, x48.Heat, x48.Silica, x48.Gas])))))] (B false), rp [(.tmp 60, B false), (.tmp 8, I x4.2.1)] (I x4.2.1), rp [(.tmp 60, B false), (.tmp 16, I x45.2)] (I x45.2), rp [(.tmp 60, B false), (.tmp 61, I x4.2.1), (.tmp 62, I x45.2)] (B ((x4.2.1 != x45.2))), rp [(.tmp 60, B false), cb true, (.tmp 63, (B ((x4.2.1 != x45.2))))] (B ((x4.2.1 != x45.2)))] ?_ ?_
       ·exact ⟨amv rfl, abn rfl rfl, asb hb46 (amv rfl), ag_ (ald rfl ti60 (by decide) rfl (nle rfl) rfl), ag_ (ald rfl ti57 (by decide) rfl (nle rfl) rfl), ag_ (apc (first := []) (cap := []) (vs := [(z88_18 x45)]) rfl enter28 (law01_StreamX_ok N (⟨x45.1.Mass, x45.1.Heat, x45.1.Silica, x45.1.Gas⟩ : GStream) _ hf47) rfl rfl (nlc (NLt.agg _ (nlc nll (nlc nll (nlc nll (nlc nll nl0))))) nl0) (NLt.agg _ (nlc nll (nlc nll (nlc nll (nlc nll nl0))))) rfl), ag_ (astep_nes (ls := [x4.1.Mass, x4.1.Heat, x4.1.Silica, x4.1.Gas]) (ks := [x48.Mass, x48.Heat, x48.Silica, x48.Gas]) rfl rfl eqt60 (by kernel_rfl) rfl rfl), apk rfl rfl, asb hb49 (amv rfl), ag_ (amv rfl), ag_ (amv rfl), ag_ (abn rfl rfl), apk rfl rfl, trivial⟩
       rcases bft ((x4.2.1 != x45.2)) with hc50 | hc50
       ·replace h := bif_t hc50 h
        refine wft hc50 (by kernel_rfl) ?_
        refine wrg [mc (.bool false)] ?_ ?_
        ·exact ⟨aas rfl, trivial⟩
        refine awp_ret ?_
        refine thenA_r ?_
        obtain rfl := osi h
        exact ⟨⟨[B false], ⟨rot (by kernel_rfl), trivial⟩, rfl⟩, nll, Nat.le_refl _, fun n hn => absurd hn (Nat.not_lt_zero n)⟩
       ·replace h := bif_f hc50 h
        refine wfn hc50 (by kernel_rfl) ?_
        refine awp_skip ?_
        refine thn ?_
        exact ⟨(), h, (mto (n := 131) [(3, .ref 0 4 0 0), (5, .ref 1 3 0 0), (10, .ref 3 4 0 0), (11, I x10.2.1), (12, I x10.2.2.1), (13, I x10.2.2.2)] [0, 1, 3] [(z88_0 p0), (z88_2 p2), (z88_11 x10)] hφ0 (pc (.rn (rqr rfl)) (pc (.rn (rqr rfl)) (pc (.rn (rqr rfl)) (pc rwl (pc rwl (pc rwl pn)))))) (qc (spb (lc rwl (lc rwl (lc rwl (lc rwl ln))))) (qc (spb (lc rwl (lc rwl (lc rwl ln)))) (qc (spb (lc rwl (lc rwl (lc rwl (lc rwl ln))))) qn))))⟩
    ·replace h := bif_f hc43 h
     refine wfn hc43 (by kernel_rfl) ?_
     rcases bft ((x4.2.2 != y11)) with hb51 | hb51
     ·replace h := bif_t hb51 h
      refine wrg [mv 9 (I x4.2.2), mv 14 (I y11), rp [(.tmp 65, I x4.2.2), (.tmp 66, I y11)] (B ((x4.2.2 != y11))), rp [(.tmp 67, (B ((x4.2.2 != y11))))] (B true), sk 68 (B true), sk 68 (B true), sk 68 (B true), rp [(.tmp 68, B true), cb true, (.tmp 71, (.lit undef))] (B true), mv 72 (B true), sk 73 (B true), sk 73 (B true), rp [(.tmp 73, B true), cb true, (.tmp 75, (.lit undef))] (B true)] ?_ ?_
      ·exact ⟨amv rfl, amv rfl, abn rfl rfl, asb hb51 (amv rfl), trivial, trivial, trivial, apk rfl rfl, amv rfl, trivial, trivial, apk rfl rfl, trivial⟩
      refine awp_true (by kernel_rfl) ?_
      refine wrg [mc (.bool false)] ?_ ?_
      ·exact ⟨aas rfl, trivial⟩
      refine awp_ret ?_
      refine thenA_r ?_
      obtain rfl := osi h
      exact ⟨⟨[B false], ⟨rot (by kernel_rfl), trivial⟩, rfl⟩, nll, Nat.le_refl _, fun n hn => absurd hn (Nat.not_lt_zero n)⟩
     ·replace h := bif_f hb51 h
      rcases bft ((!(([x4.1.Mass, x4.1.Heat, x4.1.Silica, x4.1.Gas] : List Int) == [0, 0, 0, 0]))) with hb52 | hb52
      ·replace h := bif_t hb52 h
       refine wrg [mv 9 (I x4.2.2), mv 14 (I y11), rp [(.tmp 65, I x4.2.2), (.tmp 66, I y11)] (B ((x4.2.2 != y11))), rp [(.tmp 67, (B ((x4.2.2 != y11))))] (B false), rb [(.tmp 68, B false), (.tmp 7, .ref 2 4 0 0)] [(2, (z88_7 x4))] (z88_5 x4), rp [(.tmp 68, B false)] (.agg [I 0, I 0, I 0, I 0]), rp [(.tmp 68, B false), (.tmp 69, (z88_5 x4)), (.tmp 70, (.agg [I 0, I 0, I 0, I 0]))] (B ((!(([x4.1.Mass, x4.1.Heat, x4.1.Silica, x4.1.Gas] : List Int) == [0, 0, 0, 0])))), rp [(.tmp 68, B false), cb true, (.tmp 71, (B ((!(([x4.1.Mass, x4.1.Heat, x4.1.Silica, x4.1.Gas] : List Int) == [0, 0, 0, 0])))))] (B ((!(([x4.1.Mass, x4.1.Heat, x4.1.Silica, x4.1.Gas] : List Int) == [0, 0, 0, 0])))), rp [(.tmp 72, (B ((!(([x4.1.Mass, x4.1.Heat, x4.1.Silica, x4.1.Gas] : List Int) == [0, 0, 0, 0])))))] (B true), sk 73 (B true), sk 73 (B true), rp [(.tmp 73, B true), cb true, (.tmp 75, (.lit undef))] (B true)] ?_ ?_
       ·exact ⟨amv rfl, amv rfl, abn rfl rfl, asb hb51 (amv rfl), ag_ (ald rfl ti60 (by decide) rfl (nle rfl) rfl), ag_ (astep_build (vs := []) rfl ts60 tz60 rfl (by rfl) rfl), ag_ (astep_nes (ls := [x4.1.Mass, x4.1.Heat, x4.1.Silica, x4.1.Gas]) (ks := [0, 0, 0, 0]) rfl rfl eqt60 (by kernel_rfl) rfl rfl), apk rfl rfl, asb hb52 (amv rfl), trivial, trivial, apk rfl rfl, trivial⟩
       refine awp_true (by kernel_rfl) ?_
       refine wrg [mc (.bool false)] ?_ ?_
       ·exact ⟨aas rfl, trivial⟩
       refine awp_ret ?_
       refine thenA_r ?_
       obtain rfl := osi h
       exact ⟨⟨[B false], ⟨rot (by kernel_rfl), trivial⟩, rfl⟩, nll, Nat.le_refl _, fun n hn => absurd hn (Nat.not_lt_zero n)⟩
      ·replace h := bif_f hb52 h
       refine wrg [mv 9 (I x4.2.2), mv 14 (I y11), rp [(.tmp 65, I x4.2.2), (.tmp 66, I y11)] (B ((x4.2.2 != y11))), rp [(.tmp 67, (B ((x4.2.2 != y11))))] (B false), rb [(.tmp 68, B false), (.tmp 7, .ref 2 4 0 0)] [(2, (z88_7 x4))] (z88_5 x4), rp [(.tmp 68, B false)] (.agg [I 0, I 0, I 0, I 0]), rp [(.tmp 68, B false), (.tmp 69, (z88_5 x4)), (.tmp 70, (.agg [I 0, I 0, I 0, I 0]))] (B ((!(([x4.1.Mass, x4.1.Heat, x4.1.Silica, x4.1.Gas] : List Int) == [0, 0, 0, 0])))), rp [(.tmp 68, B false), cb true, (.tmp 71, (B ((!(([x4.1.Mass, x4.1.Heat, x4.1.Silica, x4.1.Gas] : List Int) == [0, 0, 0, 0])))))] (B ((!(([x4.1.Mass, x4.1.Heat, x4.1.Silica, x4.1.Gas] : List Int) == [0, 0, 0, 0])))), rp [(.tmp 72, (B ((!(([x4.1.Mass, x4.1.Heat, x4.1.Silica, x4.1.Gas] : List Int) == [0, 0, 0, 0])))))] (B false), rp [(.tmp 73, B false), (.tmp 8, I x4.2.1)] (I x4.2.1), rp [(.tmp 73, B false), (.tmp 74, I x4.2.1), ci 0] (B ((x4.2.1 != 0))), rp [(.tmp 73, B false), cb true, (.tmp 75, (B ((x4.2.1 != 0))))] (B ((x4.2.1 != 0)))] ?_ ?_
       ·exact ⟨amv rfl, amv rfl, abn rfl rfl, asb hb51 (amv rfl), ag_ (ald rfl ti60 (by decide) rfl (nle rfl) rfl), ag_ (astep_build (vs := []) rfl ts60 tz60 rfl (by rfl) rfl), ag_ (astep_nes (ls := [x4.1.Mass, x4.1.Heat, x4.1.Silica, x4.1.Gas]) (ks := [0, 0, 0, 0]) rfl rfl eqt60 (by kernel_rfl) rfl rfl), apk rfl rfl, asb hb52 (amv rfl), ag_ (amv rfl), ag_ (abn rfl rfl), apk rfl rfl, trivial⟩
       rcases bft ((x4.2.1 != 0)) with hc53 | hc53
       ·replace h := bif_t hc53 h
        refine wft hc53 (by kernel_rfl) ?_
        refine wrg [mc (.bool false)] ?_ ?_
        ·exact ⟨aas rfl, trivial⟩
        refine awp_ret ?_
        refine thenA_r ?_
        obtain rfl := osi h
        exact ⟨⟨[B false], ⟨rot (by kernel_rfl), trivial⟩, rfl⟩, nll, Nat.le_refl _, fun n hn => absurd hn (Nat.not_lt_zero n)⟩
       ·replace h := bif_f hc53 h
        refine wfn hc53 (by kernel_rfl) ?_
        refine awp_skip ?_
        refine thn ?_
        exact ⟨(), h, (mto (n := 131) [(3, .ref 0 4 0 0), (5, .ref 1 3 0 0), (10, .ref 3 4 0 0), (11, I x10.2.1), (12, I x10.2.2.1), (13, I x10.2.2.2)] [0, 1, 3] [(z88_0 p0), (z88_2 p2), (z88_11 x10)] hφ0 (pc (.rn (rqr rfl)) (pc (.rn (rqr rfl)) (pc (.rn (rqr rfl)) (pc rwl (pc rwl (pc rwl pn)))))) (qc (spb (lc rwl (lc rwl (lc rwl (lc rwl ln))))) (qc (spb (lc rwl (lc rwl (lc rwl ln)))) (qc (spb (lc rwl (lc rwl (lc rwl (lc rwl ln))))) qn))))⟩
  ·skip
   obtain ⟨x55, hf54, h⟩ := bno h
   refine wrg [rb [(.tmp 3, .ref 0 4 0 0)] [(0, (z88_0 p0))] (z88_1 p0), rp [fu 31, (.tmp 38, (z88_1 p0))] (B x55), rp [(.tmp 39, B x55)] (B ((!x55)))] ?_ ?_
   ·exact ⟨ald rfl ti57 (by decide) rfl (nle rfl) rfl, apc (first := []) (cap := []) (vs := [(z88_1 p0)]) rfl enter31 (ref01_RightStreamX_ok N p0 _ hf54) rfl rfl (nlc (NLt.agg _ (nlc nll (nlc nll (nlc nll (nlc nll nl0))))) nl0) nll rfl, astep_not rfl, trivial⟩
   rcases bft ((!x55)) with hc56 | hc56
   ·replace h := bif_t hc56 h
    refine wft hc56 (by kernel_rfl) ?_
    refine awp_reg1 [mc (.int .i64 1)] ?_ ?_
    ·exact ⟨aas rfl, trivial⟩
    refine thn ?_
    exact ⟨(1), h, (mto (n := 131) [(1, I p1), (3, .ref 0 4 0 0), (5, .ref 1 3 0 0), (7, .ref 2 4 0 0), (8, I x4.2.1), (9, I x4.2.2), (10, .ref 3 4 0 0), (11, I x10.2.1), (12, I x10.2.2.1), (13, I x10.2.2.2), (14, I 1)] [0, 1, 2, 3] [(z88_0 p0), (z88_2 p2), (z88_7 x4), (z88_11 x10)] hφ0 (pc rwl (pc (.rn (rqr rfl)) (pc (.rn (rqr rfl)) (pc (.rn (rqr rfl)) (pc rwl (pc rwl (pc (.rn (rqr rfl)) (pc rwl (pc rwl (pc rwl (pc rwl pn))))))))))) (qc (spb (lc rwl (lc rwl (lc rwl (lc rwl ln))))) (qc (spb (lc rwl (lc rwl (lc rwl ln)))) (qc (spb (lc rwl (lc rwl (lc rwl (lc rwl ln))))) (qc (spb (lc rwl (lc rwl (lc rwl (lc rwl ln))))) qn)))))⟩
   ·replace h := bif_f hc56 h
    refine wfn hc56 (by kernel_rfl) ?_
    obtain ⟨x58, hf57, h⟩ := bno h
    refine wrg [mv 1 (I p1), rp [fu 25, (.tmp 41, I p1), ci 0, ci 4000] (B x58), rp [(.tmp 42, B x58)] (B ((!x58)))] ?_ ?_
    ·exact ⟨amv rfl, apc (first := []) (cap := []) (vs := [I p1, I 0, I 4000]) rfl enter25 (ref01_InX_ok N p1 0 4000 _ hf57) rfl rfl (nlc nll (nlc nll (nlc nll nl0))) nll rfl, astep_not rfl, trivial⟩
    rcases bft ((!x58)) with hc59 | hc59
    ·replace h := bif_t hc59 h
     refine wft hc59 (by kernel_rfl) ?_
     refine awp_reg1 [mc (.int .i64 2)] ?_ ?_
     ·exact ⟨aas rfl, trivial⟩
     refine thn ?_
     exact ⟨(2), h, (mto (n := 131) [(1, I p1), (3, .ref 0 4 0 0), (5, .ref 1 3 0 0), (7, .ref 2 4 0 0), (8, I x4.2.1), (9, I x4.2.2), (10, .ref 3 4 0 0), (11, I x10.2.1), (12, I x10.2.2.1), (13, I x10.2.2.2), (14, I 2)] [0, 1, 2, 3] [(z88_0 p0), (z88_2 p2), (z88_7 x4), (z88_11 x10)] hφ0 (pc rwl (pc (.rn (rqr rfl)) (pc (.rn (rqr rfl)) (pc (.rn (rqr rfl)) (pc rwl (pc rwl (pc (.rn (rqr rfl)) (pc rwl (pc rwl (pc rwl (pc rwl pn))))))))))) (qc (spb (lc rwl (lc rwl (lc rwl (lc rwl ln))))) (qc (spb (lc rwl (lc rwl (lc rwl ln)))) (qc (spb (lc rwl (lc rwl (lc rwl (lc rwl ln))))) (qc (spb (lc rwl (lc rwl (lc rwl (lc rwl ln))))) qn)))))⟩
    ·replace h := bif_f hc59 h
     refine wfn hc59 (by kernel_rfl) ?_
     refine awp_skip ?_
     refine thn ?_
     exact ⟨(0), h, (mto (n := 131) [(1, I p1), (3, .ref 0 4 0 0), (5, .ref 1 3 0 0), (7, .ref 2 4 0 0), (8, I x4.2.1), (9, I x4.2.2), (10, .ref 3 4 0 0), (11, I x10.2.1), (12, I x10.2.2.1), (13, I x10.2.2.2), (14, I 0)] [0, 1, 2, 3] [(z88_0 p0), (z88_2 p2), (z88_7 x4), (z88_11 x10)] hφ0 (pc rwl (pc (.rn (rqr rfl)) (pc (.rn (rqr rfl)) (pc (.rn (rqr rfl)) (pc rwl (pc rwl (pc (.rn (rqr rfl)) (pc rwl (pc rwl (pc rwl (pc rwl pn))))))))))) (qc (spb (lc rwl (lc rwl (lc rwl (lc rwl ln))))) (qc (spb (lc rwl (lc rwl (lc rwl ln)))) (qc (spb (lc rwl (lc rwl (lc rwl (lc rwl ln))))) (qc (spb (lc rwl (lc rwl (lc rwl (lc rwl ln))))) qn)))))⟩

end Go.Proofs.Ytlhakkkjgdbdpaa
