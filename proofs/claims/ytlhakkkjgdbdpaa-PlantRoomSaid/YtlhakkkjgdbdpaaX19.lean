/-
  Functions of the program: what they compute, as plain functions, and that they do. No conditions.
-/
import Derived.Test.YtlhakkkjgdbdpaaX14
namespace Go.Proofs.Ytlhakkkjgdbdpaa
open Go.RowKit

def law07_JobX_1_loop1 (N : Nat) (p0 : GJob) (k6 : (List GHour) → Option ((List Int) × (List GHour))) : Nat → Int → (List GHour) → Option ((List Int) × (List GHour))
  | 0, _, _ => none
  | n11 + 1, y7, y8 =>
    bif (decide (y7 < (p0.Hours.length : Int))) then
     (getI p0.Hours y7).bind fun x13 =>
     chk (decide ((y8.length + ([x13]).length) * 16 ≤ 140737488355328)) <|
     law07_JobX_1_loop1 N p0 k6 n11 (w64 (y7 + 1)) (y8 ++ ([x13]))
    else
     k6 (y8)
def law07_JobX_1 (N : Nat) (p0 : GJob) : Option ((List Int) × (List GHour)) :=
  (law07_listX N p0.Levels).bind fun x4 =>
  joinK (fun y5 =>
    some (x4, y5)) fun k6 : (List GHour) → Option ((List Int) × (List GHour)) =>
  law07_JobX_1_loop1 N p0 k6 N 0 ([] : List GHour)
def z153_0 (p0 : GJob) : AV := .dat 2 ((p0.Hours : List GHour).map c_GHour)
def z153_2 (p0 : GJob) : AV := .agg [(.dat 1 ((p0.Levels : List Int).map c_i64)), (I (p0.Ramp)), (I (p0.Start)), (I (p0.First)), (z153_0 p0)]
def z153_1 (p0 : GJob) : Slot := .own 5 [[(.dat 1 ((p0.Levels : List Int).map c_i64)), (I (p0.Ramp)), (I (p0.Start)), (I (p0.First)), (z153_0 p0)]]
def z153_3 : Slot := .own 5 [[nilS, (I (0)), (I (0)), (I (0)), nilS]]
def z153_30 (x4 : (List Int)) (p0 : GJob) : AV := .agg [(.dat 1 ((x4 : List Int).map c_i64)), (I (p0.Ramp)), (I (p0.Start)), (I (p0.First)), nilS]
def z153_31 (x4 : (List Int)) (p0 : GJob) : Slot := .own 5 [[(.dat 1 ((x4 : List Int).map c_i64)), (I (p0.Ramp)), (I (p0.Start)), (I (p0.First)), nilS]]
def z153_38 (x4 : (List Int)) (p0 : GJob) (y5 : (List GHour)) : Slot := .own 5 [[(.dat 1 ((x4 : List Int).map c_i64)), (I (p0.Ramp)), (I (p0.Start)), (I (p0.First)), (.gro 2 50 2 (y5.length))]]
def z153_39 (x4 : (List Int)) (p0 : GJob) (y5 : (List GHour)) : AV := .agg [(.dat 1 ((x4 : List Int).map c_i64)), (I (p0.Ramp)), (I (p0.Start)), (I (p0.First)), (.gro 2 50 2 (y5.length))]
def z153_40 (x4 : (List Int)) (p0 : GJob) (y5 : (List GHour)) : Slot := .own 5 [[(.dat 1 ((x4 : List Int).map c_i64)), (I (p0.Ramp)), (I (p0.Start)), (I (p0.First)), (.gro 1 50 2 (y5.length))]]
def z153_41 (x4 : (List Int)) (p0 : GJob) (y5 : (List GHour)) : AV := .agg [(.dat 1 ((x4 : List Int).map c_i64)), (I (p0.Ramp)), (I (p0.Start)), (I (p0.First)), (.gro 1 50 2 (y5.length))]
def z153_35 (x4 : (List Int)) (p0 : GJob) : Slot := .own 5 [[(.dat 1 ((x4 : List Int).map c_i64)), (I (p0.Ramp)), (I (p0.Start)), (I (p0.First)), (.gro 3 50 2 (([] : List GHour).length))]]
def z153_11 : Slot := .gro 2 ((([] : List GHour) : List GHour).map c_GHour)
def z153_44 (x4 : (List Int)) (p0 : GJob) (y8 : (List GHour)) : Slot := .own 5 [[(.dat 1 ((x4 : List Int).map c_i64)), (I (p0.Ramp)), (I (p0.Start)), (I (p0.First)), (.gro 3 50 2 (y8.length))]]
def z153_48 (y8 : (List GHour)) (x13 : GHour) : Slot := .gro 2 ((y8 ++ ([x13]) : List GHour).map c_GHour)
def z153_49 (x4 : (List Int)) (p0 : GJob) (y8 : (List GHour)) (x13 : GHour) : Slot := .own 5 [[(.dat 1 ((x4 : List Int).map c_i64)), (I (p0.Ramp)), (I (p0.Start)), (I (p0.First)), (.gro 4 50 2 ((y8 ++ ([x13])).length))]]
set_option maxRecDepth 100000 in
set_option maxHeartbeats 4000000 in
theorem law07_JobX_1_ok (N : Nat) (p0 : GJob) (r : ((List Int) × (List GHour))) (h : law07_JobX_1 N p0 = some r) : Spec Try.prog 22 [(z153_2 p0)] [] (.agg [(.dat 1 ((r.1 : List Int).map c_i64)), (I (p0.Ramp)), (I (p0.Start)), (I (p0.First)), (.gro 1 50 2 (r.2.length))]) [(.own 5 [[(.dat 1 ((r.1 : List Int).map c_i64)), (I (p0.Ramp)), (I (p0.Start)), (I (p0.First)), (.gro 1 50 2 (r.2.length))]]), (.gro 2 ((r.2 : List GHour).map c_GHour))] := by
  refine spec_of_awp Try.func22 rfl 2 (nle rfl) (fun X φ0 w0 hφ0 => ?_)
  unfold law07_JobX_1 at h
  refine awp_finm ?_
  refine wrg [⟨[(.tmp 0, (z153_2 p0))], [(0, .unused)], .ref 0 5 0 0, [(0, (z153_1 p0))], false⟩, ⟨[], [(1, .unused)], .ref 1 5 0 0, [(1, z153_3)], false⟩] ?_ ?_
  ·exact ⟨astep_box rfl (by rfl) rfl rfl, astep_alloc rfl tz47 rfl, trivial⟩
  obtain ⟨x4, hf3, h⟩ := bno h
  refine awp_regd [rb [(.tmp 1, .ref 0 5 0 0)] [(0, (z153_1 p0))] (.ref 0 5 0 0), rb [(.tmp 5, .ref 0 5 0 0)] [(0, (z153_1 p0))] (.dat 1 ((p0.Levels : List Int).map c_i64)), rp [fu 37, (.tmp 6, (.dat 1 ((p0.Levels : List Int).map c_i64)))] (.dat 1 ((x4 : List Int).map c_i64)), rb [(.tmp 1, .ref 0 5 0 0)] [(0, (z153_1 p0))] (.ref 0 5 0 1), rb [(.tmp 8, .ref 0 5 0 1)] [(0, (z153_1 p0))] (I p0.Ramp), rb [(.tmp 1, .ref 0 5 0 0)] [(0, (z153_1 p0))] (.ref 0 5 0 2), rb [(.tmp 10, .ref 0 5 0 2)] [(0, (z153_1 p0))] (I p0.Start), rb [(.tmp 1, .ref 0 5 0 0)] [(0, (z153_1 p0))] (.ref 0 5 0 3), rb [(.tmp 12, .ref 0 5 0 3)] [(0, (z153_1 p0))] (I p0.First), rp [(.tmp 7, (.dat 1 ((x4 : List Int).map c_i64))), (.tmp 9, I p0.Ramp), (.tmp 11, I p0.Start), (.tmp 13, I p0.First)] (z153_30 x4 p0), ⟨[], [(2, .unused)], .ref 2 5 0 0, [(2, z153_3)], false⟩, ⟨[(.tmp 3, .ref 2 5 0 0), (.tmp 14, (z153_30 x4 p0))], [(2, z153_3)], .any, [(2, (z153_31 x4 p0))], false⟩] ?_ ?_
  ·exact ⟨afa rfl Try.underlying40 rfl rfl ti37 (by decide) rfl, ald rfl ti37 (by decide) rfl (nle rfl) rfl, apc (first := []) (cap := []) (vs := [(.dat 1 ((p0.Levels : List Int).map c_i64))]) rfl enter37 (law07_listX_ok N p0.Levels _ hf3) rfl rfl (nlc (nld nl_i64 _) nl0) (nld nl_i64 _) rfl, afa rfl Try.underlying40 rfl rfl ti3 (by decide) rfl, ald rfl ti3 (by decide) rfl (nle rfl) rfl, afa rfl Try.underlying40 rfl rfl ti3 (by decide) rfl, ald rfl ti3 (by decide) rfl (nle rfl) rfl, afa rfl Try.underlying40 rfl rfl ti3 (by decide) rfl, ald rfl ti3 (by decide) rfl (nle rfl) rfl, astep_build (vs := [(.dat 1 ((x4 : List Int).map c_i64)), I p0.Ramp, I p0.Start, I p0.First]) rfl ts47 tz47 rfl (by rfl) rfl, astep_alloc rfl tz47 rfl, ast rfl ti47 (by rfl) rfl (nle rfl) rfl, trivial⟩
  obtain ⟨k6, hk_k6, h⟩ := jko h
  refine wjn (τ := (List GHour)) (fun t => k6 t = some r) (fun y5 => ⟨mk 41 [(2, .ref 0 5 0 0), (3, .ref 1 5 0 0)], [z153_3, (z153_38 x4 p0 y5), (.gro 2 ((y5 : List GHour).map c_GHour))]⟩) (fun y5 h => ?_) ?_
  ·subst hk_k6
   refine wrg [rb [(.tmp 3, .ref 1 5 0 0)] [(1, (z153_38 x4 p0 y5))] (z153_39 x4 p0 y5), ⟨[(.tmp 2, .ref 0 5 0 0), (.tmp 40, (z153_39 x4 p0 y5))], [(0, z153_3)], .any, [(0, (z153_38 x4 p0 y5))], false⟩] ?_ ?_
   ·exact ⟨ald rfl ti47 (by decide) rfl (nle rfl) rfl, ast rfl ti47 (by rfl) rfl (nle rfl) rfl, trivial⟩
   refine wmr (mto (n := 41) (l' := [(2, .ref 0 5 0 0)]) (own' := [(z153_40 x4 p0 y5), (.gro 2 ((y5 : List GHour).map c_GHour))]) [(2, .ref 0 5 0 0)] [0, 2] [(z153_38 x4 p0 y5), (.gro 2 ((y5 : List GHour).map c_GHour))] hφ0 (pc (.rn (rqr rfl)) pn) (qc (spb (lc (.rn (.plain _ (nld nl_i64 _))) (lc rwl (lc rwl (lc rwl (lc (.rn (rnq_gro rfl)) ln)))))) (qc (spw_grow nl_GHour) qn))) ?_
   refine awp_ret ?_
   obtain rfl := osi h
   exact ⟨_, Mor.rfl, fin_of (vs := [(z153_41 x4 p0 y5)]) ⟨resOK_cell (n := 0) (m := 5) (j := 0) (i := 0) (xs := [[(.dat 1 ((x4 : List Int).map c_i64)), I p0.Ramp, I p0.Start, I p0.First, (.gro 1 50 2 (y5.length))]]) (by kernel_rfl) (by kernel_rfl) ti47 (by decide) rfl (nle rfl) rfl, trivial⟩ rfl (NLt.agg _ (nlc (NLt.of0 (nld nl_i64 _)) (nlc (NLt.of0 nll) (nlc (NLt.of0 nll) (nlc (NLt.of0 nll) (nlc (NLt.gro _ _ _ _ (by decide)) nl0)))))) (by kernel_rfl) (snl_cons (snl_box (nlc (NLt.of0 (nld nl_i64 _)) (nlc (NLt.of0 nll) (nlc (NLt.of0 nll) (nlc (NLt.of0 nll) (nlc (NLt.gro _ _ _ _ (by decide)) nl0)))))) (snl_cons (snl_grow nl_GHour _) snl_nil))⟩
  ·skip
   refine wrg [mc (.int .i64 0)] ?_ ?_
   ·exact ⟨aas rfl, trivial⟩
   refine awp_block ?_
   refine wmr (Mor.trans (mor_nilbG (n := 3) (ty := 50) (m := 2) (q := 2) (mq := 5) (c := [(.dat 1 ((x4 : List Int).map c_i64)), I p0.Ramp, I p0.Start, I p0.First, nilS]) 4 (by kernel_rfl) (by kernel_rfl) (by kernel_rfl) (by decide)) (mto (n := 41) (l' := [(1, .ref 0 5 0 0), (2, .ref 1 5 0 0), (3, .ref 2 5 0 0), (4, I 0)]) (own' := [(z153_1 p0), z153_3, (z153_35 x4 p0), z153_11]) [(1, .ref 0 5 0 0), (2, .ref 1 5 0 0), (3, .ref 2 5 0 0), (4, I 0)] [0, 1, 2, 3] [(z153_1 p0), z153_3, (z153_35 x4 p0), z153_11] hφ0 (pc (.rn (rqr rfl)) (pc (.rn (rqr rfl)) (pc (.rn (rqr rfl)) (pc rwl pn)))) (qc (spb (lc (.rn (.plain _ (nld nl_i64 _))) (lc rwl (lc rwl (lc rwl (lc (.rn (.plain _ (nld nl_GHour _))) ln)))))) (qc (spb (lc rwl (lc rwl (lc rwl (lc rwl (lc rwl ln)))))) (qc (spb (lc (.rn (.plain _ (nld nl_i64 _))) (lc rwl (lc rwl (lc rwl (lc (.rn (rnq_gro rfl)) ln)))))) (qc (spw_grow nl_GHour) qn)))))) ?_
   refine awp_ind (τ := Int × (List GHour)) (fun n t => law07_JobX_1_loop1 N p0 k6 n t.1 t.2 = some r) (fun ⟨y7, y8⟩ => ⟨mk 41 [(1, .ref 0 5 0 0), (2, .ref 1 5 0 0), (3, .ref 2 5 0 0), (4, I y7)], [(z153_1 p0), z153_3, (z153_44 x4 p0 y8), (.gro 2 ((y8 : List GHour).map c_GHour))]⟩) (fun t h => by rw [law07_JobX_1_loop1] at h; cases h) (fun n11 ih t h => ?_) N (0, ([] : List GHour)) h
   obtain ⟨y7, y8⟩ := t
   rw [law07_JobX_1_loop1] at h
   skip
   refine wsq ?_
   refine wrg [mv 4 (I y7), rb [(.tmp 1, .ref 0 5 0 0)] [(0, (z153_1 p0))] (.ref 0 5 0 4), rb [(.tmp 16, .ref 0 5 0 4)] [(0, (z153_1 p0))] (z153_0 p0), rp [(.tmp 17, (z153_0 p0))] (I ((p0.Hours.length : Int))), rp [(.tmp 15, I y7), (.tmp 18, (I ((p0.Hours.length : Int))))] (B ((decide (y7 < (p0.Hours.length : Int)))))] ?_ ?_
   ·exact ⟨amv rfl, afa rfl Try.underlying40 rfl rfl ti38 (by decide) rfl, ald rfl ti38 (by decide) rfl (nle rfl) rfl, alm (c := c_GHour) (l := p0.Hours) (aln rfl Try.underlying38 rfl), abn rfl rfl, trivial⟩
   rcases bft ((decide (y7 < (p0.Hours.length : Int)))) with hc12 | hc12
   ·replace h := bif_t hc12 h
    refine wft hc12 (by kernel_rfl) ?_
    refine awp_skip ?_
    refine thn ?_
    refine wsq ?_
    refine awp_block ?_
    obtain ⟨x13, hg14, h⟩ := bno h
    obtain ⟨hi15, hj16⟩ := gsm hg14
    obtain ⟨ha17, h⟩ := cko h
    refine awp_regd1 [rb [(.tmp 3, .ref 2 5 0 0)] [(2, (z153_44 x4 p0 y8))] (.ref 2 5 0 4), rb [(.tmp 22, .ref 2 5 0 4)] [(2, (z153_44 x4 p0 y8))] (.gro 3 50 2 (y8.length)), rb [(.tmp 1, .ref 0 5 0 0)] [(0, (z153_1 p0))] (.ref 0 5 0 4), rb [(.tmp 24, .ref 0 5 0 4)] [(0, (z153_1 p0))] (z153_0 p0), mv 4 (I y7), rp [(.tmp 25, (z153_0 p0)), (.tmp 26, I y7)] (.dptr (c_GHour (x13)) 0), mv 27 (.dptr (c_GHour (x13)) 0), rp [(.tmp 28, (.dptr (c_GHour (x13)) 0))] (I x13.Price), rb [(.tmp 1, .ref 0 5 0 0)] [(0, (z153_1 p0))] (.ref 0 5 0 4), rb [(.tmp 30, .ref 0 5 0 4)] [(0, (z153_1 p0))] (z153_0 p0), mv 4 (I y7), rp [(.tmp 31, (z153_0 p0)), (.tmp 32, I y7)] (.dptr (c_GHour (x13)) 0), rp [(.tmp 33, (.dptr (c_GHour (x13)) 0))] (.dptr (c_GHour (x13)) 1), rp [(.tmp 34, (.dptr (c_GHour (x13)) 1))] (I x13.Most), rp [(.tmp 29, I x13.Price), (.tmp 35, I x13.Most)] (.agg [I x13.Price, I x13.Most]), rp [(.tmp 36, (.agg [I x13.Price, I x13.Most]))] (.dat 2 (([x13] : List GHour).map c_GHour)), ⟨[(.tmp 23, (.gro 3 50 2 (y8.length))), (.tmp 37, (.dat 2 (([x13] : List GHour).map c_GHour)))], [(3, (.gro 2 ((y8 : List GHour).map c_GHour))), (4, .unused)], (.gro 4 50 2 ((y8 ++ ([x13])).length)), [(3, .dead), (4, (z153_48 y8 x13))], false⟩, rb [(.tmp 3, .ref 2 5 0 0)] [(2, (z153_44 x4 p0 y8))] (.ref 2 5 0 4), ⟨[(.tmp 39, .ref 2 5 0 4), (.tmp 38, (.gro 4 50 2 ((y8 ++ ([x13])).length)))], [(2, (z153_44 x4 p0 y8))], .any, [(2, (z153_49 x4 p0 y8 x13))], false⟩] ?_ ?_
    ·exact ⟨afa rfl Try.underlying47 rfl rfl ti45 (by decide) rfl, ald rfl ti45 (by decide) rfl (nle rfl) rfl, afa rfl Try.underlying40 rfl rfl ti38 (by decide) rfl, ald rfl ti38 (by decide) rfl (nle rfl) rfl, amv rfl, aid rfl Try.underlying38 ti119 rfl rfl hi15 (mgt c_GHour hj16) rfl, afd rfl Try.underlying119 rfl rfl ti3 (by decide) rfl, ald_ rfl ti3 (by decide) (nle rfl) rfl, afa rfl Try.underlying40 rfl rfl ti38 (by decide) rfl, ald rfl ti38 (by decide) rfl (nle rfl) rfl, amv rfl, aid rfl Try.underlying38 ti119 rfl rfl hi15 (mgt c_GHour hj16) rfl, afd rfl Try.underlying119 rfl rfl ti3 (by decide) rfl, ald_ rfl ti3 (by decide) (nle rfl) rfl, astep_build (vs := [I x13.Price, I x13.Most]) rfl ts50 tz50 rfl (by rfl) rfl, astep_bslice (vs := [(.agg [I x13.Price, I x13.Most])]) rfl Try.underlying45 ti50 tz50 rfl (by decide) rfl (by decide) (by rfl) (by rfl) (by rfl) rfl, astep_appGm (c := c_GHour) (a := y8) (b := [x13]) rfl Try.underlying45 te50 rfl (ne_of_empty rfl) (by rfl) ha17 (by decide), afa rfl Try.underlying47 rfl rfl ti45 (by decide) rfl, ast rfl ti45 (by rfl) rfl (nle rfl) rfl, trivial⟩
    refine bln ?_
    refine thn ?_
    refine awp_reg1 [mv 4 (I y7), rp [(.tmp 20, I y7), ci 1] (I (w64 (y7 + 1))), mv 21 (I (w64 (y7 + 1)))] ?_ ?_
    ·exact ⟨amv rfl, abn rfl rfl, aas rfl, trivial⟩
    refine thn ?_
    exact arm (mto (n := 41) [(1, .ref 0 5 0 0), (2, .ref 1 5 0 0), (3, .ref 2 5 0 0), (4, (I (w64 (y7 + 1))))] [0, 1, 2, 4] [(z153_1 p0), z153_3, (z153_49 x4 p0 y8 x13), (z153_48 y8 x13)] hφ0 (pc (.rn (rqr rfl)) (pc (.rn (rqr rfl)) (pc (.rn (rqr rfl)) (pc rwl pn)))) (qc (spb (lc (.rn (.plain _ (nld nl_i64 _))) (lc rwl (lc rwl (lc rwl (lc (.rn (.plain _ (nld nl_GHour _))) ln)))))) (qc (spb (lc rwl (lc rwl (lc rwl (lc rwl (lc rwl ln)))))) (qc (spb (lc (.rn (.plain _ (nld nl_i64 _))) (lc rwl (lc rwl (lc rwl (lc (.rn (rnq_gro rfl)) ln)))))) (qc (spw_grow nl_GHour) qn))))) (ih (w64 (y7 + 1), y8 ++ ([x13])) h)
   ·replace h := bif_f hc12 h
    refine wfn hc12 (by kernel_rfl) ?_
    refine awp_exit ?_
    refine thenA_x ?_
    refine thenA_x ?_
    refine blockA_e rfl ?_
    refine thn ?_
    exact ⟨(y8), h, (mto (n := 41) [(2, .ref 1 5 0 0), (3, .ref 2 5 0 0)] [1, 2, 3] [z153_3, (z153_44 x4 p0 y8), (.gro 2 ((y8 : List GHour).map c_GHour))] hφ0 (pc (.rn (rqr rfl)) (pc (.rn (rqr rfl)) pn)) (qc (spb (lc rwl (lc rwl (lc rwl (lc rwl (lc rwl ln)))))) (qc (spb (lc (.rn (.plain _ (nld nl_i64 _))) (lc rwl (lc rwl (lc rwl (lc (.rn (rnq_gro rfl)) ln)))))) (qc (spw_grow nl_GHour) qn))))⟩

def law07_PlantRoomX (N : Nat) (p0 : GJob) (p1 : Int) (p2 : Int) (p3 : Int) (p4 : Int) : Option Bool :=
  (ref07_RightJobX N p0).bind fun x2 =>
  bif (!x2) then
   (law07_awakeX 2000 ).bind fun x5 =>
   some x5
  else
   (law07_JobX N p0).bind fun x7 =>
   (plant_DispatchX N x7).bind fun x9 =>
   (law07_JobX_1 N p0).bind fun x11 =>
   (some (if (w64 (p0.Ramp + ((w64 p1).tmod 4))) < 12 then w64 (p0.Ramp + ((w64 p1).tmod 4)) else 12)).bind fun x12 =>
   chk (((x11.2.length : Nat) : Int) != 0) <|
   (some ((w64 p2).tmod ((x11.2.length : Nat) : Int))).bind fun x15 =>
   chk (!x11.2.isEmpty) <|
   chk (decide (0 ≤ x15) && decide (x15.toNat < x11.2.length)) <|
   (x11.2[x15.toNat]?).bind fun x19 =>
   (some (if (w64 (x19.Most + ((w64 p3).tmod 1000001))) < 1000000 then w64 (x19.Most + ((w64 p3).tmod 1000001)) else 1000000)).bind fun x21 =>
   chk (decide (0 ≤ x15) && decide (x15.toNat < x11.2.length)) <|
   (x11.2[x15.toNat]?).bind fun x24 =>
   (some (if (w64 (p0.Start - (w64 p4))) > 0 then w64 (p0.Start - (w64 p4)) else 0)).bind fun x26 =>
   chk (decide (x11.2.length ≤ (x11.2.set x15.toNat (⟨x24.Price, x21⟩ : GHour)).length)) <|
   (plant_DispatchX N (⟨x11.1, x12, x26, p0.First, (x11.2.set x15.toNat (⟨x24.Price, x21⟩ : GHour)).take x11.2.length⟩ : GJob)).bind fun x30 =>
   bif (x9.2.2.2 != 0) then
    bif (x9.2.2.2 == 7) then
     bif (x30.2.2.2 == 0) then
      (law07_awakeX 2000 ).bind fun x35 =>
      some x35
     else
      bif (x30.2.2.2 == 7) then
       (law07_awakeX 2000 ).bind fun x38 =>
       some x38
      else
       some false
    else
     some false
   else
    bif (x30.2.2.2 == 0) then
     bif (decide (x30.2.1 ≥ x9.2.1)) then
      (law07_awakeX 2000 ).bind fun x42 =>
      some x42
     else
      some false
    else
     some false
def z152_0 (p0 : GJob) : AV := .dat 2 ((p0.Hours : List GHour).map c_GHour)
def z152_2 (p0 : GJob) : AV := .agg [(.dat 1 ((p0.Levels : List Int).map c_i64)), (I (p0.Ramp)), (I (p0.Start)), (I (p0.First)), (z152_0 p0)]
def z152_1 (p0 : GJob) : Slot := .own 5 [[(.dat 1 ((p0.Levels : List Int).map c_i64)), (I (p0.Ramp)), (I (p0.Start)), (I (p0.First)), (z152_0 p0)]]
def z152_3 (x7 : GJob) : AV := .dat 2 ((x7.Hours : List GHour).map c_GHour)
def z152_4 (x7 : GJob) : AV := .agg [(.dat 1 ((x7.Levels : List Int).map c_i64)), (I (x7.Ramp)), (I (x7.Start)), (I (x7.First)), (z152_3 x7)]
def z152_5 (x9 : ((List Int) × Int × (List (List Int)) × Int)) : AV := .dat 1 ((x9.2.2.1 : List (List Int)).map c_Li64)
def z152_7 (x11 : ((List Int) × (List GHour))) (p0 : GJob) : AV := .agg [(.dat 1 ((x11.1 : List Int).map c_i64)), (I (p0.Ramp)), (I (p0.Start)), (I (p0.First)), (.gro 2 50 2 (x11.2.length))]
def z152_6 (x11 : ((List Int) × (List GHour))) (p0 : GJob) : Slot := .own 5 [[(.dat 1 ((x11.1 : List Int).map c_i64)), (I (p0.Ramp)), (I (p0.Start)), (I (p0.First)), (.gro 2 50 2 (x11.2.length))]]
def z152_8 : Slot := .own 5 [[nilS, (I (0)), (I (0)), (I (0)), nilS]]
def z152_9 (x11 : ((List Int) × (List GHour))) (x12 : Int) (p0 : GJob) : Slot := .own 5 [[(.dat 1 ((x11.1 : List Int).map c_i64)), (I (x12)), (I (p0.Start)), (I (p0.First)), (.gro 2 50 2 (x11.2.length))]]
def z152_10 (x11 : ((List Int) × (List GHour))) (x15 : Int) (x24 : GHour) (x21 : Int) : Slot := .own 2 ((x11.2.set x15.toNat (⟨x24.Price, x21⟩ : GHour) : List GHour).map c_GHour)
def z152_11 (x11 : ((List Int) × (List GHour))) (x12 : Int) (x26 : Int) (p0 : GJob) : Slot := .own 5 [[(.dat 1 ((x11.1 : List Int).map c_i64)), (I (x12)), (I (x26)), (I (p0.First)), (.gro 2 50 2 (x11.2.length))]]
def z152_13 (x11 : ((List Int) × (List GHour))) (p0 : GJob) : AV := .agg [(.dat 1 ((x11.1 : List Int).map c_i64)), (I (p0.Ramp)), (I (p0.Start)), (I (p0.First)), (.own 2 2 (0) (x11.2.length))]
def z152_14 (x11 : ((List Int) × (List GHour))) (p0 : GJob) : Slot := .own 5 [[(.dat 1 ((x11.1 : List Int).map c_i64)), (I (p0.Ramp)), (I (p0.Start)), (I (p0.First)), (.own 2 2 (0) (x11.2.length))]]
def z152_15 (x11 : ((List Int) × (List GHour))) (x12 : Int) (x26 : Int) (p0 : GJob) : Slot := .own 5 [[(.dat 1 ((x11.1 : List Int).map c_i64)), (I (x12)), (I (x26)), (I (p0.First)), (.own 2 2 (0) (x11.2.length))]]
def z152_16 (x11 : ((List Int) × (List GHour))) (x15 : Int) (x24 : GHour) (x21 : Int) : AV := .dat 2 (((x11.2.set x15.toNat (⟨x24.Price, x21⟩ : GHour)).take x11.2.length : List GHour).map c_GHour)
def z152_17 (x11 : ((List Int) × (List GHour))) (p0 : GJob) (x15 : Int) (x24 : GHour) (x21 : Int) : AV := .agg [(.dat 1 ((x11.1 : List Int).map c_i64)), (I (p0.Ramp)), (I (p0.Start)), (I (p0.First)), (z152_16 x11 x15 x24 x21)]
def z152_18 (x11 : ((List Int) × (List GHour))) (p0 : GJob) (x15 : Int) (x24 : GHour) (x21 : Int) : Slot := .own 5 [[(.dat 1 ((x11.1 : List Int).map c_i64)), (I (p0.Ramp)), (I (p0.Start)), (I (p0.First)), (z152_16 x11 x15 x24 x21)]]
def z152_19 (x11 : ((List Int) × (List GHour))) (x12 : Int) (x26 : Int) (p0 : GJob) (x15 : Int) (x24 : GHour) (x21 : Int) : Slot := .own 5 [[(.dat 1 ((x11.1 : List Int).map c_i64)), (I (x12)), (I (x26)), (I (p0.First)), (z152_16 x11 x15 x24 x21)]]
def z152_20 (x11 : ((List Int) × (List GHour))) (x12 : Int) (x26 : Int) (p0 : GJob) (x15 : Int) (x24 : GHour) (x21 : Int) : AV := .agg [(.dat 1 ((x11.1 : List Int).map c_i64)), (I (x12)), (I (x26)), (I (p0.First)), (z152_16 x11 x15 x24 x21)]
def z152_21 (x30 : ((List Int) × Int × (List (List Int)) × Int)) : AV := .dat 1 ((x30.2.2.1 : List (List Int)).map c_Li64)
set_option maxRecDepth 100000 in
set_option maxHeartbeats 4000000 in
theorem law07_PlantRoomX_ok (N : Nat) (p0 : GJob) (p1 : Int) (p2 : Int) (p3 : Int) (p4 : Int) (r : Bool) (h : law07_PlantRoomX N p0 p1 p2 p3 p4 = some r) : Spec Try.prog 4 [(.agg (c_GJob p0)), (K .u8 p1), (K .u8 p2), (K .u32 p3), (K .u32 p4)] [] (B r) [] := by
  refine spec_of_awp Try.func4 rfl 0 (nle rfl) (fun X φ0 w0 hφ0 => ?_)
  unfold law07_PlantRoomX at h
  refine wrg [⟨[(.tmp 0, (z152_2 p0))], [(0, .unused)], .ref 0 5 0 0, [(0, (z152_1 p0))], false⟩, mc (.bool false)] ?_ ?_
  ·exact ⟨astep_box rfl (by rfl) rfl rfl, aas rfl, trivial⟩
  refine wsq ?_
  obtain ⟨x2, hf1, h⟩ := bno h
  refine wrg [rb [(.tmp 5, .ref 0 5 0 0)] [(0, (z152_1 p0))] (z152_2 p0), rp [fu 20, (.tmp 21, (z152_2 p0))] (B x2), rp [(.tmp 22, B x2)] (B ((!x2)))] ?_ ?_
  ·exact ⟨ald rfl ti40 (by decide) rfl (nle rfl) rfl, apc (first := []) (cap := []) (vs := [(z152_2 p0)]) rfl enter20 (ref07_RightJobX_ok N p0 _ hf1) rfl rfl (nlc (NLt.agg _ (nlc (nld nl_i64 _) (nlc nll (nlc nll (nlc nll (nlc (nld nl_GHour _) nl0)))))) nl0) nll rfl, astep_not rfl, trivial⟩
  rcases bft ((!x2)) with hc3 | hc3
  ·replace h := bif_t hc3 h
   refine wft hc3 (by kernel_rfl) ?_
   obtain ⟨x5, hf4, h⟩ := bno h
   refine wrg [rp [fu 17] (B x5), mv 24 (B x5)] ?_ ?_
   ·exact ⟨apc (first := []) (cap := []) (vs := []) rfl enter17 (law07_awakeX_ok 2000  _ hf4) rfl rfl nl0 nll rfl, aas rfl, trivial⟩
   refine awp_ret ?_
   refine thenA_r ?_
   obtain rfl := osi h
   exact ⟨⟨[B x5], ⟨rot (by kernel_rfl), trivial⟩, rfl⟩, nll, Nat.le_refl _, fun n hn => absurd hn (Nat.not_lt_zero n)⟩
  ·replace h := bif_f hc3 h
   refine wfn hc3 (by kernel_rfl) ?_
   refine awp_skip ?_
   refine thn ?_
   obtain ⟨x7, hf6, h⟩ := bno h
   obtain ⟨x9, hf8, h⟩ := bno h
   refine wrg [rb [(.tmp 5, .ref 0 5 0 0)] [(0, (z152_1 p0))] (z152_2 p0), rp [fu 22, (.tmp 26, (z152_2 p0))] (z152_4 x7), rp [fu 21, (.tmp 27, (z152_4 x7))] (.tup [(.dat 1 ((x9.1 : List Int).map c_i64)), I x9.2.1, (z152_5 x9), I x9.2.2.2]), mv 28 (.tup [(.dat 1 ((x9.1 : List Int).map c_i64)), I x9.2.1, (z152_5 x9), I x9.2.2.2]), rp [(.tmp 25, (.tup [(.dat 1 ((x9.1 : List Int).map c_i64)), I x9.2.1, (z152_5 x9), I x9.2.2.2]))] (.dat 1 ((x9.1 : List Int).map c_i64)), rp [(.tmp 25, (.tup [(.dat 1 ((x9.1 : List Int).map c_i64)), I x9.2.1, (z152_5 x9), I x9.2.2.2]))] (I x9.2.1), rp [(.tmp 25, (.tup [(.dat 1 ((x9.1 : List Int).map c_i64)), I x9.2.1, (z152_5 x9), I x9.2.2.2]))] (z152_5 x9), rp [(.tmp 25, (.tup [(.dat 1 ((x9.1 : List Int).map c_i64)), I x9.2.1, (z152_5 x9), I x9.2.2.2]))] (I x9.2.2.2), mv 29 (.dat 1 ((x9.1 : List Int).map c_i64)), mv 30 (I x9.2.1), mv 31 (z152_5 x9), mv 32 (I x9.2.2.2)] ?_ ?_
   ·exact ⟨ald rfl ti40 (by decide) rfl (nle rfl) rfl, apc (first := []) (cap := []) (vs := [(z152_2 p0)]) rfl enter22 (law07_JobX_ok N p0 _ hf6) rfl rfl (nlc (NLt.agg _ (nlc (nld nl_i64 _) (nlc nll (nlc nll (nlc nll (nlc (nld nl_GHour _) nl0)))))) nl0) (NLt.agg _ (nlc (nld nl_i64 _) (nlc nll (nlc nll (nlc nll (nlc (nld nl_GHour _) nl0)))))) rfl, apc (first := []) (cap := []) (vs := [(z152_4 x7)]) rfl enter21 (plant_DispatchX_ok N x7 _ hf8) rfl rfl (nlc (NLt.agg _ (nlc (nld nl_i64 _) (nlc nll (nlc nll (nlc nll (nlc (nld nl_GHour _) nl0)))))) nl0) (NLt.tup _ (nlc (nld nl_i64 _) (nlc nll (nlc (nld nl_Li64 _) (nlc nll nl0))))) rfl, amv rfl, astep_extract rfl rfl, astep_extract rfl rfl, astep_extract rfl rfl, astep_extract rfl rfl, aas rfl, aas rfl, aas rfl, aas rfl, trivial⟩
   obtain ⟨x11, hf10, h⟩ := bno h
   refine wrg [rb [(.tmp 5, .ref 0 5 0 0)] [(0, (z152_1 p0))] (z152_2 p0), ⟨[fu 22, (.tmp 33, (z152_2 p0))], [(1, .unused), (2, .unused)], (z152_7 x11 p0), [(1, (z152_6 x11 p0)), (2, (.gro 2 ((x11.2 : List GHour).map c_GHour)))], false⟩, ⟨[], [(3, .unused)], .ref 3 5 0 0, [(3, z152_8)], false⟩, ⟨[(.tmp 15, .ref 3 5 0 0), (.tmp 34, (z152_7 x11 p0))], [(3, z152_8)], .any, [(3, (z152_6 x11 p0))], false⟩] ?_ ?_
   ·exact ⟨ald rfl ti40 (by decide) rfl (nle rfl) rfl, astep_callq (first := []) (cap := []) (vs := [(z152_2 p0)]) (σr := []) (σr' := [(z152_6 x11 p0), (.gro 2 ((x11.2 : List GHour).map c_GHour))]) (res' := (z152_7 x11 p0)) [1, 2] rfl enter22 (law07_JobX_1_ok N p0 _ hf10) rfl (rn_agg (rnc (.plain _ (NLt.agg _ (nlc (nld nl_i64 _) (nlc nll (nlc nll (nlc nll (nlc (nld nl_GHour _) nl0))))))) rn0)) slw_nil (slc (srn_box (rnc (.plain _ (nld nl_i64 _)) (rnc (.plain _ nll) (rnc (.plain _ nll) (rnc (.plain _ nll) (rnc (rnj_gro rfl) rn0)))))) (slc (srn_grow nl_GHour) slw_nil)) (rn_agg (rnc (.plain _ (nld nl_i64 _)) (rnc (.plain _ nll) (rnc (.plain _ nll) (rnc (.plain _ nll) (rnc (rnj_gro rfl) rn0)))))) rfl rfl rfl, astep_alloc rfl tz47 rfl, ast rfl ti47 (by rfl) rfl (nle rfl) rfl, trivial⟩
   obtain ⟨x12, hl13, h⟩ := bno h
   refine wrg [rb [(.tmp 15, .ref 3 5 0 0)] [(3, (z152_6 x11 p0))] (.ref 3 5 0 1), rb [(.tmp 35, .ref 3 5 0 1)] [(3, (z152_6 x11 p0))] (I p0.Ramp), mv 1 (K .u8 (p1)), rp [(.tmp 37, (K .u8 (p1)))] (I (w64 p1)), rp [(.tmp 38, I (w64 p1)), ci 4] (I ((w64 p1).tmod 4)), rp [(.tmp 36, I p0.Ramp), (.tmp 39, (I ((w64 p1).tmod 4)))] (I (w64 (p0.Ramp + ((w64 p1).tmod 4)))), rp [ci 12, (.tmp 40, (I (w64 (p0.Ramp + ((w64 p1).tmod 4)))))] (I x12), rb [(.tmp 15, .ref 3 5 0 0)] [(3, (z152_6 x11 p0))] (.ref 3 5 0 1), ⟨[(.tmp 42, .ref 3 5 0 1), (.tmp 41, I x12)], [(3, (z152_6 x11 p0))], .any, [(3, (z152_9 x11 x12 p0))], false⟩] ?_ ?_
   ·exact ⟨afa rfl Try.underlying47 rfl rfl ti3 (by decide) rfl, ald rfl ti3 (by decide) rfl (nle rfl) rfl, amv rfl, acv rfl (by rw [Try.underlying5]; rfl) Try.underlying3, astep_rem rfl (by decide), abn rfl rfl, astep_i hl13 (astep_min rfl), afa rfl Try.underlying47 rfl rfl ti3 (by decide) rfl, ast rfl ti3 (by rfl) rfl (nle rfl) rfl, trivial⟩
   obtain ⟨hz14, h⟩ := cko h
   obtain ⟨x15, hl16, h⟩ := bno h
   refine wrg [mv 2 (K .u8 (p2)), rp [(.tmp 43, (K .u8 (p2)))] (I (w64 p2)), rb [(.tmp 15, .ref 3 5 0 0)] [(3, (z152_9 x11 x12 p0))] (.ref 3 5 0 4), rb [(.tmp 45, .ref 3 5 0 4)] [(3, (z152_9 x11 x12 p0))] (.gro 2 50 2 (x11.2.length)), rp [(.tmp 46, (.gro 2 50 2 (x11.2.length)))] (I (((x11.2.length : Nat) : Int))), rp [(.tmp 44, I (w64 p2)), (.tmp 47, (I (((x11.2.length : Nat) : Int))))] (I ((w64 p2).tmod ((x11.2.length : Nat) : Int))), rp [(.tmp 48, (I ((w64 p2).tmod ((x11.2.length : Nat) : Int))))] (I x15)] ?_ ?_
   ·exact ⟨amv rfl, acv rfl (by rw [Try.underlying5]; rfl) Try.underlying3, afa rfl Try.underlying47 rfl rfl ti45 (by decide) rfl, ald rfl ti45 (by decide) rfl (nle rfl) rfl, aln rfl Try.underlying45 rfl, astep_rem rfl (bne_out hz14), astep_i hl16 (aas rfl), trivial⟩
   obtain ⟨hz17, h⟩ := cko h
   obtain ⟨hi18, h⟩ := cko h
   obtain ⟨hi18a, hi18b⟩ := and_out hi18
   obtain ⟨x19, hg20, h⟩ := bno h
   obtain ⟨x21, hl22, h⟩ := bno h
   obtain ⟨hi23, h⟩ := cko h
   obtain ⟨hi23a, hi23b⟩ := and_out hi23
   obtain ⟨x24, hg25, h⟩ := bno h
   refine awp_regd [rb [(.tmp 15, .ref 3 5 0 0)] [(3, (z152_9 x11 x12 p0))] (.ref 3 5 0 4), rb [(.tmp 49, .ref 3 5 0 4)] [(3, (z152_9 x11 x12 p0))] (.gro 2 50 2 (x11.2.length)), mv 16 (I x15), rb [(.tmp 15, .ref 3 5 0 0)] [(3, (z152_9 x11 x12 p0))] (.ref 3 5 0 4), rb [(.tmp 52, .ref 3 5 0 4)] [(3, (z152_9 x11 x12 p0))] (.gro 2 50 2 (x11.2.length)), mv 16 (I x15), rb [(.tmp 53, (.gro 2 50 2 (x11.2.length))), (.tmp 54, I x15)] [(2, (.gro 2 ((x11.2 : List GHour).map c_GHour)))] (.ref 2 2 (x15.toNat) 0), rb [(.tmp 55, (.ref 2 2 (x15.toNat) 0))] [(2, (.gro 2 ((x11.2 : List GHour).map c_GHour)))] (.ref 2 2 (x15.toNat) 1), rb [(.tmp 56, (.ref 2 2 (x15.toNat) 1))] [(2, (.gro 2 ((x11.2 : List GHour).map c_GHour)))] (I x19.Most), mv 3 (K .u32 (p3)), rp [(.tmp 58, (K .u32 (p3)))] (I (w64 p3)), rp [(.tmp 59, I (w64 p3)), ci 1000001] (I ((w64 p3).tmod 1000001)), rp [(.tmp 57, I x19.Most), (.tmp 60, (I ((w64 p3).tmod 1000001)))] (I (w64 (x19.Most + ((w64 p3).tmod 1000001)))), rp [ci 1000000, (.tmp 61, (I (w64 (x19.Most + ((w64 p3).tmod 1000001)))))] (I x21), rb [(.tmp 50, (.gro 2 50 2 (x11.2.length))), (.tmp 51, I x15)] [(2, (.gro 2 ((x11.2 : List GHour).map c_GHour)))] (.ref 2 2 (x15.toNat) 0), rb [(.tmp 63, (.ref 2 2 (x15.toNat) 0))] [(2, (.gro 2 ((x11.2 : List GHour).map c_GHour)))] (.ref 2 2 (x15.toNat) 1), ⟨[(.tmp 64, (.ref 2 2 (x15.toNat) 1)), (.tmp 62, I x21)], [(2, (.gro 2 ((x11.2 : List GHour).map c_GHour)))], .any, [(2, (z152_10 x11 x15 x24 x21))], false⟩] ?_ ?_
   ·exact ⟨afa rfl Try.underlying47 rfl rfl ti45 (by decide) rfl, ald rfl ti45 (by decide) rfl (nle rfl) rfl, amv rfl, afa rfl Try.underlying47 rfl rfl ti45 (by decide) rfl, ald rfl ti45 (by decide) rfl (nle rfl) rfl, amv rfl, astep_weakB (bl' := [(2, (.own 2 ((x11.2 : List GHour).map c_GHour)))]) ⟨rfl, SLess.gro (ne_of_empty hz17), trivial⟩ (awk (rd' := [(.tmp 53, (.own 2 2 (0) (x11.2.length))), (.tmp 54, I x15)]) ⟨rfl, Less.gro, rfl, lrf, trivial⟩ (aio rfl Try.underlying45 ti50 (odt hi18a) (odt hi18b) (Nat.zero_add _))), astep_weakB (bl' := [(2, (.own 2 ((x11.2 : List GHour).map c_GHour)))]) ⟨rfl, SLess.gro (ne_of_empty hz17), trivial⟩ (afa rfl Try.underlying50 rfl rfl ti3 (by decide) rfl), astep_weakB (bl' := [(2, (.own 2 ((x11.2 : List GHour).map c_GHour)))]) ⟨rfl, SLess.gro (ne_of_empty hz17), trivial⟩ (ald rfl ti3 (by decide) (mgt c_GHour hg20) (nle rfl) rfl), amv rfl, acv rfl (by rw [Try.underlying25]; rfl) Try.underlying3, astep_rem rfl (by decide), abn rfl rfl, astep_i hl22 (astep_min rfl), astep_weakB (bl' := [(2, (.own 2 ((x11.2 : List GHour).map c_GHour)))]) ⟨rfl, SLess.gro (ne_of_empty hz17), trivial⟩ (awk (rd' := [(.tmp 50, (.own 2 2 (0) (x11.2.length))), (.tmp 51, I x15)]) ⟨rfl, Less.gro, rfl, lrf, trivial⟩ (aio rfl Try.underlying45 ti50 (odt hi23a) (odt hi23b) (Nat.zero_add _))), astep_weakB (bl' := [(2, (.own 2 ((x11.2 : List GHour).map c_GHour)))]) ⟨rfl, SLess.gro (ne_of_empty hz17), trivial⟩ (afa rfl Try.underlying50 rfl rfl ti3 (by decide) rfl), astep_weakB (bl' := [(2, (.own 2 ((x11.2 : List GHour).map c_GHour)))]) ⟨rfl, SLess.gro (ne_of_empty hz17), trivial⟩ (ast rfl ti3 (by rfl) (mgt c_GHour hg25) (nle rfl) (set_map c_GHour rfl)), trivial⟩
   obtain ⟨x26, hl27, h⟩ := bno h
   refine wrg [rb [(.tmp 15, .ref 3 5 0 0)] [(3, (z152_9 x11 x12 p0))] (.ref 3 5 0 2), rb [(.tmp 65, .ref 3 5 0 2)] [(3, (z152_9 x11 x12 p0))] (I p0.Start), mv 4 (K .u32 (p4)), rp [(.tmp 67, (K .u32 (p4)))] (I (w64 p4)), rp [(.tmp 66, I p0.Start), (.tmp 68, I (w64 p4))] (I (w64 (p0.Start - (w64 p4)))), rp [ci 0, (.tmp 69, (I (w64 (p0.Start - (w64 p4)))))] (I x26), rb [(.tmp 15, .ref 3 5 0 0)] [(3, (z152_9 x11 x12 p0))] (.ref 3 5 0 2), ⟨[(.tmp 71, .ref 3 5 0 2), (.tmp 70, I x26)], [(3, (z152_9 x11 x12 p0))], .any, [(3, (z152_11 x11 x12 x26 p0))], false⟩] ?_ ?_
   ·exact ⟨afa rfl Try.underlying47 rfl rfl ti3 (by decide) rfl, ald rfl ti3 (by decide) rfl (nle rfl) rfl, amv rfl, acv rfl (by rw [Try.underlying25]; rfl) Try.underlying3, abn rfl rfl, astep_i hl27 (astep_max rfl), afa rfl Try.underlying47 rfl rfl ti3 (by decide) rfl, ast rfl ti3 (by rfl) rfl (nle rfl) rfl, trivial⟩
   refine wmr (mor_lessq (n := 104) (l' := [(0, (z152_2 p0)), (1, (K .u8 (p1))), (2, (K .u8 (p2))), (3, (K .u32 (p3))), (4, (K .u32 (p4))), (5, .ref 0 5 0 0), (10, B false), (11, (.dat 1 ((x9.1 : List Int).map c_i64))), (12, I x9.2.1), (13, (z152_5 x9)), (14, I x9.2.2.2), (15, .ref 3 5 0 0), (16, I x15), (21, (z152_2 p0)), (22, B x2), (23, (B ((!x2)))), (25, (.tup [(.dat 1 ((x9.1 : List Int).map c_i64)), I x9.2.1, (z152_5 x9), I x9.2.2.2])), (26, (z152_2 p0)), (27, (z152_4 x7)), (28, (.tup [(.dat 1 ((x9.1 : List Int).map c_i64)), I x9.2.1, (z152_5 x9), I x9.2.2.2])), (29, (.dat 1 ((x9.1 : List Int).map c_i64))), (30, I x9.2.1), (31, (z152_5 x9)), (32, I x9.2.2.2), (33, (z152_2 p0)), (34, (z152_13 x11 p0)), (35, .ref 3 5 0 1), (36, I p0.Ramp), (37, (K .u8 (p1))), (38, I (w64 p1)), (39, (I ((w64 p1).tmod 4))), (40, (I (w64 (p0.Ramp + ((w64 p1).tmod 4))))), (41, I x12), (42, .ref 3 5 0 1), (43, (K .u8 (p2))), (44, I (w64 p2)), (45, .ref 3 5 0 4), (46, (.own 2 2 (0) (x11.2.length))), (47, (I (((x11.2.length : Nat) : Int)))), (48, (I ((w64 p2).tmod ((x11.2.length : Nat) : Int)))), (49, .ref 3 5 0 4), (50, (.own 2 2 (0) (x11.2.length))), (51, I x15), (52, .ref 3 5 0 4), (53, (.own 2 2 (0) (x11.2.length))), (54, I x15), (55, (.ref 2 2 (x15.toNat) 0)), (56, (.ref 2 2 (x15.toNat) 1)), (57, I x19.Most), (58, (K .u32 (p3))), (59, I (w64 p3)), (60, (I ((w64 p3).tmod 1000001))), (61, (I (w64 (x19.Most + ((w64 p3).tmod 1000001))))), (62, I x21), (63, (.ref 2 2 (x15.toNat) 0)), (64, (.ref 2 2 (x15.toNat) 1)), (65, .ref 3 5 0 2), (66, I p0.Start), (67, (K .u32 (p4))), (68, I (w64 p4)), (69, (I (w64 (p0.Start - (w64 p4))))), (70, I x26), (71, .ref 3 5 0 2)]) (own' := [(z152_1 p0), (z152_14 x11 p0), (z152_10 x11 x15 x24 x21), (z152_15 x11 x12 x26 p0)]) [(0, (z152_2 p0)), (1, (K .u8 (p1))), (2, (K .u8 (p2))), (3, (K .u32 (p3))), (4, (K .u32 (p4))), (5, .ref 0 5 0 0), (10, B false), (11, (.dat 1 ((x9.1 : List Int).map c_i64))), (12, I x9.2.1), (13, (z152_5 x9)), (14, I x9.2.2.2), (15, .ref 3 5 0 0), (16, I x15), (21, (z152_2 p0)), (22, B x2), (23, (B ((!x2)))), (25, (.tup [(.dat 1 ((x9.1 : List Int).map c_i64)), I x9.2.1, (z152_5 x9), I x9.2.2.2])), (26, (z152_2 p0)), (27, (z152_4 x7)), (28, (.tup [(.dat 1 ((x9.1 : List Int).map c_i64)), I x9.2.1, (z152_5 x9), I x9.2.2.2])), (29, (.dat 1 ((x9.1 : List Int).map c_i64))), (30, I x9.2.1), (31, (z152_5 x9)), (32, I x9.2.2.2), (33, (z152_2 p0)), (34, (z152_7 x11 p0)), (35, .ref 3 5 0 1), (36, I p0.Ramp), (37, (K .u8 (p1))), (38, I (w64 p1)), (39, (I ((w64 p1).tmod 4))), (40, (I (w64 (p0.Ramp + ((w64 p1).tmod 4))))), (41, I x12), (42, .ref 3 5 0 1), (43, (K .u8 (p2))), (44, I (w64 p2)), (45, .ref 3 5 0 4), (46, (.gro 2 50 2 (x11.2.length))), (47, (I (((x11.2.length : Nat) : Int)))), (48, (I ((w64 p2).tmod ((x11.2.length : Nat) : Int)))), (49, .ref 3 5 0 4), (50, (.gro 2 50 2 (x11.2.length))), (51, I x15), (52, .ref 3 5 0 4), (53, (.gro 2 50 2 (x11.2.length))), (54, I x15), (55, (.ref 2 2 (x15.toNat) 0)), (56, (.ref 2 2 (x15.toNat) 1)), (57, I x19.Most), (58, (K .u32 (p3))), (59, I (w64 p3)), (60, (I ((w64 p3).tmod 1000001))), (61, (I (w64 (x19.Most + ((w64 p3).tmod 1000001))))), (62, I x21), (63, (.ref 2 2 (x15.toNat) 0)), (64, (.ref 2 2 (x15.toNat) 1)), (65, .ref 3 5 0 2), (66, I p0.Start), (67, (K .u32 (p4))), (68, I (w64 p4)), (69, (I (w64 (p0.Start - (w64 p4))))), (70, I x26), (71, .ref 3 5 0 2)] (by kernel_rfl) (by kernel_rfl) ⟨rfl, lrf, rfl, lrf, rfl, lrf, rfl, lrf, rfl, lrf, rfl, lrf, rfl, lrf, rfl, lrf, rfl, lrf, rfl, lrf, rfl, lrf, rfl, lrf, rfl, lrf, rfl, lrf, rfl, lrf, rfl, lrf, rfl, lrf, rfl, lrf, rfl, lrf, rfl, lrf, rfl, lrf, rfl, lrf, rfl, lrf, rfl, lrf, rfl, lrf, rfl, (Less.agg ⟨lrf, lrf, lrf, lrf, Less.gro, trivial⟩), rfl, lrf, rfl, lrf, rfl, lrf, rfl, lrf, rfl, lrf, rfl, lrf, rfl, lrf, rfl, lrf, rfl, lrf, rfl, lrf, rfl, lrf, rfl, Less.gro, rfl, lrf, rfl, lrf, rfl, lrf, rfl, Less.gro, rfl, lrf, rfl, lrf, rfl, Less.gro, rfl, lrf, rfl, lrf, rfl, lrf, rfl, lrf, rfl, lrf, rfl, lrf, rfl, lrf, rfl, lrf, rfl, lrf, rfl, lrf, rfl, lrf, rfl, lrf, rfl, lrf, rfl, lrf, rfl, lrf, rfl, lrf, rfl, lrf, rfl, lrf, trivial⟩ (qc spw_sameL (qc (spw_boxr (lc lrf (lc lrf (lc lrf (lc lrf (lc Less.gro ln)))))) (qc spw_sameL (qc (spw_boxr (lc lrf (lc lrf (lc lrf (lc lrf (lc Less.gro ln)))))) qn))))) ?_
   obtain ⟨hz28, h⟩ := cko h
   refine wmr (mor_fzq (n := 104) (m := 2) (xs := (x11.2.set x15.toNat (⟨x24.Price, x21⟩ : GHour) : List GHour).map c_GHour) (l' := [(0, (z152_2 p0)), (1, (K .u8 (p1))), (2, (K .u8 (p2))), (3, (K .u32 (p3))), (4, (K .u32 (p4))), (5, .ref 0 5 0 0), (10, B false), (11, (.dat 1 ((x9.1 : List Int).map c_i64))), (12, I x9.2.1), (13, (z152_5 x9)), (14, I x9.2.2.2), (15, .ref 3 5 0 0), (16, I x15), (21, (z152_2 p0)), (22, B x2), (23, (B ((!x2)))), (25, (.tup [(.dat 1 ((x9.1 : List Int).map c_i64)), I x9.2.1, (z152_5 x9), I x9.2.2.2])), (26, (z152_2 p0)), (27, (z152_4 x7)), (28, (.tup [(.dat 1 ((x9.1 : List Int).map c_i64)), I x9.2.1, (z152_5 x9), I x9.2.2.2])), (29, (.dat 1 ((x9.1 : List Int).map c_i64))), (30, I x9.2.1), (31, (z152_5 x9)), (32, I x9.2.2.2), (33, (z152_2 p0)), (34, (z152_17 x11 p0 x15 x24 x21)), (35, .ref 3 5 0 1), (36, I p0.Ramp), (37, (K .u8 (p1))), (38, I (w64 p1)), (39, (I ((w64 p1).tmod 4))), (40, (I (w64 (p0.Ramp + ((w64 p1).tmod 4))))), (41, I x12), (42, .ref 3 5 0 1), (43, (K .u8 (p2))), (44, I (w64 p2)), (45, .ref 3 5 0 4), (46, (z152_16 x11 x15 x24 x21)), (47, (I (((x11.2.length : Nat) : Int)))), (48, (I ((w64 p2).tmod ((x11.2.length : Nat) : Int)))), (49, .ref 3 5 0 4), (50, (z152_16 x11 x15 x24 x21)), (51, I x15), (52, .ref 3 5 0 4), (53, (z152_16 x11 x15 x24 x21)), (54, I x15), (55, .any), (56, .any), (57, I x19.Most), (58, (K .u32 (p3))), (59, I (w64 p3)), (60, (I ((w64 p3).tmod 1000001))), (61, (I (w64 (x19.Most + ((w64 p3).tmod 1000001))))), (62, I x21), (63, .any), (64, .any), (65, .ref 3 5 0 2), (66, I p0.Start), (67, (K .u32 (p4))), (68, I (w64 p4)), (69, (I (w64 (p0.Start - (w64 p4))))), (70, I x26), (71, .ref 3 5 0 2)]) (own' := [(z152_1 p0), (z152_18 x11 p0 x15 x24 x21), .dead, (z152_19 x11 x12 x26 p0 x15 x24 x21)]) 2 [(0, (z152_2 p0)), (1, (K .u8 (p1))), (2, (K .u8 (p2))), (3, (K .u32 (p3))), (4, (K .u32 (p4))), (5, .ref 0 5 0 0), (10, B false), (11, (.dat 1 ((x9.1 : List Int).map c_i64))), (12, I x9.2.1), (13, (z152_5 x9)), (14, I x9.2.2.2), (15, .ref 3 5 0 0), (16, I x15), (21, (z152_2 p0)), (22, B x2), (23, (B ((!x2)))), (25, (.tup [(.dat 1 ((x9.1 : List Int).map c_i64)), I x9.2.1, (z152_5 x9), I x9.2.2.2])), (26, (z152_2 p0)), (27, (z152_4 x7)), (28, (.tup [(.dat 1 ((x9.1 : List Int).map c_i64)), I x9.2.1, (z152_5 x9), I x9.2.2.2])), (29, (.dat 1 ((x9.1 : List Int).map c_i64))), (30, I x9.2.1), (31, (z152_5 x9)), (32, I x9.2.2.2), (33, (z152_2 p0)), (34, (z152_13 x11 p0)), (35, .ref 3 5 0 1), (36, I p0.Ramp), (37, (K .u8 (p1))), (38, I (w64 p1)), (39, (I ((w64 p1).tmod 4))), (40, (I (w64 (p0.Ramp + ((w64 p1).tmod 4))))), (41, I x12), (42, .ref 3 5 0 1), (43, (K .u8 (p2))), (44, I (w64 p2)), (45, .ref 3 5 0 4), (46, (.own 2 2 (0) (x11.2.length))), (47, (I (((x11.2.length : Nat) : Int)))), (48, (I ((w64 p2).tmod ((x11.2.length : Nat) : Int)))), (49, .ref 3 5 0 4), (50, (.own 2 2 (0) (x11.2.length))), (51, I x15), (52, .ref 3 5 0 4), (53, (.own 2 2 (0) (x11.2.length))), (54, I x15), (55, (.ref 2 2 (x15.toNat) 0)), (56, (.ref 2 2 (x15.toNat) 1)), (57, I x19.Most), (58, (K .u32 (p3))), (59, I (w64 p3)), (60, (I ((w64 p3).tmod 1000001))), (61, (I (w64 (x19.Most + ((w64 p3).tmod 1000001))))), (62, I x21), (63, (.ref 2 2 (x15.toNat) 0)), (64, (.ref 2 2 (x15.toNat) 1)), (65, .ref 3 5 0 2), (66, I p0.Start), (67, (K .u32 (p4))), (68, I (w64 p4)), (69, (I (w64 (p0.Start - (w64 p4))))), (70, I x26), (71, .ref 3 5 0 2)] (by kernel_rfl) (by kernel_rfl) (by kernel_rfl) ⟨rfl, (.same _), rfl, (.same _), rfl, (.same _), rfl, (.same _), rfl, (.same _), rfl, (.same _), rfl, (.same _), rfl, (.same _), rfl, (.same _), rfl, (.same _), rfl, (.same _), rfl, (.same _), rfl, (.same _), rfl, (.same _), rfl, (.same _), rfl, (.same _), rfl, (.same _), rfl, (.same _), rfl, (.same _), rfl, (.same _), rfl, (.same _), rfl, (.same _), rfl, (.same _), rfl, (.same _), rfl, (.same _), rfl, (fz_agg ⟨(.same _), (.same _), (.same _), (.same _), (fz_take hz28), trivial⟩), rfl, (.same _), rfl, (.same _), rfl, (.same _), rfl, (.same _), rfl, (.same _), rfl, (.same _), rfl, (.same _), rfl, (.same _), rfl, (.same _), rfl, (.same _), rfl, (.same _), rfl, (fz_take hz28), rfl, (.same _), rfl, (.same _), rfl, (.same _), rfl, (fz_take hz28), rfl, (.same _), rfl, (.same _), rfl, (fz_take hz28), rfl, (.same _), rfl, (.any _), rfl, (.any _), rfl, (.same _), rfl, (.same _), rfl, (.same _), rfl, (.same _), rfl, (.same _), rfl, (.same _), rfl, (.any _), rfl, (.any _), rfl, (.same _), rfl, (.same _), rfl, (.same _), rfl, (.same _), rfl, (.same _), rfl, (.same _), rfl, (.same _), trivial⟩ (qc spw_same' (qc (spw_boxr (lc (.same _) (lc (.same _) (lc (.same _) (lc (.same _) (lc (fz_take hz28) ln)))))) (qc .dead (qc (spw_boxr (lc (.same _) (lc (.same _) (lc (.same _) (lc (.same _) (lc (fz_take hz28) ln)))))) qn))))) ?_
   obtain ⟨x30, hf29, h⟩ := bno h
   refine wrg [rb [(.tmp 15, .ref 3 5 0 0)] [(3, (z152_19 x11 x12 x26 p0 x15 x24 x21))] (z152_20 x11 x12 x26 p0 x15 x24 x21), rp [fu 21, (.tmp 73, (z152_20 x11 x12 x26 p0 x15 x24 x21))] (.tup [(.dat 1 ((x30.1 : List Int).map c_i64)), I x30.2.1, (z152_21 x30), I x30.2.2.2]), mv 74 (.tup [(.dat 1 ((x30.1 : List Int).map c_i64)), I x30.2.1, (z152_21 x30), I x30.2.2.2]), rp [(.tmp 72, (.tup [(.dat 1 ((x30.1 : List Int).map c_i64)), I x30.2.1, (z152_21 x30), I x30.2.2.2]))] (.dat 1 ((x30.1 : List Int).map c_i64)), rp [(.tmp 72, (.tup [(.dat 1 ((x30.1 : List Int).map c_i64)), I x30.2.1, (z152_21 x30), I x30.2.2.2]))] (I x30.2.1), rp [(.tmp 72, (.tup [(.dat 1 ((x30.1 : List Int).map c_i64)), I x30.2.1, (z152_21 x30), I x30.2.2.2]))] (z152_21 x30), rp [(.tmp 72, (.tup [(.dat 1 ((x30.1 : List Int).map c_i64)), I x30.2.1, (z152_21 x30), I x30.2.2.2]))] (I x30.2.2.2), mv 75 (.dat 1 ((x30.1 : List Int).map c_i64)), mv 76 (I x30.2.1), mv 77 (z152_21 x30), mv 78 (I x30.2.2.2)] ?_ ?_
   ·exact ⟨ald rfl ti47 (by decide) rfl (nle rfl) rfl, apc (first := []) (cap := []) (vs := [(z152_20 x11 x12 x26 p0 x15 x24 x21)]) rfl enter21 (plant_DispatchX_ok N (⟨x11.1, x12, x26, p0.First, (x11.2.set x15.toNat (⟨x24.Price, x21⟩ : GHour)).take x11.2.length⟩ : GJob) _ hf29) rfl rfl (nlc (NLt.agg _ (nlc (nld nl_i64 _) (nlc nll (nlc nll (nlc nll (nlc (nld nl_GHour _) nl0)))))) nl0) (NLt.tup _ (nlc (nld nl_i64 _) (nlc nll (nlc (nld nl_Li64 _) (nlc nll nl0))))) rfl, amv rfl, astep_extract rfl rfl, astep_extract rfl rfl, astep_extract rfl rfl, astep_extract rfl rfl, aas rfl, aas rfl, aas rfl, aas rfl, trivial⟩
   refine wsq ?_
   refine wrg [mv 14 (I x9.2.2.2), rp [(.tmp 79, I x9.2.2.2), ci 0] (B ((x9.2.2.2 != 0)))] ?_ ?_
   ·exact ⟨amv rfl, abn rfl rfl, trivial⟩
   rcases bft ((x9.2.2.2 != 0)) with hc31 | hc31
   ·replace h := bif_t hc31 h
    refine wft hc31 (by kernel_rfl) ?_
    rcases bft ((x9.2.2.2 == 7)) with hb32 | hb32
    ·replace h := bif_t hb32 h
     rcases bft ((x30.2.2.2 == 0)) with hb33 | hb33
     ·replace h := bif_t hb33 h
      obtain ⟨x35, hf34, h⟩ := bno h
      refine wrg [mv 14 (I x9.2.2.2), rp [(.tmp 81, I x9.2.2.2), ci 7] (B ((x9.2.2.2 == 7))), rp [(.tmp 82, (B ((x9.2.2.2 == 7))))] (B true), rp [(.tmp 83, B true), (.tmp 20, I x30.2.2.2)] (I x30.2.2.2), rp [(.tmp 83, B true), (.tmp 84, I x30.2.2.2), ci 0] (B ((x30.2.2.2 == 0))), rp [(.tmp 83, B true), (.tmp 85, (B ((x30.2.2.2 == 0))))] (B true), sk 86 (B true), sk 86 (B true), rp [(.tmp 83, B true), (.tmp 86, B true), cb true, (.tmp 88, (.lit undef))] (B true), rp [(.tmp 83, B true), (.tmp 89, B true), cb false] (B true), mv 90 (B true), rp [(.tmp 91, B true), fu 17] (B x35), rp [(.tmp 91, B true), (.tmp 92, B x35), cb false] (B x35), mv 93 (B x35)] ?_ ?_
      ·exact ⟨amv rfl, abn rfl rfl, asb hb32 (amv rfl), ag_ (amv rfl), ag_ (abn rfl rfl), asb hb33 (ag_ (amv rfl)), trivial, trivial, ag_ (apk rfl rfl), apk rfl rfl, amv rfl, ag_ (apc (first := []) (cap := []) (vs := []) rfl enter17 (law07_awakeX_ok 2000  _ hf34) rfl rfl nl0 nll rfl), apk rfl rfl, aas rfl, trivial⟩
      refine awp_ret ?_
      refine thenA_r ?_
      obtain rfl := osi h
      exact ⟨⟨[B x35], ⟨rot (by kernel_rfl), trivial⟩, rfl⟩, nll, Nat.le_refl _, fun n hn => absurd hn (Nat.not_lt_zero n)⟩
     ·replace h := bif_f hb33 h
      rcases bft ((x30.2.2.2 == 7)) with hb36 | hb36
      ·replace h := bif_t hb36 h
       obtain ⟨x38, hf37, h⟩ := bno h
       refine wrg [mv 14 (I x9.2.2.2), rp [(.tmp 81, I x9.2.2.2), ci 7] (B ((x9.2.2.2 == 7))), rp [(.tmp 82, (B ((x9.2.2.2 == 7))))] (B true), rp [(.tmp 83, B true), (.tmp 20, I x30.2.2.2)] (I x30.2.2.2), rp [(.tmp 83, B true), (.tmp 84, I x30.2.2.2), ci 0] (B ((x30.2.2.2 == 0))), rp [(.tmp 83, B true), (.tmp 85, (B ((x30.2.2.2 == 0))))] (B false), rp [(.tmp 86, B false), (.tmp 20, I x30.2.2.2)] (I x30.2.2.2), rp [(.tmp 86, B false), (.tmp 87, I x30.2.2.2), ci 7] (B ((x30.2.2.2 == 7))), rp [(.tmp 83, B true), (.tmp 86, B false), cb true, (.tmp 88, (B ((x30.2.2.2 == 7))))] (B ((x30.2.2.2 == 7))), rp [(.tmp 83, B true), (.tmp 89, (B ((x30.2.2.2 == 7)))), cb false] (B ((x30.2.2.2 == 7))), rp [(.tmp 90, (B ((x30.2.2.2 == 7))))] (B true), rp [(.tmp 91, B true), fu 17] (B x38), rp [(.tmp 91, B true), (.tmp 92, B x38), cb false] (B x38), mv 93 (B x38)] ?_ ?_
       ·exact ⟨amv rfl, abn rfl rfl, asb hb32 (amv rfl), ag_ (amv rfl), ag_ (abn rfl rfl), asb hb33 (ag_ (amv rfl)), ag_ (amv rfl), ag_ (abn rfl rfl), ag_ (apk rfl rfl), apk rfl rfl, asb hb36 (amv rfl), ag_ (apc (first := []) (cap := []) (vs := []) rfl enter17 (law07_awakeX_ok 2000  _ hf37) rfl rfl nl0 nll rfl), apk rfl rfl, aas rfl, trivial⟩
       refine awp_ret ?_
       refine thenA_r ?_
       obtain rfl := osi h
       exact ⟨⟨[B x38], ⟨rot (by kernel_rfl), trivial⟩, rfl⟩, nll, Nat.le_refl _, fun n hn => absurd hn (Nat.not_lt_zero n)⟩
      ·replace h := bif_f hb36 h
       refine wrg [mv 14 (I x9.2.2.2), rp [(.tmp 81, I x9.2.2.2), ci 7] (B ((x9.2.2.2 == 7))), rp [(.tmp 82, (B ((x9.2.2.2 == 7))))] (B true), rp [(.tmp 83, B true), (.tmp 20, I x30.2.2.2)] (I x30.2.2.2), rp [(.tmp 83, B true), (.tmp 84, I x30.2.2.2), ci 0] (B ((x30.2.2.2 == 0))), rp [(.tmp 83, B true), (.tmp 85, (B ((x30.2.2.2 == 0))))] (B false), rp [(.tmp 86, B false), (.tmp 20, I x30.2.2.2)] (I x30.2.2.2), rp [(.tmp 86, B false), (.tmp 87, I x30.2.2.2), ci 7] (B ((x30.2.2.2 == 7))), rp [(.tmp 83, B true), (.tmp 86, B false), cb true, (.tmp 88, (B ((x30.2.2.2 == 7))))] (B ((x30.2.2.2 == 7))), rp [(.tmp 83, B true), (.tmp 89, (B ((x30.2.2.2 == 7)))), cb false] (B ((x30.2.2.2 == 7))), rp [(.tmp 90, (B ((x30.2.2.2 == 7))))] (B false), sk 91 (B false), rp [(.tmp 91, B false), (.tmp 92, (.lit undef)), cb false] (B false), mv 93 (B false)] ?_ ?_
       ·exact ⟨amv rfl, abn rfl rfl, asb hb32 (amv rfl), ag_ (amv rfl), ag_ (abn rfl rfl), asb hb33 (ag_ (amv rfl)), ag_ (amv rfl), ag_ (abn rfl rfl), ag_ (apk rfl rfl), apk rfl rfl, asb hb36 (amv rfl), trivial, apk rfl rfl, aas rfl, trivial⟩
       refine awp_ret ?_
       refine thenA_r ?_
       obtain rfl := osi h
       exact ⟨⟨[B false], ⟨rot (by kernel_rfl), trivial⟩, rfl⟩, nll, Nat.le_refl _, fun n hn => absurd hn (Nat.not_lt_zero n)⟩
    ·replace h := bif_f hb32 h
     refine wrg [mv 14 (I x9.2.2.2), rp [(.tmp 81, I x9.2.2.2), ci 7] (B ((x9.2.2.2 == 7))), rp [(.tmp 82, (B ((x9.2.2.2 == 7))))] (B false), sk 83 (B false), sk 83 (B false), sk 83 (B false), sk 86 (.lit undef), sk 86 (.lit undef), sk 83 (B false), rp [(.tmp 83, B false), (.tmp 89, (.lit undef)), cb false] (B false), mv 90 (B false), sk 91 (B false), rp [(.tmp 91, B false), (.tmp 92, (.lit undef)), cb false] (B false), mv 93 (B false)] ?_ ?_
     ·exact ⟨amv rfl, abn rfl rfl, asb hb32 (amv rfl), trivial, trivial, trivial, trivial, trivial, trivial, apk rfl rfl, amv rfl, trivial, apk rfl rfl, aas rfl, trivial⟩
     refine awp_ret ?_
     refine thenA_r ?_
     obtain rfl := osi h
     exact ⟨⟨[B false], ⟨rot (by kernel_rfl), trivial⟩, rfl⟩, nll, Nat.le_refl _, fun n hn => absurd hn (Nat.not_lt_zero n)⟩
   ·replace h := bif_f hc31 h
    refine wfn hc31 (by kernel_rfl) ?_
    refine awp_skip ?_
    refine thn ?_
    rcases bft ((x30.2.2.2 == 0)) with hb39 | hb39
    ·replace h := bif_t hb39 h
     rcases bft ((decide (x30.2.1 ≥ x9.2.1))) with hb40 | hb40
     ·replace h := bif_t hb40 h
      obtain ⟨x42, hf41, h⟩ := bno h
      refine wrg [mv 20 (I x30.2.2.2), rp [(.tmp 94, I x30.2.2.2), ci 0] (B ((x30.2.2.2 == 0))), rp [(.tmp 95, (B ((x30.2.2.2 == 0))))] (B true), rp [(.tmp 96, B true), (.tmp 18, I x30.2.1)] (I x30.2.1), rp [(.tmp 96, B true), (.tmp 12, I x9.2.1)] (I x9.2.1), rp [(.tmp 96, B true), (.tmp 97, I x30.2.1), (.tmp 98, I x9.2.1)] (B ((decide (x30.2.1 ≥ x9.2.1)))), rp [(.tmp 96, B true), (.tmp 99, (B ((decide (x30.2.1 ≥ x9.2.1))))), cb false] (B ((decide (x30.2.1 ≥ x9.2.1)))), rp [(.tmp 100, (B ((decide (x30.2.1 ≥ x9.2.1)))))] (B true), rp [(.tmp 101, B true), fu 17] (B x42), rp [(.tmp 101, B true), (.tmp 102, B x42), cb false] (B x42), mv 103 (B x42)] ?_ ?_
      ·exact ⟨amv rfl, abn rfl rfl, asb hb39 (amv rfl), ag_ (amv rfl), ag_ (amv rfl), ag_ (abn rfl rfl), apk rfl rfl, asb hb40 (amv rfl), ag_ (apc (first := []) (cap := []) (vs := []) rfl enter17 (law07_awakeX_ok 2000  _ hf41) rfl rfl nl0 nll rfl), apk rfl rfl, aas rfl, trivial⟩
      refine awp_ret ?_
      obtain rfl := osi h
      exact ⟨⟨[B x42], ⟨rot (by kernel_rfl), trivial⟩, rfl⟩, nll, Nat.le_refl _, fun n hn => absurd hn (Nat.not_lt_zero n)⟩
     ·replace h := bif_f hb40 h
      refine wrg [mv 20 (I x30.2.2.2), rp [(.tmp 94, I x30.2.2.2), ci 0] (B ((x30.2.2.2 == 0))), rp [(.tmp 95, (B ((x30.2.2.2 == 0))))] (B true), rp [(.tmp 96, B true), (.tmp 18, I x30.2.1)] (I x30.2.1), rp [(.tmp 96, B true), (.tmp 12, I x9.2.1)] (I x9.2.1), rp [(.tmp 96, B true), (.tmp 97, I x30.2.1), (.tmp 98, I x9.2.1)] (B ((decide (x30.2.1 ≥ x9.2.1)))), rp [(.tmp 96, B true), (.tmp 99, (B ((decide (x30.2.1 ≥ x9.2.1))))), cb false] (B ((decide (x30.2.1 ≥ x9.2.1)))), rp [(.tmp 100, (B ((decide (x30.2.1 ≥ x9.2.1)))))] (B false), sk 101 (B false), rp [(.tmp 101, B false), (.tmp 102, (.lit undef)), cb false] (B false), mv 103 (B false)] ?_ ?_
      ·exact ⟨amv rfl, abn rfl rfl, asb hb39 (amv rfl), ag_ (amv rfl), ag_ (amv rfl), ag_ (abn rfl rfl), apk rfl rfl, asb hb40 (amv rfl), trivial, apk rfl rfl, aas rfl, trivial⟩
      refine awp_ret ?_
      obtain rfl := osi h
      exact ⟨⟨[B false], ⟨rot (by kernel_rfl), trivial⟩, rfl⟩, nll, Nat.le_refl _, fun n hn => absurd hn (Nat.not_lt_zero n)⟩
    ·replace h := bif_f hb39 h
     refine wrg [mv 20 (I x30.2.2.2), rp [(.tmp 94, I x30.2.2.2), ci 0] (B ((x30.2.2.2 == 0))), rp [(.tmp 95, (B ((x30.2.2.2 == 0))))] (B false), sk 96 (B false), sk 96 (B false), sk 96 (B false), rp [(.tmp 96, B false), (.tmp 99, (.lit undef)), cb false] (B false), mv 100 (B false), sk 101 (B false), rp [(.tmp 101, B false), (.tmp 102, (.lit undef)), cb false] (B false), mv 103 (B false)] ?_ ?_
     ·exact ⟨amv rfl, abn rfl rfl, asb hb39 (amv rfl), trivial, trivial, trivial, apk rfl rfl, amv rfl, trivial, apk rfl rfl, aas rfl, trivial⟩
     refine awp_ret ?_
     obtain rfl := osi h
     exact ⟨⟨[B false], ⟨rot (by kernel_rfl), trivial⟩, rfl⟩, nll, Nat.le_refl _, fun n hn => absurd hn (Nat.not_lt_zero n)⟩

end Go.Proofs.Ytlhakkkjgdbdpaa
