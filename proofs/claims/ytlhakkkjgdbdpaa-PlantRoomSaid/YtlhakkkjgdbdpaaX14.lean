/-
  Functions of the program: what they compute, as plain functions, and that they do. No conditions.
-/
import Derived.Test.YtlhakkkjgdbdpaaX6
namespace Go.Proofs.Ytlhakkkjgdbdpaa
open Go.RowKit

def law07_JobX_loop1 (N : Nat) (p0 : GJob) (k4 : (List GHour) → Option GJob) : Nat → Int → (List GHour) → Option GJob
  | 0, _, _ => none
  | n9 + 1, y5, y6 =>
    bif (decide (y5 < (p0.Hours.length : Int))) then
     (getI p0.Hours y5).bind fun x11 =>
     chk (decide ((y6.length + ([x11]).length) * 16 ≤ 140737488355328)) <|
     law07_JobX_loop1 N p0 k4 n9 (w64 (y5 + 1)) (y6 ++ ([x11]))
    else
     k4 (y6)
def law07_JobX (N : Nat) (p0 : GJob) : Option GJob :=
  (law07_listX N p0.Levels).bind fun x2 =>
  joinK (fun y3 =>
    some (⟨x2, p0.Ramp, p0.Start, p0.First, y3⟩ : GJob)) fun k4 : (List GHour) → Option GJob =>
  law07_JobX_loop1 N p0 k4 N 0 ([])
def z125_0 (p0 : GJob) : AV := .dat 2 ((p0.Hours : List GHour).map c_GHour)
def z125_2 (p0 : GJob) : AV := .agg [(.dat 1 ((p0.Levels : List Int).map c_i64)), (I (p0.Ramp)), (I (p0.Start)), (I (p0.First)), (z125_0 p0)]
def z125_1 (p0 : GJob) : Slot := .own 5 [[(.dat 1 ((p0.Levels : List Int).map c_i64)), (I (p0.Ramp)), (I (p0.Start)), (I (p0.First)), (z125_0 p0)]]
def z125_3 : Slot := .own 5 [[nilS, (I (0)), (I (0)), (I (0)), nilS]]
def z125_4 (x2 : (List Int)) (p0 : GJob) : AV := .agg [(.dat 1 ((x2 : List Int).map c_i64)), (I (p0.Ramp)), (I (p0.Start)), (I (p0.First)), nilS]
def z125_5 (x2 : (List Int)) (p0 : GJob) : Slot := .own 5 [[(.dat 1 ((x2 : List Int).map c_i64)), (I (p0.Ramp)), (I (p0.Start)), (I (p0.First)), nilS]]
def z125_20 (y3 : (List GHour)) : AV := .acc 2 50 2 ((y3 : List GHour).map c_GHour)
def z125_21 (x2 : (List Int)) (p0 : GJob) (y3 : (List GHour)) : Slot := .own 5 [[(.dat 1 ((x2 : List Int).map c_i64)), (I (p0.Ramp)), (I (p0.Start)), (I (p0.First)), (z125_20 y3)]]
def z125_22 (x2 : (List Int)) (p0 : GJob) (y3 : (List GHour)) : AV := .agg [(.dat 1 ((x2 : List Int).map c_i64)), (I (p0.Ramp)), (I (p0.Start)), (I (p0.First)), (z125_20 y3)]
def z125_37 (x2 : (List Int)) (p0 : GJob) (y3 : (List GHour)) : AV := .agg [(.dat 1 ((x2 : List Int).map c_i64)), (I (p0.Ramp)), (I (p0.Start)), (I (p0.First)), (.dat 2 ((y3 : List GHour).map c_GHour))]
def z125_14 : AV := .acc 3 50 2 ((([]) : List GHour).map c_GHour)
def z125_15 (x2 : (List Int)) (p0 : GJob) : Slot := .own 5 [[(.dat 1 ((x2 : List Int).map c_i64)), (I (p0.Ramp)), (I (p0.Start)), (I (p0.First)), z125_14]]
def z125_12 : AV := .acc 3 50 2 (([] : List GHour).map c_GHour)
def z125_13 (x2 : (List Int)) (p0 : GJob) : Slot := .own 5 [[(.dat 1 ((x2 : List Int).map c_i64)), (I (p0.Ramp)), (I (p0.Start)), (I (p0.First)), z125_12]]
def z125_27 (y6 : (List GHour)) : AV := .acc 3 50 2 ((y6 : List GHour).map c_GHour)
def z125_28 (x2 : (List Int)) (p0 : GJob) (y6 : (List GHour)) : Slot := .own 5 [[(.dat 1 ((x2 : List Int).map c_i64)), (I (p0.Ramp)), (I (p0.Start)), (I (p0.First)), (z125_27 y6)]]
def z125_33 (y6 : (List GHour)) (x11 : GHour) : AV := .acc 4 50 2 ((y6 ++ ([x11]) : List GHour).map c_GHour)
def z125_34 (x2 : (List Int)) (p0 : GJob) (y6 : (List GHour)) (x11 : GHour) : Slot := .own 5 [[(.dat 1 ((x2 : List Int).map c_i64)), (I (p0.Ramp)), (I (p0.Start)), (I (p0.First)), (z125_33 y6 x11)]]
set_option maxRecDepth 100000 in
set_option maxHeartbeats 4000000 in
theorem law07_JobX_ok (N : Nat) (p0 : GJob) (r : GJob) (h : law07_JobX N p0 = some r) : Spec Try.prog 22 [(.agg (c_GJob p0))] [] (.agg (c_GJob r)) [] := by
  refine spec_of_awp Try.func22 rfl 0 (nle rfl) (fun X φ0 w0 hφ0 => ?_)
  unfold law07_JobX at h
  refine wrg [⟨[(.tmp 0, (z125_2 p0))], [(0, .unused)], .ref 0 5 0 0, [(0, (z125_1 p0))], false⟩, ⟨[], [(1, .unused)], .ref 1 5 0 0, [(1, z125_3)], false⟩] ?_ ?_
  ·exact ⟨astep_box rfl (by rfl) rfl rfl, astep_alloc rfl tz47 rfl, trivial⟩
  obtain ⟨x2, hf1, h⟩ := bno h
  refine awp_regd [rb [(.tmp 1, .ref 0 5 0 0)] [(0, (z125_1 p0))] (.ref 0 5 0 0), rb [(.tmp 5, .ref 0 5 0 0)] [(0, (z125_1 p0))] (.dat 1 ((p0.Levels : List Int).map c_i64)), rp [fu 37, (.tmp 6, (.dat 1 ((p0.Levels : List Int).map c_i64)))] (.dat 1 ((x2 : List Int).map c_i64)), rb [(.tmp 1, .ref 0 5 0 0)] [(0, (z125_1 p0))] (.ref 0 5 0 1), rb [(.tmp 8, .ref 0 5 0 1)] [(0, (z125_1 p0))] (I p0.Ramp), rb [(.tmp 1, .ref 0 5 0 0)] [(0, (z125_1 p0))] (.ref 0 5 0 2), rb [(.tmp 10, .ref 0 5 0 2)] [(0, (z125_1 p0))] (I p0.Start), rb [(.tmp 1, .ref 0 5 0 0)] [(0, (z125_1 p0))] (.ref 0 5 0 3), rb [(.tmp 12, .ref 0 5 0 3)] [(0, (z125_1 p0))] (I p0.First), rp [(.tmp 7, (.dat 1 ((x2 : List Int).map c_i64))), (.tmp 9, I p0.Ramp), (.tmp 11, I p0.Start), (.tmp 13, I p0.First)] (z125_4 x2 p0), ⟨[], [(2, .unused)], .ref 2 5 0 0, [(2, z125_3)], false⟩, ⟨[(.tmp 3, .ref 2 5 0 0), (.tmp 14, (z125_4 x2 p0))], [(2, z125_3)], .any, [(2, (z125_5 x2 p0))], false⟩] ?_ ?_
  ·exact ⟨afa rfl Try.underlying40 rfl rfl ti37 (by decide) rfl, ald rfl ti37 (by decide) rfl (nle rfl) rfl, apc (first := []) (cap := []) (vs := [(.dat 1 ((p0.Levels : List Int).map c_i64))]) rfl enter37 (law07_listX_ok N p0.Levels _ hf1) rfl rfl (nlc (nld nl_i64 _) nl0) (nld nl_i64 _) rfl, afa rfl Try.underlying40 rfl rfl ti3 (by decide) rfl, ald rfl ti3 (by decide) rfl (nle rfl) rfl, afa rfl Try.underlying40 rfl rfl ti3 (by decide) rfl, ald rfl ti3 (by decide) rfl (nle rfl) rfl, afa rfl Try.underlying40 rfl rfl ti3 (by decide) rfl, ald rfl ti3 (by decide) rfl (nle rfl) rfl, astep_build (vs := [(.dat 1 ((x2 : List Int).map c_i64)), I p0.Ramp, I p0.Start, I p0.First]) rfl ts47 tz47 rfl (by rfl) rfl, astep_alloc rfl tz47 rfl, ast rfl ti47 (by rfl) rfl (nle rfl) rfl, trivial⟩
  obtain ⟨k4, hk_k4, h⟩ := jko h
  refine wjn (τ := (List GHour)) (fun t => k4 t = some r) (fun y3 => ⟨mk 41 [(2, .ref 0 5 0 0), (3, .ref 1 5 0 0)], [z125_3, (z125_21 x2 p0 y3), .tok]⟩) (fun y3 h => ?_) ?_
  ·subst hk_k4
   refine wrg [rb [(.tmp 3, .ref 1 5 0 0)] [(1, (z125_21 x2 p0 y3))] (z125_22 x2 p0 y3), ⟨[(.tmp 2, .ref 0 5 0 0), (.tmp 40, (z125_22 x2 p0 y3))], [(0, z125_3)], .any, [(0, (z125_21 x2 p0 y3))], false⟩] ?_ ?_
   ·exact ⟨ald rfl ti47 (by decide) rfl (nle rfl) rfl, ast rfl ti47 (by rfl) rfl (nle rfl) rfl, trivial⟩
   refine awp_ret ?_
   obtain rfl := osi h
   exact ⟨⟨[(z125_37 x2 p0 y3)], ⟨resOK_less (v := (z125_22 x2 p0 y3)) (resOK_cell (n := 0) (m := 5) (j := 0) (i := 0) (xs := [[(.dat 1 ((x2 : List Int).map c_i64)), I p0.Ramp, I p0.Start, I p0.First, (z125_20 y3)]]) (by kernel_rfl) (by kernel_rfl) ti47 (by decide) rfl (nle rfl) rfl) (Less.agg ⟨lrf, lrf, lrf, lrf, Less.acc, trivial⟩), trivial⟩, rfl⟩, (NLt.agg _ (nlc (nld nl_i64 _) (nlc nll (nlc nll (nlc nll (nlc (nld nl_GHour _) nl0)))))), Nat.le_refl _, fun n hn => absurd hn (Nat.not_lt_zero n)⟩
  ·skip
   refine wrg [mc (.int .i64 0)] ?_ ?_
   ·exact ⟨aas rfl, trivial⟩
   refine awp_block ?_
   refine wmr (Mor.trans (mor_nilb (n := 3) (ty := 50) (m := 2) (q := 2) (mq := 5) (c := [(.dat 1 ((x2 : List Int).map c_i64)), I p0.Ramp, I p0.Start, I p0.First, nilS]) 4 (by kernel_rfl) (by kernel_rfl) (by kernel_rfl) (by decide)) (mto (n := 41) (l' := [(1, .ref 0 5 0 0), (2, .ref 1 5 0 0), (3, .ref 2 5 0 0), (4, I 0)]) (own' := [(z125_1 p0), z125_3, (z125_15 x2 p0), .tok]) [(1, .ref 0 5 0 0), (2, .ref 1 5 0 0), (3, .ref 2 5 0 0), (4, I 0)] [0, 1, 2, 3] [(z125_1 p0), z125_3, (z125_13 x2 p0), .tok] hφ0 (pc (.rn (rqr rfl)) (pc (.rn (rqr rfl)) (pc (.rn (rqr rfl)) (pc rwl pn)))) (qc (spb (lc (.rn (.plain _ (nld nl_i64 _))) (lc rwl (lc rwl (lc rwl (lc (.rn (.plain _ (nld nl_GHour _))) ln)))))) (qc (spb (lc rwl (lc rwl (lc rwl (lc rwl (lc rwl ln)))))) (qc (spb (lc (.rn (.plain _ (nld nl_i64 _))) (lc rwl (lc rwl (lc rwl (lc (.rn (rnq_acc rfl (nl_rows nl_GHour _))) ln)))))) (qc .tok qn)))))) ?_
   refine awp_ind (τ := Int × (List GHour)) (fun n t => law07_JobX_loop1 N p0 k4 n t.1 t.2 = some r) (fun ⟨y5, y6⟩ => ⟨mk 41 [(1, .ref 0 5 0 0), (2, .ref 1 5 0 0), (3, .ref 2 5 0 0), (4, I y5)], [(z125_1 p0), z125_3, (z125_28 x2 p0 y6), .tok]⟩) (fun t h => by rw [law07_JobX_loop1] at h; cases h) (fun n9 ih t h => ?_) N (0, []) h
   obtain ⟨y5, y6⟩ := t
   rw [law07_JobX_loop1] at h
   skip
   refine wsq ?_
   refine wrg [mv 4 (I y5), rb [(.tmp 1, .ref 0 5 0 0)] [(0, (z125_1 p0))] (.ref 0 5 0 4), rb [(.tmp 16, .ref 0 5 0 4)] [(0, (z125_1 p0))] (z125_0 p0), rp [(.tmp 17, (z125_0 p0))] (I ((p0.Hours.length : Int))), rp [(.tmp 15, I y5), (.tmp 18, (I ((p0.Hours.length : Int))))] (B ((decide (y5 < (p0.Hours.length : Int)))))] ?_ ?_
   ·exact ⟨amv rfl, afa rfl Try.underlying40 rfl rfl ti38 (by decide) rfl, ald rfl ti38 (by decide) rfl (nle rfl) rfl, alm (c := c_GHour) (l := p0.Hours) (aln rfl Try.underlying38 rfl), abn rfl rfl, trivial⟩
   rcases bft ((decide (y5 < (p0.Hours.length : Int)))) with hc10 | hc10
   ·replace h := bif_t hc10 h
    refine wft hc10 (by kernel_rfl) ?_
    refine awp_skip ?_
    refine thn ?_
    refine wsq ?_
    refine awp_block ?_
    obtain ⟨x11, hg12, h⟩ := bno h
    obtain ⟨hi13, hj14⟩ := gsm hg12
    obtain ⟨ha15, h⟩ := cko h
    refine awp_regd1 [rb [(.tmp 3, .ref 2 5 0 0)] [(2, (z125_28 x2 p0 y6))] (.ref 2 5 0 4), rb [(.tmp 22, .ref 2 5 0 4)] [(2, (z125_28 x2 p0 y6))] (z125_27 y6), rb [(.tmp 1, .ref 0 5 0 0)] [(0, (z125_1 p0))] (.ref 0 5 0 4), rb [(.tmp 24, .ref 0 5 0 4)] [(0, (z125_1 p0))] (z125_0 p0), mv 4 (I y5), rp [(.tmp 25, (z125_0 p0)), (.tmp 26, I y5)] (.dptr (c_GHour (x11)) 0), mv 27 (.dptr (c_GHour (x11)) 0), rp [(.tmp 28, (.dptr (c_GHour (x11)) 0))] (I x11.Price), rb [(.tmp 1, .ref 0 5 0 0)] [(0, (z125_1 p0))] (.ref 0 5 0 4), rb [(.tmp 30, .ref 0 5 0 4)] [(0, (z125_1 p0))] (z125_0 p0), mv 4 (I y5), rp [(.tmp 31, (z125_0 p0)), (.tmp 32, I y5)] (.dptr (c_GHour (x11)) 0), rp [(.tmp 33, (.dptr (c_GHour (x11)) 0))] (.dptr (c_GHour (x11)) 1), rp [(.tmp 34, (.dptr (c_GHour (x11)) 1))] (I x11.Most), rp [(.tmp 29, I x11.Price), (.tmp 35, I x11.Most)] (.agg [I x11.Price, I x11.Most]), rp [(.tmp 36, (.agg [I x11.Price, I x11.Most]))] (.dat 2 (([x11] : List GHour).map c_GHour)), ⟨[(.tmp 23, (z125_27 y6)), (.tmp 37, (.dat 2 (([x11] : List GHour).map c_GHour)))], [(3, .tok), (4, .unused)], (z125_33 y6 x11), [(3, .dead), (4, .tok)], false⟩, rb [(.tmp 3, .ref 2 5 0 0)] [(2, (z125_28 x2 p0 y6))] (.ref 2 5 0 4), ⟨[(.tmp 39, .ref 2 5 0 4), (.tmp 38, (z125_33 y6 x11))], [(2, (z125_28 x2 p0 y6))], .any, [(2, (z125_34 x2 p0 y6 x11))], false⟩] ?_ ?_
    ·exact ⟨afa rfl Try.underlying47 rfl rfl ti45 (by decide) rfl, ald rfl ti45 (by decide) rfl (nle rfl) rfl, afa rfl Try.underlying40 rfl rfl ti38 (by decide) rfl, ald rfl ti38 (by decide) rfl (nle rfl) rfl, amv rfl, aid rfl Try.underlying38 ti119 rfl rfl hi13 (mgt c_GHour hj14) rfl, afd rfl Try.underlying119 rfl rfl ti3 (by decide) rfl, ald_ rfl ti3 (by decide) (nle rfl) rfl, afa rfl Try.underlying40 rfl rfl ti38 (by decide) rfl, ald rfl ti38 (by decide) rfl (nle rfl) rfl, amv rfl, aid rfl Try.underlying38 ti119 rfl rfl hi13 (mgt c_GHour hj14) rfl, afd rfl Try.underlying119 rfl rfl ti3 (by decide) rfl, ald_ rfl ti3 (by decide) (nle rfl) rfl, astep_build (vs := [I x11.Price, I x11.Most]) rfl ts50 tz50 rfl (by rfl) rfl, astep_bslice (vs := [(.agg [I x11.Price, I x11.Most])]) rfl Try.underlying45 ti50 tz50 rfl (by decide) rfl (by decide) (by rfl) (by rfl) (by rfl) rfl, astep_app rfl Try.underlying45 te50 (Base.acc _ _) rfl rfl (by rfl) (app_le1 c_GHour ha15) (app_le2 c_GHour ha15 (by decide)) (app_map c_GHour) rfl rfl, afa rfl Try.underlying47 rfl rfl ti45 (by decide) rfl, ast rfl ti45 (by rfl) rfl (nle rfl) rfl, trivial⟩
    refine bln ?_
    refine thn ?_
    refine awp_reg1 [mv 4 (I y5), rp [(.tmp 20, I y5), ci 1] (I (w64 (y5 + 1))), mv 21 (I (w64 (y5 + 1)))] ?_ ?_
    ·exact ⟨amv rfl, abn rfl rfl, aas rfl, trivial⟩
    refine thn ?_
    exact arm (mto (n := 41) [(1, .ref 0 5 0 0), (2, .ref 1 5 0 0), (3, .ref 2 5 0 0), (4, (I (w64 (y5 + 1))))] [0, 1, 2, 4] [(z125_1 p0), z125_3, (z125_34 x2 p0 y6 x11), .tok] hφ0 (pc (.rn (rqr rfl)) (pc (.rn (rqr rfl)) (pc (.rn (rqr rfl)) (pc rwl pn)))) (qc (spb (lc (.rn (.plain _ (nld nl_i64 _))) (lc rwl (lc rwl (lc rwl (lc (.rn (.plain _ (nld nl_GHour _))) ln)))))) (qc (spb (lc rwl (lc rwl (lc rwl (lc rwl (lc rwl ln)))))) (qc (spb (lc (.rn (.plain _ (nld nl_i64 _))) (lc rwl (lc rwl (lc rwl (lc (.rn (rnq_acc rfl (nl_rows nl_GHour _))) ln)))))) (qc .tok qn))))) (ih (w64 (y5 + 1), y6 ++ ([x11])) h)
   ·replace h := bif_f hc10 h
    refine wfn hc10 (by kernel_rfl) ?_
    refine awp_exit ?_
    refine thenA_x ?_
    refine thenA_x ?_
    refine blockA_e rfl ?_
    refine thn ?_
    exact ⟨(y6), h, (mto (n := 41) [(2, .ref 1 5 0 0), (3, .ref 2 5 0 0)] [1, 2, 3] [z125_3, (z125_28 x2 p0 y6), .tok] hφ0 (pc (.rn (rqr rfl)) (pc (.rn (rqr rfl)) pn)) (qc (spb (lc rwl (lc rwl (lc rwl (lc rwl (lc rwl ln)))))) (qc (spb (lc (.rn (.plain _ (nld nl_i64 _))) (lc rwl (lc rwl (lc rwl (lc (.rn (rnq_acc rfl (nl_rows nl_GHour _))) ln)))))) (qc .tok qn))))⟩

def ref07_RightJobX_loop1 (N : Nat) (p0 : GJob) (k2 : Unit → Option Bool) : Nat → Int → Option Bool
  | 0, _ => none
  | n17 + 1, y15 =>
    bif (decide (y15 < (p0.Hours.length : Int))) then
     (getI p0.Hours y15).bind fun x19 =>
     (ref01_InX N x19.Price (-1000) 1000).bind fun x24 =>
     bif (!x24) then
      some false
     else
      (ref01_InX N x19.Most 0 1000000).bind fun x27 =>
      bif (!x27) then
       some false
      else
       ref07_RightJobX_loop1 N p0 k2 n17 (w64 (y15 + 1))
    else
     k2 ()
def ref07_RightJobX_loop2 (N : Nat) (p0 : GJob) (k1 : Unit → Option Bool) : Nat → Int → Option Bool
  | 0, _ => none
  | n31 + 1, y29 =>
    bif (decide (y29 < (p0.Levels.length : Int))) then
     (getI p0.Levels y29).bind fun x33 =>
     bif (decide (x33 < 0)) then
      some false
     else
      bif (decide (x33 > 1000000)) then
       some false
      else
       bif (y29 == 0) then
        bif (x33 != 0) then
         some false
        else
         bif (decide (y29 > 0)) then
          (getI p0.Levels (w64 (y29 - 1))).bind fun x42 =>
          bif (decide (x33 ≤ x42)) then
           some false
          else
           ref07_RightJobX_loop2 N p0 k1 n31 (w64 (y29 + 1))
         else
          ref07_RightJobX_loop2 N p0 k1 n31 (w64 (y29 + 1))
       else
        bif (decide (y29 > 0)) then
         (getI p0.Levels (w64 (y29 - 1))).bind fun x48 =>
         bif (decide (x33 ≤ x48)) then
          some false
         else
          ref07_RightJobX_loop2 N p0 k1 n31 (w64 (y29 + 1))
        else
         ref07_RightJobX_loop2 N p0 k1 n31 (w64 (y29 + 1))
    else
     k1 ()
def ref07_RightJobX (N : Nat) (p0 : GJob) : Option Bool :=
  joinK (fun _ =>
    joinK (fun _ =>
      bif (decide ((p0.Levels.length : Int) ≥ 2)) then
       bif (decide ((p0.Levels.length : Int) ≤ 12)) then
        (ref01_InX N p0.Ramp 1 12).bind fun x6 =>
        bif x6 then
         (ref01_InX N p0.Start 0 1000000000).bind fun x9 =>
         bif x9 then
          (ref01_InX N p0.First 0 (w64 ((p0.Levels.length : Int) - 1))).bind fun x12 =>
          bif x12 then
           bif (decide ((p0.Hours.length : Int) ≥ 1)) then
            some (decide ((p0.Hours.length : Int) ≤ 100))
           else
            some false
          else
           some false
         else
          some false
        else
         some false
       else
        some false
      else
       some false) fun k2 : Unit → Option Bool =>
    ref07_RightJobX_loop1 N p0 k2 N 0) fun k1 : Unit → Option Bool =>
  ref07_RightJobX_loop2 N p0 k1 N 0
def z126_0 (p0 : GJob) : AV := .dat 2 ((p0.Hours : List GHour).map c_GHour)
def z126_2 (p0 : GJob) : AV := .agg [(.dat 1 ((p0.Levels : List Int).map c_i64)), (I (p0.Ramp)), (I (p0.Start)), (I (p0.First)), (z126_0 p0)]
def z126_1 (p0 : GJob) : Slot := .own 5 [[(.dat 1 ((p0.Levels : List Int).map c_i64)), (I (p0.Ramp)), (I (p0.Start)), (I (p0.First)), (z126_0 p0)]]
set_option maxRecDepth 100000 in
set_option maxHeartbeats 4000000 in
theorem ref07_RightJobX_ok (N : Nat) (p0 : GJob) (r : Bool) (h : ref07_RightJobX N p0 = some r) : Spec Try.prog 20 [(.agg (c_GJob p0))] [] (B r) [] := by
  refine spec_of_awp Try.func20 rfl 0 (nle rfl) (fun X φ0 w0 hφ0 => ?_)
  unfold ref07_RightJobX at h
  refine wrg [⟨[(.tmp 0, (z126_2 p0))], [(0, .unused)], .ref 0 5 0 0, [(0, (z126_1 p0))], false⟩, mc (.bool false)] ?_ ?_
  ·exact ⟨astep_box rfl (by rfl) rfl rfl, aas rfl, trivial⟩
  obtain ⟨k1, hk_k1, h⟩ := jko h
  refine wjn (τ := Unit) (fun t => k1 t = some r) (fun _ => ⟨mk 122 [(1, .ref 0 5 0 0)], [(z126_1 p0)]⟩) (fun t h => ?_) ?_
  ·subst hk_k1
   obtain ⟨k2, hk_k2, h⟩ := jko h
   refine wjn (τ := Unit) (fun t => k2 t = some r) (fun _ => ⟨mk 122 [(1, .ref 0 5 0 0)], [(z126_1 p0)]⟩) (fun t h => ?_) ?_
   ·subst hk_k2
    rcases bft ((decide ((p0.Levels.length : Int) ≥ 2))) with hb3 | hb3
    ·replace h := bif_t hb3 h
     rcases bft ((decide ((p0.Levels.length : Int) ≤ 12))) with hb4 | hb4
     ·replace h := bif_t hb4 h
      obtain ⟨x6, hf5, h⟩ := bno h
      rcases bft (x6) with hb7 | hb7
      ·replace h := bif_t hb7 h
       obtain ⟨x9, hf8, h⟩ := bno h
       rcases bft (x9) with hb10 | hb10
       ·replace h := bif_t hb10 h
        obtain ⟨x12, hf11, h⟩ := bno h
        rcases bft (x12) with hb13 | hb13
        ·replace h := bif_t hb13 h
         rcases bft ((decide ((p0.Hours.length : Int) ≥ 1))) with hb14 | hb14
         ·replace h := bif_t hb14 h
          refine wrg [rb [(.tmp 1, .ref 0 5 0 0)] [(0, (z126_1 p0))] (.ref 0 5 0 0), rb [(.tmp 81, .ref 0 5 0 0)] [(0, (z126_1 p0))] (.dat 1 ((p0.Levels : List Int).map c_i64)), rp [(.tmp 82, (.dat 1 ((p0.Levels : List Int).map c_i64)))] (I ((p0.Levels.length : Int))), rp [(.tmp 83, (I ((p0.Levels.length : Int)))), ci 2] (B ((decide ((p0.Levels.length : Int) ≥ 2)))), rp [(.tmp 84, (B ((decide ((p0.Levels.length : Int) ≥ 2)))))] (B true), rb [(.tmp 85, B true), (.tmp 1, .ref 0 5 0 0)] [(0, (z126_1 p0))] (.ref 0 5 0 0), rb [(.tmp 85, B true), (.tmp 86, .ref 0 5 0 0)] [(0, (z126_1 p0))] (.dat 1 ((p0.Levels : List Int).map c_i64)), rp [(.tmp 85, B true), (.tmp 87, (.dat 1 ((p0.Levels : List Int).map c_i64)))] (I ((p0.Levels.length : Int))), rp [(.tmp 85, B true), (.tmp 88, (I ((p0.Levels.length : Int)))), ci 12] (B ((decide ((p0.Levels.length : Int) ≤ 12)))), rp [(.tmp 85, B true), (.tmp 89, (B ((decide ((p0.Levels.length : Int) ≤ 12))))), cb false] (B ((decide ((p0.Levels.length : Int) ≤ 12)))), rp [(.tmp 90, (B ((decide ((p0.Levels.length : Int) ≤ 12)))))] (B true), rb [(.tmp 91, B true), (.tmp 1, .ref 0 5 0 0)] [(0, (z126_1 p0))] (.ref 0 5 0 1), rb [(.tmp 91, B true), (.tmp 92, .ref 0 5 0 1)] [(0, (z126_1 p0))] (I p0.Ramp), rp [(.tmp 91, B true), fu 25, (.tmp 93, I p0.Ramp), ci 1, ci 12] (B x6), rp [(.tmp 91, B true), (.tmp 94, B x6), cb false] (B x6), rp [(.tmp 95, B x6)] (B true), rb [(.tmp 96, B true), (.tmp 1, .ref 0 5 0 0)] [(0, (z126_1 p0))] (.ref 0 5 0 2), rb [(.tmp 96, B true), (.tmp 97, .ref 0 5 0 2)] [(0, (z126_1 p0))] (I p0.Start), rp [(.tmp 96, B true), fu 25, (.tmp 98, I p0.Start), ci 0, ci 1000000000] (B x9), rp [(.tmp 96, B true), (.tmp 99, B x9), cb false] (B x9), rp [(.tmp 100, B x9)] (B true), rb [(.tmp 101, B true), (.tmp 1, .ref 0 5 0 0)] [(0, (z126_1 p0))] (.ref 0 5 0 3), rb [(.tmp 101, B true), (.tmp 102, .ref 0 5 0 3)] [(0, (z126_1 p0))] (I p0.First), rb [(.tmp 101, B true), (.tmp 1, .ref 0 5 0 0)] [(0, (z126_1 p0))] (.ref 0 5 0 0), rb [(.tmp 101, B true), (.tmp 104, .ref 0 5 0 0)] [(0, (z126_1 p0))] (.dat 1 ((p0.Levels : List Int).map c_i64)), rp [(.tmp 101, B true), (.tmp 105, (.dat 1 ((p0.Levels : List Int).map c_i64)))] (I ((p0.Levels.length : Int))), rp [(.tmp 101, B true), (.tmp 106, (I ((p0.Levels.length : Int)))), ci 1] (I (w64 ((p0.Levels.length : Int) - 1))), rp [(.tmp 101, B true), fu 25, (.tmp 103, I p0.First), ci 0, (.tmp 107, (I (w64 ((p0.Levels.length : Int) - 1))))] (B x12), rp [(.tmp 101, B true), (.tmp 108, B x12), cb false] (B x12), rp [(.tmp 109, B x12)] (B true), rb [(.tmp 110, B true), (.tmp 1, .ref 0 5 0 0)] [(0, (z126_1 p0))] (.ref 0 5 0 4), rb [(.tmp 110, B true), (.tmp 111, .ref 0 5 0 4)] [(0, (z126_1 p0))] (z126_0 p0), rp [(.tmp 110, B true), (.tmp 112, (z126_0 p0))] (I ((p0.Hours.length : Int))), rp [(.tmp 110, B true), (.tmp 113, (I ((p0.Hours.length : Int)))), ci 1] (B ((decide ((p0.Hours.length : Int) ≥ 1)))), rp [(.tmp 110, B true), (.tmp 114, (B ((decide ((p0.Hours.length : Int) ≥ 1))))), cb false] (B ((decide ((p0.Hours.length : Int) ≥ 1)))), rp [(.tmp 115, (B ((decide ((p0.Hours.length : Int) ≥ 1)))))] (B true), rb [(.tmp 116, B true), (.tmp 1, .ref 0 5 0 0)] [(0, (z126_1 p0))] (.ref 0 5 0 4), rb [(.tmp 116, B true), (.tmp 117, .ref 0 5 0 4)] [(0, (z126_1 p0))] (z126_0 p0), rp [(.tmp 116, B true), (.tmp 118, (z126_0 p0))] (I ((p0.Hours.length : Int))), rp [(.tmp 116, B true), (.tmp 119, (I ((p0.Hours.length : Int)))), ci 100] (B ((decide ((p0.Hours.length : Int) ≤ 100)))), rp [(.tmp 116, B true), (.tmp 120, (B ((decide ((p0.Hours.length : Int) ≤ 100))))), cb false] (B ((decide ((p0.Hours.length : Int) ≤ 100)))), mv 121 (B ((decide ((p0.Hours.length : Int) ≤ 100))))] ?_ ?_
          ·exact ⟨afa rfl Try.underlying40 rfl rfl ti37 (by decide) rfl, ald rfl ti37 (by decide) rfl (nle rfl) rfl, alm (c := c_i64) (l := p0.Levels) (aln rfl Try.underlying37 rfl), abn rfl rfl, asb hb3 (amv rfl), ag_ (afa rfl Try.underlying40 rfl rfl ti37 (by decide) rfl), ag_ (ald rfl ti37 (by decide) rfl (nle rfl) rfl), ag_ (alm (c := c_i64) (l := p0.Levels) (aln rfl Try.underlying37 rfl)), ag_ (abn rfl rfl), apk rfl rfl, asb hb4 (amv rfl), ag_ (afa rfl Try.underlying40 rfl rfl ti3 (by decide) rfl), ag_ (ald rfl ti3 (by decide) rfl (nle rfl) rfl), ag_ (apc (first := []) (cap := []) (vs := [I p0.Ramp, I 1, I 12]) rfl enter25 (ref01_InX_ok N p0.Ramp 1 12 _ hf5) rfl rfl (nlc nll (nlc nll (nlc nll nl0))) nll rfl), apk rfl rfl, asb hb7 (amv rfl), ag_ (afa rfl Try.underlying40 rfl rfl ti3 (by decide) rfl), ag_ (ald rfl ti3 (by decide) rfl (nle rfl) rfl), ag_ (apc (first := []) (cap := []) (vs := [I p0.Start, I 0, I 1000000000]) rfl enter25 (ref01_InX_ok N p0.Start 0 1000000000 _ hf8) rfl rfl (nlc nll (nlc nll (nlc nll nl0))) nll rfl), apk rfl rfl, asb hb10 (amv rfl), ag_ (afa rfl Try.underlying40 rfl rfl ti3 (by decide) rfl), ag_ (ald rfl ti3 (by decide) rfl (nle rfl) rfl), ag_ (afa rfl Try.underlying40 rfl rfl ti37 (by decide) rfl), ag_ (ald rfl ti37 (by decide) rfl (nle rfl) rfl), ag_ (alm (c := c_i64) (l := p0.Levels) (aln rfl Try.underlying37 rfl)), ag_ (abn rfl rfl), ag_ (apc (first := []) (cap := []) (vs := [I p0.First, I 0, (I (w64 ((p0.Levels.length : Int) - 1)))]) rfl enter25 (ref01_InX_ok N p0.First 0 (w64 ((p0.Levels.length : Int) - 1)) _ hf11) rfl rfl (nlc nll (nlc nll (nlc nll nl0))) nll rfl), apk rfl rfl, asb hb13 (amv rfl), ag_ (afa rfl Try.underlying40 rfl rfl ti38 (by decide) rfl), ag_ (ald rfl ti38 (by decide) rfl (nle rfl) rfl), ag_ (alm (c := c_GHour) (l := p0.Hours) (aln rfl Try.underlying38 rfl)), ag_ (abn rfl rfl), apk rfl rfl, asb hb14 (amv rfl), ag_ (afa rfl Try.underlying40 rfl rfl ti38 (by decide) rfl), ag_ (ald rfl ti38 (by decide) rfl (nle rfl) rfl), ag_ (alm (c := c_GHour) (l := p0.Hours) (aln rfl Try.underlying38 rfl)), ag_ (abn rfl rfl), apk rfl rfl, aas rfl, trivial⟩
          refine awp_ret ?_
          obtain rfl := osi h
          exact ⟨⟨[(B ((decide ((p0.Hours.length : Int) ≤ 100))))], ⟨rot (by kernel_rfl), trivial⟩, rfl⟩, nll, Nat.le_refl _, fun n hn => absurd hn (Nat.not_lt_zero n)⟩
         ·replace h := bif_f hb14 h
          refine wrg [rb [(.tmp 1, .ref 0 5 0 0)] [(0, (z126_1 p0))] (.ref 0 5 0 0), rb [(.tmp 81, .ref 0 5 0 0)] [(0, (z126_1 p0))] (.dat 1 ((p0.Levels : List Int).map c_i64)), rp [(.tmp 82, (.dat 1 ((p0.Levels : List Int).map c_i64)))] (I ((p0.Levels.length : Int))), rp [(.tmp 83, (I ((p0.Levels.length : Int)))), ci 2] (B ((decide ((p0.Levels.length : Int) ≥ 2)))), rp [(.tmp 84, (B ((decide ((p0.Levels.length : Int) ≥ 2)))))] (B true), rb [(.tmp 85, B true), (.tmp 1, .ref 0 5 0 0)] [(0, (z126_1 p0))] (.ref 0 5 0 0), rb [(.tmp 85, B true), (.tmp 86, .ref 0 5 0 0)] [(0, (z126_1 p0))] (.dat 1 ((p0.Levels : List Int).map c_i64)), rp [(.tmp 85, B true), (.tmp 87, (.dat 1 ((p0.Levels : List Int).map c_i64)))] (I ((p0.Levels.length : Int))), rp [(.tmp 85, B true), (.tmp 88, (I ((p0.Levels.length : Int)))), ci 12] (B ((decide ((p0.Levels.length : Int) ≤ 12)))), rp [(.tmp 85, B true), (.tmp 89, (B ((decide ((p0.Levels.length : Int) ≤ 12))))), cb false] (B ((decide ((p0.Levels.length : Int) ≤ 12)))), rp [(.tmp 90, (B ((decide ((p0.Levels.length : Int) ≤ 12)))))] (B true), rb [(.tmp 91, B true), (.tmp 1, .ref 0 5 0 0)] [(0, (z126_1 p0))] (.ref 0 5 0 1), rb [(.tmp 91, B true), (.tmp 92, .ref 0 5 0 1)] [(0, (z126_1 p0))] (I p0.Ramp), rp [(.tmp 91, B true), fu 25, (.tmp 93, I p0.Ramp), ci 1, ci 12] (B x6), rp [(.tmp 91, B true), (.tmp 94, B x6), cb false] (B x6), rp [(.tmp 95, B x6)] (B true), rb [(.tmp 96, B true), (.tmp 1, .ref 0 5 0 0)] [(0, (z126_1 p0))] (.ref 0 5 0 2), rb [(.tmp 96, B true), (.tmp 97, .ref 0 5 0 2)] [(0, (z126_1 p0))] (I p0.Start), rp [(.tmp 96, B true), fu 25, (.tmp 98, I p0.Start), ci 0, ci 1000000000] (B x9), rp [(.tmp 96, B true), (.tmp 99, B x9), cb false] (B x9), rp [(.tmp 100, B x9)] (B true), rb [(.tmp 101, B true), (.tmp 1, .ref 0 5 0 0)] [(0, (z126_1 p0))] (.ref 0 5 0 3), rb [(.tmp 101, B true), (.tmp 102, .ref 0 5 0 3)] [(0, (z126_1 p0))] (I p0.First), rb [(.tmp 101, B true), (.tmp 1, .ref 0 5 0 0)] [(0, (z126_1 p0))] (.ref 0 5 0 0), rb [(.tmp 101, B true), (.tmp 104, .ref 0 5 0 0)] [(0, (z126_1 p0))] (.dat 1 ((p0.Levels : List Int).map c_i64)), rp [(.tmp 101, B true), (.tmp 105, (.dat 1 ((p0.Levels : List Int).map c_i64)))] (I ((p0.Levels.length : Int))), rp [(.tmp 101, B true), (.tmp 106, (I ((p0.Levels.length : Int)))), ci 1] (I (w64 ((p0.Levels.length : Int) - 1))), rp [(.tmp 101, B true), fu 25, (.tmp 103, I p0.First), ci 0, (.tmp 107, (I (w64 ((p0.Levels.length : Int) - 1))))] (B x12), rp [(.tmp 101, B true), (.tmp 108, B x12), cb false] (B x12), rp [(.tmp 109, B x12)] (B true), rb [(.tmp 110, B true), (.tmp 1, .ref 0 5 0 0)] [(0, (z126_1 p0))] (.ref 0 5 0 4), rb [(.tmp 110, B true), (.tmp 111, .ref 0 5 0 4)] [(0, (z126_1 p0))] (z126_0 p0), rp [(.tmp 110, B true), (.tmp 112, (z126_0 p0))] (I ((p0.Hours.length : Int))), rp [(.tmp 110, B true), (.tmp 113, (I ((p0.Hours.length : Int)))), ci 1] (B ((decide ((p0.Hours.length : Int) ≥ 1)))), rp [(.tmp 110, B true), (.tmp 114, (B ((decide ((p0.Hours.length : Int) ≥ 1))))), cb false] (B ((decide ((p0.Hours.length : Int) ≥ 1)))), rp [(.tmp 115, (B ((decide ((p0.Hours.length : Int) ≥ 1)))))] (B false), sk 116 (B false), sk 116 (B false), sk 116 (B false), sk 116 (B false), rp [(.tmp 116, B false), (.tmp 120, (.lit undef)), cb false] (B false), mv 121 (B false)] ?_ ?_
          ·exact ⟨afa rfl Try.underlying40 rfl rfl ti37 (by decide) rfl, ald rfl ti37 (by decide) rfl (nle rfl) rfl, alm (c := c_i64) (l := p0.Levels) (aln rfl Try.underlying37 rfl), abn rfl rfl, asb hb3 (amv rfl), ag_ (afa rfl Try.underlying40 rfl rfl ti37 (by decide) rfl), ag_ (ald rfl ti37 (by decide) rfl (nle rfl) rfl), ag_ (alm (c := c_i64) (l := p0.Levels) (aln rfl Try.underlying37 rfl)), ag_ (abn rfl rfl), apk rfl rfl, asb hb4 (amv rfl), ag_ (afa rfl Try.underlying40 rfl rfl ti3 (by decide) rfl), ag_ (ald rfl ti3 (by decide) rfl (nle rfl) rfl), ag_ (apc (first := []) (cap := []) (vs := [I p0.Ramp, I 1, I 12]) rfl enter25 (ref01_InX_ok N p0.Ramp 1 12 _ hf5) rfl rfl (nlc nll (nlc nll (nlc nll nl0))) nll rfl), apk rfl rfl, asb hb7 (amv rfl), ag_ (afa rfl Try.underlying40 rfl rfl ti3 (by decide) rfl), ag_ (ald rfl ti3 (by decide) rfl (nle rfl) rfl), ag_ (apc (first := []) (cap := []) (vs := [I p0.Start, I 0, I 1000000000]) rfl enter25 (ref01_InX_ok N p0.Start 0 1000000000 _ hf8) rfl rfl (nlc nll (nlc nll (nlc nll nl0))) nll rfl), apk rfl rfl, asb hb10 (amv rfl), ag_ (afa rfl Try.underlying40 rfl rfl ti3 (by decide) rfl), ag_ (ald rfl ti3 (by decide) rfl (nle rfl) rfl), ag_ (afa rfl Try.underlying40 rfl rfl ti37 (by decide) rfl), ag_ (ald rfl ti37 (by decide) rfl (nle rfl) rfl), ag_ (alm (c := c_i64) (l := p0.Levels) (aln rfl Try.underlying37 rfl)), ag_ (abn rfl rfl), ag_ (apc (first := []) (cap := []) (vs := [I p0.First, I 0, (I (w64 ((p0.Levels.length : Int) - 1)))]) rfl enter25 (ref01_InX_ok N p0.First 0 (w64 ((p0.Levels.length : Int) - 1)) _ hf11) rfl rfl (nlc nll (nlc nll (nlc nll nl0))) nll rfl), apk rfl rfl, asb hb13 (amv rfl), ag_ (afa rfl Try.underlying40 rfl rfl ti38 (by decide) rfl), ag_ (ald rfl ti38 (by decide) rfl (nle rfl) rfl), ag_ (alm (c := c_GHour) (l := p0.Hours) (aln rfl Try.underlying38 rfl)), ag_ (abn rfl rfl), apk rfl rfl, asb hb14 (amv rfl), trivial, trivial, trivial, trivial, apk rfl rfl, aas rfl, trivial⟩
          refine awp_ret ?_
          obtain rfl := osi h
          exact ⟨⟨[B false], ⟨rot (by kernel_rfl), trivial⟩, rfl⟩, nll, Nat.le_refl _, fun n hn => absurd hn (Nat.not_lt_zero n)⟩
        ·replace h := bif_f hb13 h
         refine wrg [rb [(.tmp 1, .ref 0 5 0 0)] [(0, (z126_1 p0))] (.ref 0 5 0 0), rb [(.tmp 81, .ref 0 5 0 0)] [(0, (z126_1 p0))] (.dat 1 ((p0.Levels : List Int).map c_i64)), rp [(.tmp 82, (.dat 1 ((p0.Levels : List Int).map c_i64)))] (I ((p0.Levels.length : Int))), rp [(.tmp 83, (I ((p0.Levels.length : Int)))), ci 2] (B ((decide ((p0.Levels.length : Int) ≥ 2)))), rp [(.tmp 84, (B ((decide ((p0.Levels.length : Int) ≥ 2)))))] (B true), rb [(.tmp 85, B true), (.tmp 1, .ref 0 5 0 0)] [(0, (z126_1 p0))] (.ref 0 5 0 0), rb [(.tmp 85, B true), (.tmp 86, .ref 0 5 0 0)] [(0, (z126_1 p0))] (.dat 1 ((p0.Levels : List Int).map c_i64)), rp [(.tmp 85, B true), (.tmp 87, (.dat 1 ((p0.Levels : List Int).map c_i64)))] (I ((p0.Levels.length : Int))), rp [(.tmp 85, B true), (.tmp 88, (I ((p0.Levels.length : Int)))), ci 12] (B ((decide ((p0.Levels.length : Int) ≤ 12)))), rp [(.tmp 85, B true), (.tmp 89, (B ((decide ((p0.Levels.length : Int) ≤ 12))))), cb false] (B ((decide ((p0.Levels.length : Int) ≤ 12)))), rp [(.tmp 90, (B ((decide ((p0.Levels.length : Int) ≤ 12)))))] (B true), rb [(.tmp 91, B true), (.tmp 1, .ref 0 5 0 0)] [(0, (z126_1 p0))] (.ref 0 5 0 1), rb [(.tmp 91, B true), (.tmp 92, .ref 0 5 0 1)] [(0, (z126_1 p0))] (I p0.Ramp), rp [(.tmp 91, B true), fu 25, (.tmp 93, I p0.Ramp), ci 1, ci 12] (B x6), rp [(.tmp 91, B true), (.tmp 94, B x6), cb false] (B x6), rp [(.tmp 95, B x6)] (B true), rb [(.tmp 96, B true), (.tmp 1, .ref 0 5 0 0)] [(0, (z126_1 p0))] (.ref 0 5 0 2), rb [(.tmp 96, B true), (.tmp 97, .ref 0 5 0 2)] [(0, (z126_1 p0))] (I p0.Start), rp [(.tmp 96, B true), fu 25, (.tmp 98, I p0.Start), ci 0, ci 1000000000] (B x9), rp [(.tmp 96, B true), (.tmp 99, B x9), cb false] (B x9), rp [(.tmp 100, B x9)] (B true), rb [(.tmp 101, B true), (.tmp 1, .ref 0 5 0 0)] [(0, (z126_1 p0))] (.ref 0 5 0 3), rb [(.tmp 101, B true), (.tmp 102, .ref 0 5 0 3)] [(0, (z126_1 p0))] (I p0.First), rb [(.tmp 101, B true), (.tmp 1, .ref 0 5 0 0)] [(0, (z126_1 p0))] (.ref 0 5 0 0), rb [(.tmp 101, B true), (.tmp 104, .ref 0 5 0 0)] [(0, (z126_1 p0))] (.dat 1 ((p0.Levels : List Int).map c_i64)), rp [(.tmp 101, B true), (.tmp 105, (.dat 1 ((p0.Levels : List Int).map c_i64)))] (I ((p0.Levels.length : Int))), rp [(.tmp 101, B true), (.tmp 106, (I ((p0.Levels.length : Int)))), ci 1] (I (w64 ((p0.Levels.length : Int) - 1))), rp [(.tmp 101, B true), fu 25, (.tmp 103, I p0.First), ci 0, (.tmp 107, (I (w64 ((p0.Levels.length : Int) - 1))))] (B x12), rp [(.tmp 101, B true), (.tmp 108, B x12), cb false] (B x12), rp [(.tmp 109, B x12)] (B false), sk 110 (B false), sk 110 (B false), sk 110 (B false), sk 110 (B false), rp [(.tmp 110, B false), (.tmp 114, (.lit undef)), cb false] (B false), mv 115 (B false), sk 116 (B false), sk 116 (B false), sk 116 (B false), sk 116 (B false), rp [(.tmp 116, B false), (.tmp 120, (.lit undef)), cb false] (B false), mv 121 (B false)] ?_ ?_
         ·exact ⟨afa rfl Try.underlying40 rfl rfl ti37 (by decide) rfl, ald rfl ti37 (by decide) rfl (nle rfl) rfl, alm (c := c_i64) (l := p0.Levels) (aln rfl Try.underlying37 rfl), abn rfl rfl, asb hb3 (amv rfl), ag_ (afa rfl Try.underlying40 rfl rfl ti37 (by decide) rfl), ag_ (ald rfl ti37 (by decide) rfl (nle rfl) rfl), ag_ (alm (c := c_i64) (l := p0.Levels) (aln rfl Try.underlying37 rfl)), ag_ (abn rfl rfl), apk rfl rfl, asb hb4 (amv rfl), ag_ (afa rfl Try.underlying40 rfl rfl ti3 (by decide) rfl), ag_ (ald rfl ti3 (by decide) rfl (nle rfl) rfl), ag_ (apc (first := []) (cap := []) (vs := [I p0.Ramp, I 1, I 12]) rfl enter25 (ref01_InX_ok N p0.Ramp 1 12 _ hf5) rfl rfl (nlc nll (nlc nll (nlc nll nl0))) nll rfl), apk rfl rfl, asb hb7 (amv rfl), ag_ (afa rfl Try.underlying40 rfl rfl ti3 (by decide) rfl), ag_ (ald rfl ti3 (by decide) rfl (nle rfl) rfl), ag_ (apc (first := []) (cap := []) (vs := [I p0.Start, I 0, I 1000000000]) rfl enter25 (ref01_InX_ok N p0.Start 0 1000000000 _ hf8) rfl rfl (nlc nll (nlc nll (nlc nll nl0))) nll rfl), apk rfl rfl, asb hb10 (amv rfl), ag_ (afa rfl Try.underlying40 rfl rfl ti3 (by decide) rfl), ag_ (ald rfl ti3 (by decide) rfl (nle rfl) rfl), ag_ (afa rfl Try.underlying40 rfl rfl ti37 (by decide) rfl), ag_ (ald rfl ti37 (by decide) rfl (nle rfl) rfl), ag_ (alm (c := c_i64) (l := p0.Levels) (aln rfl Try.underlying37 rfl)), ag_ (abn rfl rfl), ag_ (apc (first := []) (cap := []) (vs := [I p0.First, I 0, (I (w64 ((p0.Levels.length : Int) - 1)))]) rfl enter25 (ref01_InX_ok N p0.First 0 (w64 ((p0.Levels.length : Int) - 1)) _ hf11) rfl rfl (nlc nll (nlc nll (nlc nll nl0))) nll rfl), apk rfl rfl, asb hb13 (amv rfl), trivial, trivial, trivial, trivial, apk rfl rfl, amv rfl, trivial, trivial, trivial, trivial, apk rfl rfl, aas rfl, trivial⟩
         refine awp_ret ?_
         obtain rfl := osi h
         exact ⟨⟨[B false], ⟨rot (by kernel_rfl), trivial⟩, rfl⟩, nll, Nat.le_refl _, fun n hn => absurd hn (Nat.not_lt_zero n)⟩
       ·replace h := bif_f hb10 h
        refine wrg [rb [(.tmp 1, .ref 0 5 0 0)] [(0, (z126_1 p0))] (.ref 0 5 0 0), rb [(.tmp 81, .ref 0 5 0 0)] [(0, (z126_1 p0))] (.dat 1 ((p0.Levels : List Int).map c_i64)), rp [(.tmp 82, (.dat 1 ((p0.Levels : List Int).map c_i64)))] (I ((p0.Levels.length : Int))), rp [(.tmp 83, (I ((p0.Levels.length : Int)))), ci 2] (B ((decide ((p0.Levels.length : Int) ≥ 2)))), rp [(.tmp 84, (B ((decide ((p0.Levels.length : Int) ≥ 2)))))] (B true), rb [(.tmp 85, B true), (.tmp 1, .ref 0 5 0 0)] [(0, (z126_1 p0))] (.ref 0 5 0 0), rb [(.tmp 85, B true), (.tmp 86, .ref 0 5 0 0)] [(0, (z126_1 p0))] (.dat 1 ((p0.Levels : List Int).map c_i64)), rp [(.tmp 85, B true), (.tmp 87, (.dat 1 ((p0.Levels : List Int).map c_i64)))] (I ((p0.Levels.length : Int))), rp [(.tmp 85, B true), (.tmp 88, (I ((p0.Levels.length : Int)))), ci 12] (B ((decide ((p0.Levels.length : Int) ≤ 12)))), rp [(.tmp 85, B true), (.tmp 89, (B ((decide ((p0.Levels.length : Int) ≤ 12))))), cb false] (B ((decide ((p0.Levels.length : Int) ≤ 12)))), rp [(.tmp 90, (B ((decide ((p0.Levels.length : Int) ≤ 12)))))] (B true), rb [(.tmp 91, B true), (.tmp 1, .ref 0 5 0 0)] [(0, (z126_1 p0))] (.ref 0 5 0 1), rb [(.tmp 91, B true), (.tmp 92, .ref 0 5 0 1)] [(0, (z126_1 p0))] (I p0.Ramp), rp [(.tmp 91, B true), fu 25, (.tmp 93, I p0.Ramp), ci 1, ci 12] (B x6), rp [(.tmp 91, B true), (.tmp 94, B x6), cb false] (B x6), rp [(.tmp 95, B x6)] (B true), rb [(.tmp 96, B true), (.tmp 1, .ref 0 5 0 0)] [(0, (z126_1 p0))] (.ref 0 5 0 2), rb [(.tmp 96, B true), (.tmp 97, .ref 0 5 0 2)] [(0, (z126_1 p0))] (I p0.Start), rp [(.tmp 96, B true), fu 25, (.tmp 98, I p0.Start), ci 0, ci 1000000000] (B x9), rp [(.tmp 96, B true), (.tmp 99, B x9), cb false] (B x9), rp [(.tmp 100, B x9)] (B false), sk 101 (B false), sk 101 (B false), sk 101 (B false), sk 101 (B false), sk 101 (B false), sk 101 (B false), sk 101 (B false), rp [(.tmp 101, B false), (.tmp 108, (.lit undef)), cb false] (B false), mv 109 (B false), sk 110 (B false), sk 110 (B false), sk 110 (B false), sk 110 (B false), rp [(.tmp 110, B false), (.tmp 114, (.lit undef)), cb false] (B false), mv 115 (B false), sk 116 (B false), sk 116 (B false), sk 116 (B false), sk 116 (B false), rp [(.tmp 116, B false), (.tmp 120, (.lit undef)), cb false] (B false), mv 121 (B false)] ?_ ?_
        ·exact ⟨afa rfl Try.underlying40 rfl rfl ti37 (by decide) rfl, ald rfl ti37 (by decide) rfl (nle rfl) rfl, alm (c := c_i64) (l := p0.Levels) (aln rfl Try.underlying37 rfl), abn rfl rfl, asb hb3 (amv rfl), ag_ (afa rfl Try.underlying40 rfl rfl ti37 (by decide) rfl), ag_ (ald rfl ti37 (by decide) rfl (nle rfl) rfl), ag_ (alm (c := c_i64) (l := p0.Levels) (aln rfl Try.underlying37 rfl)), ag_ (abn rfl rfl), apk rfl rfl, asb hb4 (amv rfl), ag_ (afa rfl Try.underlying40 rfl rfl ti3 (by decide) rfl), ag_ (ald rfl ti3 (by decide) rfl (nle rfl) rfl), ag_ (apc (first := []) (cap := []) (vs := [I p0.Ramp, I 1, I 12]) rfl enter25 (ref01_InX_ok N p0.Ramp 1 12 _ hf5) rfl rfl (nlc nll (nlc nll (nlc nll nl0))) nll rfl), apk rfl rfl, asb hb7 (amv rfl), ag_ (afa rfl Try.underlying40 rfl rfl ti3 (by decide) rfl), ag_ (ald rfl ti3 (by decide) rfl (nle rfl) rfl), ag_ (apc (first := []) (cap := []) (vs := [I p0.Start, I 0, I 1000000000]) rfl enter25 (ref01_InX_ok N p0.Start 0 1000000000 _ hf8) rfl rfl (nlc nll (nlc nll (nlc nll nl0))) nll rfl), apk rfl rfl, asb hb10 (amv rfl), trivial, trivial, trivial, trivial, trivial, trivial, trivial, apk rfl rfl, amv rfl, trivial, trivial, trivial, trivial, apk rfl rfl, amv rfl, trivial, trivial, trivial, trivial, apk rfl rfl, aas rfl, trivial⟩
        refine awp_ret ?_
        obtain rfl := osi h
        exact ⟨⟨[B false], ⟨rot (by kernel_rfl), trivial⟩, rfl⟩, nll, Nat.le_refl _, fun n hn => absurd hn (Nat.not_lt_zero n)⟩
      ·replace h := bif_f hb7 h
       refine wrg [rb [(.tmp 1, .ref 0 5 0 0)] [(0, (z126_1 p0))] (.ref 0 5 0 0), rb [(.tmp 81, .ref 0 5 0 0)] [(0, (z126_1 p0))] (.dat 1 ((p0.Levels : List Int).map c_i64)), rp [(.tmp 82, (.dat 1 ((p0.Levels : List Int).map c_i64)))] (I ((p0.Levels.length : Int))), rp [(.tmp 83, (I ((p0.Levels.length : Int)))), ci 2] (B ((decide ((p0.Levels.length : Int) ≥ 2)))), rp [(.tmp 84, (B ((decide ((p0.Levels.length : Int) ≥ 2)))))] (B true), rb [(.tmp 85, B true), (.tmp 1, .ref 0 5 0 0)] [(0, (z126_1 p0))] (.ref 0 5 0 0), rb [(.tmp 85, B true), (.tmp 86, .ref 0 5 0 0)] [(0, (z126_1 p0))] (.dat 1 ((p0.Levels : List Int).map c_i64)), rp [(.tmp 85, B true), (.tmp 87, (.dat 1 ((p0.Levels : List Int).map c_i64)))] (I ((p0.Levels.length : Int))), rp [(.tmp 85, B true), (.tmp 88, (I ((p0.Levels.length : Int)))), ci 12] (B ((decide ((p0.Levels.length : Int) ≤ 12)))), rp [(.tmp 85, B true), (.tmp 89, (B ((decide ((p0.Levels.length : Int) ≤ 12))))), cb false] (B ((decide ((p0.Levels.length : Int) ≤ 12)))), rp [(.tmp 90, (B ((decide ((p0.Levels.length : Int) ≤ 12)))))] (B true), rb [(.tmp 91, B true), (.tmp 1, .ref 0 5 0 0)] [(0, (z126_1 p0))] (.ref 0 5 0 1), rb [(.tmp 91, B true), (.tmp 92, .ref 0 5 0 1)] [(0, (z126_1 p0))] (I p0.Ramp), rp [(.tmp 91, B true), fu 25, (.tmp 93, I p0.Ramp), ci 1, ci 12] (B x6), rp [(.tmp 91, B true), (.tmp 94, B x6), cb false] (B x6), rp [(.tmp 95, B x6)] (B false), sk 96 (B false), sk 96 (B false), sk 96 (B false), rp [(.tmp 96, B false), (.tmp 99, (.lit undef)), cb false] (B false), mv 100 (B false), sk 101 (B false), sk 101 (B false), sk 101 (B false), sk 101 (B false), sk 101 (B false), sk 101 (B false), sk 101 (B false), rp [(.tmp 101, B false), (.tmp 108, (.lit undef)), cb false] (B false), mv 109 (B false), sk 110 (B false), sk 110 (B false), sk 110 (B false), sk 110 (B false), rp [(.tmp 110, B false), (.tmp 114, (.lit undef)), cb false] (B false), mv 115 (B false), sk 116 (B false), sk 116 (B false), sk 116 (B false), sk 116 (B false), rp [(.tmp 116, B false), (.tmp 120, (.lit undef)), cb false] (B false), mv 121 (B false)] ?_ ?_
       ·exact ⟨afa rfl Try.underlying40 rfl rfl ti37 (by decide) rfl, ald rfl ti37 (by decide) rfl (nle rfl) rfl, alm (c := c_i64) (l := p0.Levels) (aln rfl Try.underlying37 rfl), abn rfl rfl, asb hb3 (amv rfl), ag_ (afa rfl Try.underlying40 rfl rfl ti37 (by decide) rfl), ag_ (ald rfl ti37 (by decide) rfl (nle rfl) rfl), ag_ (alm (c := c_i64) (l := p0.Levels) (aln rfl Try.underlying37 rfl)), ag_ (abn rfl rfl), apk rfl rfl, asb hb4 (amv rfl), ag_ (afa rfl Try.underlying40 rfl rfl ti3 (by decide) rfl), ag_ (ald rfl ti3 (by decide) rfl (nle rfl) rfl), ag_ (apc (first := []) (cap := []) (vs := [I p0.Ramp, I 1, I 12]) rfl enter25 (ref01_InX_ok N p0.Ramp 1 12 _ hf5) rfl rfl (nlc nll (nlc nll (nlc nll nl0))) nll rfl), apk rfl rfl, asb hb7 (amv rfl), trivial, trivial, trivial, apk rfl rfl, amv rfl, trivial, trivial, trivial, trivial, trivial, trivial, trivial, apk rfl rfl, amv rfl, trivial, trivial, trivial, trivial, apk rfl rfl, amv rfl, trivial, trivial, trivial, trivial, apk rfl rfl, aas rfl, trivial⟩
       refine awp_ret ?_
       obtain rfl := osi h
       exact ⟨⟨[B false], ⟨rot (by kernel_rfl), trivial⟩, rfl⟩, nll, Nat.le_refl _, fun n hn => absurd hn (Nat.not_lt_zero n)⟩
     ·replace h := bif_f hb4 h
      refine wrg [rb [(.tmp 1, .ref 0 5 0 0)] [(0, (z126_1 p0))] (.ref 0 5 0 0), rb [(.tmp 81, .ref 0 5 0 0)] [(0, (z126_1 p0))] (.dat 1 ((p0.Levels : List Int).map c_i64)), rp [(.tmp 82, (.dat 1 ((p0.Levels : List Int).map c_i64)))] (I ((p0.Levels.length : Int))), rp [(.tmp 83, (I ((p0.Levels.length : Int)))), ci 2] (B ((decide ((p0.Levels.length : Int) ≥ 2)))), rp [(.tmp 84, (B ((decide ((p0.Levels.length : Int) ≥ 2)))))] (B true), rb [(.tmp 85, B true), (.tmp 1, .ref 0 5 0 0)] [(0, (z126_1 p0))] (.ref 0 5 0 0), rb [(.tmp 85, B true), (.tmp 86, .ref 0 5 0 0)] [(0, (z126_1 p0))] (.dat 1 ((p0.Levels : List Int).map c_i64)), rp [(.tmp 85, B true), (.tmp 87, (.dat 1 ((p0.Levels : List Int).map c_i64)))] (I ((p0.Levels.length : Int))), rp [(.tmp 85, B true), (.tmp 88, (I ((p0.Levels.length : Int)))), ci 12] (B ((decide ((p0.Levels.length : Int) ≤ 12)))), rp [(.tmp 85, B true), (.tmp 89, (B ((decide ((p0.Levels.length : Int) ≤ 12))))), cb false] (B ((decide ((p0.Levels.length : Int) ≤ 12)))), rp [(.tmp 90, (B ((decide ((p0.Levels.length : Int) ≤ 12)))))] (B false), sk 91 (B false), sk 91 (B false), sk 91 (B false), rp [(.tmp 91, B false), (.tmp 94, (.lit undef)), cb false] (B false), mv 95 (B false), sk 96 (B false), sk 96 (B false), sk 96 (B false), rp [(.tmp 96, B false), (.tmp 99, (.lit undef)), cb false] (B false), mv 100 (B false), sk 101 (B false), sk 101 (B false), sk 101 (B false), sk 101 (B false), sk 101 (B false), sk 101 (B false), sk 101 (B false), rp [(.tmp 101, B false), (.tmp 108, (.lit undef)), cb false] (B false), mv 109 (B false), sk 110 (B false), sk 110 (B false), sk 110 (B false), sk 110 (B false), rp [(.tmp 110, B false), (.tmp 114, (.lit undef)), cb false] (B false), mv 115 (B false), sk 116 (B false), sk 116 (B false), sk 116 (B false), sk 116 (B false), rp [(.tmp 116, B false), (.tmp 120, (.lit undef)), cb false] (B false), mv 121 (B false)] ?_ ?_
      ·exact ⟨afa rfl Try.underlying40 rfl rfl ti37 (by decide) rfl, ald rfl ti37 (by decide) rfl (nle rfl) rfl, alm (c := c_i64) (l := p0.Levels) (aln rfl Try.underlying37 rfl), abn rfl rfl, asb hb3 (amv rfl), ag_ (afa rfl Try.underlying40 rfl rfl ti37 (by decide) rfl), ag_ (ald rfl ti37 (by decide) rfl (nle rfl) rfl), ag_ (alm (c := c_i64) (l := p0.Levels) (aln rfl Try.underlying37 rfl)), ag_ (abn rfl rfl), apk rfl rfl, asb hb4 (amv rfl), trivial, trivial, trivial, apk rfl rfl, amv rfl, trivial, trivial, trivial, apk rfl rfl, amv rfl, trivial, trivial, trivial, trivial, trivial, trivial, trivial, apk rfl rfl, amv rfl, trivial, trivial, trivial, trivial, apk rfl rfl, amv rfl, trivial, trivial, trivial, trivial, apk rfl rfl, aas rfl, trivial⟩
      refine awp_ret ?_
      obtain rfl := osi h
      exact ⟨⟨[B false], ⟨rot (by kernel_rfl), trivial⟩, rfl⟩, nll, Nat.le_refl _, fun n hn => absurd hn (Nat.not_lt_zero n)⟩
    ·replace h := bif_f hb3 h
     refine wrg [rb [(.tmp 1, .ref 0 5 0 0)] [(0, (z126_1 p0))] (.ref 0 5 0 0), rb [(.tmp 81, .ref 0 5 0 0)] [(0, (z126_1 p0))] (.dat 1 ((p0.Levels : List Int).map c_i64)), rp [(.tmp 82, (.dat 1 ((p0.Levels : List Int).map c_i64)))] (I ((p0.Levels.length : Int))), rp [(.tmp 83, (I ((p0.Levels.length : Int)))), ci 2] (B ((decide ((p0.Levels.length : Int) ≥ 2)))), rp [(.tmp 84, (B ((decide ((p0.Levels.length : Int) ≥ 2)))))] (B false), sk 85 (B false), sk 85 (B false), sk 85 (B false), sk 85 (B false), rp [(.tmp 85, B false), (.tmp 89, (.lit undef)), cb false] (B false), mv 90 (B false), sk 91 (B false), sk 91 (B false), sk 91 (B false), rp [(.tmp 91, B false), (.tmp 94, (.lit undef)), cb false] (B false), mv 95 (B false), sk 96 (B false), sk 96 (B false), sk 96 (B false), rp [(.tmp 96, B false), (.tmp 99, (.lit undef)), cb false] (B false), mv 100 (B false), sk 101 (B false), sk 101 (B false), sk 101 (B false), sk 101 (B false), sk 101 (B false), sk 101 (B false), sk 101 (B false), rp [(.tmp 101, B false), (.tmp 108, (.lit undef)), cb false] (B false), mv 109 (B false), sk 110 (B false), sk 110 (B false), sk 110 (B false), sk 110 (B false), rp [(.tmp 110, B false), (.tmp 114, (.lit undef)), cb false] (B false), mv 115 (B false), sk 116 (B false), sk 116 (B false), sk 116 (B false), sk 116 (B false), rp [(.tmp 116, B false), (.tmp 120, (.lit undef)), cb false] (B false), mv 121 (B false)] ?_ ?_
     ·exact ⟨afa rfl Try.underlying40 rfl rfl ti37 (by decide) rfl, ald rfl ti37 (by decide) rfl (nle rfl) rfl, alm (c := c_i64) (l := p0.Levels) (aln rfl Try.underlying37 rfl), abn rfl rfl, asb hb3 (amv rfl), trivial, trivial, trivial, trivial, apk rfl rfl, amv rfl, trivial, trivial, trivial, apk rfl rfl, amv rfl, trivial, trivial, trivial, apk rfl rfl, amv rfl, trivial, trivial, trivial, trivial, trivial, trivial, trivial, apk rfl rfl, amv rfl, trivial, trivial, trivial, trivial, apk rfl rfl, amv rfl, trivial, trivial, trivial, trivial, apk rfl rfl, aas rfl, trivial⟩
     refine awp_ret ?_
     obtain rfl := osi h
     exact ⟨⟨[B false], ⟨rot (by kernel_rfl), trivial⟩, rfl⟩, nll, Nat.le_refl _, fun n hn => absurd hn (Nat.not_lt_zero n)⟩
   ·skip
    refine wrg [mc (.int .i64 0)] ?_ ?_
    ·exact ⟨aas rfl, trivial⟩
    refine awp_block ?_
    refine wmr (mto (n := 122) (l' := [(1, .ref 0 5 0 0), (4, I 0)]) (own' := [(z126_1 p0)]) [(1, .ref 0 5 0 0), (4, I 0)] [0] [(z126_1 p0)] hφ0 (pc (.rn (rqr rfl)) (pc rwl pn)) (qc (spb (lc (.rn (.plain _ (nld nl_i64 _))) (lc rwl (lc rwl (lc rwl (lc (.rn (.plain _ (nld nl_GHour _))) ln)))))) qn)) ?_
    refine awp_ind (τ := Int) (fun n t => ref07_RightJobX_loop1 N p0 k2 n t = some r) (fun y15 => ⟨mk 122 [(1, .ref 0 5 0 0), (4, I y15)], [(z126_1 p0)]⟩) (fun t h => by rw [ref07_RightJobX_loop1] at h; cases h) (fun n17 ih y15 h => ?_) N (0) h
    rw [ref07_RightJobX_loop1] at h
    skip
    refine wsq ?_
    refine wrg [mv 4 (I y15), rb [(.tmp 1, .ref 0 5 0 0)] [(0, (z126_1 p0))] (.ref 0 5 0 4), rb [(.tmp 57, .ref 0 5 0 4)] [(0, (z126_1 p0))] (z126_0 p0), rp [(.tmp 58, (z126_0 p0))] (I ((p0.Hours.length : Int))), rp [(.tmp 56, I y15), (.tmp 59, (I ((p0.Hours.length : Int))))] (B ((decide (y15 < (p0.Hours.length : Int)))))] ?_ ?_
    ·exact ⟨amv rfl, afa rfl Try.underlying40 rfl rfl ti38 (by decide) rfl, ald rfl ti38 (by decide) rfl (nle rfl) rfl, alm (c := c_GHour) (l := p0.Hours) (aln rfl Try.underlying38 rfl), abn rfl rfl, trivial⟩
    rcases bft ((decide (y15 < (p0.Hours.length : Int)))) with hc18 | hc18
    ·replace h := bif_t hc18 h
     refine wft hc18 (by kernel_rfl) ?_
     refine awp_skip ?_
     refine thn ?_
     refine wsq ?_
     refine awp_block ?_
     obtain ⟨x19, hg20, h⟩ := bno h
     obtain ⟨hi21, hj22⟩ := gsm hg20
     obtain ⟨x24, hf23, h⟩ := bno h
     rcases bft ((!x24)) with hb25 | hb25
     ·replace h := bif_t hb25 h
      refine wrg [rb [(.tmp 1, .ref 0 5 0 0)] [(0, (z126_1 p0))] (.ref 0 5 0 4), rb [(.tmp 63, .ref 0 5 0 4)] [(0, (z126_1 p0))] (z126_0 p0), mv 4 (I y15), rp [(.tmp 64, (z126_0 p0)), (.tmp 65, I y15)] (.dptr (c_GHour (x19)) 0), mv 66 (.dptr (c_GHour (x19)) 0), rp [(.tmp 67, (.dptr (c_GHour (x19)) 0))] (I x19.Price), rp [fu 25, (.tmp 68, I x19.Price), ci (-1000), ci 1000] (B x24), rp [(.tmp 69, B x24)] (B ((!x24))), rp [(.tmp 70, (B ((!x24))))] (B true), sk 71 (B true), sk 71 (B true), sk 71 (B true), sk 71 (B true), sk 71 (B true), sk 71 (B true), sk 71 (B true), sk 71 (B true), rp [(.tmp 71, B true), cb true, (.tmp 79, (.lit undef))] (B true)] ?_ ?_
      ·exact ⟨afa rfl Try.underlying40 rfl rfl ti38 (by decide) rfl, ald rfl ti38 (by decide) rfl (nle rfl) rfl, amv rfl, aid rfl Try.underlying38 ti119 rfl rfl hi21 (mgt c_GHour hj22) rfl, afd rfl Try.underlying119 rfl rfl ti3 (by decide) rfl, ald_ rfl ti3 (by decide) (nle rfl) rfl, apc (first := []) (cap := []) (vs := [I x19.Price, (I ((-1000))), I 1000]) rfl enter25 (ref01_InX_ok N x19.Price (-1000) 1000 _ hf23) rfl rfl (nlc nll (nlc nll (nlc nll nl0))) nll rfl, astep_not rfl, asb hb25 (amv rfl), trivial, trivial, trivial, trivial, trivial, trivial, trivial, trivial, apk rfl rfl, trivial⟩
      refine awp_true (by kernel_rfl) ?_
      refine wrg [mc (.bool false)] ?_ ?_
      ·exact ⟨aas rfl, trivial⟩
      refine awp_ret ?_
      refine blockA_r ?_
      refine thenA_r ?_
      refine thenA_r ?_
      refine blockA_r ?_
      refine thenA_r ?_
      obtain rfl := osi h
      exact ⟨⟨[B false], ⟨rot (by kernel_rfl), trivial⟩, rfl⟩, nll, Nat.le_refl _, fun n hn => absurd hn (Nat.not_lt_zero n)⟩
     ·replace h := bif_f hb25 h
      obtain ⟨x27, hf26, h⟩ := bno h
      refine wrg [rb [(.tmp 1, .ref 0 5 0 0)] [(0, (z126_1 p0))] (.ref 0 5 0 4), rb [(.tmp 63, .ref 0 5 0 4)] [(0, (z126_1 p0))] (z126_0 p0), mv 4 (I y15), rp [(.tmp 64, (z126_0 p0)), (.tmp 65, I y15)] (.dptr (c_GHour (x19)) 0), mv 66 (.dptr (c_GHour (x19)) 0), rp [(.tmp 67, (.dptr (c_GHour (x19)) 0))] (I x19.Price), rp [fu 25, (.tmp 68, I x19.Price), ci (-1000), ci 1000] (B x24), rp [(.tmp 69, B x24)] (B ((!x24))), rp [(.tmp 70, (B ((!x24))))] (B false), rb [(.tmp 71, B false), (.tmp 1, .ref 0 5 0 0)] [(0, (z126_1 p0))] (.ref 0 5 0 4), rb [(.tmp 71, B false), (.tmp 72, .ref 0 5 0 4)] [(0, (z126_1 p0))] (z126_0 p0), rp [(.tmp 71, B false), (.tmp 4, I y15)] (I y15), rp [(.tmp 71, B false), (.tmp 73, (z126_0 p0)), (.tmp 74, I y15)] (.dptr (c_GHour (x19)) 0), rp [(.tmp 71, B false), (.tmp 75, (.dptr (c_GHour (x19)) 0))] (.dptr (c_GHour (x19)) 1), rp [(.tmp 71, B false), (.tmp 76, (.dptr (c_GHour (x19)) 1))] (I x19.Most), rp [(.tmp 71, B false), fu 25, (.tmp 77, I x19.Most), ci 0, ci 1000000] (B x27), rp [(.tmp 71, B false), (.tmp 78, B x27)] (B ((!x27))), rp [(.tmp 71, B false), cb true, (.tmp 79, (B ((!x27))))] (B ((!x27)))] ?_ ?_
      ·exact ⟨afa rfl Try.underlying40 rfl rfl ti38 (by decide) rfl, ald rfl ti38 (by decide) rfl (nle rfl) rfl, amv rfl, aid rfl Try.underlying38 ti119 rfl rfl hi21 (mgt c_GHour hj22) rfl, afd rfl Try.underlying119 rfl rfl ti3 (by decide) rfl, ald_ rfl ti3 (by decide) (nle rfl) rfl, apc (first := []) (cap := []) (vs := [I x19.Price, (I ((-1000))), I 1000]) rfl enter25 (ref01_InX_ok N x19.Price (-1000) 1000 _ hf23) rfl rfl (nlc nll (nlc nll (nlc nll nl0))) nll rfl, astep_not rfl, asb hb25 (amv rfl), ag_ (afa rfl Try.underlying40 rfl rfl ti38 (by decide) rfl), ag_ (ald rfl ti38 (by decide) rfl (nle rfl) rfl), ag_ (amv rfl), ag_ (aid rfl Try.underlying38 ti119 rfl rfl hi21 (mgt c_GHour hj22) rfl), ag_ (afd rfl Try.underlying119 rfl rfl ti3 (by decide) rfl), ag_ (ald_ rfl ti3 (by decide) (nle rfl) rfl), ag_ (apc (first := []) (cap := []) (vs := [I x19.Most, I 0, I 1000000]) rfl enter25 (ref01_InX_ok N x19.Most 0 1000000 _ hf26) rfl rfl (nlc nll (nlc nll (nlc nll nl0))) nll rfl), ag_ (astep_not rfl), apk rfl rfl, trivial⟩
      rcases bft ((!x27)) with hc28 | hc28
      ·replace h := bif_t hc28 h
       refine wft hc28 (by kernel_rfl) ?_
       refine wrg [mc (.bool false)] ?_ ?_
       ·exact ⟨aas rfl, trivial⟩
       refine awp_ret ?_
       refine blockA_r ?_
       refine thenA_r ?_
       refine thenA_r ?_
       refine blockA_r ?_
       refine thenA_r ?_
       obtain rfl := osi h
       exact ⟨⟨[B false], ⟨rot (by kernel_rfl), trivial⟩, rfl⟩, nll, Nat.le_refl _, fun n hn => absurd hn (Nat.not_lt_zero n)⟩
      ·replace h := bif_f hc28 h
       refine wfn hc28 (by kernel_rfl) ?_
       refine awp_skip ?_
       refine bln ?_
       refine thn ?_
       refine awp_reg1 [mv 4 (I y15), rp [(.tmp 61, I y15), ci 1] (I (w64 (y15 + 1))), mv 62 (I (w64 (y15 + 1)))] ?_ ?_
       ·exact ⟨amv rfl, abn rfl rfl, aas rfl, trivial⟩
       refine thn ?_
       exact arm (mto (n := 122) [(1, .ref 0 5 0 0), (4, (I (w64 (y15 + 1))))] [0] [(z126_1 p0)] hφ0 (pc (.rn (rqr rfl)) (pc rwl pn)) (qc (spb (lc (.rn (.plain _ (nld nl_i64 _))) (lc rwl (lc rwl (lc rwl (lc (.rn (.plain _ (nld nl_GHour _))) ln)))))) qn)) (ih (w64 (y15 + 1)) h)
    ·replace h := bif_f hc18 h
     refine wfn hc18 (by kernel_rfl) ?_
     refine awp_exit ?_
     refine thenA_x ?_
     refine thenA_x ?_
     refine blockA_e rfl ?_
     refine thn ?_
     exact ⟨(), h, (mto (n := 122) [(1, .ref 0 5 0 0)] [0] [(z126_1 p0)] hφ0 (pc (.rn (rqr rfl)) pn) (qc (spb (lc (.rn (.plain _ (nld nl_i64 _))) (lc rwl (lc rwl (lc rwl (lc (.rn (.plain _ (nld nl_GHour _))) ln)))))) qn))⟩
  ·skip
   refine wrg [mc (.int .i64 0)] ?_ ?_
   ·exact ⟨aas rfl, trivial⟩
   refine awp_block ?_
   refine wmr (mto (n := 122) (l' := [(1, .ref 0 5 0 0), (3, I 0)]) (own' := [(z126_1 p0)]) [(1, .ref 0 5 0 0), (3, I 0)] [0] [(z126_1 p0)] hφ0 (pc (.rn (rqr rfl)) (pc rwl pn)) (qc (spb (lc (.rn (.plain _ (nld nl_i64 _))) (lc rwl (lc rwl (lc rwl (lc (.rn (.plain _ (nld nl_GHour _))) ln)))))) qn)) ?_
   refine awp_ind (τ := Int) (fun n t => ref07_RightJobX_loop2 N p0 k1 n t = some r) (fun y29 => ⟨mk 122 [(1, .ref 0 5 0 0), (3, I y29)], [(z126_1 p0)]⟩) (fun t h => by rw [ref07_RightJobX_loop2] at h; cases h) (fun n31 ih y29 h => ?_) N (0) h
   rw [ref07_RightJobX_loop2] at h
   skip
   refine wsq ?_
   refine wrg [mv 3 (I y29), rb [(.tmp 1, .ref 0 5 0 0)] [(0, (z126_1 p0))] (.ref 0 5 0 0), rb [(.tmp 6, .ref 0 5 0 0)] [(0, (z126_1 p0))] (.dat 1 ((p0.Levels : List Int).map c_i64)), rp [(.tmp 7, (.dat 1 ((p0.Levels : List Int).map c_i64)))] (I ((p0.Levels.length : Int))), rp [(.tmp 5, I y29), (.tmp 8, (I ((p0.Levels.length : Int))))] (B ((decide (y29 < (p0.Levels.length : Int)))))] ?_ ?_
   ·exact ⟨amv rfl, afa rfl Try.underlying40 rfl rfl ti37 (by decide) rfl, ald rfl ti37 (by decide) rfl (nle rfl) rfl, alm (c := c_i64) (l := p0.Levels) (aln rfl Try.underlying37 rfl), abn rfl rfl, trivial⟩
   rcases bft ((decide (y29 < (p0.Levels.length : Int)))) with hc32 | hc32
   ·replace h := bif_t hc32 h
    refine wft hc32 (by kernel_rfl) ?_
    refine awp_skip ?_
    refine thn ?_
    refine wsq ?_
    refine awp_block ?_
    obtain ⟨x33, hg34, h⟩ := bno h
    obtain ⟨hi35, hj36⟩ := gsm hg34
    rcases bft ((decide (x33 < 0))) with hb37 | hb37
    ·replace h := bif_t hb37 h
     refine awp_regd [rb [(.tmp 1, .ref 0 5 0 0)] [(0, (z126_1 p0))] (.ref 0 5 0 0), rb [(.tmp 12, .ref 0 5 0 0)] [(0, (z126_1 p0))] (.dat 1 ((p0.Levels : List Int).map c_i64)), mv 3 (I y29), rp [(.tmp 13, (.dat 1 ((p0.Levels : List Int).map c_i64))), (.tmp 14, I y29)] (.dptr (c_i64 (x33)) 0), rp [(.tmp 15, (.dptr (c_i64 (x33)) 0))] (I x33), rp [(.tmp 16, I x33), ci 0] (B ((decide (x33 < 0)))), rp [(.tmp 17, (B ((decide (x33 < 0)))))] (B true), sk 18 (B true), sk 18 (B true), sk 18 (B true), sk 18 (B true), sk 18 (B true), sk 18 (B true), rp [(.tmp 18, B true), cb true, (.tmp 24, (.lit undef))] (B true), mv 25 (B true), sk 26 (B true), sk 26 (B true), sk 26 (B true), sk 29 (.lit undef), sk 29 (.lit undef), sk 29 (.lit undef), sk 29 (.lit undef), sk 29 (.lit undef), sk 29 (.lit undef), sk 26 (B true), rp [(.tmp 26, B true), cb true, (.tmp 36, (.lit undef))] (B true), mv 37 (B true), sk 38 (B true), sk 38 (B true), sk 38 (B true), sk 41 (.lit undef), sk 41 (.lit undef), sk 41 (.lit undef), sk 41 (.lit undef), sk 41 (.lit undef), sk 41 (.lit undef), sk 41 (.lit undef), sk 41 (.lit undef), sk 41 (.lit undef), sk 41 (.lit undef), sk 41 (.lit undef), sk 41 (.lit undef), sk 38 (B true), rp [(.tmp 38, B true), cb true, (.tmp 54, (.lit undef))] (B true)] ?_ ?_
     ·exact ⟨afa rfl Try.underlying40 rfl rfl ti37 (by decide) rfl, ald rfl ti37 (by decide) rfl (nle rfl) rfl, amv rfl, aid rfl Try.underlying37 ti3 rfl rfl hi35 (mgt c_i64 hj36) rfl, ald_ rfl ti3 (by decide) (nle rfl) rfl, abn rfl rfl, asb hb37 (amv rfl), trivial, trivial, trivial, trivial, trivial, trivial, apk rfl rfl, amv rfl, trivial, trivial, trivial, trivial, trivial, trivial, trivial, trivial, trivial, trivial, apk rfl rfl, amv rfl, trivial, trivial, trivial, trivial, trivial, trivial, trivial, trivial, trivial, trivial, trivial, trivial, trivial, trivial, trivial, trivial, apk rfl rfl, trivial⟩
     refine awp_true (by kernel_rfl) ?_
     refine wrg [mc (.bool false)] ?_ ?_
     ·exact ⟨aas rfl, trivial⟩
     refine awp_ret ?_
     refine blockA_r ?_
     refine thenA_r ?_
     refine thenA_r ?_
     refine blockA_r ?_
     refine thenA_r ?_
     obtain rfl := osi h
     exact ⟨⟨[B false], ⟨rot (by kernel_rfl), trivial⟩, rfl⟩, nll, Nat.le_refl _, fun n hn => absurd hn (Nat.not_lt_zero n)⟩
    ·replace h := bif_f hb37 h
     rcases bft ((decide (x33 > 1000000))) with hb38 | hb38
     ·replace h := bif_t hb38 h
      refine awp_regd [rb [(.tmp 1, .ref 0 5 0 0)] [(0, (z126_1 p0))] (.ref 0 5 0 0), rb [(.tmp 12, .ref 0 5 0 0)] [(0, (z126_1 p0))] (.dat 1 ((p0.Levels : List Int).map c_i64)), mv 3 (I y29), rp [(.tmp 13, (.dat 1 ((p0.Levels : List Int).map c_i64))), (.tmp 14, I y29)] (.dptr (c_i64 (x33)) 0), rp [(.tmp 15, (.dptr (c_i64 (x33)) 0))] (I x33), rp [(.tmp 16, I x33), ci 0] (B ((decide (x33 < 0)))), rp [(.tmp 17, (B ((decide (x33 < 0)))))] (B false), rb [(.tmp 18, B false), (.tmp 1, .ref 0 5 0 0)] [(0, (z126_1 p0))] (.ref 0 5 0 0), rb [(.tmp 18, B false), (.tmp 19, .ref 0 5 0 0)] [(0, (z126_1 p0))] (.dat 1 ((p0.Levels : List Int).map c_i64)), rp [(.tmp 18, B false), (.tmp 3, I y29)] (I y29), rp [(.tmp 18, B false), (.tmp 20, (.dat 1 ((p0.Levels : List Int).map c_i64))), (.tmp 21, I y29)] (.dptr (c_i64 (x33)) 0), rp [(.tmp 18, B false), (.tmp 22, (.dptr (c_i64 (x33)) 0))] (I x33), rp [(.tmp 18, B false), (.tmp 23, I x33), ci 1000000] (B ((decide (x33 > 1000000)))), rp [(.tmp 18, B false), cb true, (.tmp 24, (B ((decide (x33 > 1000000)))))] (B ((decide (x33 > 1000000)))), rp [(.tmp 25, (B ((decide (x33 > 1000000)))))] (B true), sk 26 (B true), sk 26 (B true), sk 26 (B true), sk 29 (.lit undef), sk 29 (.lit undef), sk 29 (.lit undef), sk 29 (.lit undef), sk 29 (.lit undef), sk 29 (.lit undef), sk 26 (B true), rp [(.tmp 26, B true), cb true, (.tmp 36, (.lit undef))] (B true), mv 37 (B true), sk 38 (B true), sk 38 (B true), sk 38 (B true), sk 41 (.lit undef), sk 41 (.lit undef), sk 41 (.lit undef), sk 41 (.lit undef), sk 41 (.lit undef), sk 41 (.lit undef), sk 41 (.lit undef), sk 41 (.lit undef), sk 41 (.lit undef), sk 41 (.lit undef), sk 41 (.lit undef), sk 41 (.lit undef), sk 38 (B true), rp [(.tmp 38, B true), cb true, (.tmp 54, (.lit undef))] (B true)] ?_ ?_
      ·exact ⟨afa rfl Try.underlying40 rfl rfl ti37 (by decide) rfl, ald rfl ti37 (by decide) rfl (nle rfl) rfl, amv rfl, aid rfl Try.underlying37 ti3 rfl rfl hi35 (mgt c_i64 hj36) rfl, ald_ rfl ti3 (by decide) (nle rfl) rfl, abn rfl rfl, asb hb37 (amv rfl), ag_ (afa rfl Try.underlying40 rfl rfl ti37 (by decide) rfl), ag_ (ald rfl ti37 (by decide) rfl (nle rfl) rfl), ag_ (amv rfl), ag_ (aid rfl Try.underlying37 ti3 rfl rfl hi35 (mgt c_i64 hj36) rfl), ag_ (ald_ rfl ti3 (by decide) (nle rfl) rfl), ag_ (abn rfl rfl), apk rfl rfl, asb hb38 (amv rfl), trivial, trivial, trivial, trivial, trivial, trivial, trivial, trivial, trivial, trivial, apk rfl rfl, amv rfl, trivial, trivial, trivial, trivial, trivial, trivial, trivial, trivial, trivial, trivial, trivial, trivial, trivial, trivial, trivial, trivial, apk rfl rfl, trivial⟩
      refine awp_true (by kernel_rfl) ?_
      refine wrg [mc (.bool false)] ?_ ?_
      ·exact ⟨aas rfl, trivial⟩
      refine awp_ret ?_
      refine blockA_r ?_
      refine thenA_r ?_
      refine thenA_r ?_
      refine blockA_r ?_
      refine thenA_r ?_
      obtain rfl := osi h
      exact ⟨⟨[B false], ⟨rot (by kernel_rfl), trivial⟩, rfl⟩, nll, Nat.le_refl _, fun n hn => absurd hn (Nat.not_lt_zero n)⟩
     ·replace h := bif_f hb38 h
      rcases bft ((y29 == 0)) with hb39 | hb39
      ·replace h := bif_t hb39 h
       rcases bft ((x33 != 0)) with hb40 | hb40
       ·replace h := bif_t hb40 h
        refine awp_regd [rb [(.tmp 1, .ref 0 5 0 0)] [(0, (z126_1 p0))] (.ref 0 5 0 0), rb [(.tmp 12, .ref 0 5 0 0)] [(0, (z126_1 p0))] (.dat 1 ((p0.Levels : List Int).map c_i64)), mv 3 (I y29), rp [(.tmp 13, (.dat 1 ((p0.Levels : List Int).map c_i64))), (.tmp 14, I y29)] (.dptr (c_i64 (x33)) 0), rp [(.tmp 15, (.dptr (c_i64 (x33)) 0))] (I x33), rp [(.tmp 16, I x33), ci 0] (B ((decide (x33 < 0)))), rp [(.tmp 17, (B ((decide (x33 < 0)))))] (B false), rb [(.tmp 18, B false), (.tmp 1, .ref 0 5 0 0)] [(0, (z126_1 p0))] (.ref 0 5 0 0), rb [(.tmp 18, B false), (.tmp 19, .ref 0 5 0 0)] [(0, (z126_1 p0))] (.dat 1 ((p0.Levels : List Int).map c_i64)), rp [(.tmp 18, B false), (.tmp 3, I y29)] (I y29), rp [(.tmp 18, B false), (.tmp 20, (.dat 1 ((p0.Levels : List Int).map c_i64))), (.tmp 21, I y29)] (.dptr (c_i64 (x33)) 0), rp [(.tmp 18, B false), (.tmp 22, (.dptr (c_i64 (x33)) 0))] (I x33), rp [(.tmp 18, B false), (.tmp 23, I x33), ci 1000000] (B ((decide (x33 > 1000000)))), rp [(.tmp 18, B false), cb true, (.tmp 24, (B ((decide (x33 > 1000000)))))] (B ((decide (x33 > 1000000)))), rp [(.tmp 25, (B ((decide (x33 > 1000000)))))] (B false), rp [(.tmp 26, B false), (.tmp 3, I y29)] (I y29), rp [(.tmp 26, B false), (.tmp 27, I y29), ci 0] (B ((y29 == 0))), rp [(.tmp 26, B false), (.tmp 28, (B ((y29 == 0))))] (B true), rb [(.tmp 29, B true), (.tmp 1, .ref 0 5 0 0)] [(0, (z126_1 p0))] (.ref 0 5 0 0), rb [(.tmp 29, B true), (.tmp 30, .ref 0 5 0 0)] [(0, (z126_1 p0))] (.dat 1 ((p0.Levels : List Int).map c_i64)), rp [(.tmp 29, B true), (.tmp 3, I y29)] (I y29), rp [(.tmp 29, B true), (.tmp 31, (.dat 1 ((p0.Levels : List Int).map c_i64))), (.tmp 32, I y29)] (.dptr (c_i64 (x33)) 0), rp [(.tmp 29, B true), (.tmp 33, (.dptr (c_i64 (x33)) 0))] (I x33), rp [(.tmp 29, B true), (.tmp 34, I x33), ci 0] (B ((x33 != 0))), rp [(.tmp 26, B false), (.tmp 29, B true), (.tmp 35, (B ((x33 != 0)))), cb false] (B ((x33 != 0))), rp [(.tmp 26, B false), cb true, (.tmp 36, (B ((x33 != 0))))] (B ((x33 != 0))), rp [(.tmp 37, (B ((x33 != 0))))] (B true), sk 38 (B true), sk 38 (B true), sk 38 (B true), sk 41 (.lit undef), sk 41 (.lit undef), sk 41 (.lit undef), sk 41 (.lit undef), sk 41 (.lit undef), sk 41 (.lit undef), sk 41 (.lit undef), sk 41 (.lit undef), sk 41 (.lit undef), sk 41 (.lit undef), sk 41 (.lit undef), sk 41 (.lit undef), sk 38 (B true), rp [(.tmp 38, B true), cb true, (.tmp 54, (.lit undef))] (B true)] ?_ ?_
        ·exact ⟨afa rfl Try.underlying40 rfl rfl ti37 (by decide) rfl, ald rfl ti37 (by decide) rfl (nle rfl) rfl, amv rfl, aid rfl Try.underlying37 ti3 rfl rfl hi35 (mgt c_i64 hj36) rfl, ald_ rfl ti3 (by decide) (nle rfl) rfl, abn rfl rfl, asb hb37 (amv rfl), ag_ (afa rfl Try.underlying40 rfl rfl ti37 (by decide) rfl), ag_ (ald rfl ti37 (by decide) rfl (nle rfl) rfl), ag_ (amv rfl), ag_ (aid rfl Try.underlying37 ti3 rfl rfl hi35 (mgt c_i64 hj36) rfl), ag_ (ald_ rfl ti3 (by decide) (nle rfl) rfl), ag_ (abn rfl rfl), apk rfl rfl, asb hb38 (amv rfl), ag_ (amv rfl), ag_ (abn rfl rfl), asb hb39 (ag_ (amv rfl)), ag_ (afa rfl Try.underlying40 rfl rfl ti37 (by decide) rfl), ag_ (ald rfl ti37 (by decide) rfl (nle rfl) rfl), ag_ (amv rfl), ag_ (aid rfl Try.underlying37 ti3 rfl rfl hi35 (mgt c_i64 hj36) rfl), ag_ (ald_ rfl ti3 (by decide) (nle rfl) rfl), ag_ (abn rfl rfl), ag_ (apk rfl rfl), apk rfl rfl, asb hb40 (amv rfl), trivial, trivial, trivial, trivial, trivial, trivial, trivial, trivial, trivial, trivial, trivial, trivial, trivial, trivial, trivial, trivial, apk rfl rfl, trivial⟩
        refine awp_true (by kernel_rfl) ?_
        refine wrg [mc (.bool false)] ?_ ?_
        ·exact ⟨aas rfl, trivial⟩
        refine awp_ret ?_
        refine blockA_r ?_
        refine thenA_r ?_
        refine thenA_r ?_
        refine blockA_r ?_
        refine thenA_r ?_
        obtain rfl := osi h
        exact ⟨⟨[B false], ⟨rot (by kernel_rfl), trivial⟩, rfl⟩, nll, Nat.le_refl _, fun n hn => absurd hn (Nat.not_lt_zero n)⟩
       ·replace h := bif_f hb40 h
        rcases bft ((decide (y29 > 0))) with hb41 | hb41
        ·replace h := bif_t hb41 h
         obtain ⟨x42, hg43, h⟩ := bno h
         obtain ⟨hi44, hj45⟩ := gsm hg43
         refine awp_regd [rb [(.tmp 1, .ref 0 5 0 0)] [(0, (z126_1 p0))] (.ref 0 5 0 0), rb [(.tmp 12, .ref 0 5 0 0)] [(0, (z126_1 p0))] (.dat 1 ((p0.Levels : List Int).map c_i64)), mv 3 (I y29), rp [(.tmp 13, (.dat 1 ((p0.Levels : List Int).map c_i64))), (.tmp 14, I y29)] (.dptr (c_i64 (x33)) 0), rp [(.tmp 15, (.dptr (c_i64 (x33)) 0))] (I x33), rp [(.tmp 16, I x33), ci 0] (B ((decide (x33 < 0)))), rp [(.tmp 17, (B ((decide (x33 < 0)))))] (B false), rb [(.tmp 18, B false), (.tmp 1, .ref 0 5 0 0)] [(0, (z126_1 p0))] (.ref 0 5 0 0), rb [(.tmp 18, B false), (.tmp 19, .ref 0 5 0 0)] [(0, (z126_1 p0))] (.dat 1 ((p0.Levels : List Int).map c_i64)), rp [(.tmp 18, B false), (.tmp 3, I y29)] (I y29), rp [(.tmp 18, B false), (.tmp 20, (.dat 1 ((p0.Levels : List Int).map c_i64))), (.tmp 21, I y29)] (.dptr (c_i64 (x33)) 0), rp [(.tmp 18, B false), (.tmp 22, (.dptr (c_i64 (x33)) 0))] (I x33), rp [(.tmp 18, B false), (.tmp 23, I x33), ci 1000000] (B ((decide (x33 > 1000000)))), rp [(.tmp 18, B false), cb true, (.tmp 24, (B ((decide (x33 > 1000000)))))] (B ((decide (x33 > 1000000)))), rp [(.tmp 25, (B ((decide (x33 > 1000000)))))] (B false), rp [(.tmp 26, B false), (.tmp 3, I y29)] (I y29), rp [(.tmp 26, B false), (.tmp 27, I y29), ci 0] (B ((y29 == 0))), rp [(.tmp 26, B false), (.tmp 28, (B ((y29 == 0))))] (B true), rb [(.tmp 29, B true), (.tmp 1, .ref 0 5 0 0)] [(0, (z126_1 p0))] (.ref 0 5 0 0), rb [(.tmp 29, B true), (.tmp 30, .ref 0 5 0 0)] [(0, (z126_1 p0))] (.dat 1 ((p0.Levels : List Int).map c_i64)), rp [(.tmp 29, B true), (.tmp 3, I y29)] (I y29), rp [(.tmp 29, B true), (.tmp 31, (.dat 1 ((p0.Levels : List Int).map c_i64))), (.tmp 32, I y29)] (.dptr (c_i64 (x33)) 0), rp [(.tmp 29, B true), (.tmp 33, (.dptr (c_i64 (x33)) 0))] (I x33), rp [(.tmp 29, B true), (.tmp 34, I x33), ci 0] (B ((x33 != 0))), rp [(.tmp 26, B false), (.tmp 29, B true), (.tmp 35, (B ((x33 != 0)))), cb false] (B ((x33 != 0))), rp [(.tmp 26, B false), cb true, (.tmp 36, (B ((x33 != 0))))] (B ((x33 != 0))), rp [(.tmp 37, (B ((x33 != 0))))] (B false), rp [(.tmp 38, B false), (.tmp 3, I y29)] (I y29), rp [(.tmp 38, B false), (.tmp 39, I y29), ci 0] (B ((decide (y29 > 0)))), rp [(.tmp 38, B false), (.tmp 40, (B ((decide (y29 > 0)))))] (B true), rb [(.tmp 41, B true), (.tmp 1, .ref 0 5 0 0)] [(0, (z126_1 p0))] (.ref 0 5 0 0), rb [(.tmp 41, B true), (.tmp 42, .ref 0 5 0 0)] [(0, (z126_1 p0))] (.dat 1 ((p0.Levels : List Int).map c_i64)), rp [(.tmp 41, B true), (.tmp 3, I y29)] (I y29), rp [(.tmp 41, B true), (.tmp 43, (.dat 1 ((p0.Levels : List Int).map c_i64))), (.tmp 44, I y29)] (.dptr (c_i64 (x33)) 0), rp [(.tmp 41, B true), (.tmp 45, (.dptr (c_i64 (x33)) 0))] (I x33), rb [(.tmp 41, B true), (.tmp 1, .ref 0 5 0 0)] [(0, (z126_1 p0))] (.ref 0 5 0 0), rb [(.tmp 41, B true), (.tmp 47, .ref 0 5 0 0)] [(0, (z126_1 p0))] (.dat 1 ((p0.Levels : List Int).map c_i64)), rp [(.tmp 41, B true), (.tmp 3, I y29)] (I y29), rp [(.tmp 41, B true), (.tmp 49, I y29), ci 1] (I (w64 (y29 - 1))), rp [(.tmp 41, B true), (.tmp 48, (.dat 1 ((p0.Levels : List Int).map c_i64))), (.tmp 50, (I (w64 (y29 - 1))))] (.dptr (c_i64 (x42)) 0), rp [(.tmp 41, B true), (.tmp 51, (.dptr (c_i64 (x42)) 0))] (I x42), rp [(.tmp 41, B true), (.tmp 46, I x33), (.tmp 52, I x42)] (B ((decide (x33 ≤ x42)))), rp [(.tmp 38, B false), (.tmp 41, B true), (.tmp 53, (B ((decide (x33 ≤ x42))))), cb false] (B ((decide (x33 ≤ x42)))), rp [(.tmp 38, B false), cb true, (.tmp 54, (B ((decide (x33 ≤ x42)))))] (B ((decide (x33 ≤ x42))))] ?_ ?_
         ·exact ⟨afa rfl Try.underlying40 rfl rfl ti37 (by decide) rfl, ald rfl ti37 (by decide) rfl (nle rfl) rfl, amv rfl, aid rfl Try.underlying37 ti3 rfl rfl hi35 (mgt c_i64 hj36) rfl, ald_ rfl ti3 (by decide) (nle rfl) rfl, abn rfl rfl, asb hb37 (amv rfl), ag_ (afa rfl Try.underlying40 rfl rfl ti37 (by decide) rfl), ag_ (ald rfl ti37 (by decide) rfl (nle rfl) rfl), ag_ (amv rfl), ag_ (aid rfl Try.underlying37 ti3 rfl rfl hi35 (mgt c_i64 hj36) rfl), ag_ (ald_ rfl ti3 (by decide) (nle rfl) rfl), ag_ (abn rfl rfl), apk rfl rfl, asb hb38 (amv rfl), ag_ (amv rfl), ag_ (abn rfl rfl), asb hb39 (ag_ (amv rfl)), ag_ (afa rfl Try.underlying40 rfl rfl ti37 (by decide) rfl), ag_ (ald rfl ti37 (by decide) rfl (nle rfl) rfl), ag_ (amv rfl), ag_ (aid rfl Try.underlying37 ti3 rfl rfl hi35 (mgt c_i64 hj36) rfl), ag_ (ald_ rfl ti3 (by decide) (nle rfl) rfl), ag_ (abn rfl rfl), ag_ (apk rfl rfl), apk rfl rfl, asb hb40 (amv rfl), ag_ (amv rfl), ag_ (abn rfl rfl), asb hb41 (ag_ (amv rfl)), ag_ (afa rfl Try.underlying40 rfl rfl ti37 (by decide) rfl), ag_ (ald rfl ti37 (by decide) rfl (nle rfl) rfl), ag_ (amv rfl), ag_ (aid rfl Try.underlying37 ti3 rfl rfl hi35 (mgt c_i64 hj36) rfl), ag_ (ald_ rfl ti3 (by decide) (nle rfl) rfl), ag_ (afa rfl Try.underlying40 rfl rfl ti37 (by decide) rfl), ag_ (ald rfl ti37 (by decide) rfl (nle rfl) rfl), ag_ (amv rfl), ag_ (abn rfl rfl), ag_ (aid rfl Try.underlying37 ti3 rfl rfl hi44 (mgt c_i64 hj45) rfl), ag_ (ald_ rfl ti3 (by decide) (nle rfl) rfl), ag_ (abn rfl rfl), ag_ (apk rfl rfl), apk rfl rfl, trivial⟩
         rcases bft ((decide (x33 ≤ x42))) with hc46 | hc46
         ·replace h := bif_t hc46 h
          refine wft hc46 (by kernel_rfl) ?_
          refine wrg [mc (.bool false)] ?_ ?_
          ·exact ⟨aas rfl, trivial⟩
          refine awp_ret ?_
          refine blockA_r ?_
          refine thenA_r ?_
          refine thenA_r ?_
          refine blockA_r ?_
          refine thenA_r ?_
          obtain rfl := osi h
          exact ⟨⟨[B false], ⟨rot (by kernel_rfl), trivial⟩, rfl⟩, nll, Nat.le_refl _, fun n hn => absurd hn (Nat.not_lt_zero n)⟩
         ·replace h := bif_f hc46 h
          refine wfn hc46 (by kernel_rfl) ?_
          refine awp_skip ?_
          refine bln ?_
          refine thn ?_
          refine awp_reg1 [mv 3 (I y29), rp [(.tmp 10, I y29), ci 1] (I (w64 (y29 + 1))), mv 11 (I (w64 (y29 + 1)))] ?_ ?_
          ·exact ⟨amv rfl, abn rfl rfl, aas rfl, trivial⟩
          refine thn ?_
          exact arm (mto (n := 122) [(1, .ref 0 5 0 0), (3, (I (w64 (y29 + 1))))] [0] [(z126_1 p0)] hφ0 (pc (.rn (rqr rfl)) (pc rwl pn)) (qc (spb (lc (.rn (.plain _ (nld nl_i64 _))) (lc rwl (lc rwl (lc rwl (lc (.rn (.plain _ (nld nl_GHour _))) ln)))))) qn)) (ih (w64 (y29 + 1)) h)
        ·replace h := bif_f hb41 h
         refine awp_regd [rb [(.tmp 1, .ref 0 5 0 0)] [(0, (z126_1 p0))] (.ref 0 5 0 0), rb [(.tmp 12, .ref 0 5 0 0)] [(0, (z126_1 p0))] (.dat 1 ((p0.Levels : List Int).map c_i64)), mv 3 (I y29), rp [(.tmp 13, (.dat 1 ((p0.Levels : List Int).map c_i64))), (.tmp 14, I y29)] (.dptr (c_i64 (x33)) 0), rp [(.tmp 15, (.dptr (c_i64 (x33)) 0))] (I x33), rp [(.tmp 16, I x33), ci 0] (B ((decide (x33 < 0)))), rp [(.tmp 17, (B ((decide (x33 < 0)))))] (B false), rb [(.tmp 18, B false), (.tmp 1, .ref 0 5 0 0)] [(0, (z126_1 p0))] (.ref 0 5 0 0), rb [(.tmp 18, B false), (.tmp 19, .ref 0 5 0 0)] [(0, (z126_1 p0))] (.dat 1 ((p0.Levels : List Int).map c_i64)), rp [(.tmp 18, B false), (.tmp 3, I y29)] (I y29), rp [(.tmp 18, B false), (.tmp 20, (.dat 1 ((p0.Levels : List Int).map c_i64))), (.tmp 21, I y29)] (.dptr (c_i64 (x33)) 0), rp [(.tmp 18, B false), (.tmp 22, (.dptr (c_i64 (x33)) 0))] (I x33), rp [(.tmp 18, B false), (.tmp 23, I x33), ci 1000000] (B ((decide (x33 > 1000000)))), rp [(.tmp 18, B false), cb true, (.tmp 24, (B ((decide (x33 > 1000000)))))] (B ((decide (x33 > 1000000)))), rp [(.tmp 25, (B ((decide (x33 > 1000000)))))] (B false), rp [(.tmp 26, B false), (.tmp 3, I y29)] (I y29), rp [(.tmp 26, B false), (.tmp 27, I y29), ci 0] (B ((y29 == 0))), rp [(.tmp 26, B false), (.tmp 28, (B ((y29 == 0))))] (B true), rb [(.tmp 29, B true), (.tmp 1, .ref 0 5 0 0)] [(0, (z126_1 p0))] (.ref 0 5 0 0), rb [(.tmp 29, B true), (.tmp 30, .ref 0 5 0 0)] [(0, (z126_1 p0))] (.dat 1 ((p0.Levels : List Int).map c_i64)), rp [(.tmp 29, B true), (.tmp 3, I y29)] (I y29), rp [(.tmp 29, B true), (.tmp 31, (.dat 1 ((p0.Levels : List Int).map c_i64))), (.tmp 32, I y29)] (.dptr (c_i64 (x33)) 0), rp [(.tmp 29, B true), (.tmp 33, (.dptr (c_i64 (x33)) 0))] (I x33), rp [(.tmp 29, B true), (.tmp 34, I x33), ci 0] (B ((x33 != 0))), rp [(.tmp 26, B false), (.tmp 29, B true), (.tmp 35, (B ((x33 != 0)))), cb false] (B ((x33 != 0))), rp [(.tmp 26, B false), cb true, (.tmp 36, (B ((x33 != 0))))] (B ((x33 != 0))), rp [(.tmp 37, (B ((x33 != 0))))] (B false), rp [(.tmp 38, B false), (.tmp 3, I y29)] (I y29), rp [(.tmp 38, B false), (.tmp 39, I y29), ci 0] (B ((decide (y29 > 0)))), rp [(.tmp 38, B false), (.tmp 40, (B ((decide (y29 > 0)))))] (B false), sk 41 (B false), sk 41 (B false), sk 41 (B false), sk 41 (B false), sk 41 (B false), sk 41 (B false), sk 41 (B false), sk 41 (B false), sk 41 (B false), sk 41 (B false), sk 41 (B false), sk 41 (B false), rp [(.tmp 38, B false), (.tmp 41, B false), (.tmp 53, (.lit undef)), cb false] (B false), rp [(.tmp 38, B false), cb true, (.tmp 54, B false)] (B false)] ?_ ?_
         ·exact ⟨afa rfl Try.underlying40 rfl rfl ti37 (by decide) rfl, ald rfl ti37 (by decide) rfl (nle rfl) rfl, amv rfl, aid rfl Try.underlying37 ti3 rfl rfl hi35 (mgt c_i64 hj36) rfl, ald_ rfl ti3 (by decide) (nle rfl) rfl, abn rfl rfl, asb hb37 (amv rfl), ag_ (afa rfl Try.underlying40 rfl rfl ti37 (by decide) rfl), ag_ (ald rfl ti37 (by decide) rfl (nle rfl) rfl), ag_ (amv rfl), ag_ (aid rfl Try.underlying37 ti3 rfl rfl hi35 (mgt c_i64 hj36) rfl), ag_ (ald_ rfl ti3 (by decide) (nle rfl) rfl), ag_ (abn rfl rfl), apk rfl rfl, asb hb38 (amv rfl), ag_ (amv rfl), ag_ (abn rfl rfl), asb hb39 (ag_ (amv rfl)), ag_ (afa rfl Try.underlying40 rfl rfl ti37 (by decide) rfl), ag_ (ald rfl ti37 (by decide) rfl (nle rfl) rfl), ag_ (amv rfl), ag_ (aid rfl Try.underlying37 ti3 rfl rfl hi35 (mgt c_i64 hj36) rfl), ag_ (ald_ rfl ti3 (by decide) (nle rfl) rfl), ag_ (abn rfl rfl), ag_ (apk rfl rfl), apk rfl rfl, asb hb40 (amv rfl), ag_ (amv rfl), ag_ (abn rfl rfl), asb hb41 (ag_ (amv rfl)), trivial, trivial, trivial, trivial, trivial, trivial, trivial, trivial, trivial, trivial, trivial, trivial, ag_ (apk rfl rfl), apk rfl rfl, trivial⟩
         refine awp_false (by kernel_rfl) ?_
         refine awp_skip ?_
         refine bln ?_
         refine thn ?_
         refine awp_reg1 [mv 3 (I y29), rp [(.tmp 10, I y29), ci 1] (I (w64 (y29 + 1))), mv 11 (I (w64 (y29 + 1)))] ?_ ?_
         ·exact ⟨amv rfl, abn rfl rfl, aas rfl, trivial⟩
         refine thn ?_
         exact arm (mto (n := 122) [(1, .ref 0 5 0 0), (3, (I (w64 (y29 + 1))))] [0] [(z126_1 p0)] hφ0 (pc (.rn (rqr rfl)) (pc rwl pn)) (qc (spb (lc (.rn (.plain _ (nld nl_i64 _))) (lc rwl (lc rwl (lc rwl (lc (.rn (.plain _ (nld nl_GHour _))) ln)))))) qn)) (ih (w64 (y29 + 1)) h)
      ·replace h := bif_f hb39 h
       rcases bft ((decide (y29 > 0))) with hb47 | hb47
       ·replace h := bif_t hb47 h
        obtain ⟨x48, hg49, h⟩ := bno h
        obtain ⟨hi50, hj51⟩ := gsm hg49
        refine awp_regd [rb [(.tmp 1, .ref 0 5 0 0)] [(0, (z126_1 p0))] (.ref 0 5 0 0), rb [(.tmp 12, .ref 0 5 0 0)] [(0, (z126_1 p0))] (.dat 1 ((p0.Levels : List Int).map c_i64)), mv 3 (I y29), rp [(.tmp 13, (.dat 1 ((p0.Levels : List Int).map c_i64))), (.tmp 14, I y29)] (.dptr (c_i64 (x33)) 0), rp [(.tmp 15, (.dptr (c_i64 (x33)) 0))] (I x33), rp [(.tmp 16, I x33), ci 0] (B ((decide (x33 < 0)))), rp [(.tmp 17, (B ((decide (x33 < 0)))))] (B false), rb [(.tmp 18, B false), (.tmp 1, .ref 0 5 0 0)] [(0, (z126_1 p0))] (.ref 0 5 0 0), rb [(.tmp 18, B false), (.tmp 19, .ref 0 5 0 0)] [(0, (z126_1 p0))] (.dat 1 ((p0.Levels : List Int).map c_i64)), rp [(.tmp 18, B false), (.tmp 3, I y29)] (I y29), rp [(.tmp 18, B false), (.tmp 20, (.dat 1 ((p0.Levels : List Int).map c_i64))), (.tmp 21, I y29)] (.dptr (c_i64 (x33)) 0), rp [(.tmp 18, B false), (.tmp 22, (.dptr (c_i64 (x33)) 0))] (I x33), rp [(.tmp 18, B false), (.tmp 23, I x33), ci 1000000] (B ((decide (x33 > 1000000)))), rp [(.tmp 18, B false), cb true, (.tmp 24, (B ((decide (x33 > 1000000)))))] (B ((decide (x33 > 1000000)))), rp [(.tmp 25, (B ((decide (x33 > 1000000)))))] (B false), rp [(.tmp 26, B false), (.tmp 3, I y29)] (I y29), rp [(.tmp 26, B false), (.tmp 27, I y29), ci 0] (B ((y29 == 0))), rp [(.tmp 26, B false), (.tmp 28, (B ((y29 == 0))))] (B false), sk 29 (B false), sk 29 (B false), sk 29 (B false), sk 29 (B false), sk 29 (B false), sk 29 (B false), rp [(.tmp 26, B false), (.tmp 29, B false), (.tmp 35, (.lit undef)), cb false] (B false), rp [(.tmp 26, B false), cb true, (.tmp 36, B false)] (B false), mv 37 (B false), rp [(.tmp 38, B false), (.tmp 3, I y29)] (I y29), rp [(.tmp 38, B false), (.tmp 39, I y29), ci 0] (B ((decide (y29 > 0)))), rp [(.tmp 38, B false), (.tmp 40, (B ((decide (y29 > 0)))))] (B true), rb [(.tmp 41, B true), (.tmp 1, .ref 0 5 0 0)] [(0, (z126_1 p0))] (.ref 0 5 0 0), rb [(.tmp 41, B true), (.tmp 42, .ref 0 5 0 0)] [(0, (z126_1 p0))] (.dat 1 ((p0.Levels : List Int).map c_i64)), rp [(.tmp 41, B true), (.tmp 3, I y29)] (I y29), rp [(.tmp 41, B true), (.tmp 43, (.dat 1 ((p0.Levels : List Int).map c_i64))), (.tmp 44, I y29)] (.dptr (c_i64 (x33)) 0), rp [(.tmp 41, B true), (.tmp 45, (.dptr (c_i64 (x33)) 0))] (I x33), rb [(.tmp 41, B true), (.tmp 1, .ref 0 5 0 0)] [(0, (z126_1 p0))] (.ref 0 5 0 0), rb [(.tmp 41, B true), (.tmp 47, .ref 0 5 0 0)] [(0, (z126_1 p0))] (.dat 1 ((p0.Levels : List Int).map c_i64)), rp [(.tmp 41, B true), (.tmp 3, I y29)] (I y29), rp [(.tmp 41, B true), (.tmp 49, I y29), ci 1] (I (w64 (y29 - 1))), rp [(.tmp 41, B true), (.tmp 48, (.dat 1 ((p0.Levels : List Int).map c_i64))), (.tmp 50, (I (w64 (y29 - 1))))] (.dptr (c_i64 (x48)) 0), rp [(.tmp 41, B true), (.tmp 51, (.dptr (c_i64 (x48)) 0))] (I x48), rp [(.tmp 41, B true), (.tmp 46, I x33), (.tmp 52, I x48)] (B ((decide (x33 ≤ x48)))), rp [(.tmp 38, B false), (.tmp 41, B true), (.tmp 53, (B ((decide (x33 ≤ x48))))), cb false] (B ((decide (x33 ≤ x48)))), rp [(.tmp 38, B false), cb true, (.tmp 54, (B ((decide (x33 ≤ x48)))))] (B ((decide (x33 ≤ x48))))] ?_ ?_
        ·exact ⟨afa rfl Try.underlying40 rfl rfl ti37 (by decide) rfl, ald rfl ti37 (by decide) rfl (nle rfl) rfl, amv rfl, aid rfl Try.underlying37 ti3 rfl rfl hi35 (mgt c_i64 hj36) rfl, ald_ rfl ti3 (by decide) (nle rfl) rfl, abn rfl rfl, asb hb37 (amv rfl), ag_ (afa rfl Try.underlying40 rfl rfl ti37 (by decide) rfl), ag_ (ald rfl ti37 (by decide) rfl (nle rfl) rfl), ag_ (amv rfl), ag_ (aid rfl Try.underlying37 ti3 rfl rfl hi35 (mgt c_i64 hj36) rfl), ag_ (ald_ rfl ti3 (by decide) (nle rfl) rfl), ag_ (abn rfl rfl), apk rfl rfl, asb hb38 (amv rfl), ag_ (amv rfl), ag_ (abn rfl rfl), asb hb39 (ag_ (amv rfl)), trivial, trivial, trivial, trivial, trivial, trivial, ag_ (apk rfl rfl), apk rfl rfl, amv rfl, ag_ (amv rfl), ag_ (abn rfl rfl), asb hb47 (ag_ (amv rfl)), ag_ (afa rfl Try.underlying40 rfl rfl ti37 (by decide) rfl), ag_ (ald rfl ti37 (by decide) rfl (nle rfl) rfl), ag_ (amv rfl), ag_ (aid rfl Try.underlying37 ti3 rfl rfl hi35 (mgt c_i64 hj36) rfl), ag_ (ald_ rfl ti3 (by decide) (nle rfl) rfl), ag_ (afa rfl Try.underlying40 rfl rfl ti37 (by decide) rfl), ag_ (ald rfl ti37 (by decide) rfl (nle rfl) rfl), ag_ (amv rfl), ag_ (abn rfl rfl), ag_ (aid rfl Try.underlying37 ti3 rfl rfl hi50 (mgt c_i64 hj51) rfl), ag_ (ald_ rfl ti3 (by decide) (nle rfl) rfl), ag_ (abn rfl rfl), ag_ (apk rfl rfl), apk rfl rfl, trivial⟩
        rcases bft ((decide (x33 ≤ x48))) with hc52 | hc52
        ·replace h := bif_t hc52 h
         refine wft hc52 (by kernel_rfl) ?_
         refine wrg [mc (.bool false)] ?_ ?_
         ·exact ⟨aas rfl, trivial⟩
         refine awp_ret ?_
         refine blockA_r ?_
         refine thenA_r ?_
         refine thenA_r ?_
         refine blockA_r ?_
         refine thenA_r ?_
         obtain rfl := osi h
         exact ⟨⟨[B false], ⟨rot (by kernel_rfl), trivial⟩, rfl⟩, nll, Nat.le_refl _, fun n hn => absurd hn (Nat.not_lt_zero n)⟩
        ·replace h := bif_f hc52 h
         refine wfn hc52 (by kernel_rfl) ?_
         refine awp_skip ?_
         refine bln ?_
         refine thn ?_
         refine awp_reg1 [mv 3 (I y29), rp [(.tmp 10, I y29), ci 1] (I (w64 (y29 + 1))), mv 11 (I (w64 (y29 + 1)))] ?_ ?_
         ·exact ⟨amv rfl, abn rfl rfl, aas rfl, trivial⟩
         refine thn ?_
         exact arm (mto (n := 122) [(1, .ref 0 5 0 0), (3, (I (w64 (y29 + 1))))] [0] [(z126_1 p0)] hφ0 (pc (.rn (rqr rfl)) (pc rwl pn)) (qc (spb (lc (.rn (.plain _ (nld nl_i64 _))) (lc rwl (lc rwl (lc rwl (lc (.rn (.plain _ (nld nl_GHour _))) ln)))))) qn)) (ih (w64 (y29 + 1)) h)
       ·replace h := bif_f hb47 h
        refine awp_regd [rb [(.tmp 1, .ref 0 5 0 0)] [(0, (z126_1 p0))] (.ref 0 5 0 0), rb [(.tmp 12, .ref 0 5 0 0)] [(0, (z126_1 p0))] (.dat 1 ((p0.Levels : List Int).map c_i64)), mv 3 (I y29), rp [(.tmp 13, (.dat 1 ((p0.Levels : List Int).map c_i64))), (.tmp 14, I y29)] (.dptr (c_i64 (x33)) 0), rp [(.tmp 15, (.dptr (c_i64 (x33)) 0))] (I x33), rp [(.tmp 16, I x33), ci 0] (B ((decide (x33 < 0)))), rp [(.tmp 17, (B ((decide (x33 < 0)))))] (B false), rb [(.tmp 18, B false), (.tmp 1, .ref 0 5 0 0)] [(0, (z126_1 p0))] (.ref 0 5 0 0), rb [(.tmp 18, B false), (.tmp 19, .ref 0 5 0 0)] [(0, (z126_1 p0))] (.dat 1 ((p0.Levels : List Int).map c_i64)), rp [(.tmp 18, B false), (.tmp 3, I y29)] (I y29), rp [(.tmp 18, B false), (.tmp 20, (.dat 1 ((p0.Levels : List Int).map c_i64))), (.tmp 21, I y29)] (.dptr (c_i64 (x33)) 0), rp [(.tmp 18, B false), (.tmp 22, (.dptr (c_i64 (x33)) 0))] (I x33), rp [(.tmp 18, B false), (.tmp 23, I x33), ci 1000000] (B ((decide (x33 > 1000000)))), rp [(.tmp 18, B false), cb true, (.tmp 24, (B ((decide (x33 > 1000000)))))] (B ((decide (x33 > 1000000)))), rp [(.tmp 25, (B ((decide (x33 > 1000000)))))] (B false), rp [(.tmp 26, B false), (.tmp 3, I y29)] (I y29), rp [(.tmp 26, B false), (.tmp 27, I y29), ci 0] (B ((y29 == 0))), rp [(.tmp 26, B false), (.tmp 28, (B ((y29 == 0))))] (B false), sk 29 (B false), sk 29 (B false), sk 29 (B false), sk 29 (B false), sk 29 (B false), sk 29 (B false), rp [(.tmp 26, B false), (.tmp 29, B false), (.tmp 35, (.lit undef)), cb false] (B false), rp [(.tmp 26, B false), cb true, (.tmp 36, B false)] (B false), mv 37 (B false), rp [(.tmp 38, B false), (.tmp 3, I y29)] (I y29), rp [(.tmp 38, B false), (.tmp 39, I y29), ci 0] (B ((decide (y29 > 0)))), rp [(.tmp 38, B false), (.tmp 40, (B ((decide (y29 > 0)))))] (B false), sk 41 (B false), sk 41 (B false), sk 41 (B false), sk 41 (B false), sk 41 (B false), sk 41 (B false), sk 41 (B false), sk 41 (B false), sk 41 (B false), sk 41 (B false), sk 41 (B false), sk 41 (B false), rp [(.tmp 38, B false), (.tmp 41, B false), (.tmp 53, (.lit undef)), cb false] (B false), rp [(.tmp 38, B false), cb true, (.tmp 54, B false)] (B false)] ?_ ?_
        ·exact ⟨afa rfl Try.underlying40 rfl rfl ti37 (by decide) rfl, ald rfl ti37 (by decide) rfl (nle rfl) rfl, amv rfl, aid rfl Try.underlying37 ti3 rfl rfl hi35 (mgt c_i64 hj36) rfl, ald_ rfl ti3 (by decide) (nle rfl) rfl, abn rfl rfl, asb hb37 (amv rfl), ag_ (afa rfl Try.underlying40 rfl rfl ti37 (by decide) rfl), ag_ (ald rfl ti37 (by decide) rfl (nle rfl) rfl), ag_ (amv rfl), ag_ (aid rfl Try.underlying37 ti3 rfl rfl hi35 (mgt c_i64 hj36) rfl), ag_ (ald_ rfl ti3 (by decide) (nle rfl) rfl), ag_ (abn rfl rfl), apk rfl rfl, asb hb38 (amv rfl), ag_ (amv rfl), ag_ (abn rfl rfl), asb hb39 (ag_ (amv rfl)), trivial, trivial, trivial, trivial, trivial, trivial, ag_ (apk rfl rfl), apk rfl rfl, amv rfl, ag_ (amv rfl), ag_ (abn rfl rfl), asb hb47 (ag_ (amv rfl)), trivial, trivial, trivial, trivial, trivial, trivial, trivial, trivial, trivial, trivial, trivial, trivial, ag_ (apk rfl rfl), apk rfl rfl, trivial⟩
        refine awp_false (by kernel_rfl) ?_
        refine awp_skip ?_
        refine bln ?_
        refine thn ?_
        refine awp_reg1 [mv 3 (I y29), rp [(.tmp 10, I y29), ci 1] (I (w64 (y29 + 1))), mv 11 (I (w64 (y29 + 1)))] ?_ ?_
        ·exact ⟨amv rfl, abn rfl rfl, aas rfl, trivial⟩
        refine thn ?_
        exact arm (mto (n := 122) [(1, .ref 0 5 0 0), (3, (I (w64 (y29 + 1))))] [0] [(z126_1 p0)] hφ0 (pc (.rn (rqr rfl)) (pc rwl pn)) (qc (spb (lc (.rn (.plain _ (nld nl_i64 _))) (lc rwl (lc rwl (lc rwl (lc (.rn (.plain _ (nld nl_GHour _))) ln)))))) qn)) (ih (w64 (y29 + 1)) h)
   ·replace h := bif_f hc32 h
    refine wfn hc32 (by kernel_rfl) ?_
    refine awp_exit ?_
    refine thenA_x ?_
    refine thenA_x ?_
    refine blockA_e rfl ?_
    refine thn ?_
    exact ⟨(), h, (mto (n := 122) [(1, .ref 0 5 0 0)] [0] [(z126_1 p0)] hφ0 (pc (.rn (rqr rfl)) pn) (qc (spb (lc (.rn (.plain _ (nld nl_i64 _))) (lc rwl (lc rwl (lc rwl (lc (.rn (.plain _ (nld nl_GHour _))) ln)))))) qn))⟩

end Go.Proofs.Ytlhakkkjgdbdpaa
