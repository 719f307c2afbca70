/-
  Functions of the program: what they compute, as plain functions, and that they do. No conditions.
-/
import Derived.Test.YtlhakkkjgdbdpaaX6
namespace Go.Proofs.Ytlhakkkjgdbdpaa
open Go.RowKit

def law07_JobX_loop1 (N : Nat) (p0 : GJob) (k4 : (List GHour) → Option GJob) : Nat → Int → (List GHour) → Option GJob
  | 0, _, _ => none
  | n9 + 1, y5, y6 =>
    bif (decide (y5 < (p0.Hours.length : Int))) then
     (getI p0.Hours y5).bind fun x11 =>
     chk (decide ((y6.length + ([x11]).length) * 16 ≤ 140737488355328)) <|
     law07_JobX_loop1 N p0 k4 n9 (w64 (y5 + 1)) (y6 ++ ([x11]))
    else
     k4 (y6)
def law07_JobX (N : Nat) (p0 : GJob) : Option GJob :=
  (law07_listX N p0.Levels).bind fun x2 =>
  joinK (fun y3 =>
    some (⟨x2, p0.Ramp, p0.Start, p0.First, y3⟩ : GJob)) fun k4 : (List GHour) → Option GJob =>
  law07_JobX_loop1 N p0 k4 N 0 ([])
def z125_4 (x2 : (List Int)) (p0 : GJob) : AV := .agg [(.dat 1 ((x2 : List Int).map c_i64)), (I (p0.Ramp)), (I (p0.Start)), (I (p0.First)), nilS]
def z125_3 : Slot := .own 5 [[nilS, (I (0)), (I (0)), (I (0)), nilS]]
def z125_20 (y3 : (List GHour)) : AV := .acc 2 50 2 ((y3 : List GHour).map c_GHour)
def z125_21 (x2 : (List Int)) (p0 : GJob) (y3 : (List GHour)) : Slot := .own 5 [[(.dat 1 ((x2 : List Int).map c_i64)), (I (p0.Ramp)), (I (p0.Start)), (I (p0.First)), (z125_20 y3)]]
def z125_37 (x2 : (List Int)) (p0 : GJob) (y3 : (List GHour)) : AV := .agg [(.dat 1 ((x2 : List Int).map c_i64)), (I (p0.Ramp)), (I (p0.Start)), (I (p0.First)), (.dat 2 ((y3 : List GHour).map c_GHour))]
def z125_22 (x2 : (List Int)) (p0 : GJob) (y3 : (List GHour)) : AV := .agg [(.dat 1 ((x2 : List Int).map c_i64)), (I (p0.Ramp)), (I (p0.Start)), (I (p0.First)), (z125_20 y3)]
def z125_0 (p0 : GJob) : AV := .dat 2 ((p0.Hours : List GHour).map c_GHour)
def z125_1 (p0 : GJob) : Slot := .own 5 [[(.dat 1 ((p0.Levels : List Int).map c_i64)), (I (p0.Ramp)), (I (p0.Start)), (I (p0.First)), (z125_0 p0)]]
def z125_14 : AV := .acc 3 50 2 ((([]) : List GHour).map c_GHour)
def z125_15 (x2 : (List Int)) (p0 : GJob) : Slot := .own 5 [[(.dat 1 ((x2 : List Int).map c_i64)), (I (p0.Ramp)), (I (p0.Start)), (I (p0.First)), z125_14]]
def z125_12 : AV := .acc 3 50 2 (([] : List GHour).map c_GHour)
def z125_13 (x2 : (List Int)) (p0 : GJob) : Slot := .own 5 [[(.dat 1 ((x2 : List Int).map c_i64)), (I (p0.Ramp)), (I (p0.Start)), (I (p0.First)), z125_12]]
def z125_27 (y6 : (List GHour)) : AV := .acc 3 50 2 ((y6 : List GHour).map c_GHour)
def z125_28 (x2 : (List Int)) (p0 : GJob) (y6 : (List GHour)) : Slot := .own 5 [[(.dat 1 ((x2 : List Int).map c_i64)), (I (p0.Ramp)), (I (p0.Start)), (I (p0.First)), (z125_27 y6)]]
def z125_33 (y6 : (List GHour)) (x11 : GHour) : AV := .acc 4 50 2 ((y6 ++ ([x11]) : List GHour).map c_GHour)
def z125_34 (x2 : (List Int)) (p0 : GJob) (y6 : (List GHour)) (x11 : GHour) : Slot := .own 5 [[(.dat 1 ((x2 : List Int).map c_i64)), (I (p0.Ramp)), (I (p0.Start)), (I (p0.First)), (z125_33 y6 x11)]]
set_option maxRecDepth 100000 in
set_option maxHeartbeats 4000000 in
theorem law07_JobX_ok (N : Nat) (p0 : GJob) (r : GJob) (h : law07_JobX N p0 = some r) : Spec Try.prog 22 [(.agg (c_GJob p0))] [] (.agg (c_GJob r)) [] := by
  refine spec_of_awp Try.func22 rfl 0 (nle rfl) (fun X φ0 w0 hφ0 => ?_)
  unfold law07_JobX at h
  refine wx tbk [] trivial ?_
  obtain ⟨x2, hf1, h⟩ := bno h
  refine wxd tbk [(2, rp [fu 37, (.tmp 6, (.dat 1 ((p0.Levels : List Int).map c_i64)))] (.dat 1 ((x2 : List Int).map c_i64))), (9, rp [(.tmp 7, (.dat 1 ((x2 : List Int).map c_i64))), (.tmp 9, I p0.Ramp), (.tmp 11, I p0.Start), (.tmp 13, I p0.First)] (z125_4 x2 p0))] ⟨apc (first := []) (cap := []) (vs := [(.dat 1 ((p0.Levels : List Int).map c_i64))]) rfl enter37 (law07_listX_ok N p0.Levels _ hf1) rfl rfl (nlc (nld nl_i64 _) nl0) (nld nl_i64 _) rfl, astep_build (vs := [(.dat 1 ((x2 : List Int).map c_i64)), I p0.Ramp, I p0.Start, I p0.First]) rfl ts47 tz47 rfl (by rfl) rfl, trivial⟩ ?_
  obtain ⟨k4, hk_k4, h⟩ := jko h
  refine wjn (τ := (List GHour)) (fun t => k4 t = some r) (fun y3 => ⟨mk 41 [(2, .ref 0 5 0 0), (3, .ref 1 5 0 0)], [z125_3, (z125_21 x2 p0 y3), .tok]⟩) (fun y3 h => ?_) ?_
  ·subst hk_k4
   refine wx tbk [] trivial ?_
   refine awp_ret ?_
   obtain rfl := osi h
   exact ⟨⟨[(z125_37 x2 p0 y3)], ⟨resOK_less (v := (z125_22 x2 p0 y3)) (resOK_cell (n := 0) (m := 5) (j := 0) (i := 0) (xs := [[(.dat 1 ((x2 : List Int).map c_i64)), I p0.Ramp, I p0.Start, I p0.First, (z125_20 y3)]]) (by kernel_rfl) (by kernel_rfl) ti47 (by decide) rfl (nle rfl) rfl) (Less.agg ⟨lrf, lrf, lrf, lrf, Less.acc, trivial⟩), trivial⟩, rfl⟩, (NLt.agg _ (nlc (nld nl_i64 _) (nlc nll (nlc nll (nlc nll (nlc (nld nl_GHour _) nl0)))))), Nat.le_refl _, fun n hn => absurd hn (Nat.not_lt_zero n)⟩
  ·skip
   refine wx tbk [] trivial ?_
   refine awp_block ?_
   refine wmr (Mor.trans (mor_nilb (n := 3) (ty := 50) (m := 2) (q := 2) (mq := 5) (c := [(.dat 1 ((x2 : List Int).map c_i64)), I p0.Ramp, I p0.Start, I p0.First, nilS]) 4 (by kernel_rfl) (by kernel_rfl) (by kernel_rfl) (by decide)) (mto (n := 41) (l' := [(1, .ref 0 5 0 0), (2, .ref 1 5 0 0), (3, .ref 2 5 0 0), (4, I 0)]) (own' := [(z125_1 p0), z125_3, (z125_15 x2 p0), .tok]) [(1, .ref 0 5 0 0), (2, .ref 1 5 0 0), (3, .ref 2 5 0 0), (4, I 0)] [0, 1, 2, 3] [(z125_1 p0), z125_3, (z125_13 x2 p0), .tok] hφ0 (pc (.rn (rqr rfl)) (pc (.rn (rqr rfl)) (pc (.rn (rqr rfl)) (pc rwl pn)))) (qc (spb (lc (.rn (.plain _ (nld nl_i64 _))) (lc rwl (lc rwl (lc rwl (lc (.rn (.plain _ (nld nl_GHour _))) ln)))))) (qc (spb (lc rwl (lc rwl (lc rwl (lc rwl (lc rwl ln)))))) (qc (spb (lc (.rn (.plain _ (nld nl_i64 _))) (lc rwl (lc rwl (lc rwl (lc (.rn (rnq_acc rfl (nl_rows nl_GHour _))) ln)))))) (qc .tok qn)))))) ?_
   refine awp_ind (τ := Int × (List GHour)) (fun n t => law07_JobX_loop1 N p0 k4 n t.1 t.2 = some r) (fun ⟨y5, y6⟩ => ⟨mk 41 [(1, .ref 0 5 0 0), (2, .ref 1 5 0 0), (3, .ref 2 5 0 0), (4, I y5)], [(z125_1 p0), z125_3, (z125_28 x2 p0 y6), .tok]⟩) (fun t h => by rw [law07_JobX_loop1] at h; cases h) (fun n9 ih t h => ?_) N (0, []) h
   obtain ⟨y5, y6⟩ := t
   rw [law07_JobX_loop1] at h
   skip
   refine wsq ?_
   refine wx tbk [(3, rp [(.tmp 17, (z125_0 p0))] (I ((p0.Hours.length : Int))))] ⟨alm (c := c_GHour) (l := p0.Hours) (aln rfl Try.underlying38 rfl), trivial⟩ ?_
   rcases bft ((decide (y5 < (p0.Hours.length : Int)))) with hc10 | hc10
   ·replace h := bif_t hc10 h
    refine wft hc10 (by kernel_rfl) ?_
    refine awp_skip ?_
    refine thn ?_
    refine wsq ?_
    refine awp_block ?_
    obtain ⟨x11, hg12, h⟩ := bno h
    obtain ⟨hi13, hj14⟩ := gsm hg12
    obtain ⟨ha15, h⟩ := cko h
    refine wy1 tbk [(5, rp [(.tmp 25, (z125_0 p0)), (.tmp 26, I y5)] (.dptr (c_GHour (x11)) 0)), (11, rp [(.tmp 31, (z125_0 p0)), (.tmp 32, I y5)] (.dptr (c_GHour (x11)) 0)), (14, rp [(.tmp 29, I x11.Price), (.tmp 35, I x11.Most)] (.agg [I x11.Price, I x11.Most])), (15, rp [(.tmp 36, (.agg [I x11.Price, I x11.Most]))] (.dat 2 (([x11] : List GHour).map c_GHour))), (16, ⟨[(.tmp 23, (z125_27 y6)), (.tmp 37, (.dat 2 (([x11] : List GHour).map c_GHour)))], [(3, .tok), (4, .unused)], (z125_33 y6 x11), [(3, .dead), (4, .tok)], false⟩)] ⟨aid rfl Try.underlying38 ti119 rfl rfl hi13 (mgt c_GHour hj14) rfl, aid rfl Try.underlying38 ti119 rfl rfl hi13 (mgt c_GHour hj14) rfl, astep_build (vs := [I x11.Price, I x11.Most]) rfl ts50 tz50 rfl (by rfl) rfl, astep_bslice (vs := [(.agg [I x11.Price, I x11.Most])]) rfl Try.underlying45 ti50 tz50 rfl (by decide) rfl (by decide) (by rfl) (by rfl) (by rfl) rfl, astep_app rfl Try.underlying45 te50 (Base.acc _ _) rfl rfl (by rfl) (app_le1 c_GHour ha15) (app_le2 c_GHour ha15 (by decide)) (app_map c_GHour) rfl rfl, trivial⟩ ?_
    refine bln ?_
    refine thn ?_
    refine wx1 tbk [] trivial ?_
    refine thn ?_
    exact arm (mto (n := 41) [(1, .ref 0 5 0 0), (2, .ref 1 5 0 0), (3, .ref 2 5 0 0), (4, (I (w64 (y5 + 1))))] [0, 1, 2, 4] [(z125_1 p0), z125_3, (z125_34 x2 p0 y6 x11), .tok] hφ0 (pc (.rn (rqr rfl)) (pc (.rn (rqr rfl)) (pc (.rn (rqr rfl)) (pc rwl pn)))) (qc (spb (lc (.rn (.plain _ (nld nl_i64 _))) (lc rwl (lc rwl (lc rwl (lc (.rn (.plain _ (nld nl_GHour _))) ln)))))) (qc (spb (lc rwl (lc rwl (lc rwl (lc rwl (lc rwl ln)))))) (qc (spb (lc (.rn (.plain _ (nld nl_i64 _))) (lc rwl (lc rwl (lc rwl (lc (.rn (rnq_acc rfl (nl_rows nl_GHour _))) ln)))))) (qc .tok qn))))) (ih (w64 (y5 + 1), y6 ++ ([x11])) h)
   ·replace h := bif_f hc10 h
    refine wfn hc10 (by kernel_rfl) ?_
    refine awp_exit ?_
    refine thenA_x ?_
    refine thenA_x ?_
    refine blockA_e rfl ?_
    refine thn ?_
    exact ⟨(y6), h, (mto (n := 41) [(2, .ref 1 5 0 0), (3, .ref 2 5 0 0)] [1, 2, 3] [z125_3, (z125_28 x2 p0 y6), .tok] hφ0 (pc (.rn (rqr rfl)) (pc (.rn (rqr rfl)) pn)) (qc (spb (lc rwl (lc rwl (lc rwl (lc rwl (lc rwl ln)))))) (qc (spb (lc (.rn (.plain _ (nld nl_i64 _))) (lc rwl (lc rwl (lc rwl (lc (.rn (rnq_acc rfl (nl_rows nl_GHour _))) ln)))))) (qc .tok qn))))⟩

def ref07_RightJobX_loop1 (N : Nat) (p0 : GJob) (k2 : Unit → Option Bool) : Nat → Int → Option Bool
  | 0, _ => none
  | n17 + 1, y15 =>
    bif (decide (y15 < (p0.Hours.length : Int))) then
     (getI p0.Hours y15).bind fun x19 =>
     (ref01_InX N x19.Price (-1000) 1000).bind fun x24 =>
     bif (!x24) then
      some false
     else
      (ref01_InX N x19.Most 0 1000000).bind fun x27 =>
      bif (!x27) then
       some false
      else
       ref07_RightJobX_loop1 N p0 k2 n17 (w64 (y15 + 1))
    else
     k2 ()
def ref07_RightJobX_loop2 (N : Nat) (p0 : GJob) (k1 : Unit → Option Bool) : Nat → Int → Option Bool
  | 0, _ => none
  | n31 + 1, y29 =>
    bif (decide (y29 < (p0.Levels.length : Int))) then
     (getI p0.Levels y29).bind fun x33 =>
     bif (decide (x33 < 0)) then
      some false
     else
      bif (decide (x33 > 1000000)) then
       some false
      else
       bif (y29 == 0) then
        bif (x33 != 0) then
         some false
        else
         bif (decide (y29 > 0)) then
          (getI p0.Levels (w64 (y29 - 1))).bind fun x42 =>
          bif (decide (x33 ≤ x42)) then
           some false
          else
           ref07_RightJobX_loop2 N p0 k1 n31 (w64 (y29 + 1))
         else
          ref07_RightJobX_loop2 N p0 k1 n31 (w64 (y29 + 1))
       else
        bif (decide (y29 > 0)) then
         (getI p0.Levels (w64 (y29 - 1))).bind fun x48 =>
         bif (decide (x33 ≤ x48)) then
          some false
         else
          ref07_RightJobX_loop2 N p0 k1 n31 (w64 (y29 + 1))
        else
         ref07_RightJobX_loop2 N p0 k1 n31 (w64 (y29 + 1))
    else
     k1 ()
def ref07_RightJobX (N : Nat) (p0 : GJob) : Option Bool :=
  joinK (fun _ =>
    joinK (fun _ =>
      bif (decide ((p0.Levels.length : Int) ≥ 2)) then
       bif (decide ((p0.Levels.length : Int) ≤ 12)) then
        (ref01_InX N p0.Ramp 1 12).bind fun x6 =>
        bif x6 then
         (ref01_InX N p0.Start 0 1000000000).bind fun x9 =>
         bif x9 then
          (ref01_InX N p0.First 0 (w64 ((p0.Levels.length : Int) - 1))).bind fun x12 =>
          bif x12 then
           bif (decide ((p0.Hours.length : Int) ≥ 1)) then
            some (decide ((p0.Hours.length : Int) ≤ 100))
           else
            some false
          else
           some false
         else
          some false
        else
         some false
       else
        some false
      else
       some false) fun k2 : Unit → Option Bool =>
    ref07_RightJobX_loop1 N p0 k2 N 0) fun k1 : Unit → Option Bool =>
  ref07_RightJobX_loop2 N p0 k1 N 0
def z126_0 (p0 : GJob) : AV := .dat 2 ((p0.Hours : List GHour).map c_GHour)
def z126_1 (p0 : GJob) : Slot := .own 5 [[(.dat 1 ((p0.Levels : List Int).map c_i64)), (I (p0.Ramp)), (I (p0.Start)), (I (p0.First)), (z126_0 p0)]]
set_option maxRecDepth 100000 in
set_option maxHeartbeats 4000000 in
theorem ref07_RightJobX_ok (N : Nat) (p0 : GJob) (r : Bool) (h : ref07_RightJobX N p0 = some r) : Spec Try.prog 20 [(.agg (c_GJob p0))] [] (B r) [] := by
  refine spec_of_awp Try.func20 rfl 0 (nle rfl) (fun X φ0 w0 hφ0 => ?_)
  unfold ref07_RightJobX at h
  refine wx tbk [] trivial ?_
  obtain ⟨k1, hk_k1, h⟩ := jko h
  refine wjn (τ := Unit) (fun t => k1 t = some r) (fun _ => ⟨mk 122 [(1, .ref 0 5 0 0)], [(z126_1 p0)]⟩) (fun t h => ?_) ?_
  ·subst hk_k1
   obtain ⟨k2, hk_k2, h⟩ := jko h
   refine wjn (τ := Unit) (fun t => k2 t = some r) (fun _ => ⟨mk 122 [(1, .ref 0 5 0 0)], [(z126_1 p0)]⟩) (fun t h => ?_) ?_
   ·subst hk_k2
    rcases bft ((decide ((p0.Levels.length : Int) ≥ 2))) with hb3 | hb3
    ·replace h := bif_t hb3 h
     rcases bft ((decide ((p0.Levels.length : Int) ≤ 12))) with hb4 | hb4
     ·replace h := bif_t hb4 h
      obtain ⟨x6, hf5, h⟩ := bno h
      rcases bft (x6) with hb7 | hb7
      ·replace h := bif_t hb7 h
       obtain ⟨x9, hf8, h⟩ := bno h
       rcases bft (x9) with hb10 | hb10
       ·replace h := bif_t hb10 h
        obtain ⟨x12, hf11, h⟩ := bno h
        rcases bft (x12) with hb13 | hb13
        ·replace h := bif_t hb13 h
         rcases bft ((decide ((p0.Hours.length : Int) ≥ 1))) with hb14 | hb14
         ·replace h := bif_t hb14 h
          refine wx tbk [(2, rp [(.tmp 82, (.dat 1 ((p0.Levels : List Int).map c_i64)))] (I ((p0.Levels.length : Int)))), (4, rp [(.tmp 84, (B ((decide ((p0.Levels.length : Int) ≥ 2)))))] (B true)), (7, rp [(.tmp 85, B true), (.tmp 87, (.dat 1 ((p0.Levels : List Int).map c_i64)))] (I ((p0.Levels.length : Int)))), (10, rp [(.tmp 90, (B ((decide ((p0.Levels.length : Int) ≤ 12)))))] (B true)), (13, rp [(.tmp 91, B true), fu 25, (.tmp 93, I p0.Ramp), ci 1, ci 12] (B x6)), (15, rp [(.tmp 95, B x6)] (B true)), (18, rp [(.tmp 96, B true), fu 25, (.tmp 98, I p0.Start), ci 0, ci 1000000000] (B x9)), (20, rp [(.tmp 100, B x9)] (B true)), (25, rp [(.tmp 101, B true), (.tmp 105, (.dat 1 ((p0.Levels : List Int).map c_i64)))] (I ((p0.Levels.length : Int)))), (27, rp [(.tmp 101, B true), fu 25, (.tmp 103, I p0.First), ci 0, (.tmp 107, (I (w64 ((p0.Levels.length : Int) - 1))))] (B x12)), (29, rp [(.tmp 109, B x12)] (B true)), (32, rp [(.tmp 110, B true), (.tmp 112, (z126_0 p0))] (I ((p0.Hours.length : Int)))), (35, rp [(.tmp 115, (B ((decide ((p0.Hours.length : Int) ≥ 1)))))] (B true)), (38, rp [(.tmp 116, B true), (.tmp 118, (z126_0 p0))] (I ((p0.Hours.length : Int))))] ⟨alm (c := c_i64) (l := p0.Levels) (aln rfl Try.underlying37 rfl), asb hb3 (amv rfl), ag_ (alm (c := c_i64) (l := p0.Levels) (aln rfl Try.underlying37 rfl)), asb hb4 (amv rfl), ag_ (apc (first := []) (cap := []) (vs := [I p0.Ramp, I 1, I 12]) rfl enter25 (ref01_InX_ok N p0.Ramp 1 12 _ hf5) rfl rfl (nlc nll (nlc nll (nlc nll nl0))) nll rfl), asb hb7 (amv rfl), ag_ (apc (first := []) (cap := []) (vs := [I p0.Start, I 0, I 1000000000]) rfl enter25 (ref01_InX_ok N p0.Start 0 1000000000 _ hf8) rfl rfl (nlc nll (nlc nll (nlc nll nl0))) nll rfl), asb hb10 (amv rfl), ag_ (alm (c := c_i64) (l := p0.Levels) (aln rfl Try.underlying37 rfl)), ag_ (apc (first := []) (cap := []) (vs := [I p0.First, I 0, (I (w64 ((p0.Levels.length : Int) - 1)))]) rfl enter25 (ref01_InX_ok N p0.First 0 (w64 ((p0.Levels.length : Int) - 1)) _ hf11) rfl rfl (nlc nll (nlc nll (nlc nll nl0))) nll rfl), asb hb13 (amv rfl), ag_ (alm (c := c_GHour) (l := p0.Hours) (aln rfl Try.underlying38 rfl)), asb hb14 (amv rfl), ag_ (alm (c := c_GHour) (l := p0.Hours) (aln rfl Try.underlying38 rfl)), trivial⟩ ?_
          refine awp_ret ?_
          obtain rfl := osi h
          exact ⟨⟨[(B ((decide ((p0.Hours.length : Int) ≤ 100))))], ⟨rot (by kernel_rfl), trivial⟩, rfl⟩, nll, Nat.le_refl _, fun n hn => absurd hn (Nat.not_lt_zero n)⟩
         ·replace h := bif_f hb14 h
          refine wx tbk [(2, rp [(.tmp 82, (.dat 1 ((p0.Levels : List Int).map c_i64)))] (I ((p0.Levels.length : Int)))), (4, rp [(.tmp 84, (B ((decide ((p0.Levels.length : Int) ≥ 2)))))] (B true)), (7, rp [(.tmp 85, B true), (.tmp 87, (.dat 1 ((p0.Levels : List Int).map c_i64)))] (I ((p0.Levels.length : Int)))), (10, rp [(.tmp 90, (B ((decide ((p0.Levels.length : Int) ≤ 12)))))] (B true)), (13, rp [(.tmp 91, B true), fu 25, (.tmp 93, I p0.Ramp), ci 1, ci 12] (B x6)), (15, rp [(.tmp 95, B x6)] (B true)), (18, rp [(.tmp 96, B true), fu 25, (.tmp 98, I p0.Start), ci 0, ci 1000000000] (B x9)), (20, rp [(.tmp 100, B x9)] (B true)), (25, rp [(.tmp 101, B true), (.tmp 105, (.dat 1 ((p0.Levels : List Int).map c_i64)))] (I ((p0.Levels.length : Int)))), (27, rp [(.tmp 101, B true), fu 25, (.tmp 103, I p0.First), ci 0, (.tmp 107, (I (w64 ((p0.Levels.length : Int) - 1))))] (B x12)), (29, rp [(.tmp 109, B x12)] (B true)), (32, rp [(.tmp 110, B true), (.tmp 112, (z126_0 p0))] (I ((p0.Hours.length : Int)))), (35, rp [(.tmp 115, (B ((decide ((p0.Hours.length : Int) ≥ 1)))))] (B false))] ⟨alm (c := c_i64) (l := p0.Levels) (aln rfl Try.underlying37 rfl), asb hb3 (amv rfl), ag_ (alm (c := c_i64) (l := p0.Levels) (aln rfl Try.underlying37 rfl)), asb hb4 (amv rfl), ag_ (apc (first := []) (cap := []) (vs := [I p0.Ramp, I 1, I 12]) rfl enter25 (ref01_InX_ok N p0.Ramp 1 12 _ hf5) rfl rfl (nlc nll (nlc nll (nlc nll nl0))) nll rfl), asb hb7 (amv rfl), ag_ (apc (first := []) (cap := []) (vs := [I p0.Start, I 0, I 1000000000]) rfl enter25 (ref01_InX_ok N p0.Start 0 1000000000 _ hf8) rfl rfl (nlc nll (nlc nll (nlc nll nl0))) nll rfl), asb hb10 (amv rfl), ag_ (alm (c := c_i64) (l := p0.Levels) (aln rfl Try.underlying37 rfl)), ag_ (apc (first := []) (cap := []) (vs := [I p0.First, I 0, (I (w64 ((p0.Levels.length : Int) - 1)))]) rfl enter25 (ref01_InX_ok N p0.First 0 (w64 ((p0.Levels.length : Int) - 1)) _ hf11) rfl rfl (nlc nll (nlc nll (nlc nll nl0))) nll rfl), asb hb13 (amv rfl), ag_ (alm (c := c_GHour) (l := p0.Hours) (aln rfl Try.underlying38 rfl)), asb hb14 (amv rfl), trivial⟩ ?_
          refine awp_ret ?_
          obtain rfl := osi h
          exact ⟨⟨[B false], ⟨rot (by kernel_rfl), trivial⟩, rfl⟩, nll, Nat.le_refl _, fun n hn => absurd hn (Nat.not_lt_zero n)⟩
        ·replace h := bif_f hb13 h
         refine wx tbk [(2, rp [(.tmp 82, (.dat 1 ((p0.Levels : List Int).map c_i64)))] (I ((p0.Levels.length : Int)))), (4, rp [(.tmp 84, (B ((decide ((p0.Levels.length : Int) ≥ 2)))))] (B true)), (7, rp [(.tmp 85, B true), (.tmp 87, (.dat 1 ((p0.Levels : List Int).map c_i64)))] (I ((p0.Levels.length : Int)))), (10, rp [(.tmp 90, (B ((decide ((p0.Levels.length : Int) ≤ 12)))))] (B true)), (13, rp [(.tmp 91, B true), fu 25, (.tmp 93, I p0.Ramp), ci 1, ci 12] (B x6)), (15, rp [(.tmp 95, B x6)] (B true)), (18, rp [(.tmp 96, B true), fu 25, (.tmp 98, I p0.Start), ci 0, ci 1000000000] (B x9)), (20, rp [(.tmp 100, B x9)] (B true)), (25, rp [(.tmp 101, B true), (.tmp 105, (.dat 1 ((p0.Levels : List Int).map c_i64)))] (I ((p0.Levels.length : Int)))), (27, rp [(.tmp 101, B true), fu 25, (.tmp 103, I p0.First), ci 0, (.tmp 107, (I (w64 ((p0.Levels.length : Int) - 1))))] (B x12)), (29, rp [(.tmp 109, B x12)] (B false))] ⟨alm (c := c_i64) (l := p0.Levels) (aln rfl Try.underlying37 rfl), asb hb3 (amv rfl), ag_ (alm (c := c_i64) (l := p0.Levels) (aln rfl Try.underlying37 rfl)), asb hb4 (amv rfl), ag_ (apc (first := []) (cap := []) (vs := [I p0.Ramp, I 1, I 12]) rfl enter25 (ref01_InX_ok N p0.Ramp 1 12 _ hf5) rfl rfl (nlc nll (nlc nll (nlc nll nl0))) nll rfl), asb hb7 (amv rfl), ag_ (apc (first := []) (cap := []) (vs := [I p0.Start, I 0, I 1000000000]) rfl enter25 (ref01_InX_ok N p0.Start 0 1000000000 _ hf8) rfl rfl (nlc nll (nlc nll (nlc nll nl0))) nll rfl), asb hb10 (amv rfl), ag_ (alm (c := c_i64) (l := p0.Levels) (aln rfl Try.underlying37 rfl)), ag_ (apc (first := []) (cap := []) (vs := [I p0.First, I 0, (I (w64 ((p0.Levels.length : Int) - 1)))]) rfl enter25 (ref01_InX_ok N p0.First 0 (w64 ((p0.Levels.length : Int) - 1)) _ hf11) rfl rfl (nlc nll (nlc nll (nlc nll nl0))) nll rfl), asb hb13 (amv rfl), trivial⟩ ?_
         refine awp_ret ?_
         obtain rfl := osi h
         exact ⟨⟨[B false], ⟨rot (by kernel_rfl), trivial⟩, rfl⟩, nll, Nat.le_refl _, fun n hn => absurd hn (Nat.not_lt_zero n)⟩
       ·replace h := bif_f hb10 h
        refine wx tbk [(2, rp [(.tmp 82, (.dat 1 ((p0.Levels : List Int).map c_i64)))] (I ((p0.Levels.length : Int)))), (4, rp [(.tmp 84, (B ((decide ((p0.Levels.length : Int) ≥ 2)))))] (B true)), (7, rp [(.tmp 85, B true), (.tmp 87, (.dat 1 ((p0.Levels : List Int).map c_i64)))] (I ((p0.Levels.length : Int)))), (10, rp [(.tmp 90, (B ((decide ((p0.Levels.length : Int) ≤ 12)))))] (B true)), (13, rp [(.tmp 91, B true), fu 25, (.tmp 93, I p0.Ramp), ci 1, ci 12] (B x6)), (15, rp [(.tmp 95, B x6)] (B true)), (18, rp [(.tmp 96, B true), fu 25, (.tmp 98, I p0.Start), ci 0, ci 1000000000] (B x9)), (20, rp [(.tmp 100, B x9)] (B false))] ⟨alm (c := c_i64) (l := p0.Levels) (aln rfl Try.underlying37 rfl), asb hb3 (amv rfl), ag_ (alm (c := c_i64) (l := p0.Levels) (aln rfl Try.underlying37 rfl)), asb hb4 (amv rfl), ag_ (apc (first := []) (cap := []) (vs := [I p0.Ramp, I 1, I 12]) rfl enter25 (ref01_InX_ok N p0.Ramp 1 12 _ hf5) rfl rfl (nlc nll (nlc nll (nlc nll nl0))) nll rfl), asb hb7 (amv rfl), ag_ (apc (first := []) (cap := []) (vs := [I p0.Start, I 0, I 1000000000]) rfl enter25 (ref01_InX_ok N p0.Start 0 1000000000 _ hf8) rfl rfl (nlc nll (nlc nll (nlc nll nl0))) nll rfl), asb hb10 (amv rfl), trivial⟩ ?_
        refine awp_ret ?_
        obtain rfl := osi h
        exact ⟨⟨[B false], ⟨rot (by kernel_rfl), trivial⟩, rfl⟩, nll, Nat.le_refl _, fun n hn => absurd hn (Nat.not_lt_zero n)⟩
      ·replace h := bif_f hb7 h
       refine wx tbk [(2, rp [(.tmp 82, (.dat 1 ((p0.Levels : List Int).map c_i64)))] (I ((p0.Levels.length : Int)))), (4, rp [(.tmp 84, (B ((decide ((p0.Levels.length : Int) ≥ 2)))))] (B true)), (7, rp [(.tmp 85, B true), (.tmp 87, (.dat 1 ((p0.Levels : List Int).map c_i64)))] (I ((p0.Levels.length : Int)))), (10, rp [(.tmp 90, (B ((decide ((p0.Levels.length : Int) ≤ 12)))))] (B true)), (13, rp [(.tmp 91, B true), fu 25, (.tmp 93, I p0.Ramp), ci 1, ci 12] (B x6)), (15, rp [(.tmp 95, B x6)] (B false))] ⟨alm (c := c_i64) (l := p0.Levels) (aln rfl Try.underlying37 rfl), asb hb3 (amv rfl), ag_ (alm (c := c_i64) (l := p0.Levels) (aln rfl Try.underlying37 rfl)), asb hb4 (amv rfl), ag_ (apc (first := []) (cap := []) (vs := [I p0.Ramp, I 1, I 12]) rfl enter25 (ref01_InX_ok N p0.Ramp 1 12 _ hf5) rfl rfl (nlc nll (nlc nll (nlc nll nl0))) nll rfl), asb hb7 (amv rfl), trivial⟩ ?_
       refine awp_ret ?_
       obtain rfl := osi h
       exact ⟨⟨[B false], ⟨rot (by kernel_rfl), trivial⟩, rfl⟩, nll, Nat.le_refl _, fun n hn => absurd hn (Nat.not_lt_zero n)⟩
     ·replace h := bif_f hb4 h
      refine wx tbk [(2, rp [(.tmp 82, (.dat 1 ((p0.Levels : List Int).map c_i64)))] (I ((p0.Levels.length : Int)))), (4, rp [(.tmp 84, (B ((decide ((p0.Levels.length : Int) ≥ 2)))))] (B true)), (7, rp [(.tmp 85, B true), (.tmp 87, (.dat 1 ((p0.Levels : List Int).map c_i64)))] (I ((p0.Levels.length : Int)))), (10, rp [(.tmp 90, (B ((decide ((p0.Levels.length : Int) ≤ 12)))))] (B false))] ⟨alm (c := c_i64) (l := p0.Levels) (aln rfl Try.underlying37 rfl), asb hb3 (amv rfl), ag_ (alm (c := c_i64) (l := p0.Levels) (aln rfl Try.underlying37 rfl)), asb hb4 (amv rfl), trivial⟩ ?_
      refine awp_ret ?_
      obtain rfl := osi h
      exact ⟨⟨[B false], ⟨rot (by kernel_rfl), trivial⟩, rfl⟩, nll, Nat.le_refl _, fun n hn => absurd hn (Nat.not_lt_zero n)⟩
    ·replace h := bif_f hb3 h
     refine wx tbk [(2, rp [(.tmp 82, (.dat 1 ((p0.Levels : List Int).map c_i64)))] (I ((p0.Levels.length : Int)))), (4, rp [(.tmp 84, (B ((decide ((p0.Levels.length : Int) ≥ 2)))))] (B false))] ⟨alm (c := c_i64) (l := p0.Levels) (aln rfl Try.underlying37 rfl), asb hb3 (amv rfl), trivial⟩ ?_
     refine awp_ret ?_
     obtain rfl := osi h
     exact ⟨⟨[B false], ⟨rot (by kernel_rfl), trivial⟩, rfl⟩, nll, Nat.le_refl _, fun n hn => absurd hn (Nat.not_lt_zero n)⟩
   ·skip
    refine wx tbk [] trivial ?_
    refine awp_block ?_
    refine wmr (mto (n := 122) (l' := [(1, .ref 0 5 0 0), (4, I 0)]) (own' := [(z126_1 p0)]) [(1, .ref 0 5 0 0), (4, I 0)] [0] [(z126_1 p0)] hφ0 (pc (.rn (rqr rfl)) (pc rwl pn)) (qc (spb (lc (.rn (.plain _ (nld nl_i64 _))) (lc rwl (lc rwl (lc rwl (lc (.rn (.plain _ (nld nl_GHour _))) ln)))))) qn)) ?_
    refine awp_ind (τ := Int) (fun n t => ref07_RightJobX_loop1 N p0 k2 n t = some r) (fun y15 => ⟨mk 122 [(1, .ref 0 5 0 0), (4, I y15)], [(z126_1 p0)]⟩) (fun t h => by rw [ref07_RightJobX_loop1] at h; cases h) (fun n17 ih y15 h => ?_) N (0) h
    rw [ref07_RightJobX_loop1] at h
    skip
    refine wsq ?_
    refine wx tbk [(3, rp [(.tmp 58, (z126_0 p0))] (I ((p0.Hours.length : Int))))] ⟨alm (c := c_GHour) (l := p0.Hours) (aln rfl Try.underlying38 rfl), trivial⟩ ?_
    rcases bft ((decide (y15 < (p0.Hours.length : Int)))) with hc18 | hc18
    ·replace h := bif_t hc18 h
     refine wft hc18 (by kernel_rfl) ?_
     refine awp_skip ?_
     refine thn ?_
     refine wsq ?_
     refine awp_block ?_
     obtain ⟨x19, hg20, h⟩ := bno h
     obtain ⟨hi21, hj22⟩ := gsm hg20
     obtain ⟨x24, hf23, h⟩ := bno h
     rcases bft ((!x24)) with hb25 | hb25
     ·replace h := bif_t hb25 h
      refine wx tbk [(3, rp [(.tmp 64, (z126_0 p0)), (.tmp 65, I y15)] (.dptr (c_GHour (x19)) 0)), (6, rp [fu 25, (.tmp 68, I x19.Price), ci (-1000), ci 1000] (B x24)), (8, rp [(.tmp 70, (B ((!x24))))] (B true))] ⟨aid rfl Try.underlying38 ti119 rfl rfl hi21 (mgt c_GHour hj22) rfl, apc (first := []) (cap := []) (vs := [I x19.Price, (I ((-1000))), I 1000]) rfl enter25 (ref01_InX_ok N x19.Price (-1000) 1000 _ hf23) rfl rfl (nlc nll (nlc nll (nlc nll nl0))) nll rfl, asb hb25 (amv rfl), trivial⟩ ?_
      refine awp_true (by kernel_rfl) ?_
      refine wx tbk [] trivial ?_
      refine awp_ret ?_
      refine blockA_r ?_
      refine thenA_r ?_
      refine thenA_r ?_
      refine blockA_r ?_
      refine thenA_r ?_
      obtain rfl := osi h
      exact ⟨⟨[B false], ⟨rot (by kernel_rfl), trivial⟩, rfl⟩, nll, Nat.le_refl _, fun n hn => absurd hn (Nat.not_lt_zero n)⟩
     ·replace h := bif_f hb25 h
      obtain ⟨x27, hf26, h⟩ := bno h
      refine wx tbk [(3, rp [(.tmp 64, (z126_0 p0)), (.tmp 65, I y15)] (.dptr (c_GHour (x19)) 0)), (6, rp [fu 25, (.tmp 68, I x19.Price), ci (-1000), ci 1000] (B x24)), (8, rp [(.tmp 70, (B ((!x24))))] (B false)), (12, rp [(.tmp 71, B false), (.tmp 73, (z126_0 p0)), (.tmp 74, I y15)] (.dptr (c_GHour (x19)) 0)), (15, rp [(.tmp 71, B false), fu 25, (.tmp 77, I x19.Most), ci 0, ci 1000000] (B x27))] ⟨aid rfl Try.underlying38 ti119 rfl rfl hi21 (mgt c_GHour hj22) rfl, apc (first := []) (cap := []) (vs := [I x19.Price, (I ((-1000))), I 1000]) rfl enter25 (ref01_InX_ok N x19.Price (-1000) 1000 _ hf23) rfl rfl (nlc nll (nlc nll (nlc nll nl0))) nll rfl, asb hb25 (amv rfl), ag_ (aid rfl Try.underlying38 ti119 rfl rfl hi21 (mgt c_GHour hj22) rfl), ag_ (apc (first := []) (cap := []) (vs := [I x19.Most, I 0, I 1000000]) rfl enter25 (ref01_InX_ok N x19.Most 0 1000000 _ hf26) rfl rfl (nlc nll (nlc nll (nlc nll nl0))) nll rfl), trivial⟩ ?_
      rcases bft ((!x27)) with hc28 | hc28
      ·replace h := bif_t hc28 h
       refine wft hc28 (by kernel_rfl) ?_
       refine wx tbk [] trivial ?_
       refine awp_ret ?_
       refine blockA_r ?_
       refine thenA_r ?_
       refine thenA_r ?_
       refine blockA_r ?_
       refine thenA_r ?_
       obtain rfl := osi h
       exact ⟨⟨[B false], ⟨rot (by kernel_rfl), trivial⟩, rfl⟩, nll, Nat.le_refl _, fun n hn => absurd hn (Nat.not_lt_zero n)⟩
      ·replace h := bif_f hc28 h
       refine wfn hc28 (by kernel_rfl) ?_
       refine awp_skip ?_
       refine bln ?_
       refine thn ?_
       refine wx1 tbk [] trivial ?_
       refine thn ?_
       exact arm (mto (n := 122) [(1, .ref 0 5 0 0), (4, (I (w64 (y15 + 1))))] [0] [(z126_1 p0)] hφ0 (pc (.rn (rqr rfl)) (pc rwl pn)) (qc (spb (lc (.rn (.plain _ (nld nl_i64 _))) (lc rwl (lc rwl (lc rwl (lc (.rn (.plain _ (nld nl_GHour _))) ln)))))) qn)) (ih (w64 (y15 + 1)) h)
    ·replace h := bif_f hc18 h
     refine wfn hc18 (by kernel_rfl) ?_
     refine awp_exit ?_
     refine thenA_x ?_
     refine thenA_x ?_
     refine blockA_e rfl ?_
     refine thn ?_
     exact ⟨(), h, (mto (n := 122) [(1, .ref 0 5 0 0)] [0] [(z126_1 p0)] hφ0 (pc (.rn (rqr rfl)) pn) (qc (spb (lc (.rn (.plain _ (nld nl_i64 _))) (lc rwl (lc rwl (lc rwl (lc (.rn (.plain _ (nld nl_GHour _))) ln)))))) qn))⟩
  ·skip
   refine wx tbk [] trivial ?_
   refine awp_block ?_
   refine wmr (mto (n := 122) (l' := [(1, .ref 0 5 0 0), (3, I 0)]) (own' := [(z126_1 p0)]) [(1, .ref 0 5 0 0), (3, I 0)] [0] [(z126_1 p0)] hφ0 (pc (.rn (rqr rfl)) (pc rwl pn)) (qc (spb (lc (.rn (.plain _ (nld nl_i64 _))) (lc rwl (lc rwl (lc rwl (lc (.rn (.plain _ (nld nl_GHour _))) ln)))))) qn)) ?_
   refine awp_ind (τ := Int) (fun n t => ref07_RightJobX_loop2 N p0 k1 n t = some r) (fun y29 => ⟨mk 122 [(1, .ref 0 5 0 0), (3, I y29)], [(z126_1 p0)]⟩) (fun t h => by rw [ref07_RightJobX_loop2] at h; cases h) (fun n31 ih y29 h => ?_) N (0) h
   rw [ref07_RightJobX_loop2] at h
   skip
   refine wsq ?_
   refine wx tbk [(3, rp [(.tmp 7, (.dat 1 ((p0.Levels : List Int).map c_i64)))] (I ((p0.Levels.length : Int))))] ⟨alm (c := c_i64) (l := p0.Levels) (aln rfl Try.underlying37 rfl), trivial⟩ ?_
   rcases bft ((decide (y29 < (p0.Levels.length : Int)))) with hc32 | hc32
   ·replace h := bif_t hc32 h
    refine wft hc32 (by kernel_rfl) ?_
    refine awp_skip ?_
    refine thn ?_
    refine wsq ?_
    refine awp_block ?_
    obtain ⟨x33, hg34, h⟩ := bno h
    obtain ⟨hi35, hj36⟩ := gsm hg34
    rcases bft ((decide (x33 < 0))) with hb37 | hb37
    ·replace h := bif_t hb37 h
     refine wxd tbk [(3, rp [(.tmp 13, (.dat 1 ((p0.Levels : List Int).map c_i64))), (.tmp 14, I y29)] (.dptr (c_i64 (x33)) 0)), (6, rp [(.tmp 17, (B ((decide (x33 < 0)))))] (B true))] ⟨aid rfl Try.underlying37 ti3 rfl rfl hi35 (mgt c_i64 hj36) rfl, asb hb37 (amv rfl), trivial⟩ ?_
     refine awp_true (by kernel_rfl) ?_
     refine wx tbk [] trivial ?_
     refine awp_ret ?_
     refine blockA_r ?_
     refine thenA_r ?_
     refine thenA_r ?_
     refine blockA_r ?_
     refine thenA_r ?_
     obtain rfl := osi h
     exact ⟨⟨[B false], ⟨rot (by kernel_rfl), trivial⟩, rfl⟩, nll, Nat.le_refl _, fun n hn => absurd hn (Nat.not_lt_zero n)⟩
    ·replace h := bif_f hb37 h
     rcases bft ((decide (x33 > 1000000))) with hb38 | hb38
     ·replace h := bif_t hb38 h
      refine wxd tbk [(3, rp [(.tmp 13, (.dat 1 ((p0.Levels : List Int).map c_i64))), (.tmp 14, I y29)] (.dptr (c_i64 (x33)) 0)), (6, rp [(.tmp 17, (B ((decide (x33 < 0)))))] (B false)), (10, rp [(.tmp 18, B false), (.tmp 20, (.dat 1 ((p0.Levels : List Int).map c_i64))), (.tmp 21, I y29)] (.dptr (c_i64 (x33)) 0)), (14, rp [(.tmp 25, (B ((decide (x33 > 1000000)))))] (B true))] ⟨aid rfl Try.underlying37 ti3 rfl rfl hi35 (mgt c_i64 hj36) rfl, asb hb37 (amv rfl), ag_ (aid rfl Try.underlying37 ti3 rfl rfl hi35 (mgt c_i64 hj36) rfl), asb hb38 (amv rfl), trivial⟩ ?_
      refine awp_true (by kernel_rfl) ?_
      refine wx tbk [] trivial ?_
      refine awp_ret ?_
      refine blockA_r ?_
      refine thenA_r ?_
      refine thenA_r ?_
      refine blockA_r ?_
      refine thenA_r ?_
      obtain rfl := osi h
      exact ⟨⟨[B false], ⟨rot (by kernel_rfl), trivial⟩, rfl⟩, nll, Nat.le_refl _, fun n hn => absurd hn (Nat.not_lt_zero n)⟩
     ·replace h := bif_f hb38 h
      rcases bft ((y29 == 0)) with hb39 | hb39
      ·replace h := bif_t hb39 h
       rcases bft ((x33 != 0)) with hb40 | hb40
       ·replace h := bif_t hb40 h
        refine wxd tbk [(3, rp [(.tmp 13, (.dat 1 ((p0.Levels : List Int).map c_i64))), (.tmp 14, I y29)] (.dptr (c_i64 (x33)) 0)), (6, rp [(.tmp 17, (B ((decide (x33 < 0)))))] (B false)), (10, rp [(.tmp 18, B false), (.tmp 20, (.dat 1 ((p0.Levels : List Int).map c_i64))), (.tmp 21, I y29)] (.dptr (c_i64 (x33)) 0)), (14, rp [(.tmp 25, (B ((decide (x33 > 1000000)))))] (B false)), (17, rp [(.tmp 26, B false), (.tmp 28, (B ((y29 == 0))))] (B true)), (21, rp [(.tmp 29, B true), (.tmp 31, (.dat 1 ((p0.Levels : List Int).map c_i64))), (.tmp 32, I y29)] (.dptr (c_i64 (x33)) 0)), (26, rp [(.tmp 37, (B ((x33 != 0))))] (B true))] ⟨aid rfl Try.underlying37 ti3 rfl rfl hi35 (mgt c_i64 hj36) rfl, asb hb37 (amv rfl), ag_ (aid rfl Try.underlying37 ti3 rfl rfl hi35 (mgt c_i64 hj36) rfl), asb hb38 (amv rfl), asb hb39 (ag_ (amv rfl)), ag_ (aid rfl Try.underlying37 ti3 rfl rfl hi35 (mgt c_i64 hj36) rfl), asb hb40 (amv rfl), trivial⟩ ?_
        refine awp_true (by kernel_rfl) ?_
        refine wx tbk [] trivial ?_
        refine awp_ret ?_
        refine blockA_r ?_
        refine thenA_r ?_
        refine thenA_r ?_
        refine blockA_r ?_
        refine thenA_r ?_
        obtain rfl := osi h
        exact ⟨⟨[B false], ⟨rot (by kernel_rfl), trivial⟩, rfl⟩, nll, Nat.le_refl _, fun n hn => absurd hn (Nat.not_lt_zero n)⟩
       ·replace h := bif_f hb40 h
        rcases bft ((decide (y29 > 0))) with hb41 | hb41
        ·replace h := bif_t hb41 h
         obtain ⟨x42, hg43, h⟩ := bno h
         obtain ⟨hi44, hj45⟩ := gsm hg43
         refine wxd tbk [(3, rp [(.tmp 13, (.dat 1 ((p0.Levels : List Int).map c_i64))), (.tmp 14, I y29)] (.dptr (c_i64 (x33)) 0)), (6, rp [(.tmp 17, (B ((decide (x33 < 0)))))] (B false)), (10, rp [(.tmp 18, B false), (.tmp 20, (.dat 1 ((p0.Levels : List Int).map c_i64))), (.tmp 21, I y29)] (.dptr (c_i64 (x33)) 0)), (14, rp [(.tmp 25, (B ((decide (x33 > 1000000)))))] (B false)), (17, rp [(.tmp 26, B false), (.tmp 28, (B ((y29 == 0))))] (B true)), (21, rp [(.tmp 29, B true), (.tmp 31, (.dat 1 ((p0.Levels : List Int).map c_i64))), (.tmp 32, I y29)] (.dptr (c_i64 (x33)) 0)), (26, rp [(.tmp 37, (B ((x33 != 0))))] (B false)), (29, rp [(.tmp 38, B false), (.tmp 40, (B ((decide (y29 > 0)))))] (B true)), (33, rp [(.tmp 41, B true), (.tmp 43, (.dat 1 ((p0.Levels : List Int).map c_i64))), (.tmp 44, I y29)] (.dptr (c_i64 (x33)) 0)), (39, rp [(.tmp 41, B true), (.tmp 48, (.dat 1 ((p0.Levels : List Int).map c_i64))), (.tmp 50, (I (w64 (y29 - 1))))] (.dptr (c_i64 (x42)) 0))] ⟨aid rfl Try.underlying37 ti3 rfl rfl hi35 (mgt c_i64 hj36) rfl, asb hb37 (amv rfl), ag_ (aid rfl Try.underlying37 ti3 rfl rfl hi35 (mgt c_i64 hj36) rfl), asb hb38 (amv rfl), asb hb39 (ag_ (amv rfl)), ag_ (aid rfl Try.underlying37 ti3 rfl rfl hi35 (mgt c_i64 hj36) rfl), asb hb40 (amv rfl), asb hb41 (ag_ (amv rfl)), ag_ (aid rfl Try.underlying37 ti3 rfl rfl hi35 (mgt c_i64 hj36) rfl), ag_ (aid rfl Try.underlying37 ti3 rfl rfl hi44 (mgt c_i64 hj45) rfl), trivial⟩ ?_
         rcases bft ((decide (x33 ≤ x42))) with hc46 | hc46
         ·replace h := bif_t hc46 h
          refine wft hc46 (by kernel_rfl) ?_
          refine wx tbk [] trivial ?_
          refine awp_ret ?_
          refine blockA_r ?_
          refine thenA_r ?_
          refine thenA_r ?_
          refine blockA_r ?_
          refine thenA_r ?_
          obtain rfl := osi h
          exact ⟨⟨[B false], ⟨rot (by kernel_rfl), trivial⟩, rfl⟩, nll, Nat.le_refl _, fun n hn => absurd hn (Nat.not_lt_zero n)⟩
         ·replace h := bif_f hc46 h
          refine wfn hc46 (by kernel_rfl) ?_
          refine awp_skip ?_
          refine bln ?_
          refine thn ?_
          refine wx1 tbk [] trivial ?_
          refine thn ?_
          exact arm (mto (n := 122) [(1, .ref 0 5 0 0), (3, (I (w64 (y29 + 1))))] [0] [(z126_1 p0)] hφ0 (pc (.rn (rqr rfl)) (pc rwl pn)) (qc (spb (lc (.rn (.plain _ (nld nl_i64 _))) (lc rwl (lc rwl (lc rwl (lc (.rn (.plain _ (nld nl_GHour _))) ln)))))) qn)) (ih (w64 (y29 + 1)) h)
        ·replace h := bif_f hb41 h
         refine wxd tbk [(3, rp [(.tmp 13, (.dat 1 ((p0.Levels : List Int).map c_i64))), (.tmp 14, I y29)] (.dptr (c_i64 (x33)) 0)), (6, rp [(.tmp 17, (B ((decide (x33 < 0)))))] (B false)), (10, rp [(.tmp 18, B false), (.tmp 20, (.dat 1 ((p0.Levels : List Int).map c_i64))), (.tmp 21, I y29)] (.dptr (c_i64 (x33)) 0)), (14, rp [(.tmp 25, (B ((decide (x33 > 1000000)))))] (B false)), (17, rp [(.tmp 26, B false), (.tmp 28, (B ((y29 == 0))))] (B true)), (21, rp [(.tmp 29, B true), (.tmp 31, (.dat 1 ((p0.Levels : List Int).map c_i64))), (.tmp 32, I y29)] (.dptr (c_i64 (x33)) 0)), (26, rp [(.tmp 37, (B ((x33 != 0))))] (B false)), (29, rp [(.tmp 38, B false), (.tmp 40, (B ((decide (y29 > 0)))))] (B false))] ⟨aid rfl Try.underlying37 ti3 rfl rfl hi35 (mgt c_i64 hj36) rfl, asb hb37 (amv rfl), ag_ (aid rfl Try.underlying37 ti3 rfl rfl hi35 (mgt c_i64 hj36) rfl), asb hb38 (amv rfl), asb hb39 (ag_ (amv rfl)), ag_ (aid rfl Try.underlying37 ti3 rfl rfl hi35 (mgt c_i64 hj36) rfl), asb hb40 (amv rfl), asb hb41 (ag_ (amv rfl)), trivial⟩ ?_
         refine awp_false (by kernel_rfl) ?_
         refine awp_skip ?_
         refine bln ?_
         refine thn ?_
         refine wx1 tbk [] trivial ?_
         refine thn ?_
         exact arm (mto (n := 122) [(1, .ref 0 5 0 0), (3, (I (w64 (y29 + 1))))] [0] [(z126_1 p0)] hφ0 (pc (.rn (rqr rfl)) (pc rwl pn)) (qc (spb (lc (.rn (.plain _ (nld nl_i64 _))) (lc rwl (lc rwl (lc rwl (lc (.rn (.plain _ (nld nl_GHour _))) ln)))))) qn)) (ih (w64 (y29 + 1)) h)
      ·replace h := bif_f hb39 h
       rcases bft ((decide (y29 > 0))) with hb47 | hb47
       ·replace h := bif_t hb47 h
        obtain ⟨x48, hg49, h⟩ := bno h
        obtain ⟨hi50, hj51⟩ := gsm hg49
        refine wxd tbk [(3, rp [(.tmp 13, (.dat 1 ((p0.Levels : List Int).map c_i64))), (.tmp 14, I y29)] (.dptr (c_i64 (x33)) 0)), (6, rp [(.tmp 17, (B ((decide (x33 < 0)))))] (B false)), (10, rp [(.tmp 18, B false), (.tmp 20, (.dat 1 ((p0.Levels : List Int).map c_i64))), (.tmp 21, I y29)] (.dptr (c_i64 (x33)) 0)), (14, rp [(.tmp 25, (B ((decide (x33 > 1000000)))))] (B false)), (17, rp [(.tmp 26, B false), (.tmp 28, (B ((y29 == 0))))] (B false)), (29, rp [(.tmp 38, B false), (.tmp 40, (B ((decide (y29 > 0)))))] (B true)), (33, rp [(.tmp 41, B true), (.tmp 43, (.dat 1 ((p0.Levels : List Int).map c_i64))), (.tmp 44, I y29)] (.dptr (c_i64 (x33)) 0)), (39, rp [(.tmp 41, B true), (.tmp 48, (.dat 1 ((p0.Levels : List Int).map c_i64))), (.tmp 50, (I (w64 (y29 - 1))))] (.dptr (c_i64 (x48)) 0))] ⟨aid rfl Try.underlying37 ti3 rfl rfl hi35 (mgt c_i64 hj36) rfl, asb hb37 (amv rfl), ag_ (aid rfl Try.underlying37 ti3 rfl rfl hi35 (mgt c_i64 hj36) rfl), asb hb38 (amv rfl), asb hb39 (ag_ (amv rfl)), asb hb47 (ag_ (amv rfl)), ag_ (aid rfl Try.underlying37 ti3 rfl rfl hi35 (mgt c_i64 hj36) rfl), ag_ (aid rfl Try.underlying37 ti3 rfl rfl hi50 (mgt c_i64 hj51) rfl), trivial⟩ ?_
        rcases bft ((decide (x33 ≤ x48))) with hc52 | hc52
        ·replace h := bif_t hc52 h
         refine wft hc52 (by kernel_rfl) ?_
         refine wx tbk [] trivial ?_
         refine awp_ret ?_
         refine blockA_r ?_
         refine thenA_r ?_
         refine thenA_r ?_
         refine blockA_r ?_
         refine thenA_r ?_
         obtain rfl := osi h
         exact ⟨⟨[B false], ⟨rot (by kernel_rfl), trivial⟩, rfl⟩, nll, Nat.le_refl _, fun n hn => absurd hn (Nat.not_lt_zero n)⟩
        ·replace h := bif_f hc52 h
         refine wfn hc52 (by kernel_rfl) ?_
         refine awp_skip ?_
         refine bln ?_
         refine thn ?_
         refine wx1 tbk [] trivial ?_
         refine thn ?_
         exact arm (mto (n := 122) [(1, .ref 0 5 0 0), (3, (I (w64 (y29 + 1))))] [0] [(z126_1 p0)] hφ0 (pc (.rn (rqr rfl)) (pc rwl pn)) (qc (spb (lc (.rn (.plain _ (nld nl_i64 _))) (lc rwl (lc rwl (lc rwl (lc (.rn (.plain _ (nld nl_GHour _))) ln)))))) qn)) (ih (w64 (y29 + 1)) h)
       ·replace h := bif_f hb47 h
        refine wxd tbk [(3, rp [(.tmp 13, (.dat 1 ((p0.Levels : List Int).map c_i64))), (.tmp 14, I y29)] (.dptr (c_i64 (x33)) 0)), (6, rp [(.tmp 17, (B ((decide (x33 < 0)))))] (B false)), (10, rp [(.tmp 18, B false), (.tmp 20, (.dat 1 ((p0.Levels : List Int).map c_i64))), (.tmp 21, I y29)] (.dptr (c_i64 (x33)) 0)), (14, rp [(.tmp 25, (B ((decide (x33 > 1000000)))))] (B false)), (17, rp [(.tmp 26, B false), (.tmp 28, (B ((y29 == 0))))] (B false)), (29, rp [(.tmp 38, B false), (.tmp 40, (B ((decide (y29 > 0)))))] (B false))] ⟨aid rfl Try.underlying37 ti3 rfl rfl hi35 (mgt c_i64 hj36) rfl, asb hb37 (amv rfl), ag_ (aid rfl Try.underlying37 ti3 rfl rfl hi35 (mgt c_i64 hj36) rfl), asb hb38 (amv rfl), asb hb39 (ag_ (amv rfl)), asb hb47 (ag_ (amv rfl)), trivial⟩ ?_
        refine awp_false (by kernel_rfl) ?_
        refine awp_skip ?_
        refine bln ?_
        refine thn ?_
        refine wx1 tbk [] trivial ?_
        refine thn ?_
        exact arm (mto (n := 122) [(1, .ref 0 5 0 0), (3, (I (w64 (y29 + 1))))] [0] [(z126_1 p0)] hφ0 (pc (.rn (rqr rfl)) (pc rwl pn)) (qc (spb (lc (.rn (.plain _ (nld nl_i64 _))) (lc rwl (lc rwl (lc rwl (lc (.rn (.plain _ (nld nl_GHour _))) ln)))))) qn)) (ih (w64 (y29 + 1)) h)
   ·replace h := bif_f hc32 h
    refine wfn hc32 (by kernel_rfl) ?_
    refine awp_exit ?_
    refine thenA_x ?_
    refine thenA_x ?_
    refine blockA_e rfl ?_
    refine thn ?_
    exact ⟨(), h, (mto (n := 122) [(1, .ref 0 5 0 0)] [0] [(z126_1 p0)] hφ0 (pc (.rn (rqr rfl)) pn) (qc (spb (lc (.rn (.plain _ (nld nl_i64 _))) (lc rwl (lc rwl (lc rwl (lc (.rn (.plain _ (nld nl_GHour _))) ln)))))) qn))⟩

def plant_Job_profitX_loop1 (N : Nat) (p0 : GJob) (p1 : (List Int)) (k2 : Int → Option (Int × Bool)) : Nat → Int → Int → Int → Option (Int × Bool)
  | 0, _, _, _ => none
  | n9 + 1, y3, y4, y5 =>
    bif (decide (y5 < (p1.length : Int))) then
     (getI p1 y5).bind fun x11 =>
     (plant_Job_gainX N p0 y5 y4 x11).bind fun x16 =>
     bif (!x16.2) then
      some (0, false)
     else
      plant_Job_profitX_loop1 N p0 p1 k2 n9 (w64 (y3 + x16.1)) x11 (w64 (y5 + 1))
    else
     k2 (y3)
def plant_Job_profitX (N : Nat) (p0 : GJob) (p1 : (List Int)) : Option (Int × Bool) :=
  joinK (fun y1 =>
    some (y1, true)) fun k2 : Int → Option (Int × Bool) =>
  plant_Job_profitX_loop1 N p0 p1 k2 N 0 p0.First 0
def z128_0 (p0 : GJob) : AV := .dat 2 ((p0.Hours : List GHour).map c_GHour)
def z128_1 (p0 : GJob) : Slot := .own 5 [[(.dat 1 ((p0.Levels : List Int).map c_i64)), (I (p0.Ramp)), (I (p0.Start)), (I (p0.First)), (z128_0 p0)]]
def z128_2 (p0 : GJob) : AV := .agg [(.dat 1 ((p0.Levels : List Int).map c_i64)), (I (p0.Ramp)), (I (p0.Start)), (I (p0.First)), (z128_0 p0)]
set_option maxRecDepth 100000 in
set_option maxHeartbeats 4000000 in
theorem plant_Job_profitX_ok (N : Nat) (p0 : GJob) (p1 : (List Int)) (r : (Int × Bool)) (h : plant_Job_profitX N p0 p1 = some r) : Spec Try.prog 76 [(.agg (c_GJob p0)), (.dat 1 (p1.map c_i64))] [] (.tup [(I r.1), (B r.2)]) [] := by
  refine spec_of_awp Try.func76 rfl 0 (nle rfl) (fun X φ0 w0 hφ0 => ?_)
  unfold plant_Job_profitX at h
  refine wx tbk [] trivial ?_
  refine wx tbk [] trivial ?_
  obtain ⟨k2, hk_k2, h⟩ := jko h
  refine wjn (τ := Int) (fun t => k2 t = some r) (fun y1 => ⟨mk 36 [(4, I y1)], []⟩) (fun y1 h => ?_) ?_
  ·subst hk_k2
   refine wx tbk [] trivial ?_
   refine awp_ret ?_
   obtain rfl := osi h
   exact ⟨⟨[I y1, B true], ⟨rot (by kernel_rfl), rot (by kernel_rfl), trivial⟩, rfl⟩, (NLt.tup _ (nlc nll (nlc nll nl0))), Nat.le_refl _, fun n hn => absurd hn (Nat.not_lt_zero n)⟩
  ·skip
   refine wx tbk [(1, rp [(.tmp 13, (.dat 1 ((p1 : List Int).map c_i64)))] (I ((p1.length : Int))))] ⟨alm (c := c_i64) (l := p1) (aln rfl Try.underlying37 rfl), trivial⟩ ?_
   refine awp_block ?_
   refine wmr (mto (n := 36) (l' := [(2, .ref 0 5 0 0), (4, I 0), (6, I p0.First), (13, (.dat 1 ((p1 : List Int).map c_i64))), (14, (I ((p1.length : Int)))), (15, I 0)]) (own' := [(z128_1 p0)]) [(2, .ref 0 5 0 0), (4, I 0), (6, I p0.First), (13, (.dat 1 ((p1 : List Int).map c_i64))), (14, (I ((p1.length : Int)))), (15, I 0)] [0] [(z128_1 p0)] hφ0 (pc (.rn (rqr rfl)) (pc rwl (pc rwl (pc (.rn (.plain _ (nld nl_i64 _))) (pc rwl (pc rwl pn)))))) (qc (spb (lc (.rn (.plain _ (nld nl_i64 _))) (lc rwl (lc rwl (lc rwl (lc (.rn (.plain _ (nld nl_GHour _))) ln)))))) qn)) ?_
   refine awp_ind (τ := Int × Int × Int) (fun n t => plant_Job_profitX_loop1 N p0 p1 k2 n t.1 t.2.1 t.2.2 = some r) (fun ⟨y3, y4, y5⟩ => ⟨mk 36 [(2, .ref 0 5 0 0), (4, I y3), (6, I y4), (13, (.dat 1 ((p1 : List Int).map c_i64))), (14, (I ((p1.length : Int)))), (15, I y5)], [(z128_1 p0)]⟩) (fun t h => by rw [plant_Job_profitX_loop1] at h; cases h) (fun n9 ih t h => ?_) N (0, p0.First, 0) h
   obtain ⟨y3, y4, y5⟩ := t
   rw [plant_Job_profitX_loop1] at h
   skip
   refine wx tbk [] trivial ?_
   refine wsq ?_
   rcases bft ((decide (y5 < (p1.length : Int)))) with hc10 | hc10
   ·replace h := bif_t hc10 h
    refine wft hc10 (by kernel_rfl) ?_
    refine awp_skip ?_
    refine thn ?_
    refine wsq ?_
    refine awp_block ?_
    obtain ⟨x11, hg12, h⟩ := bno h
    obtain ⟨hi13, hj14⟩ := gsm hg12
    refine wx tbk [(1, rp [(.tmp 13, (.dat 1 ((p1 : List Int).map c_i64))), (.tmp 15, I y5)] (.dptr (c_i64 (x11)) 0))] ⟨aid rfl Try.underlying37 ti3 rfl rfl hi13 (mgt c_i64 hj14) rfl, trivial⟩ ?_
    obtain ⟨x16, hf15, h⟩ := bno h
    refine wx tbk [(4, rp [fu 70, (.tmp 21, (z128_2 p0)), (.tmp 22, I y5), (.tmp 23, I y4), (.tmp 24, I x11)] (.tup [I x16.1, B x16.2]))] ⟨apc (first := []) (cap := []) (vs := [(z128_2 p0), I y5, I y4, I x11]) rfl enter70 (plant_Job_gainX_ok N p0 y5 y4 x11 _ hf15) rfl rfl (nlc (NLt.agg _ (nlc (nld nl_i64 _) (nlc nll (nlc nll (nlc nll (nlc (nld nl_GHour _) nl0)))))) (nlc nll (nlc nll (nlc nll nl0)))) (NLt.tup _ (nlc nll (nlc nll nl0))) rfl, trivial⟩ ?_
    refine wsq ?_
    refine wx tbk [] trivial ?_
    rcases bft ((!x16.2)) with hc17 | hc17
    ·replace h := bif_t hc17 h
     refine wft hc17 (by kernel_rfl) ?_
     refine wx tbk [] trivial ?_
     refine awp_ret ?_
     refine thenA_r ?_
     refine blockA_r ?_
     refine thenA_r ?_
     refine thenA_r ?_
     refine blockA_r ?_
     refine thenA_r ?_
     obtain rfl := osi h
     exact ⟨⟨[I 0, B false], ⟨rot (by kernel_rfl), rot (by kernel_rfl), trivial⟩, rfl⟩, (NLt.tup _ (nlc nll (nlc nll nl0))), Nat.le_refl _, fun n hn => absurd hn (Nat.not_lt_zero n)⟩
    ·replace h := bif_f hc17 h
     refine wfn hc17 (by kernel_rfl) ?_
     refine awp_skip ?_
     refine thn ?_
     refine wx tbk [] trivial ?_
     refine wx1 tbk [] trivial ?_
     refine bln ?_
     refine thn ?_
     refine wx1 tbk [] trivial ?_
     refine thn ?_
     exact arm (mto (n := 36) [(2, .ref 0 5 0 0), (4, (I (w64 (y3 + x16.1)))), (6, I x11), (13, (.dat 1 ((p1 : List Int).map c_i64))), (14, (I ((p1.length : Int)))), (15, (I (w64 (y5 + 1))))] [0] [(z128_1 p0)] hφ0 (pc (.rn (rqr rfl)) (pc rwl (pc rwl (pc (.rn (.plain _ (nld nl_i64 _))) (pc rwl (pc rwl pn)))))) (qc (spb (lc (.rn (.plain _ (nld nl_i64 _))) (lc rwl (lc rwl (lc rwl (lc (.rn (.plain _ (nld nl_GHour _))) ln)))))) qn)) (ih (w64 (y3 + x16.1), x11, w64 (y5 + 1)) h)
   ·replace h := bif_f hc10 h
    refine wfn hc10 (by kernel_rfl) ?_
    refine awp_exit ?_
    refine thenA_x ?_
    refine thenA_x ?_
    refine blockA_e rfl ?_
    refine thn ?_
    exact ⟨(y3), h, (mto (n := 36) [(4, I y3)] [] [] hφ0 (pc rwl pn) qn)⟩

def plant_ProfitX (N : Nat) (p0 : GJob) (p1 : (List Int)) : Option (Int × Int) :=
  joinK (fun _ =>
    (plant_Job_profitX N p0 p1).bind fun x3 =>
    bif (!x3.2) then
     some (0, 1)
    else
     some (x3.1, 0)) fun k1 : Unit → Option (Int × Int) =>
  (plant_Job_validX N p0).bind fun x6 =>
  bif (!x6) then
   some (0, 1)
  else
   bif ((p1.length : Int) != (p0.Hours.length : Int)) then
    some (0, 1)
   else
    k1 ()
def z127_0 (p0 : GJob) : AV := .dat 2 ((p0.Hours : List GHour).map c_GHour)
def z127_1 (p0 : GJob) : Slot := .own 5 [[(.dat 1 ((p0.Levels : List Int).map c_i64)), (I (p0.Ramp)), (I (p0.Start)), (I (p0.First)), (z127_0 p0)]]
def z127_2 (p0 : GJob) : AV := .agg [(.dat 1 ((p0.Levels : List Int).map c_i64)), (I (p0.Ramp)), (I (p0.Start)), (I (p0.First)), (z127_0 p0)]
set_option maxRecDepth 100000 in
set_option maxHeartbeats 4000000 in
theorem plant_ProfitX_ok (N : Nat) (p0 : GJob) (p1 : (List Int)) (r : (Int × Int)) (h : plant_ProfitX N p0 p1 = some r) : Spec Try.prog 36 [(.agg (c_GJob p0)), (.dat 1 (p1.map c_i64))] [] (.tup [(I r.1), (I r.2)]) [] := by
  refine spec_of_awp Try.func36 rfl 0 (nle rfl) (fun X φ0 w0 hφ0 => ?_)
  unfold plant_ProfitX at h
  refine wx tbk [] trivial ?_
  obtain ⟨k1, hk_k1, h⟩ := jko h
  refine wjn (τ := Unit) (fun t => k1 t = some r) (fun _ => ⟨mk 28 [(1, (.dat 1 ((p1 : List Int).map c_i64))), (2, .ref 0 5 0 0)], [(z127_1 p0)]⟩) (fun t h => ?_) ?_
  ·subst hk_k1
   obtain ⟨x3, hf2, h⟩ := bno h
   refine wx tbk [(2, rp [fu 76, (.tmp 20, (z127_2 p0)), (.tmp 21, (.dat 1 ((p1 : List Int).map c_i64)))] (.tup [I x3.1, B x3.2]))] ⟨apc (first := []) (cap := []) (vs := [(z127_2 p0), (.dat 1 ((p1 : List Int).map c_i64))]) rfl enter76 (plant_Job_profitX_ok N p0 p1 _ hf2) rfl rfl (nlc (NLt.agg _ (nlc (nld nl_i64 _) (nlc nll (nlc nll (nlc nll (nlc (nld nl_GHour _) nl0)))))) (nlc (nld nl_i64 _) nl0)) (NLt.tup _ (nlc nll (nlc nll nl0))) rfl, trivial⟩ ?_
   refine wsq ?_
   refine wx tbk [] trivial ?_
   rcases bft ((!x3.2)) with hc4 | hc4
   ·replace h := bif_t hc4 h
    refine wft hc4 (by kernel_rfl) ?_
    refine wx tbk [] trivial ?_
    refine awp_ret ?_
    refine thenA_r ?_
    obtain rfl := osi h
    exact ⟨⟨[I 0, I 1], ⟨rot (by kernel_rfl), rot (by kernel_rfl), trivial⟩, rfl⟩, (NLt.tup _ (nlc nll (nlc nll nl0))), Nat.le_refl _, fun n hn => absurd hn (Nat.not_lt_zero n)⟩
   ·replace h := bif_f hc4 h
    refine wfn hc4 (by kernel_rfl) ?_
    refine awp_skip ?_
    refine thn ?_
    refine wx tbk [] trivial ?_
    refine awp_ret ?_
    obtain rfl := osi h
    exact ⟨⟨[I x3.1, I 0], ⟨rot (by kernel_rfl), rot (by kernel_rfl), trivial⟩, rfl⟩, (NLt.tup _ (nlc nll (nlc nll nl0))), Nat.le_refl _, fun n hn => absurd hn (Nat.not_lt_zero n)⟩
  ·skip
   obtain ⟨x6, hf5, h⟩ := bno h
   rcases bft ((!x6)) with hb7 | hb7
   ·replace h := bif_t hb7 h
    refine wx tbk [(1, rp [fu 68, (.tmp 8, (z127_2 p0))] (B x6)), (3, rp [(.tmp 10, (B ((!x6))))] (B true))] ⟨apc (first := []) (cap := []) (vs := [(z127_2 p0)]) rfl enter68 (plant_Job_validX_ok N p0 _ hf5) rfl rfl (nlc (NLt.agg _ (nlc (nld nl_i64 _) (nlc nll (nlc nll (nlc nll (nlc (nld nl_GHour _) nl0)))))) nl0) nll rfl, asb hb7 (amv rfl), trivial⟩ ?_
    refine awp_true (by kernel_rfl) ?_
    refine wx tbk [] trivial ?_
    refine awp_ret ?_
    refine thenA_r ?_
    obtain rfl := osi h
    exact ⟨⟨[I 0, I 1], ⟨rot (by kernel_rfl), rot (by kernel_rfl), trivial⟩, rfl⟩, (NLt.tup _ (nlc nll (nlc nll nl0))), Nat.le_refl _, fun n hn => absurd hn (Nat.not_lt_zero n)⟩
   ·replace h := bif_f hb7 h
    refine wx tbk [(1, rp [fu 68, (.tmp 8, (z127_2 p0))] (B x6)), (3, rp [(.tmp 10, (B ((!x6))))] (B false)), (5, rp [(.tmp 11, B false), (.tmp 12, (.dat 1 ((p1 : List Int).map c_i64)))] (I ((p1.length : Int)))), (8, rp [(.tmp 11, B false), (.tmp 15, (z127_0 p0))] (I ((p0.Hours.length : Int))))] ⟨apc (first := []) (cap := []) (vs := [(z127_2 p0)]) rfl enter68 (plant_Job_validX_ok N p0 _ hf5) rfl rfl (nlc (NLt.agg _ (nlc (nld nl_i64 _) (nlc nll (nlc nll (nlc nll (nlc (nld nl_GHour _) nl0)))))) nl0) nll rfl, asb hb7 (amv rfl), ag_ (alm (c := c_i64) (l := p1) (aln rfl Try.underlying37 rfl)), ag_ (alm (c := c_GHour) (l := p0.Hours) (aln rfl Try.underlying45 rfl)), trivial⟩ ?_
    rcases bft (((p1.length : Int) != (p0.Hours.length : Int))) with hc8 | hc8
    ·replace h := bif_t hc8 h
     refine wft hc8 (by kernel_rfl) ?_
     refine wx tbk [] trivial ?_
     refine awp_ret ?_
     refine thenA_r ?_
     obtain rfl := osi h
     exact ⟨⟨[I 0, I 1], ⟨rot (by kernel_rfl), rot (by kernel_rfl), trivial⟩, rfl⟩, (NLt.tup _ (nlc nll (nlc nll nl0))), Nat.le_refl _, fun n hn => absurd hn (Nat.not_lt_zero n)⟩
    ·replace h := bif_f hc8 h
     refine wfn hc8 (by kernel_rfl) ?_
     refine awp_skip ?_
     refine thn ?_
     exact ⟨(), h, (mto (n := 28) [(1, (.dat 1 ((p1 : List Int).map c_i64))), (2, .ref 0 5 0 0)] [0] [(z127_1 p0)] hφ0 (pc (.rn (.plain _ (nld nl_i64 _))) (pc (.rn (rqr rfl)) pn)) (qc (spb (lc (.rn (.plain _ (nld nl_i64 _))) (lc rwl (lc rwl (lc rwl (lc (.rn (.plain _ (nld nl_GHour _))) ln)))))) qn))⟩

def law07_rowsX_loop1 (N : Nat) (p0 : (List (List Int))) (k2 : (List (List Int)) → Option (List (List Int))) : Nat → (List (List Int)) → Int → Option (List (List Int))
  | 0, _, _ => none
  | n7 + 1, y3, y4 =>
    bif (decide (y4 < (p0.length : Int))) then
     (getI p0 y4).bind fun x9 =>
     (law07_listX N x9).bind fun x14 =>
     chk (decide ((y3.length + ([x14]).length) * 24 ≤ 140737488355328)) <|
     law07_rowsX_loop1 N p0 k2 n7 (y3 ++ ([x14])) (w64 (y4 + 1))
    else
     k2 (y3)
def law07_rowsX (N : Nat) (p0 : (List (List Int))) : Option (List (List Int)) :=
  joinK (fun y1 =>
    some y1) fun k2 : (List (List Int)) → Option (List (List Int)) =>
  law07_rowsX_loop1 N p0 k2 N ([]) 0
def z132_2 (y1 : (List (List Int))) : AV := .acc 0 37 1 ((y1 : List (List Int)).map c_Li64)
def z132_6 : AV := .acc 0 37 1 ((([]) : List (List Int)).map c_Li64)
def z132_5 : AV := .acc 0 37 1 (([] : List (List Int)).map c_Li64)
def z132_11 (y3 : (List (List Int))) : AV := .acc 0 37 1 ((y3 : List (List Int)).map c_Li64)
def z132_14 (x14 : (List Int)) : AV := .dat 1 (([x14] : List (List Int)).map c_Li64)
def z132_15 (y3 : (List (List Int))) (x14 : (List Int)) : AV := .acc 1 37 1 ((y3 ++ ([x14]) : List (List Int)).map c_Li64)
set_option maxRecDepth 100000 in
set_option maxHeartbeats 4000000 in
theorem law07_rowsX_ok (N : Nat) (p0 : (List (List Int))) (r : (List (List Int))) (h : law07_rowsX N p0 = some r) : Spec Try.prog 56 [(.dat 1 (p0.map c_Li64))] [] (.dat 1 (r.map c_Li64)) [] := by
  refine spec_of_awp Try.func56 rfl 0 (nle rfl) (fun X φ0 w0 hφ0 => ?_)
  unfold law07_rowsX at h
  refine wx tbk [] trivial ?_
  refine wx tbk [] trivial ?_
  obtain ⟨k2, hk_k2, h⟩ := jko h
  refine wjn (τ := (List (List Int))) (fun t => k2 t = some r) (fun y1 => ⟨mk 20 [(3, (z132_2 y1))], [.tok]⟩) (fun y1 h => ?_) ?_
  ·subst hk_k2
   refine wx tbk [] trivial ?_
   refine awp_ret ?_
   obtain rfl := osi h
   exact ⟨⟨[(.dat 1 ((y1 : List (List Int)).map c_Li64))], ⟨resOK_less (v := (z132_2 y1)) (rot (by kernel_rfl)) Less.acc, trivial⟩, rfl⟩, (nld nl_Li64 _), Nat.le_refl _, fun n hn => absurd hn (Nat.not_lt_zero n)⟩
  ·skip
   refine wx tbk [] trivial ?_
   refine awp_block ?_
   refine wmr (Mor.trans (mor_nil 0 37 1 3 (by kernel_rfl) (by kernel_rfl)) (mto (n := 20) (l' := [(0, (.dat 1 ((p0 : List (List Int)).map c_Li64))), (3, z132_6), (4, I 0)]) (own' := [.tok]) [(0, (.dat 1 ((p0 : List (List Int)).map c_Li64))), (3, z132_5), (4, I 0)] [0] [.tok] hφ0 (pc (.rn (.plain _ (nld nl_Li64 _))) (pc (.rn (rnq_acc rfl (nl_rows nl_Li64 _))) (pc rwl pn))) (qc .tok qn))) ?_
   refine awp_ind (τ := (List (List Int)) × Int) (fun n t => law07_rowsX_loop1 N p0 k2 n t.1 t.2 = some r) (fun ⟨y3, y4⟩ => ⟨mk 20 [(0, (.dat 1 ((p0 : List (List Int)).map c_Li64))), (3, (z132_11 y3)), (4, I y4)], [.tok]⟩) (fun t h => by rw [law07_rowsX_loop1] at h; cases h) (fun n7 ih t h => ?_) N ([], 0) h
   obtain ⟨y3, y4⟩ := t
   rw [law07_rowsX_loop1] at h
   skip
   refine wsq ?_
   refine wx tbk [(2, rp [(.tmp 6, (.dat 1 ((p0 : List (List Int)).map c_Li64)))] (I ((p0.length : Int))))] ⟨alm (c := c_Li64) (l := p0) (aln rfl Try.underlying42 rfl), trivial⟩ ?_
   rcases bft ((decide (y4 < (p0.length : Int)))) with hc8 | hc8
   ·replace h := bif_t hc8 h
    refine wft hc8 (by kernel_rfl) ?_
    refine awp_skip ?_
    refine thn ?_
    refine wsq ?_
    refine awp_block ?_
    obtain ⟨x9, hg10, h⟩ := bno h
    obtain ⟨hi11, hj12⟩ := gsm hg10
    obtain ⟨x14, hf13, h⟩ := bno h
    obtain ⟨ha15, h⟩ := cko h
    refine wx1 tbk [(3, rp [(.tmp 12, (.dat 1 ((p0 : List (List Int)).map c_Li64))), (.tmp 13, I y4)] (.dptr (c_Li64 (x9)) 0)), (5, rp [fu 37, (.tmp 15, (.dat 1 ((x9 : List Int).map c_i64)))] (.dat 1 ((x14 : List Int).map c_i64))), (6, rp [(.tmp 16, (.dat 1 ((x14 : List Int).map c_i64)))] (z132_14 x14)), (7, ⟨[(.tmp 11, (z132_11 y3)), (.tmp 17, (z132_14 x14))], [(0, .tok), (1, .unused)], (z132_15 y3 x14), [(0, .dead), (1, .tok)], false⟩)] ⟨aid rfl Try.underlying42 ti37 rfl rfl hi11 (mgt c_Li64 hj12) rfl, apc (first := []) (cap := []) (vs := [(.dat 1 ((x9 : List Int).map c_i64))]) rfl enter37 (law07_listX_ok N x9 _ hf13) rfl rfl (nlc (nld nl_i64 _) nl0) (nld nl_i64 _) rfl, astep_bslice (vs := [(.dat 1 ((x14 : List Int).map c_i64))]) rfl Try.underlying42 ti37 tz37 rfl (by decide) rfl (by decide) (by rfl) (by rfl) (by rfl) rfl, astep_app rfl Try.underlying42 te37 (Base.acc _ _) rfl rfl (by rfl) (app_le1 c_Li64 ha15) (app_le2 c_Li64 ha15 (by decide)) (app_map c_Li64) rfl rfl, trivial⟩ ?_
    refine bln ?_
    refine thn ?_
    refine wx1 tbk [] trivial ?_
    refine thn ?_
    exact arm (mto (n := 20) [(0, (.dat 1 ((p0 : List (List Int)).map c_Li64))), (3, (z132_15 y3 x14)), (4, (I (w64 (y4 + 1))))] [1] [.tok] hφ0 (pc (.rn (.plain _ (nld nl_Li64 _))) (pc (.rn (rnq_acc rfl (nl_rows nl_Li64 _))) (pc rwl pn))) (qc .tok qn)) (ih (y3 ++ ([x14]), w64 (y4 + 1)) h)
   ·replace h := bif_f hc8 h
    refine wfn hc8 (by kernel_rfl) ?_
    refine awp_exit ?_
    refine thenA_x ?_
    refine thenA_x ?_
    refine blockA_e rfl ?_
    refine thn ?_
    exact ⟨(y3), h, (mto (n := 20) [(3, (z132_11 y3))] [0] [.tok] hφ0 (pc (.rn (rnq_acc rfl (nl_rows nl_Li64 _))) pn) (qc .tok qn))⟩

def plant_ProveDispatch_1X (N : Nat) (p0 : Int) : Option Bool :=
  (plant_withinX N p0 (-1000000000000) 1000000000000).bind fun x2 =>
  some x2
set_option maxRecDepth 100000 in
set_option maxHeartbeats 4000000 in
theorem plant_ProveDispatch_1X_ok (N : Nat) (p0 : Int) (r : Bool) (h : plant_ProveDispatch_1X N p0 = some r) : Spec Try.prog 90 [(I p0)] [] (B r) [] := by
  refine spec_of_awp Try.func90 rfl 0 (nle rfl) (fun X φ0 w0 hφ0 => ?_)
  unfold plant_ProveDispatch_1X at h
  refine wx tbk [] trivial ?_
  obtain ⟨x2, hf1, h⟩ := bno h
  refine wx tbk [(1, rp [fu 65, (.tmp 3, I p0), ci (-1000000000000), ci 1000000000000] (B x2))] ⟨apc (first := []) (cap := []) (vs := [I p0, (I ((-1000000000000))), I 1000000000000]) rfl enter65 (plant_withinX_ok N p0 (-1000000000000) 1000000000000 _ hf1) rfl rfl (nlc nll (nlc nll (nlc nll nl0))) nll rfl, trivial⟩ ?_
  refine awp_ret ?_
  obtain rfl := osi h
  exact ⟨⟨[B x2], ⟨rot (by kernel_rfl), trivial⟩, rfl⟩, nll, Nat.le_refl _, fun n hn => absurd hn (Nat.not_lt_zero n)⟩

def plant_all_int_1X_4 (N : Nat) (p0 : Int) : Option Bool :=
  (plant_ProveDispatch_1X N p0).bind fun x3 =>
  some (!x3)
set_option maxRecDepth 100000 in
set_option maxHeartbeats 4000000 in
theorem plant_all_int_1X_4_ok (N : Nat) (p0 : Int) (r : Bool) (h : plant_all_int_1X_4 N p0 = some r) : Spec Try.prog 110 [(I (p0)), (.ref 0 1 (0) 0)] [(.own 1 [[(.fn (.func 90) [] [])]])] (B (r)) [(.own 1 [[(.fn (.func 90) [] [])]])] := by
  refine spec_of_awp Try.func110 rfl 1 (nle rfl) (fun X φ0 w0 hφ0 => ?_)
  unfold plant_all_int_1X_4 at h
  refine awp_finm ?_
  refine wx tbk [] trivial ?_
  obtain ⟨x3, hf2, h⟩ := bno h
  refine wx tbk [(2, rp [(.tmp 4, (.fn (.func 90) [] [])), (.tmp 5, I p0)] (B x3))] ⟨apc (first := []) (cap := []) (vs := [I p0]) rfl enter90 (plant_ProveDispatch_1X_ok N p0 _ hf2) rfl rfl (nlc nll nl0) nll rfl, trivial⟩ ?_
  refine wmr (mto (n := 8) (l' := [(3, (B ((!x3))))]) (own' := [(.own 1 [[(.fn (.func 90) [] [])]])]) [(3, (B ((!x3))))] [0] [(.own 1 [[(.fn (.func 90) [] [])]])] hφ0 (pc rwl pn) (qc (spb (lc (.rn (rn_fn rn0 rn0)) ln)) qn)) ?_
  refine awp_ret ?_
  obtain rfl := osi h
  exact ⟨_, Mor.rfl, fin_of (vs := [(B ((!x3)))]) ⟨rot (by kernel_rfl), trivial⟩ rfl (NLt.of0 nll) (by kernel_rfl) (snl_cons (snl_box (nlc (NLt.of0 (NLt.fn _ _ _ nl0 nl0)) nl0)) snl_nil)⟩

def slices_IndexFunc_int_intX_5_loop1 (N : Nat) (p0 : (List Int)) (k2 : Unit → Option Int) : Nat → Int → Option Int
  | 0, _ => none
  | n5 + 1, y3 =>
    bif (decide (y3 < (p0.length : Int))) then
     (getI p0 y3).bind fun x7 =>
     (plant_all_int_1X_4 N x7).bind fun x12 =>
     bif x12 then
      some y3
     else
      slices_IndexFunc_int_intX_5_loop1 N p0 k2 n5 (w64 (y3 + 1))
    else
     k2 ()
def slices_IndexFunc_int_intX_5 (N : Nat) (p0 : (List Int)) : Option Int :=
  joinK (fun _ =>
    some (-1)) fun k2 : Unit → Option Int =>
  slices_IndexFunc_int_intX_5_loop1 N p0 k2 N 0
set_option maxRecDepth 100000 in
set_option maxHeartbeats 4000000 in
theorem slices_IndexFunc_int_intX_5_ok (N : Nat) (p0 : (List Int)) (r : Int) (h : slices_IndexFunc_int_intX_5 N p0 = some r) : Spec Try.prog 71 [(.dat 1 ((p0 : List Int).map c_i64)), (.fn (.func 110) [] [(.ref 0 1 (0) 0)])] [(.own 1 [[(.fn (.func 90) [] [])]])] (I (r)) [(.own 1 [[(.fn (.func 90) [] [])]])] := by
  refine spec_of_awp Try.func71 rfl 1 (nle rfl) (fun X φ0 w0 hφ0 => ?_)
  unfold slices_IndexFunc_int_intX_5 at h
  refine awp_finm ?_
  refine wx tbk [] trivial ?_
  obtain ⟨k2, hk_k2, h⟩ := jko h
  refine wjn (τ := Unit) (fun t => k2 t = some r) (fun _ => ⟨mk 19 [], [(.own 1 [[(.fn (.func 90) [] [])]])]⟩) (fun t h => ?_) ?_
  ·subst hk_k2
   refine wx tbk [] trivial ?_
   refine wmr (mto (n := 19) (l' := [(4, (I ((-1))))]) (own' := [(.own 1 [[(.fn (.func 90) [] [])]])]) [(4, (I ((-1))))] [0] [(.own 1 [[(.fn (.func 90) [] [])]])] hφ0 (pc rwl pn) (qc (spb (lc (.rn (rn_fn rn0 rn0)) ln)) qn)) ?_
   refine awp_ret ?_
   obtain rfl := osi h
   exact ⟨_, Mor.rfl, fin_of (vs := [(I ((-1)))]) ⟨rot (by kernel_rfl), trivial⟩ rfl (NLt.of0 nll) (by kernel_rfl) (snl_cons (snl_box (nlc (NLt.of0 (NLt.fn _ _ _ nl0 nl0)) nl0)) snl_nil)⟩
  ·skip
   refine wx tbk [(1, rp [(.tmp 6, (.dat 1 ((p0 : List Int).map c_i64)))] (I ((p0.length : Int))))] ⟨alm (c := c_i64) (l := p0) (aln rfl Try.underlying37 rfl), trivial⟩ ?_
   refine awp_block ?_
   refine wmr (mto (n := 19) (l' := [(0, (.dat 1 ((p0 : List Int).map c_i64))), (1, (.fn (.func 110) [] [.ref 0 1 0 0])), (7, (I ((p0.length : Int)))), (8, I 0)]) (own' := [(.own 1 [[(.fn (.func 90) [] [])]])]) [(0, (.dat 1 ((p0 : List Int).map c_i64))), (1, (.fn (.func 110) [] [.ref 0 1 0 0])), (7, (I ((p0.length : Int)))), (8, I 0)] [0] [(.own 1 [[(.fn (.func 90) [] [])]])] hφ0 (pc (.rn (.plain _ (nld nl_i64 _))) (pc (.rn (rn_fn rn0 (rnc (rqr rfl) rn0))) (pc rwl (pc rwl pn)))) (qc (spb (lc (.rn (rn_fn rn0 rn0)) ln)) qn)) ?_
   refine awp_ind (τ := Int) (fun n t => slices_IndexFunc_int_intX_5_loop1 N p0 k2 n t = some r) (fun y3 => ⟨mk 19 [(0, (.dat 1 ((p0 : List Int).map c_i64))), (1, (.fn (.func 110) [] [.ref 0 1 0 0])), (7, (I ((p0.length : Int)))), (8, I y3)], [(.own 1 [[(.fn (.func 90) [] [])]])]⟩) (fun t h => by rw [slices_IndexFunc_int_intX_5_loop1] at h; cases h) (fun n5 ih y3 h => ?_) N (0) h
   rw [slices_IndexFunc_int_intX_5_loop1] at h
   skip
   refine wx tbk [] trivial ?_
   refine wsq ?_
   rcases bft ((decide (y3 < (p0.length : Int)))) with hc6 | hc6
   ·replace h := bif_t hc6 h
    refine wft hc6 (by kernel_rfl) ?_
    refine awp_skip ?_
    refine thn ?_
    refine wsq ?_
    refine awp_block ?_
    refine wx tbk [] trivial ?_
    obtain ⟨x7, hg8, h⟩ := bno h
    obtain ⟨hi9, hj10⟩ := gsm hg8
    obtain ⟨x12, hf11, h⟩ := bno h
    refine wx tbk [(3, rp [(.tmp 12, (.dat 1 ((p0 : List Int).map c_i64))), (.tmp 13, I y3)] (.dptr (c_i64 (x7)) 0)), (5, ⟨[(.tmp 11, (.fn (.func 110) [] [.ref 0 1 0 0])), (.tmp 15, I x7)], [(0, (.own 1 [[(.fn (.func 90) [] [])]]))], B x12, [(0, (.own 1 [[(.fn (.func 90) [] [])]]))], false⟩)] ⟨aid rfl Try.underlying37 ti3 rfl rfl hi9 (mgt c_i64 hj10) rfl, astep_callq (first := []) (cap := [.ref 0 1 0 0]) (vs := [I x7]) (σr := [(.own 1 [[(.fn (.func 90) [] [])]])]) (σr' := [(.own 1 [[(.fn (.func 90) [] [])]])]) (res' := (B x12)) [0] rfl enter110 (plant_all_int_1X_4_ok N x7 _ hf11) rfl (rn_agg (rnc (.plain _ nll) (rnc (rnk_ref rfl) rn0))) (slc (srn_box (rnc (.plain _ (NLt.fn _ _ _ nl0 nl0)) rn0)) slw_nil) (slc (srn_box (rnc (.plain _ (NLt.fn _ _ _ nl0 nl0)) rn0)) slw_nil) (.plain _ nll) rfl rfl rfl, trivial⟩ ?_
    rcases bft (x12) with hc13 | hc13
    ·replace h := bif_t hc13 h
     refine wft hc13 (by kernel_rfl) ?_
     refine wx tbk [] trivial ?_
     refine wmr (mto (n := 19) (l' := [(4, I y3)]) (own' := [(.own 1 [[(.fn (.func 90) [] [])]])]) [(4, I y3)] [0] [(.own 1 [[(.fn (.func 90) [] [])]])] hφ0 (pc rwl pn) (qc (spb (lc (.rn (rn_fn rn0 rn0)) ln)) qn)) ?_
     refine awp_ret ?_
     refine blockA_r ?_
     refine thenA_r ?_
     refine thenA_r ?_
     refine blockA_r ?_
     refine thenA_r ?_
     obtain rfl := osi h
     exact ⟨_, Mor.rfl, fin_of (vs := [I y3]) ⟨rot (by kernel_rfl), trivial⟩ rfl (NLt.of0 nll) (by kernel_rfl) (snl_cons (snl_box (nlc (NLt.of0 (NLt.fn _ _ _ nl0 nl0)) nl0)) snl_nil)⟩
    ·replace h := bif_f hc13 h
     refine wfn hc13 (by kernel_rfl) ?_
     refine awp_skip ?_
     refine bln ?_
     refine thn ?_
     refine wx1 tbk [] trivial ?_
     refine thn ?_
     exact arm (mto (n := 19) [(0, (.dat 1 ((p0 : List Int).map c_i64))), (1, (.fn (.func 110) [] [.ref 0 1 0 0])), (7, (I ((p0.length : Int)))), (8, (I (w64 (y3 + 1))))] [0] [(.own 1 [[(.fn (.func 90) [] [])]])] hφ0 (pc (.rn (.plain _ (nld nl_i64 _))) (pc (.rn (rn_fn rn0 (rnc (rqr rfl) rn0))) (pc rwl (pc rwl pn)))) (qc (spb (lc (.rn (rn_fn rn0 rn0)) ln)) qn)) (ih (w64 (y3 + 1)) h)
   ·replace h := bif_f hc6 h
    refine wfn hc6 (by kernel_rfl) ?_
    refine awp_exit ?_
    refine thenA_x ?_
    refine thenA_x ?_
    refine blockA_e rfl ?_
    refine thn ?_
    exact ⟨(), h, (mto (n := 19) [] [0] [(.own 1 [[(.fn (.func 90) [] [])]])] hφ0 pn (qc (spb (lc (.rn (rn_fn rn0 rn0)) ln)) qn))⟩

def slices_ContainsFunc_int_intX_4 (N : Nat) (p0 : (List Int)) : Option Bool :=
  (slices_IndexFunc_int_intX_5 N p0).bind fun x3 =>
  some (decide (x3 ≥ 0))
set_option maxRecDepth 100000 in
set_option maxHeartbeats 4000000 in
theorem slices_ContainsFunc_int_intX_4_ok (N : Nat) (p0 : (List Int)) (r : Bool) (h : slices_ContainsFunc_int_intX_4 N p0 = some r) : Spec Try.prog 109 [(.dat 1 ((p0 : List Int).map c_i64)), (.fn (.func 110) [] [(.ref 0 1 (0) 0)])] [(.own 1 [[(.fn (.func 90) [] [])]])] (B (r)) [(.own 1 [[(.fn (.func 90) [] [])]])] := by
  refine spec_of_awp Try.func109 rfl 1 (nle rfl) (fun X φ0 w0 hφ0 => ?_)
  unfold slices_ContainsFunc_int_intX_4 at h
  refine awp_finm ?_
  refine wx tbk [] trivial ?_
  obtain ⟨x3, hf2, h⟩ := bno h
  refine wx tbk [(2, ⟨[fu 71, (.tmp 5, (.dat 1 ((p0 : List Int).map c_i64))), (.tmp 6, (.fn (.func 110) [] [.ref 0 1 0 0]))], [(0, (.own 1 [[(.fn (.func 90) [] [])]]))], I x3, [(0, (.own 1 [[(.fn (.func 90) [] [])]]))], false⟩)] ⟨astep_callq (first := []) (cap := []) (vs := [(.dat 1 ((p0 : List Int).map c_i64)), (.fn (.func 110) [] [.ref 0 1 0 0])]) (σr := [(.own 1 [[(.fn (.func 90) [] [])]])]) (σr' := [(.own 1 [[(.fn (.func 90) [] [])]])]) (res' := (I x3)) [0] rfl enter71 (slices_IndexFunc_int_intX_5_ok N p0 _ hf2) rfl (rn_agg (rnc (.plain _ (nld nl_i64 _)) (rnc (rn_fn rn0 (rnc (rnk_ref rfl) rn0)) rn0))) (slc (srn_box (rnc (.plain _ (NLt.fn _ _ _ nl0 nl0)) rn0)) slw_nil) (slc (srn_box (rnc (.plain _ (NLt.fn _ _ _ nl0 nl0)) rn0)) slw_nil) (.plain _ nll) rfl rfl rfl, trivial⟩ ?_
  refine wmr (mto (n := 9) (l' := [(4, (B ((decide (x3 ≥ 0)))))]) (own' := [(.own 1 [[(.fn (.func 90) [] [])]])]) [(4, (B ((decide (x3 ≥ 0)))))] [0] [(.own 1 [[(.fn (.func 90) [] [])]])] hφ0 (pc rwl pn) (qc (spb (lc (.rn (rn_fn rn0 rn0)) ln)) qn)) ?_
  refine awp_ret ?_
  obtain rfl := osi h
  exact ⟨_, Mor.rfl, fin_of (vs := [(B ((decide (x3 ≥ 0))))]) ⟨rot (by kernel_rfl), trivial⟩ rfl (NLt.of0 nll) (by kernel_rfl) (snl_cons (snl_box (nlc (NLt.of0 (NLt.fn _ _ _ nl0 nl0)) nl0)) snl_nil)⟩

def plant_all_intX_4 (N : Nat) (p0 : (List Int)) : Option Bool :=
  (slices_ContainsFunc_int_intX_4 N p0).bind fun x2 =>
  some (!x2)
set_option maxRecDepth 100000 in
set_option maxHeartbeats 4000000 in
theorem plant_all_intX_4_ok (N : Nat) (p0 : (List Int)) (r : Bool) (h : plant_all_intX_4 N p0 = some r) : Spec Try.prog 89 [(.dat 1 ((p0 : List Int).map c_i64)), (.fn (.func 90) [] [])] [] (B (r)) [] := by
  refine spec_of_awp Try.func89 rfl 0 (nle rfl) (fun X φ0 w0 hφ0 => ?_)
  unfold plant_all_intX_4 at h
  refine wx tbk [] trivial ?_
  obtain ⟨x2, hf1, h⟩ := bno h
  refine wx tbk [(1, rp [(.tmp 3, .ref 0 1 0 0)] (.fn (.func 110) [] [.ref 0 1 0 0])), (2, ⟨[fu 109, (.tmp 5, (.dat 1 ((p0 : List Int).map c_i64))), (.tmp 6, (.fn (.func 110) [] [.ref 0 1 0 0]))], [(0, (.own 1 [[(.fn (.func 90) [] [])]]))], B x2, [(0, (.own 1 [[(.fn (.func 90) [] [])]]))], false⟩)] ⟨astep_func (fs := []) (cs := [.ref 0 1 0 0]) rfl rfl rfl rfl, astep_callq (first := []) (cap := []) (vs := [(.dat 1 ((p0 : List Int).map c_i64)), (.fn (.func 110) [] [.ref 0 1 0 0])]) (σr := [(.own 1 [[(.fn (.func 90) [] [])]])]) (σr' := [(.own 1 [[(.fn (.func 90) [] [])]])]) (res' := (B x2)) [0] rfl enter109 (slices_ContainsFunc_int_intX_4_ok N p0 _ hf1) rfl (rn_agg (rnc (.plain _ (nld nl_i64 _)) (rnc (rn_fn rn0 (rnc (rnk_ref rfl) rn0)) rn0))) (slc (srn_box (rnc (.plain _ (NLt.fn _ _ _ nl0 nl0)) rn0)) slw_nil) (slc (srn_box (rnc (.plain _ (NLt.fn _ _ _ nl0 nl0)) rn0)) slw_nil) (.plain _ nll) rfl rfl rfl, trivial⟩ ?_
  refine awp_ret ?_
  obtain rfl := osi h
  exact ⟨⟨[(B ((!x2)))], ⟨rot (by kernel_rfl), trivial⟩, rfl⟩, nll, Nat.le_refl _, fun n hn => absurd hn (Nat.not_lt_zero n)⟩

def slices_Min_int_intX_loop1 (N : Nat) (p0 : (List Int)) (k7 : Int → Option Int) : Nat → Int → Int → Option Int
  | 0, _, _ => none
  | n12 + 1, y8, y9 =>
    bif (decide (y9 < (p0.length : Int))) then
     (getI p0 y9).bind fun x14 =>
     (some (if x14 < y8 then x14 else y8)).bind fun x18 =>
     slices_Min_int_intX_loop1 N p0 k7 n12 x18 (w64 (y9 + 1))
    else
     k7 (y8)
def slices_Min_int_intX (N : Nat) (p0 : (List Int)) : Option Int :=
  joinK (fun _ =>
    (getI p0 0).bind fun x2 =>
    joinK (fun y6 =>
      some y6) fun k7 : Int → Option Int =>
    slices_Min_int_intX_loop1 N p0 k7 N x2 1) fun k1 : Unit → Option Int =>
  bif (decide ((p0.length : Int) < 1)) then
   none
  else
   k1 ()
set_option maxRecDepth 100000 in
set_option maxHeartbeats 4000000 in
theorem slices_Min_int_intX_ok (N : Nat) (p0 : (List Int)) (r : Int) (h : slices_Min_int_intX N p0 = some r) : Spec Try.prog 88 [(.dat 1 (p0.map c_i64))] [] (I r) [] := by
  refine spec_of_awp Try.func88 rfl 0 (nle rfl) (fun X φ0 w0 hφ0 => ?_)
  unfold slices_Min_int_intX at h
  refine wx tbk [] trivial ?_
  obtain ⟨k1, hk_k1, h⟩ := jko h
  refine wjn (τ := Unit) (fun t => k1 t = some r) (fun _ => ⟨mk 25 [(0, (.dat 1 ((p0 : List Int).map c_i64)))], []⟩) (fun t h => ?_) ?_
  ·subst hk_k1
   obtain ⟨x2, hg3, h⟩ := bno h
   obtain ⟨hi4, hj5⟩ := gsm hg3
   refine wx tbk [(1, rp [(.tmp 9, (.dat 1 ((p0 : List Int).map c_i64))), ci 0] (.dptr (c_i64 (x2)) 0))] ⟨aid rfl Try.underlying37 ti3 rfl rfl hi4 (mgt c_i64 hj5) rfl, trivial⟩ ?_
   obtain ⟨k7, hk_k7, h⟩ := jko h
   refine wjn (τ := Int) (fun t => k7 t = some r) (fun y6 => ⟨mk 25 [(3, I y6)], []⟩) (fun y6 h => ?_) ?_
   ·subst hk_k7
    refine wx tbk [] trivial ?_
    refine awp_ret ?_
    obtain rfl := osi h
    exact ⟨⟨[I y6], ⟨rot (by kernel_rfl), trivial⟩, rfl⟩, nll, Nat.le_refl _, fun n hn => absurd hn (Nat.not_lt_zero n)⟩
   ·skip
    refine wx tbk [] trivial ?_
    refine awp_block ?_
    refine wmr (mto (n := 25) (l' := [(0, (.dat 1 ((p0 : List Int).map c_i64))), (3, I x2), (4, I 1)]) (own' := []) [(0, (.dat 1 ((p0 : List Int).map c_i64))), (3, I x2), (4, I 1)] [] [] hφ0 (pc (.rn (.plain _ (nld nl_i64 _))) (pc rwl (pc rwl pn))) qn) ?_
    refine awp_ind (τ := Int × Int) (fun n t => slices_Min_int_intX_loop1 N p0 k7 n t.1 t.2 = some r) (fun ⟨y8, y9⟩ => ⟨mk 25 [(0, (.dat 1 ((p0 : List Int).map c_i64))), (3, I y8), (4, I y9)], []⟩) (fun t h => by rw [slices_Min_int_intX_loop1] at h; cases h) (fun n12 ih t h => ?_) N (x2, 1) h
    obtain ⟨y8, y9⟩ := t
    rw [slices_Min_int_intX_loop1] at h
    skip
    refine wsq ?_
    refine wx tbk [(2, rp [(.tmp 13, (.dat 1 ((p0 : List Int).map c_i64)))] (I ((p0.length : Int))))] ⟨alm (c := c_i64) (l := p0) (aln rfl Try.underlying37 rfl), trivial⟩ ?_
    rcases bft ((decide (y9 < (p0.length : Int)))) with hc13 | hc13
    ·replace h := bif_t hc13 h
     refine wft hc13 (by kernel_rfl) ?_
     refine awp_skip ?_
     refine thn ?_
     refine wsq ?_
     refine awp_block ?_
     obtain ⟨x14, hg15, h⟩ := bno h
     obtain ⟨hi16, hj17⟩ := gsm hg15
     obtain ⟨x18, hl19, h⟩ := bno h
     refine wx1 tbk [(3, rp [(.tmp 19, (.dat 1 ((p0 : List Int).map c_i64))), (.tmp 20, I y9)] (.dptr (c_i64 (x14)) 0)), (5, rp [(.tmp 18, I y8), (.tmp 22, I x14)] (I ((if x14 < y8 then x14 else y8)))), (6, rp [(.tmp 23, (I ((if x14 < y8 then x14 else y8))))] (I x18))] ⟨aid rfl Try.underlying37 ti3 rfl rfl hi16 (mgt c_i64 hj17) rfl, astep_min rfl, astep_i hl19 (aas rfl), trivial⟩ ?_
     refine bln ?_
     refine thn ?_
     refine wx1 tbk [] trivial ?_
     refine thn ?_
     exact arm (mto (n := 25) [(0, (.dat 1 ((p0 : List Int).map c_i64))), (3, I x18), (4, (I (w64 (y9 + 1))))] [] [] hφ0 (pc (.rn (.plain _ (nld nl_i64 _))) (pc rwl (pc rwl pn))) qn) (ih (x18, w64 (y9 + 1)) h)
    ·replace h := bif_f hc13 h
     refine wfn hc13 (by kernel_rfl) ?_
     refine awp_exit ?_
     refine thenA_x ?_
     refine thenA_x ?_
     refine blockA_e rfl ?_
     refine thn ?_
     exact ⟨(y8), h, (mto (n := 25) [(3, I y8)] [] [] hφ0 (pc rwl pn) qn)⟩
  ·skip
   refine wx tbk [(1, rp [(.tmp 5, (.dat 1 ((p0 : List Int).map c_i64)))] (I ((p0.length : Int))))] ⟨alm (c := c_i64) (l := p0) (aln rfl Try.underlying37 rfl), trivial⟩ ?_
   rcases bft ((decide ((p0.length : Int) < 1))) with hc20 | hc20
   ·replace h := bif_t hc20 h
    refine wft hc20 (by kernel_rfl) ?_
    cases h
   ·replace h := bif_f hc20 h
    refine wfn hc20 (by kernel_rfl) ?_
    refine awp_skip ?_
    refine thn ?_
    exact ⟨(), h, (mto (n := 25) [(0, (.dat 1 ((p0 : List Int).map c_i64)))] [] [] hφ0 (pc (.rn (.plain _ (nld nl_i64 _))) pn) qn)⟩

def plant_ProveDispatchX_loop3 (N : Nat) (p0 : GJob) (y14 : Int) (y23 : Int) (k27 : Unit → Option Bool) (x28 : Int) (x32 : (List Int)) : Nat → Int → Option Bool
  | 0, _ => none
  | n38 + 1, y36 =>
    bif (decide (y36 < (x32.length : Int))) then
     (getI x32 y36).bind fun x40 =>
     (plant_Job_gainX N p0 y14 y23 y36).bind fun x45 =>
     bif x45.2 then
      bif (decide (x28 < (w64 (x45.1 + x40)))) then
       some false
      else
       plant_ProveDispatchX_loop3 N p0 y14 y23 k27 x28 x32 n38 (w64 (y36 + 1))
     else
      plant_ProveDispatchX_loop3 N p0 y14 y23 k27 x28 x32 n38 (w64 (y36 + 1))
    else
     k27 ()
def plant_ProveDispatchX_loop2 (N : Nat) (p0 : GJob) (p3 : (List (List Int))) (y14 : Int) (k18 : Unit → Option Bool) (x19 : (List Int)) : Nat → Int → Option Bool
  | 0, _ => none
  | n25 + 1, y23 =>
    bif (decide (y23 < (x19.length : Int))) then
     joinK (fun _ =>
       plant_ProveDispatchX_loop2 N p0 p3 y14 k18 x19 n25 (w64 (y23 + 1))) fun k27 : Unit → Option Bool =>
     (getI x19 y23).bind fun x28 =>
     (getI p3 (w64 (y14 + 1))).bind fun x32 =>
     plant_ProveDispatchX_loop3 N p0 y14 y23 k27 x28 x32 N 0
    else
     k18 ()
def plant_ProveDispatchX_loop1 (N : Nat) (p0 : GJob) (p3 : (List (List Int))) (k5 : Unit → Option Bool) : Nat → Int → Option Bool
  | 0, _ => none
  | n16 + 1, y14 =>
    bif (decide (y14 < (p0.Hours.length : Int))) then
     joinK (fun _ =>
       plant_ProveDispatchX_loop1 N p0 p3 k5 n16 (w64 (y14 + 1))) fun k18 : Unit → Option Bool =>
     (getI p3 y14).bind fun x19 =>
     plant_ProveDispatchX_loop2 N p0 p3 y14 k18 x19 N 0
    else
     k5 ()
def plant_ProveDispatchX_loop4 (N : Nat) (p0 : GJob) (p3 : (List (List Int))) (k4 : Unit → Option Bool) : Nat → Int → Option Bool
  | 0, _ => none
  | n50 + 1, y48 =>
    bif (decide (y48 < (p3.length : Int))) then
     (getI p3 y48).bind fun x52 =>
     joinK (fun _ =>
       bif (y48 == (p0.Hours.length : Int)) then
        (slices_Min_int_intX N x52).bind fun x59 =>
        bif (decide (x59 < 0)) then
         some false
        else
         plant_ProveDispatchX_loop4 N p0 p3 k4 n50 (w64 (y48 + 1))
       else
        plant_ProveDispatchX_loop4 N p0 p3 k4 n50 (w64 (y48 + 1))) fun k56 : Unit → Option Bool =>
     bif ((x52.length : Int) != (p0.Levels.length : Int)) then
      some false
     else
      (plant_all_intX_4 N x52).bind fun x63 =>
      bif (!x63) then
       some false
      else
       k56 ()
    else
     k4 ()
def plant_ProveDispatchX (N : Nat) (p0 : GJob) (p1 : (List Int)) (p2 : Int) (p3 : (List (List Int))) : Option Bool :=
  (plant_ProfitX N p0 p1).bind fun x2 =>
  joinK (fun _ =>
    joinK (fun _ =>
      joinK (fun _ =>
        (getI p3 0).bind fun x6 =>
        (getI x6 p0.First).bind fun x10 =>
        some (decide (x10 ≤ p2))) fun k5 : Unit → Option Bool =>
      plant_ProveDispatchX_loop1 N p0 p3 k5 N 0) fun k4 : Unit → Option Bool =>
    plant_ProveDispatchX_loop4 N p0 p3 k4 N 0) fun k3 : Unit → Option Bool =>
  bif (x2.2 != 0) then
   some false
  else
   bif (x2.1 != p2) then
    some false
   else
    bif ((p3.length : Int) != (w64 ((p0.Hours.length : Int) + 1))) then
     some false
    else
     k3 ()
def z133_0 (p0 : GJob) : AV := .dat 2 ((p0.Hours : List GHour).map c_GHour)
def z133_2 (p0 : GJob) : AV := .agg [(.dat 1 ((p0.Levels : List Int).map c_i64)), (I (p0.Ramp)), (I (p0.Start)), (I (p0.First)), (z133_0 p0)]
def z133_1 (p0 : GJob) : Slot := .own 5 [[(.dat 1 ((p0.Levels : List Int).map c_i64)), (I (p0.Ramp)), (I (p0.Start)), (I (p0.First)), (z133_0 p0)]]
set_option maxRecDepth 100000 in
set_option maxHeartbeats 4000000 in
theorem plant_ProveDispatchX_ok (N : Nat) (p0 : GJob) (p1 : (List Int)) (p2 : Int) (p3 : (List (List Int))) (r : Bool) (h : plant_ProveDispatchX N p0 p1 p2 p3 = some r) : Spec Try.prog 55 [(.agg (c_GJob p0)), (.dat 1 (p1.map c_i64)), (I p2), (.dat 1 (p3.map c_Li64))] [] (B r) [] := by
  refine spec_of_awp Try.func55 rfl 0 (nle rfl) (fun X φ0 w0 hφ0 => ?_)
  unfold plant_ProveDispatchX at h
  refine wx tbk [] trivial ?_
  obtain ⟨x2, hf1, h⟩ := bno h
  refine wx tbk [(2, rp [fu 36, (.tmp 21, (z133_2 p0)), (.tmp 22, (.dat 1 ((p1 : List Int).map c_i64)))] (.tup [I x2.1, I x2.2]))] ⟨apc (first := []) (cap := []) (vs := [(z133_2 p0), (.dat 1 ((p1 : List Int).map c_i64))]) rfl enter36 (plant_ProfitX_ok N p0 p1 _ hf1) rfl rfl (nlc (NLt.agg _ (nlc (nld nl_i64 _) (nlc nll (nlc nll (nlc nll (nlc (nld nl_GHour _) nl0)))))) (nlc (nld nl_i64 _) nl0)) (NLt.tup _ (nlc nll (nlc nll nl0))) rfl, trivial⟩ ?_
  obtain ⟨k3, hk_k3, h⟩ := jko h
  refine wjn (τ := Unit) (fun t => k3 t = some r) (fun _ => ⟨mk 126 [(2, I p2), (3, (.dat 1 ((p3 : List (List Int)).map c_Li64))), (4, .ref 0 5 0 0)], [(z133_1 p0)]⟩) (fun t h => ?_) ?_
  ·subst hk_k3
   obtain ⟨k4, hk_k4, h⟩ := jko h
   refine wjn (τ := Unit) (fun t => k4 t = some r) (fun _ => ⟨mk 126 [(2, I p2), (3, (.dat 1 ((p3 : List (List Int)).map c_Li64))), (4, .ref 0 5 0 0)], [(z133_1 p0)]⟩) (fun t h => ?_) ?_
   ·subst hk_k4
    obtain ⟨k5, hk_k5, h⟩ := jko h
    refine wjn (τ := Unit) (fun t => k5 t = some r) (fun _ => ⟨mk 126 [(2, I p2), (3, (.dat 1 ((p3 : List (List Int)).map c_Li64))), (4, .ref 0 5 0 0)], [(z133_1 p0)]⟩) (fun t h => ?_) ?_
    ·subst hk_k5
     obtain ⟨x6, hg7, h⟩ := bno h
     obtain ⟨hi8, hj9⟩ := gsm hg7
     obtain ⟨x10, hg11, h⟩ := bno h
     obtain ⟨hi12, hj13⟩ := gsm hg11
     refine wxd tbk [(1, rp [(.tmp 117, (.dat 1 ((p3 : List (List Int)).map c_Li64))), ci 0] (.dptr (c_Li64 (x6)) 0)), (5, rp [(.tmp 119, (.dat 1 ((x6 : List Int).map c_i64))), (.tmp 121, I p0.First)] (.dptr (c_i64 (x10)) 0))] ⟨aid rfl Try.underlying42 ti37 rfl rfl hi8 (mgt c_Li64 hj9) rfl, aid rfl Try.underlying37 ti3 rfl rfl hi12 (mgt c_i64 hj13) rfl, trivial⟩ ?_
     refine awp_ret ?_
     obtain rfl := osi h
     exact ⟨⟨[(B ((decide (x10 ≤ p2))))], ⟨rot (by kernel_rfl), trivial⟩, rfl⟩, nll, Nat.le_refl _, fun n hn => absurd hn (Nat.not_lt_zero n)⟩
    ·skip
     refine wx tbk [(2, rp [(.tmp 72, (z133_0 p0))] (I ((p0.Hours.length : Int))))] ⟨alm (c := c_GHour) (l := p0.Hours) (aln rfl Try.underlying45 rfl), trivial⟩ ?_
     refine awp_block ?_
     refine wmr (mto (n := 126) (l' := [(2, I p2), (3, (.dat 1 ((p3 : List (List Int)).map c_Li64))), (4, .ref 0 5 0 0), (73, (I ((p0.Hours.length : Int)))), (74, I 0)]) (own' := [(z133_1 p0)]) [(2, I p2), (3, (.dat 1 ((p3 : List (List Int)).map c_Li64))), (4, .ref 0 5 0 0), (73, (I ((p0.Hours.length : Int)))), (74, I 0)] [0] [(z133_1 p0)] hφ0 (pc rwl (pc (.rn (.plain _ (nld nl_Li64 _))) (pc (.rn (rqr rfl)) (pc rwl (pc rwl pn))))) (qc (spb (lc (.rn (.plain _ (nld nl_i64 _))) (lc rwl (lc rwl (lc rwl (lc (.rn (.plain _ (nld nl_GHour _))) ln)))))) qn)) ?_
     refine awp_ind (τ := Int) (fun n t => plant_ProveDispatchX_loop1 N p0 p3 k5 n t = some r) (fun y14 => ⟨mk 126 [(2, I p2), (3, (.dat 1 ((p3 : List (List Int)).map c_Li64))), (4, .ref 0 5 0 0), (73, (I ((p0.Hours.length : Int)))), (74, I y14)], [(z133_1 p0)]⟩) (fun t h => by rw [plant_ProveDispatchX_loop1] at h; cases h) (fun n16 ih y14 h => ?_) N (0) h
     rw [plant_ProveDispatchX_loop1] at h
     skip
     refine wx tbk [] trivial ?_
     refine wsq ?_
     rcases bft ((decide (y14 < (p0.Hours.length : Int)))) with hc17 | hc17
     ·replace h := bif_t hc17 h
      refine wft hc17 (by kernel_rfl) ?_
      refine awp_skip ?_
      refine thn ?_
      obtain ⟨k18, hk_k18, h⟩ := jko h
      refine wjn (τ := Unit) (fun t => k18 t = some r) (fun _ => ⟨mk 126 [(2, I p2), (3, (.dat 1 ((p3 : List (List Int)).map c_Li64))), (4, .ref 0 5 0 0), (73, (I ((p0.Hours.length : Int)))), (74, I y14)], [(z133_1 p0)]⟩) (fun t h => ?_) ?_
      ·subst hk_k18
       refine wx1 tbk [] trivial ?_
       refine thn ?_
       exact arm (mto (n := 126) [(2, I p2), (3, (.dat 1 ((p3 : List (List Int)).map c_Li64))), (4, .ref 0 5 0 0), (73, (I ((p0.Hours.length : Int)))), (74, (I (w64 (y14 + 1))))] [0] [(z133_1 p0)] hφ0 (pc rwl (pc (.rn (.plain _ (nld nl_Li64 _))) (pc (.rn (rqr rfl)) (pc rwl (pc rwl pn))))) (qc (spb (lc (.rn (.plain _ (nld nl_i64 _))) (lc rwl (lc rwl (lc rwl (lc (.rn (.plain _ (nld nl_GHour _))) ln)))))) qn)) (ih (w64 (y14 + 1)) h)
      ·skip
       refine awp_block ?_
       refine wx tbk [] trivial ?_
       obtain ⟨x19, hg20, h⟩ := bno h
       obtain ⟨hi21, hj22⟩ := gsm hg20
       refine wx tbk [(2, rp [(.tmp 77, (.dat 1 ((p3 : List (List Int)).map c_Li64))), (.tmp 78, I y14)] (.dptr (c_Li64 (x19)) 0)), (4, rp [(.tmp 80, (.dat 1 ((x19 : List Int).map c_i64)))] (I ((x19.length : Int))))] ⟨aid rfl Try.underlying42 ti37 rfl rfl hi21 (mgt c_Li64 hj22) rfl, alm (c := c_i64) (l := x19) (aln rfl Try.underlying37 rfl), trivial⟩ ?_
       refine awp_block ?_
       refine wmr (mto (n := 126) (l' := [(2, I p2), (3, (.dat 1 ((p3 : List (List Int)).map c_Li64))), (4, .ref 0 5 0 0), (13, I y14), (73, (I ((p0.Hours.length : Int)))), (74, I y14), (80, (.dat 1 ((x19 : List Int).map c_i64))), (81, (I ((x19.length : Int)))), (82, I 0)]) (own' := [(z133_1 p0)]) [(2, I p2), (3, (.dat 1 ((p3 : List (List Int)).map c_Li64))), (4, .ref 0 5 0 0), (13, I y14), (73, (I ((p0.Hours.length : Int)))), (74, I y14), (80, (.dat 1 ((x19 : List Int).map c_i64))), (81, (I ((x19.length : Int)))), (82, I 0)] [0] [(z133_1 p0)] hφ0 (pc rwl (pc (.rn (.plain _ (nld nl_Li64 _))) (pc (.rn (rqr rfl)) (pc rwl (pc rwl (pc rwl (pc (.rn (.plain _ (nld nl_i64 _))) (pc rwl (pc rwl pn))))))))) (qc (spb (lc (.rn (.plain _ (nld nl_i64 _))) (lc rwl (lc rwl (lc rwl (lc (.rn (.plain _ (nld nl_GHour _))) ln)))))) qn)) ?_
       refine awp_ind (τ := Int) (fun n t => plant_ProveDispatchX_loop2 N p0 p3 y14 k18 x19 n t = some r) (fun y23 => ⟨mk 126 [(2, I p2), (3, (.dat 1 ((p3 : List (List Int)).map c_Li64))), (4, .ref 0 5 0 0), (13, I y14), (73, (I ((p0.Hours.length : Int)))), (74, I y14), (80, (.dat 1 ((x19 : List Int).map c_i64))), (81, (I ((x19.length : Int)))), (82, I y23)], [(z133_1 p0)]⟩) (fun t h => by rw [plant_ProveDispatchX_loop2] at h; cases h) (fun n25 ih y23 h => ?_) N (0) h
       rw [plant_ProveDispatchX_loop2] at h
       skip
       refine wx tbk [] trivial ?_
       refine wsq ?_
       rcases bft ((decide (y23 < (x19.length : Int)))) with hc26 | hc26
       ·replace h := bif_t hc26 h
        refine wft hc26 (by kernel_rfl) ?_
        refine awp_skip ?_
        refine thn ?_
        obtain ⟨k27, hk_k27, h⟩ := jko h
        refine wjn (τ := Unit) (fun t => k27 t = some r) (fun _ => ⟨mk 126 [(2, I p2), (3, (.dat 1 ((p3 : List (List Int)).map c_Li64))), (4, .ref 0 5 0 0), (13, I y14), (73, (I ((p0.Hours.length : Int)))), (74, I y14), (80, (.dat 1 ((x19 : List Int).map c_i64))), (81, (I ((x19.length : Int)))), (82, I y23)], [(z133_1 p0)]⟩) (fun t h => ?_) ?_
        ·subst hk_k27
         refine wx1 tbk [] trivial ?_
         refine thn ?_
         exact arm (mto (n := 126) [(2, I p2), (3, (.dat 1 ((p3 : List (List Int)).map c_Li64))), (4, .ref 0 5 0 0), (13, I y14), (73, (I ((p0.Hours.length : Int)))), (74, I y14), (80, (.dat 1 ((x19 : List Int).map c_i64))), (81, (I ((x19.length : Int)))), (82, (I (w64 (y23 + 1))))] [0] [(z133_1 p0)] hφ0 (pc rwl (pc (.rn (.plain _ (nld nl_Li64 _))) (pc (.rn (rqr rfl)) (pc rwl (pc rwl (pc rwl (pc (.rn (.plain _ (nld nl_i64 _))) (pc rwl (pc rwl pn))))))))) (qc (spb (lc (.rn (.plain _ (nld nl_i64 _))) (lc rwl (lc rwl (lc rwl (lc (.rn (.plain _ (nld nl_GHour _))) ln)))))) qn)) (ih (w64 (y23 + 1)) h)
        ·skip
         refine awp_block ?_
         obtain ⟨x28, hg29, h⟩ := bno h
         obtain ⟨hi30, hj31⟩ := gsm hg29
         refine wx tbk [(1, rp [(.tmp 80, (.dat 1 ((x19 : List Int).map c_i64))), (.tmp 82, I y23)] (.dptr (c_i64 (x28)) 0))] ⟨aid rfl Try.underlying37 ti3 rfl rfl hi30 (mgt c_i64 hj31) rfl, trivial⟩ ?_
         obtain ⟨x32, hg33, h⟩ := bno h
         obtain ⟨hi34, hj35⟩ := gsm hg33
         refine wx tbk [(3, rp [(.tmp 87, (.dat 1 ((p3 : List (List Int)).map c_Li64))), (.tmp 89, (I (w64 (y14 + 1))))] (.dptr (c_Li64 (x32)) 0)), (5, rp [(.tmp 91, (.dat 1 ((x32 : List Int).map c_i64)))] (I ((x32.length : Int))))] ⟨aid rfl Try.underlying42 ti37 rfl rfl hi34 (mgt c_Li64 hj35) rfl, alm (c := c_i64) (l := x32) (aln rfl Try.underlying37 rfl), trivial⟩ ?_
         refine awp_block ?_
         refine wmr (mto (n := 126) (l' := [(2, I p2), (3, (.dat 1 ((p3 : List (List Int)).map c_Li64))), (4, .ref 0 5 0 0), (13, I y14), (14, I y23), (15, I x28), (73, (I ((p0.Hours.length : Int)))), (74, I y14), (80, (.dat 1 ((x19 : List Int).map c_i64))), (81, (I ((x19.length : Int)))), (82, I y23), (91, (.dat 1 ((x32 : List Int).map c_i64))), (92, (I ((x32.length : Int)))), (93, I 0)]) (own' := [(z133_1 p0)]) [(2, I p2), (3, (.dat 1 ((p3 : List (List Int)).map c_Li64))), (4, .ref 0 5 0 0), (13, I y14), (14, I y23), (15, I x28), (73, (I ((p0.Hours.length : Int)))), (74, I y14), (80, (.dat 1 ((x19 : List Int).map c_i64))), (81, (I ((x19.length : Int)))), (82, I y23), (91, (.dat 1 ((x32 : List Int).map c_i64))), (92, (I ((x32.length : Int)))), (93, I 0)] [0] [(z133_1 p0)] hφ0 (pc rwl (pc (.rn (.plain _ (nld nl_Li64 _))) (pc (.rn (rqr rfl)) (pc rwl (pc rwl (pc rwl (pc rwl (pc rwl (pc (.rn (.plain _ (nld nl_i64 _))) (pc rwl (pc rwl (pc (.rn (.plain _ (nld nl_i64 _))) (pc rwl (pc rwl pn)))))))))))))) (qc (spb (lc (.rn (.plain _ (nld nl_i64 _))) (lc rwl (lc rwl (lc rwl (lc (.rn (.plain _ (nld nl_GHour _))) ln)))))) qn)) ?_
         refine awp_ind (τ := Int) (fun n t => plant_ProveDispatchX_loop3 N p0 y14 y23 k27 x28 x32 n t = some r) (fun y36 => ⟨mk 126 [(2, I p2), (3, (.dat 1 ((p3 : List (List Int)).map c_Li64))), (4, .ref 0 5 0 0), (13, I y14), (14, I y23), (15, I x28), (73, (I ((p0.Hours.length : Int)))), (74, I y14), (80, (.dat 1 ((x19 : List Int).map c_i64))), (81, (I ((x19.length : Int)))), (82, I y23), (91, (.dat 1 ((x32 : List Int).map c_i64))), (92, (I ((x32.length : Int)))), (93, I y36)], [(z133_1 p0)]⟩) (fun t h => by rw [plant_ProveDispatchX_loop3] at h; cases h) (fun n38 ih y36 h => ?_) N (0) h
         rw [plant_ProveDispatchX_loop3] at h
         skip
         refine wx tbk [] trivial ?_
         refine wsq ?_
         rcases bft ((decide (y36 < (x32.length : Int)))) with hc39 | hc39
         ·replace h := bif_t hc39 h
          refine wft hc39 (by kernel_rfl) ?_
          refine awp_skip ?_
          refine thn ?_
          refine wsq ?_
          refine awp_block ?_
          obtain ⟨x40, hg41, h⟩ := bno h
          obtain ⟨hi42, hj43⟩ := gsm hg41
          refine wx tbk [(1, rp [(.tmp 91, (.dat 1 ((x32 : List Int).map c_i64))), (.tmp 93, I y36)] (.dptr (c_i64 (x40)) 0))] ⟨aid rfl Try.underlying37 ti3 rfl rfl hi42 (mgt c_i64 hj43) rfl, trivial⟩ ?_
          obtain ⟨x45, hf44, h⟩ := bno h
          refine wx tbk [(4, rp [fu 70, (.tmp 99, (z133_2 p0)), (.tmp 100, I y14), (.tmp 101, I y23), (.tmp 102, I y36)] (.tup [I x45.1, B x45.2]))] ⟨apc (first := []) (cap := []) (vs := [(z133_2 p0), I y14, I y23, I y36]) rfl enter70 (plant_Job_gainX_ok N p0 y14 y23 y36 _ hf44) rfl rfl (nlc (NLt.agg _ (nlc (nld nl_i64 _) (nlc nll (nlc nll (nlc nll (nlc (nld nl_GHour _) nl0)))))) (nlc nll (nlc nll (nlc nll nl0)))) (NLt.tup _ (nlc nll (nlc nll nl0))) rfl, trivial⟩ ?_
          rcases bft (x45.2) with hb46 | hb46
          ·replace h := bif_t hb46 h
           refine wx tbk [(1, rp [(.tmp 106, B x45.2)] (B true))] ⟨asb hb46 (amv rfl), trivial⟩ ?_
           rcases bft ((decide (x28 < (w64 (x45.1 + x40))))) with hc47 | hc47
           ·replace h := bif_t hc47 h
            refine wft hc47 (by kernel_rfl) ?_
            refine wx tbk [] trivial ?_
            refine awp_ret ?_
            refine blockA_r ?_
            refine thenA_r ?_
            refine thenA_r ?_
            refine blockA_r ?_
            refine blockA_r ?_
            refine thenA_r ?_
            refine thenA_r ?_
            refine blockA_r ?_
            refine blockA_r ?_
            refine thenA_r ?_
            refine thenA_r ?_
            refine blockA_r ?_
            refine thenA_r ?_
            obtain rfl := osi h
            exact ⟨⟨[B false], ⟨rot (by kernel_rfl), trivial⟩, rfl⟩, nll, Nat.le_refl _, fun n hn => absurd hn (Nat.not_lt_zero n)⟩
           ·replace h := bif_f hc47 h
            refine wfn hc47 (by kernel_rfl) ?_
            refine awp_skip ?_
            refine bln ?_
            refine thn ?_
            refine wx1 tbk [] trivial ?_
            refine thn ?_
            exact arm (mto (n := 126) [(2, I p2), (3, (.dat 1 ((p3 : List (List Int)).map c_Li64))), (4, .ref 0 5 0 0), (13, I y14), (14, I y23), (15, I x28), (73, (I ((p0.Hours.length : Int)))), (74, I y14), (80, (.dat 1 ((x19 : List Int).map c_i64))), (81, (I ((x19.length : Int)))), (82, I y23), (91, (.dat 1 ((x32 : List Int).map c_i64))), (92, (I ((x32.length : Int)))), (93, (I (w64 (y36 + 1))))] [0] [(z133_1 p0)] hφ0 (pc rwl (pc (.rn (.plain _ (nld nl_Li64 _))) (pc (.rn (rqr rfl)) (pc rwl (pc rwl (pc rwl (pc rwl (pc rwl (pc (.rn (.plain _ (nld nl_i64 _))) (pc rwl (pc rwl (pc (.rn (.plain _ (nld nl_i64 _))) (pc rwl (pc rwl pn)))))))))))))) (qc (spb (lc (.rn (.plain _ (nld nl_i64 _))) (lc rwl (lc rwl (lc rwl (lc (.rn (.plain _ (nld nl_GHour _))) ln)))))) qn)) (ih (w64 (y36 + 1)) h)
          ·replace h := bif_f hb46 h
           refine wx tbk [(1, rp [(.tmp 106, B x45.2)] (B false))] ⟨asb hb46 (amv rfl), trivial⟩ ?_
           refine awp_false (by kernel_rfl) ?_
           refine awp_skip ?_
           refine bln ?_
           refine thn ?_
           refine wx1 tbk [] trivial ?_
           refine thn ?_
           exact arm (mto (n := 126) [(2, I p2), (3, (.dat 1 ((p3 : List (List Int)).map c_Li64))), (4, .ref 0 5 0 0), (13, I y14), (14, I y23), (15, I x28), (73, (I ((p0.Hours.length : Int)))), (74, I y14), (80, (.dat 1 ((x19 : List Int).map c_i64))), (81, (I ((x19.length : Int)))), (82, I y23), (91, (.dat 1 ((x32 : List Int).map c_i64))), (92, (I ((x32.length : Int)))), (93, (I (w64 (y36 + 1))))] [0] [(z133_1 p0)] hφ0 (pc rwl (pc (.rn (.plain _ (nld nl_Li64 _))) (pc (.rn (rqr rfl)) (pc rwl (pc rwl (pc rwl (pc rwl (pc rwl (pc (.rn (.plain _ (nld nl_i64 _))) (pc rwl (pc rwl (pc (.rn (.plain _ (nld nl_i64 _))) (pc rwl (pc rwl pn)))))))))))))) (qc (spb (lc (.rn (.plain _ (nld nl_i64 _))) (lc rwl (lc rwl (lc rwl (lc (.rn (.plain _ (nld nl_GHour _))) ln)))))) qn)) (ih (w64 (y36 + 1)) h)
         ·replace h := bif_f hc39 h
          refine wfn hc39 (by kernel_rfl) ?_
          refine awp_exit ?_
          refine thenA_x ?_
          refine thenA_x ?_
          refine blockA_e rfl ?_
          refine bln ?_
          refine thn ?_
          exact ⟨(), h, (mto (n := 126) [(2, I p2), (3, (.dat 1 ((p3 : List (List Int)).map c_Li64))), (4, .ref 0 5 0 0), (13, I y14), (73, (I ((p0.Hours.length : Int)))), (74, I y14), (80, (.dat 1 ((x19 : List Int).map c_i64))), (81, (I ((x19.length : Int)))), (82, I y23)] [0] [(z133_1 p0)] hφ0 (pc rwl (pc (.rn (.plain _ (nld nl_Li64 _))) (pc (.rn (rqr rfl)) (pc rwl (pc rwl (pc rwl (pc (.rn (.plain _ (nld nl_i64 _))) (pc rwl (pc rwl pn))))))))) (qc (spb (lc (.rn (.plain _ (nld nl_i64 _))) (lc rwl (lc rwl (lc rwl (lc (.rn (.plain _ (nld nl_GHour _))) ln)))))) qn))⟩
       ·replace h := bif_f hc26 h
        refine wfn hc26 (by kernel_rfl) ?_
        refine awp_exit ?_
        refine thenA_x ?_
        refine thenA_x ?_
        refine blockA_e rfl ?_
        refine bln ?_
        refine thn ?_
        exact ⟨(), h, (mto (n := 126) [(2, I p2), (3, (.dat 1 ((p3 : List (List Int)).map c_Li64))), (4, .ref 0 5 0 0), (73, (I ((p0.Hours.length : Int)))), (74, I y14)] [0] [(z133_1 p0)] hφ0 (pc rwl (pc (.rn (.plain _ (nld nl_Li64 _))) (pc (.rn (rqr rfl)) (pc rwl (pc rwl pn))))) (qc (spb (lc (.rn (.plain _ (nld nl_i64 _))) (lc rwl (lc rwl (lc rwl (lc (.rn (.plain _ (nld nl_GHour _))) ln)))))) qn))⟩
     ·replace h := bif_f hc17 h
      refine wfn hc17 (by kernel_rfl) ?_
      refine awp_exit ?_
      refine thenA_x ?_
      refine thenA_x ?_
      refine blockA_e rfl ?_
      refine thn ?_
      exact ⟨(), h, (mto (n := 126) [(2, I p2), (3, (.dat 1 ((p3 : List (List Int)).map c_Li64))), (4, .ref 0 5 0 0)] [0] [(z133_1 p0)] hφ0 (pc rwl (pc (.rn (.plain _ (nld nl_Li64 _))) (pc (.rn (rqr rfl)) pn))) (qc (spb (lc (.rn (.plain _ (nld nl_i64 _))) (lc rwl (lc rwl (lc rwl (lc (.rn (.plain _ (nld nl_GHour _))) ln)))))) qn))⟩
   ·skip
    refine wx tbk [(1, rp [(.tmp 42, (.dat 1 ((p3 : List (List Int)).map c_Li64)))] (I ((p3.length : Int))))] ⟨alm (c := c_Li64) (l := p3) (aln rfl Try.underlying42 rfl), trivial⟩ ?_
    refine awp_block ?_
    refine wmr (mto (n := 126) (l' := [(2, I p2), (3, (.dat 1 ((p3 : List (List Int)).map c_Li64))), (4, .ref 0 5 0 0), (42, (.dat 1 ((p3 : List (List Int)).map c_Li64))), (43, (I ((p3.length : Int)))), (44, I 0)]) (own' := [(z133_1 p0)]) [(2, I p2), (3, (.dat 1 ((p3 : List (List Int)).map c_Li64))), (4, .ref 0 5 0 0), (42, (.dat 1 ((p3 : List (List Int)).map c_Li64))), (43, (I ((p3.length : Int)))), (44, I 0)] [0] [(z133_1 p0)] hφ0 (pc rwl (pc (.rn (.plain _ (nld nl_Li64 _))) (pc (.rn (rqr rfl)) (pc (.rn (.plain _ (nld nl_Li64 _))) (pc rwl (pc rwl pn)))))) (qc (spb (lc (.rn (.plain _ (nld nl_i64 _))) (lc rwl (lc rwl (lc rwl (lc (.rn (.plain _ (nld nl_GHour _))) ln)))))) qn)) ?_
    refine awp_ind (τ := Int) (fun n t => plant_ProveDispatchX_loop4 N p0 p3 k4 n t = some r) (fun y48 => ⟨mk 126 [(2, I p2), (3, (.dat 1 ((p3 : List (List Int)).map c_Li64))), (4, .ref 0 5 0 0), (42, (.dat 1 ((p3 : List (List Int)).map c_Li64))), (43, (I ((p3.length : Int)))), (44, I y48)], [(z133_1 p0)]⟩) (fun t h => by rw [plant_ProveDispatchX_loop4] at h; cases h) (fun n50 ih y48 h => ?_) N (0) h
    rw [plant_ProveDispatchX_loop4] at h
    skip
    refine wx tbk [] trivial ?_
    refine wsq ?_
    rcases bft ((decide (y48 < (p3.length : Int)))) with hc51 | hc51
    ·replace h := bif_t hc51 h
     refine wft hc51 (by kernel_rfl) ?_
     refine awp_skip ?_
     refine thn ?_
     refine wsq ?_
     refine awp_block ?_
     obtain ⟨x52, hg53, h⟩ := bno h
     obtain ⟨hi54, hj55⟩ := gsm hg53
     refine wx tbk [(1, rp [(.tmp 42, (.dat 1 ((p3 : List (List Int)).map c_Li64))), (.tmp 44, I y48)] (.dptr (c_Li64 (x52)) 0))] ⟨aid rfl Try.underlying42 ti37 rfl rfl hi54 (mgt c_Li64 hj55) rfl, trivial⟩ ?_
     obtain ⟨k56, hk_k56, h⟩ := jko h
     refine wjn (τ := Unit) (fun t => k56 t = some r) (fun _ => ⟨mk 126 [(2, I p2), (3, (.dat 1 ((p3 : List (List Int)).map c_Li64))), (4, .ref 0 5 0 0), (11, I y48), (12, (.dat 1 ((x52 : List Int).map c_i64))), (42, (.dat 1 ((p3 : List (List Int)).map c_Li64))), (43, (I ((p3.length : Int)))), (44, I y48)], [(z133_1 p0)]⟩) (fun t h => ?_) ?_
     ·subst hk_k56
      rcases bft ((y48 == (p0.Hours.length : Int))) with hb57 | hb57
      ·replace h := bif_t hb57 h
       obtain ⟨x59, hf58, h⟩ := bno h
       refine wx tbk [(3, rp [(.tmp 62, (z133_0 p0))] (I ((p0.Hours.length : Int)))), (5, rp [(.tmp 64, (B ((y48 == (p0.Hours.length : Int)))))] (B true)), (7, rp [(.tmp 65, B true), fu 88, (.tmp 66, (.dat 1 ((x52 : List Int).map c_i64)))] (I x59))] ⟨alm (c := c_GHour) (l := p0.Hours) (aln rfl Try.underlying45 rfl), asb hb57 (amv rfl), ag_ (apc (first := []) (cap := []) (vs := [(.dat 1 ((x52 : List Int).map c_i64))]) rfl enter88 (slices_Min_int_intX_ok N x52 _ hf58) rfl rfl (nlc (nld nl_i64 _) nl0) nll rfl), trivial⟩ ?_
       rcases bft ((decide (x59 < 0))) with hc60 | hc60
       ·replace h := bif_t hc60 h
        refine wft hc60 (by kernel_rfl) ?_
        refine wx tbk [] trivial ?_
        refine awp_ret ?_
        refine blockA_r ?_
        refine thenA_r ?_
        refine thenA_r ?_
        refine blockA_r ?_
        refine thenA_r ?_
        obtain rfl := osi h
        exact ⟨⟨[B false], ⟨rot (by kernel_rfl), trivial⟩, rfl⟩, nll, Nat.le_refl _, fun n hn => absurd hn (Nat.not_lt_zero n)⟩
       ·replace h := bif_f hc60 h
        refine wfn hc60 (by kernel_rfl) ?_
        refine awp_skip ?_
        refine bln ?_
        refine thn ?_
        refine wx1 tbk [] trivial ?_
        refine thn ?_
        exact arm (mto (n := 126) [(2, I p2), (3, (.dat 1 ((p3 : List (List Int)).map c_Li64))), (4, .ref 0 5 0 0), (42, (.dat 1 ((p3 : List (List Int)).map c_Li64))), (43, (I ((p3.length : Int)))), (44, (I (w64 (y48 + 1))))] [0] [(z133_1 p0)] hφ0 (pc rwl (pc (.rn (.plain _ (nld nl_Li64 _))) (pc (.rn (rqr rfl)) (pc (.rn (.plain _ (nld nl_Li64 _))) (pc rwl (pc rwl pn)))))) (qc (spb (lc (.rn (.plain _ (nld nl_i64 _))) (lc rwl (lc rwl (lc rwl (lc (.rn (.plain _ (nld nl_GHour _))) ln)))))) qn)) (ih (w64 (y48 + 1)) h)
      ·replace h := bif_f hb57 h
       refine wx tbk [(3, rp [(.tmp 62, (z133_0 p0))] (I ((p0.Hours.length : Int)))), (5, rp [(.tmp 64, (B ((y48 == (p0.Hours.length : Int)))))] (B false))] ⟨alm (c := c_GHour) (l := p0.Hours) (aln rfl Try.underlying45 rfl), asb hb57 (amv rfl), trivial⟩ ?_
       refine awp_false (by kernel_rfl) ?_
       refine awp_skip ?_
       refine bln ?_
       refine thn ?_
       refine wx1 tbk [] trivial ?_
       refine thn ?_
       exact arm (mto (n := 126) [(2, I p2), (3, (.dat 1 ((p3 : List (List Int)).map c_Li64))), (4, .ref 0 5 0 0), (42, (.dat 1 ((p3 : List (List Int)).map c_Li64))), (43, (I ((p3.length : Int)))), (44, (I (w64 (y48 + 1))))] [0] [(z133_1 p0)] hφ0 (pc rwl (pc (.rn (.plain _ (nld nl_Li64 _))) (pc (.rn (rqr rfl)) (pc (.rn (.plain _ (nld nl_Li64 _))) (pc rwl (pc rwl pn)))))) (qc (spb (lc (.rn (.plain _ (nld nl_i64 _))) (lc rwl (lc rwl (lc rwl (lc (.rn (.plain _ (nld nl_GHour _))) ln)))))) qn)) (ih (w64 (y48 + 1)) h)
     ·skip
      rcases bft (((x52.length : Int) != (p0.Levels.length : Int))) with hb61 | hb61
      ·replace h := bif_t hb61 h
       refine wx tbk [(1, rp [(.tmp 49, (.dat 1 ((x52 : List Int).map c_i64)))] (I ((x52.length : Int)))), (4, rp [(.tmp 52, (.dat 1 ((p0.Levels : List Int).map c_i64)))] (I ((p0.Levels.length : Int)))), (6, rp [(.tmp 54, (B (((x52.length : Int) != (p0.Levels.length : Int)))))] (B true))] ⟨alm (c := c_i64) (l := x52) (aln rfl Try.underlying37 rfl), alm (c := c_i64) (l := p0.Levels) (aln rfl Try.underlying37 rfl), asb hb61 (amv rfl), trivial⟩ ?_
       refine awp_true (by kernel_rfl) ?_
       refine wx tbk [] trivial ?_
       refine awp_ret ?_
       refine thenA_r ?_
       refine blockA_r ?_
       refine thenA_r ?_
       refine thenA_r ?_
       refine blockA_r ?_
       refine thenA_r ?_
       obtain rfl := osi h
       exact ⟨⟨[B false], ⟨rot (by kernel_rfl), trivial⟩, rfl⟩, nll, Nat.le_refl _, fun n hn => absurd hn (Nat.not_lt_zero n)⟩
      ·replace h := bif_f hb61 h
       obtain ⟨x63, hf62, h⟩ := bno h
       refine wx tbk [(1, rp [(.tmp 49, (.dat 1 ((x52 : List Int).map c_i64)))] (I ((x52.length : Int)))), (4, rp [(.tmp 52, (.dat 1 ((p0.Levels : List Int).map c_i64)))] (I ((p0.Levels.length : Int)))), (6, rp [(.tmp 54, (B (((x52.length : Int) != (p0.Levels.length : Int)))))] (B false)), (8, rp [(.tmp 55, B false), fu 89, (.tmp 56, (.dat 1 ((x52 : List Int).map c_i64))), fu 90] (B x63))] ⟨alm (c := c_i64) (l := x52) (aln rfl Try.underlying37 rfl), alm (c := c_i64) (l := p0.Levels) (aln rfl Try.underlying37 rfl), asb hb61 (amv rfl), ag_ (astep_callq (first := []) (cap := []) (vs := [(.dat 1 ((x52 : List Int).map c_i64)), (.fn (.func 90) [] [])]) (σr := []) (σr' := []) (res' := (B x63)) [] rfl enter89 (plant_all_intX_4_ok N x52 _ hf62) rfl (rn_agg (rnc (.plain _ (nld nl_i64 _)) (rnc (.plain _ (NLt.fn _ _ _ nl0 nl0)) rn0))) slw_nil slw_nil (.plain _ nll) rfl rfl rfl), trivial⟩ ?_
       rcases bft ((!x63)) with hc64 | hc64
       ·replace h := bif_t hc64 h
        refine wft hc64 (by kernel_rfl) ?_
        refine wx tbk [] trivial ?_
        refine awp_ret ?_
        refine thenA_r ?_
        refine blockA_r ?_
        refine thenA_r ?_
        refine thenA_r ?_
        refine blockA_r ?_
        refine thenA_r ?_
        obtain rfl := osi h
        exact ⟨⟨[B false], ⟨rot (by kernel_rfl), trivial⟩, rfl⟩, nll, Nat.le_refl _, fun n hn => absurd hn (Nat.not_lt_zero n)⟩
       ·replace h := bif_f hc64 h
        refine wfn hc64 (by kernel_rfl) ?_
        refine awp_skip ?_
        refine thn ?_
        exact ⟨(), h, (mto (n := 126) [(2, I p2), (3, (.dat 1 ((p3 : List (List Int)).map c_Li64))), (4, .ref 0 5 0 0), (11, I y48), (12, (.dat 1 ((x52 : List Int).map c_i64))), (42, (.dat 1 ((p3 : List (List Int)).map c_Li64))), (43, (I ((p3.length : Int)))), (44, I y48)] [0] [(z133_1 p0)] hφ0 (pc rwl (pc (.rn (.plain _ (nld nl_Li64 _))) (pc (.rn (rqr rfl)) (pc rwl (pc (.rn (.plain _ (nld nl_i64 _))) (pc (.rn (.plain _ (nld nl_Li64 _))) (pc rwl (pc rwl pn)))))))) (qc (spb (lc (.rn (.plain _ (nld nl_i64 _))) (lc rwl (lc rwl (lc rwl (lc (.rn (.plain _ (nld nl_GHour _))) ln)))))) qn))⟩
    ·replace h := bif_f hc51 h
     refine wfn hc51 (by kernel_rfl) ?_
     refine awp_exit ?_
     refine thenA_x ?_
     refine thenA_x ?_
     refine blockA_e rfl ?_
     refine thn ?_
     exact ⟨(), h, (mto (n := 126) [(2, I p2), (3, (.dat 1 ((p3 : List (List Int)).map c_Li64))), (4, .ref 0 5 0 0)] [0] [(z133_1 p0)] hφ0 (pc rwl (pc (.rn (.plain _ (nld nl_Li64 _))) (pc (.rn (rqr rfl)) pn))) (qc (spb (lc (.rn (.plain _ (nld nl_i64 _))) (lc rwl (lc rwl (lc rwl (lc (.rn (.plain _ (nld nl_GHour _))) ln)))))) qn))⟩
  ·skip
   rcases bft ((x2.2 != 0)) with hb65 | hb65
   ·replace h := bif_t hb65 h
    refine wx tbk [(2, rp [(.tmp 27, (B ((x2.2 != 0))))] (B true))] ⟨asb hb65 (amv rfl), trivial⟩ ?_
    refine awp_true (by kernel_rfl) ?_
    refine wx tbk [] trivial ?_
    refine awp_ret ?_
    refine thenA_r ?_
    obtain rfl := osi h
    exact ⟨⟨[B false], ⟨rot (by kernel_rfl), trivial⟩, rfl⟩, nll, Nat.le_refl _, fun n hn => absurd hn (Nat.not_lt_zero n)⟩
   ·replace h := bif_f hb65 h
    rcases bft ((x2.1 != p2)) with hb66 | hb66
    ·replace h := bif_t hb66 h
     refine wx tbk [(2, rp [(.tmp 27, (B ((x2.2 != 0))))] (B false)), (7, rp [(.tmp 32, (B ((x2.1 != p2))))] (B true))] ⟨asb hb65 (amv rfl), asb hb66 (amv rfl), trivial⟩ ?_
     refine awp_true (by kernel_rfl) ?_
     refine wx tbk [] trivial ?_
     refine awp_ret ?_
     refine thenA_r ?_
     obtain rfl := osi h
     exact ⟨⟨[B false], ⟨rot (by kernel_rfl), trivial⟩, rfl⟩, nll, Nat.le_refl _, fun n hn => absurd hn (Nat.not_lt_zero n)⟩
    ·replace h := bif_f hb66 h
     refine wx tbk [(2, rp [(.tmp 27, (B ((x2.2 != 0))))] (B false)), (7, rp [(.tmp 32, (B ((x2.1 != p2))))] (B false)), (9, rp [(.tmp 33, B false), (.tmp 34, (.dat 1 ((p3 : List (List Int)).map c_Li64)))] (I ((p3.length : Int)))), (12, rp [(.tmp 33, B false), (.tmp 37, (z133_0 p0))] (I ((p0.Hours.length : Int))))] ⟨asb hb65 (amv rfl), asb hb66 (amv rfl), ag_ (alm (c := c_Li64) (l := p3) (aln rfl Try.underlying42 rfl)), ag_ (alm (c := c_GHour) (l := p0.Hours) (aln rfl Try.underlying45 rfl)), trivial⟩ ?_
     rcases bft (((p3.length : Int) != (w64 ((p0.Hours.length : Int) + 1)))) with hc67 | hc67
     ·replace h := bif_t hc67 h
      refine wft hc67 (by kernel_rfl) ?_
      refine wx tbk [] trivial ?_
      refine awp_ret ?_
      refine thenA_r ?_
      obtain rfl := osi h
      exact ⟨⟨[B false], ⟨rot (by kernel_rfl), trivial⟩, rfl⟩, nll, Nat.le_refl _, fun n hn => absurd hn (Nat.not_lt_zero n)⟩
     ·replace h := bif_f hc67 h
      refine wfn hc67 (by kernel_rfl) ?_
      refine awp_skip ?_
      refine thn ?_
      exact ⟨(), h, (mto (n := 126) [(2, I p2), (3, (.dat 1 ((p3 : List (List Int)).map c_Li64))), (4, .ref 0 5 0 0)] [0] [(z133_1 p0)] hφ0 (pc rwl (pc (.rn (.plain _ (nld nl_Li64 _))) (pc (.rn (rqr rfl)) pn))) (qc (spb (lc (.rn (.plain _ (nld nl_i64 _))) (lc rwl (lc rwl (lc rwl (lc (.rn (.plain _ (nld nl_GHour _))) ln)))))) qn))⟩

end Go.Proofs.Ytlhakkkjgdbdpaa
